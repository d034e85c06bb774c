/- Walks, printed by wip/gen/walk.py. -/
import Derived.Test.YtmbjnkgpcbpclaaGreatT7
import Derived.Test.YtmbjnkgpcbpclaaGreatV5
set_option linter.all false
set_option maxRecDepth 100000
set_option maxHeartbeats 4000000
namespace Go.Proofs.YtmbjnkgpcbpclaaGreat
open Go Go.Vc Go.RowKit
def iota (n : Nat) : List Int := List.map (fun k : Nat => Int.ofNat k) (List.range n)
theorem iota_len (n : Nat) : (iota n).length = n := by simp [iota]
theorem iota_succ (n : Nat) : iota (n + 1) = iota n ++ [(n : Int)] := by simp [iota, List.range_succ]
theorem mem_iota {n : Nat} {x : Int} : x ∈ iota n ↔ 0 ≤ x ∧ x < n := by
  unfold iota
  rw [List.mem_map]
  constructor
  · rintro ⟨k, hk, rfl⟩
    have := List.mem_range.1 hk
    show 0 ≤ (k : Int) ∧ (k : Int) < n
    omega
  · intro h; exact ⟨x.toNat, List.mem_range.2 (by omega), (show ((x.toNat : Nat) : Int) = x by omega)⟩
theorem iota_sort (n : Nat) : (iota n).Pairwise (· < ·) := by
  induction n with
  | zero => simp [iota]
  | succ n ih =>
    rw [iota_succ, List.pairwise_append]
    exact ⟨ih, by simp, fun x hx y hy => by rw [List.mem_singleton] at hy; have := (mem_iota.1 hx).2; omega⟩
theorem ins_iota (n : Nat) : ins (iota n) n = iota (n + 1) := by
  rw [ins_at (k := n) (fun h => by have := mem_iota.1 h; omega) (fun x hx => (mem_iota.1 (List.mem_of_mem_take hx)).2) (.inl (iota_len n).symm), iota_succ]
  rw [List.take_of_length_le (by rw [iota_len]; exact Nat.le_refl _), List.drop_of_length_le (by rw [iota_len]; exact Nat.le_refl _)]
def idxK (ts : List Bs) : Nat → List Post
  | 0 => []
  | k + 1 => addP (idxK ts k) k (ts.getD k [])
def badT (s : Bs) : Bool := decide (400 < s.length)
def textsF (ts : List Bs) : Int × Int := if 20 < ts.length then (2, -1) else if ts.any badT = true then (10, (ts.findIdx badT : Nat)) else (0, 0)
def idxT (ts : List Bs) : List Int := if (textsF ts).1 = 0 then iota ts.length else []
def idxP (ts : List Bs) : List Post := if (textsF ts).1 = 0 then idxK ts ts.length else []
theorem idxK_good (ts : List Bs) : ∀ k, GoodP (idxK ts k)
  | 0 => ⟨List.Pairwise.nil, fun p h => by cases h⟩
  | k + 1 => addK_good (idxK_good ts k) _
theorem idxK_bnd {ts : List Bs} (h : ∀ s ∈ ts, s.length ≤ 400) : ∀ k, (idxK ts k).length ≤ 400 * k ∧ ∀ p ∈ idxK ts k, p.2.length ≤ 400 * k + 1
  | 0 => ⟨by simp [idxK], fun p h => by cases h⟩
  | k + 1 => by
    obtain ⟨h1, h2⟩ := idxK_bnd h k
    have h3 : (ts.getD k []).length ≤ 400 := by
      rw [List.getD_eq_getElem?_getD]
      cases hk : ts[k]? with
      | none => simp
      | some s => exact h s (List.mem_of_getElem? hk)
    have h4 := addK_len (P := idxK ts k) (n := k) (s := ts.getD k []) ((ts.getD k []).length - 2)
    have h5 := addK_max (P := idxK ts k) (n := k) (s := ts.getD k []) (M := 400 * k + 1) (by omega) h2 ((ts.getD k []).length - 2)
    exact ⟨by show (addP _ _ _).length ≤ _; unfold addP; omega, fun p hp => by have := h5 p hp; omega⟩
def eT (s : Bs) : List D := [.str s]
def dT (xs : List (List D)) : List Bs := xs.map fun r => match r with
  | [.str s] => s
  | _ => []
theorem dT_rows (l : List Bs) : dT (rows eT l) = l := by
  induction l with
  | nil => rfl
  | cons p l ih => exact congrArg (p :: ·) ih
theorem rect_eT (l : List Bs) : Rect 1 (rows eT l) = True := eq_true (fun x hx => by obtain ⟨a, _, rfl⟩ := List.mem_map.1 hx; rfl)
def indexTG : List AV → Option (Prop × AV)
  | [.d (.sl xs)] => some (xs = rows eT (dT xs) ∧ (dT xs).length ≤ 9223372036854775807 ∧ ∀ s ∈ dT xs, s.length ≤ 9223372036854775807, .tup [.agg [.d (.sl (rows eI (idxT (dT xs)))), .d (.sl (rows eP (idxP (dT xs))))], .agg [.d (.int .i64 (textsF (dT xs)).1), .d (.int .i64 (textsF (dT xs)).2)]])
  | _ => none
theorem find_at {α : Type} {P : α → Bool} {l : List α} {i : Nat} {x : α} (h : l[i]? = some x) (hp : P x = true) (hn : ∀ y ∈ l.take i, P y = false) : l.any P = true ∧ l.findIdx P = i := by
  refine ⟨List.any_eq_true.2 ⟨x, List.mem_of_getElem? h, hp⟩, ?_⟩
  induction l generalizing i with
  | nil => simp at h
  | cons a l ih =>
    cases i with
    | zero => simp only [List.getElem?_cons_zero, Option.some.injEq] at h; subst h; rw [List.findIdx_cons, hp]; rfl
    | succ i =>
      have h1 := hn a (by simp)
      rw [List.findIdx_cons, h1, ih (by simpa using h) (fun y hy => hn y (by simp [hy]))]; rfl
theorem any_none {α : Type} {P : α → Bool} {l : List α} (hn : ∀ y ∈ l, P y = false) : l.any P = false := by
  rw [Bool.eq_false_iff]; intro h; obtain ⟨x, hx, hp⟩ := List.any_eq_true.1 h; rw [hn x hx] at hp; cases hp
theorem none_snoc {α : Type} {l : List α} {k : Nat} {x : α} {P : α → Bool} (h : ∀ y ∈ l.take k, P y = false) (hx : l[k]? = some x) (hp : P x = false) : ∀ y ∈ l.take (k + 1), P y = false := fun y hy => by
  rw [List.take_add_one, hx] at hy
  rcases List.mem_append.1 hy with hy | hy
  · exact h y hy
  · simp only [Option.toList_some, List.mem_singleton] at hy; rw [hy]; exact hp

theorem indexT_meets : Meets Tryz.prog 25 (Spec.pure indexTG) := by
 refine meets_fun (E_addO.at_ 41) Tryz.func25 rfl rfl rfl ?_
 intro args p r hg hp
 unfold indexTG at hg
 split at hg
 rename_i xs
 simp only [Option.some.injEq, Prod.mk.injEq] at hg
 obtain ⟨rfl, rfl⟩ := hg
 obtain ⟨he, hl, hsl⟩ := hp
 generalize dT xs = l at *
 subst he
 have hT : (E_addO).X = T := rfl
 have hx0 := And.intro @rect_eT (And.intro @eT.eq_1 @Tryz.results25)
 have hx := hx0
 refine ⟨by rfl, ?_⟩
 intro F W0 hnp hmk
 refine vc_seq_k fun N1 h1 => ?_
 refine u_reg ?_
 try refine lg_mk ?_
 iterate 2 refine u_al ?_
 refine lg_nil ?_
 refine h1 _ ?_; clear h1; try clear N1
 refine vc_seq_k fun N2 h2 => ?_
 refine vc_seq_k fun N3 h3 => ?_
 refine u_reg ?_
 try refine lg_mk ?_
 refine u_mv ?_
 refine u_ln ?_
 refine u_bn ?_
 refine lg_nil ?_
 refine h3 _ ?_; clear h3; try clear N3
 refine u_cond (fun hb4 => ?_) (fun hb4 => ?_)
 refine vc_seq_k fun N5 h5 => ?_
 refine u_reg ?_
 try refine lg_mk ?_
 iterate 2 refine u_bd ?_
 iterate 2 refine u_st ?_
 refine lg_nil ?_
 refine h5 _ ?_; clear h5; try clear N5
 refine vc_ret ?_
 try simp only [k_rules]
 have hle20 : 20 < l.length := by have := hb4; omega
 have hr : textsF l = (2, -1) := by unfold textsF; rw [if_pos hle20]
 unfold idxT idxP
 rw [hr]
 refine fin2_ ?_
 exact cl_
 refine vc_skip ?_
 try simp only [k_rules]
 refine h2 _ ?_; clear h2; try clear N2
 refine vc_seq_k fun N6 h6 => ?_
 refine vc_seq_k fun N7 h7 => ?_
 refine u_reg ?_
 try refine lg_mk ?_
 refine u_mv ?_
 refine u_ln ?_
 refine u_mv ?_
 refine lg_nil ?_
 refine h7 _ ?_; clear h7; try clear N7
 refine vc_block ?_
 refine vc_loop_mk (σ := Nat) (fun s => (fun i => i ≤ l.length ∧ ∀ y ∈ l.take i, badT y = false) s)
  (fun s => (fun i => [(0, .d (.sl (rows eT l))), (2, .ptr 0 0 0), (3, .ptr 1 0 0), (14, .d (.sl (rows eT l))), (15, .d (.int .i64 (l.length : Nat))), (16, .d (.int .i64 (i : Nat)))]) s)
  (fun s => (fun i => [some (.one 49 [.d .nils, .d .nils]), some (.one 29 [.d (.int .i64 0), .d (.int .i64 0)])]) s) (fun s => (fun i => l.length - i) s) hnp 0 ?_ [some 0, some 1] ?_ ?_
 dsimp only
 simp
 dsimp only
 refine ⟨by rfl, ?_, ?_⟩
 refine fin_ ?_
 exact cl_
 refine fin_ ?_
 exact cl_
 rintro i hinv N8 h8
 dsimp only at hinv ⊢
 obtain ⟨i1, i2⟩ := hinv
 refine vc_seq_k fun N9 h9 => ?_
 refine u_reg ?_
 try refine lg_mk ?_
 refine u_bn ?_
 refine lg_nil ?_
 refine h9 _ ?_; clear h9; try clear N9
 refine vc_seq_k fun N10 h10 => ?_
 refine u_cond (fun hb11 => ?_) (fun hb11 => ?_)
 obtain ⟨x, hxe⟩ := getE (l := l) (i := i) (by omega)
 have hxl := hsl x (mem_at hxe)
 refine vc_skip ?_
 try simp only [k_rules]
 refine h10 _ ?_; clear h10; try clear N10
 refine vc_seq_k fun N12 h12 => ?_
 refine vc_block ?_
 refine vc_seq_k fun N13 h13 => ?_
 have hx := And.intro @hxe hx0
 refine u_reg ?_
 try refine lg_mk ?_
 refine u_mv ?_
 refine u_pt ?_
 refine u_ld ?_
 iterate 2 refine u_mv ?_
 refine lg_nil ?_
 have hx := hx0
 refine h13 _ ?_; clear h13; try clear N13
 refine vc_seq_k fun N14 h14 => ?_
 refine u_reg ?_
 try refine lg_mk ?_
 refine u_mv ?_
 refine u_ln ?_
 refine u_bn ?_
 refine lg_nil ?_
 refine h14 _ ?_; clear h14; try clear N14
 refine u_cond (fun hb15 => ?_) (fun hb15 => ?_)
 have hbad : badT x = true := decide_eq_true (by have := hb15; omega)
 refine vc_seq_k fun N16 h16 => ?_
 refine u_reg ?_
 try refine lg_mk ?_
 refine u_bd ?_
 refine u_mv ?_
 refine u_bd ?_
 iterate 2 refine u_st ?_
 refine lg_nil ?_
 refine h16 _ ?_; clear h16; try clear N16
 refine vc_ret ?_
 try simp only [k_rules]
 have hle20 : ¬ 20 < l.length := by have := hb4; omega
 obtain ⟨ha, hf⟩ := find_at hxe hbad i2
 have hr : textsF l = (10, (i : Int)) := by unfold textsF; rw [if_neg hle20, if_pos ha, hf]
 unfold idxT idxP
 rw [hr]
 refine fin2_ ?_
 exact cl_
 have hbad : badT x = false := decide_eq_false (by have := hb15; omega)
 refine vc_skip ?_
 try simp only [k_rules]
 refine h12 _ ?_; clear h12; try clear N12
 refine u_reg ?_
 try refine lg_mk ?_
 refine u_bn ?_
 refine u_mv ?_
 refine lg_nil ?_
 refine h8 _ ⟨i + 1, ?_, ?_, [some 0, some 1], ?_⟩
 dsimp only
 exact ⟨by omega, none_snoc i2 hxe hbad⟩
 dsimp only
 omega
 dsimp only
 refine ⟨by rfl, ?_, ?_⟩
 refine fin_ ?_
 exact cl_
 refine fin_ ?_
 exact cl_
 refine vc_exit ?_
 simp only [k_rules, Nat.reduceEqDiff, reduceIte, eq_self]
 refine h6 _ ?_; clear h6; try clear N6
 refine vc_seq_k fun N17 h17 => ?_
 refine u_reg ?_
 try refine lg_mk ?_
 refine u_al ?_
 refine lg_nil ?_
 refine h17 _ ?_; clear h17; try clear N17
 refine vc_seq_k fun N18 h18 => ?_
 refine vc_seq_k fun N19 h19 => ?_
 refine vc_nil1 2 0 _ 1 (vec_nil 3 1) rfl rfl rfl ?_
 simp only [updL, List.set, List.cons_append, List.nil_append]
 refine vc_nil1 2 1 _ 2 (uv_nil 85 2 1 3 1) rfl rfl rfl ?_
 simp only [updL, List.set, List.cons_append, List.nil_append]
 refine u_reg ?_
 try refine lg_mk ?_
 refine u_mv ?_
 refine u_ln ?_
 refine u_mv ?_
 refine lg_nil ?_
 refine h19 _ ?_; clear h19; try clear N19
 refine vc_block ?_
 have hall : ∀ y ∈ l, badT y = false := by rw [List.take_of_length_le (by omega)] at i2; exact i2
 have h400 : ∀ y ∈ l, y.length ≤ 400 := fun y hy => by have := of_decide_eq_false (hall y hy); omega
 refine vc_loop_mk (σ := Nat) (fun s => (fun i => i ≤ l.length) s)
  (fun s => (fun i => [(0, .d (.sl (rows eT l))), (2, .ptr 0 0 0), (3, .ptr 1 0 0), (6, .ptr 2 0 0), (28, .d (.sl (rows eT l))), (29, .d (.int .i64 (l.length : Nat))), (30, .d (.int .i64 (i : Nat)))]) s)
  (fun s => (fun i => [some (.one 49 [.d .nils, .d .nils]), some (.one 29 [.d (.int .i64 0), .d (.int .i64 0)]), some (.one 49 [.sl 3 0 i, .sl 4 0 (idxK l i).length]), some (.vec 3 1 (rows eI (iota i))), some (.ob (.uv 85 2 1 3 1 ((idxK l i).map uP)))]) s) (fun s => (fun i => l.length - i) s) hnp 0 ?_ [some 0, some 1, some 2, some 3, some 4] ?_ ?_
 dsimp only
 omega
 dsimp only
 refine ⟨by rfl, ?_, ?_⟩
 refine fin_ ?_
 exact cl_
 refine fin_ ?_
 exact cl_
 rintro i hinv N20 h20
 dsimp only at hinv ⊢
 have hg := idxK_good l i
 obtain ⟨hb1, hb2⟩ := idxK_bnd h400 i
 refine vc_seq_k fun N21 h21 => ?_
 refine u_reg ?_
 try refine lg_mk ?_
 refine u_bn ?_
 refine lg_nil ?_
 refine h21 _ ?_; clear h21; try clear N21
 refine vc_seq_k fun N22 h22 => ?_
 refine u_cond (fun hb23 => ?_) (fun hb23 => ?_)
 obtain ⟨x, hxe⟩ := getE (l := l) (i := i) (by omega)
 have hxl := h400 x (mem_at hxe)
 have hle20 : ¬ 20 < l.length := by have := hb4; omega
 refine vc_skip ?_
 try simp only [k_rules]
 refine h22 _ ?_; clear h22; try clear N22
 refine vc_seq_k fun N24 h24 => ?_
 refine vc_block ?_
 refine vc_seq_k fun N25 h25 => ?_
 have hx := And.intro @hxe hx0
 refine u_reg ?_
 try refine lg_mk ?_
 refine u_mv ?_
 refine u_pt ?_
 refine u_ld ?_
 iterate 2 refine u_mv ?_
 refine lg_nil ?_
 have hx := hx0
 refine h25 _ ?_; clear h25; try clear N25
 refine u_reg ?_
 try refine lg_mk ?_
 iterate 2 refine u_mv ?_
 have hc := call_rule (E := (E_addO.at_ 41)) (f := 53) (sp := Spec.gen addOG) rfl
 have hs := @addOG.eq_1
 refine u_hg (hq := by (first | (exact ⟨idxK l i, rfl, (iota_len i).symm, iota_sort i, (by rw [iota_len]; omega), (by rw [List.length_map]), hg, (by omega), (fun p hp => by have := hb2 p hp; omega), (by omega)⟩) | exact sd_)) ?_
 refine lg_nil ?_
 rw [unP_uP]
 refine h24 _ ?_; clear h24; try clear N24
 refine u_reg ?_
 try refine lg_mk ?_
 refine u_bn ?_
 refine u_mv ?_
 refine lg_nil ?_
 have hgd : l.getD i [] = x := by rw [List.getD_eq_getElem?_getD, hxe]; rfl
 have hp1 : addP (idxK l i) i x = idxK l (i + 1) := by rw [← hgd]; rfl
 rw [ins_iota, hp1]
 refine h20 _ ⟨i + 1, ?_, ?_, [some 0, some 1, some 2, some 5, some 6], ?_⟩
 dsimp only
 omega
 dsimp only
 omega
 dsimp only
 refine ⟨by rfl, ?_, ?_⟩
 refine fin_ ?_
 ·(repeat' apply And.intro) <;> (first | (first | rfl | (rw [iota_len]; done) | (simp; done)) | exact cl_)
 refine fin_ ?_
 ·(repeat' apply And.intro) <;> (first | (first | rfl | (rw [iota_len]; done) | (simp; done)) | exact cl_)
 refine vc_exit ?_
 simp only [k_rules, Nat.reduceEqDiff, reduceIte, eq_self]
 refine h18 _ ?_; clear h18; try clear N18
 refine vc_seq_k fun N26 h26 => ?_
 have hie : i = l.length := by have := hb23; omega
 subst hie
 refine vc_data1 2 1 rfl rfl rfl rfl (by rw [List.length_map]) ?_
 simp only [kilL, updL, List.set, List.cons_append, List.nil_append, List.mem_cons, List.not_mem_nil, or_false]
 rw [dataR_uP]
 refine u_reg ?_
 try refine lg_mk ?_
 refine u_ld ?_
 refine u_bd ?_
 iterate 2 refine u_st ?_
 refine lg_nil ?_
 refine h26 _ ?_; clear h26; try clear N26
 refine vc_ret ?_
 try simp only [k_rules]
 have hle20 : ¬ 20 < l.length := by have := hb4; omega
 have hr : textsF l = (0, 0) := by unfold textsF; rw [if_neg hle20, any_none hall]; rfl
 unfold idxT idxP
 rw [hr]
 refine fin2_ ?_
 ·(repeat' apply And.intro) <;> (first | (first | rfl | (rw [List.take_of_length_le (Nat.le_of_eq (iota_len _))]; done) | (simp [iota_len]; done)) | exact cl_)
 cases hg

def E_indexT : Env Tryz.prog := E_addO.add 25 (Spec.pure indexTG) indexT_meets (by kernel_rfl)
def firstF (f g : Nat → Int) : Nat → Int × Int
  | 0 => (0, 0)
  | n + 1 => if (firstF f g n).1 ≠ 0 then firstF f g n else if f n ≠ 0 then (f n, g n) else (0, 0)
theorem firstF_none {f g : Nat → Int} : ∀ {n : Nat}, (∀ j, j < n → f j = 0) → firstF f g n = (0, 0)
  | 0, _ => rfl
  | n + 1, h => by
    have ih := firstF_none (g := g) (n := n) fun j hj => h j (by omega)
    unfold firstF; rw [ih, h n (by omega)]; rfl
theorem firstF_at {f g : Nat → Int} {i : Nat} (hi : f i ≠ 0) (h : ∀ j, j < i → f j = 0) : ∀ {n : Nat}, i < n → firstF f g n = (f i, g i) := by
  intro n
  induction n with
  | zero => intro h; omega
  | succ n ih =>
    intro hn
    unfold firstF
    rcases Nat.lt_or_ge i n with hlt | hge
    · rw [ih hlt, if_pos hi]
    · obtain rfl : i = n := by omega
      rw [firstF_none h]
      simp [hi]
theorem lt_succF {f : Nat → Int} {i : Nat} (h : ∀ j, j < i → f j = 0) (hi : f i = 0) : ∀ j, j < i + 1 → f j = 0 := fun j hj => by
  rcases Nat.lt_or_ge j i with h' | h'
  · exact h j h'
  · obtain rfl : j = i := by omega
    exact hi
end Go.Proofs.YtmbjnkgpcbpclaaGreat
