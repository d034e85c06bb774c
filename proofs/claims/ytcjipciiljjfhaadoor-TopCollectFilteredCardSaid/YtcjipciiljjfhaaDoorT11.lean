/- Walks, printed by wip/gen/walk.py. -/
import Derived.Test.YtcjipciiljjfhaaDoorT10
import Derived.Test.YtcjipciiljjfhaaDoorV5
set_option linter.all false
set_option maxRecDepth 100000
set_option maxHeartbeats 4000000
namespace Go.Proofs.YtcjipciiljjfhaaDoor
open Go Go.Vc Go.RowKit
def bAdd (t : TypeId) (S : List SO) (x : SO) : List (Option Box) := if inS S x.dg = true then [some (.one t [.sl 1 0 S.length]), some (.vec 58 4 (rows eO S))] else [some (.one t [.sl 2 0 (S.length + 1)]), none, some (.vec 58 4 (rows eO (addS S x)))]
def rAdd (S : List SO) (x : SO) : Bool := if inS S x.dg = true then decide (x ∈ S) else true
def addG : GFun
  | [.ptr 0 0 0, .d (.int .i64 d), .agg [.d (.int .i64 k), .d (.sl ls), .d (.sl ds)]], [some (.one t [.sl 1 0 n]), some (.vec t1 s1 xs)] =>
    some (xs = rows eO (dO xs) ∧ t1 = 58 ∧ s1 = 4 ∧ n = (dO xs).length ∧ ValS (dO xs) ∧ ls = rows eI (dI ls) ∧ ds = rows eU (dU ds) ∧ OkO ⟨k, dI ls, dU ds⟩, .d (.bool (rAdd (dO xs) ⟨d, ⟨k, dI ls, dU ds⟩⟩)), bAdd t (dO xs) ⟨d, ⟨k, dI ls, dU ds⟩⟩)
  | _, _ => none
def putG : List AV → Option (Prop × AV)
  | [.agg [.d (.sl xs)], .agg [.d (.int .i64 k), .d (.sl ls), .d (.sl ds)]] => some (xs = rows eO (dO xs) ∧ (dO xs).length ≤ 9223372036854775807 ∧ smallS (dO xs) ∧ ls = rows eI (dI ls) ∧ ds = rows eU (dU ds) ∧ obOk ⟨k, dI ls, dU ds⟩,
      .tup [.agg [.d (.sl (rows eO (putS (dO xs) ⟨k, dI ls, dU ds⟩)))], .d (.int .i64 (putD (dO xs) ⟨k, dI ls, dU ds⟩)), .agg [.d (.int .i64 (putF (dO xs) ⟨k, dI ls, dU ds⟩).1), .d (.int .i64 (putF (dO xs) ⟨k, dI ls, dU ds⟩).2)]])
  | _ => none
def putRG : List AV → Option (Prop × AV)
  | [.agg [.d (.sl xs)], .agg [.d (.int .i64 k), .d (.sl ls), .d (.sl ds)]] => some (xs = rows eO (dO xs) ∧ ValS (dO xs) ∧ ls = rows eI (dI ls) ∧ ds = rows eU (dU ds) ∧ OkO ⟨k, dI ls, dU ds⟩,
      .tup [.agg [.d (.sl (rows eO (putS (dO xs) ⟨k, dI ls, dU ds⟩)))], .d (.int .i64 (putD (dO xs) ⟨k, dI ls, dU ds⟩)), .d (.int .i64 (putF (dO xs) ⟨k, dI ls, dU ds⟩).1)])
  | _ => none
theorem so_eq {d d' k k' : Int} {l l' : List Int} {u u' : List UInt8} : ((⟨d, ⟨k, l, u⟩⟩ : SO) = ⟨d', ⟨k', l', u'⟩⟩) ↔ d = d' ∧ k = k' ∧ l = l' ∧ u = u' := by simp
theorem eO_snoc (S : List SO) (d k : Int) (l : List Int) (u : List UInt8) : rows eO S ++ [[.int .i64 d, .int .i64 k, .sl (rows eI l), .sl (rows eU u)]] = rows eO (S ++ [⟨d, ⟨k, l, u⟩⟩]) := by simp [rows]; rfl
theorem take_snoc {α : Type} {l : List α} {i : Nat} {x : α} (h : l[i]? = some x) : l.take (i + 1) = l.take i ++ [x] := by rw [List.take_add_one, h]; rfl
/-- What the reference has appended. -/
def insK (S : List SO) (x : SO) (i : Nat) : List SO := if lbS S x.dg < i then S.take (lbS S x.dg) ++ x :: (S.drop (lbS S x.dg)).take (i - lbS S x.dg) else S.take i
theorem insK_len {S : List SO} {x : SO} {i : Nat} (h : i ≤ S.length) : (insK S x i).length = if lbS S x.dg < i then i + 1 else i := by
  unfold insK; split
  · rw [List.length_append, List.length_cons, List.length_take, List.length_take, List.length_drop]; omega
  · rw [List.length_take]; omega
theorem insK_at {S : List SO} {x y : SO} {i : Nat} (hy : S[i]? = some y) (hi : i = lbS S x.dg) : insK S x (i + 1) = insK S x i ++ [x] ++ [y] := by
  have hl := (List.getElem?_eq_some_iff.1 hy).1
  unfold insK
  rw [if_pos (by omega), if_neg (by omega), ← hi, show i + 1 - i = 1 by omega, List.drop_eq_getElem_cons hl, (List.getElem?_eq_some_iff.1 hy).2]; simp
theorem insK_off {S : List SO} {x y : SO} {i : Nat} (hy : S[i]? = some y) (hi : i ≠ lbS S x.dg) : insK S x (i + 1) = insK S x i ++ [y] := by
  unfold insK
  by_cases h : lbS S x.dg < i
  · rw [if_pos (by omega), if_pos h, show i + 1 - lbS S x.dg = (i - lbS S x.dg) + 1 by omega, take_snoc (x := y) (by rw [List.getElem?_drop, show lbS S x.dg + (i - lbS S x.dg) = i by omega]; exact hy)]; simp
  · rw [if_neg (by omega), if_neg h, take_snoc hy]
theorem insK_all {S : List SO} {x : SO} (h : lbS S x.dg < S.length) : insK S x S.length = addS S x := by
  unfold insK addS; rw [if_pos h, List.take_of_length_le (l := S.drop _) (by simp)]
theorem insK_end {S : List SO} {x : SO} (h : ¬ lbS S x.dg < S.length) : insK S x S.length ++ [x] = addS S x := by
  have := lbS_le S x.dg
  have e : lbS S x.dg = S.length := by omega
  unfold insK addS; rw [if_neg h, e]; simp
theorem lb_gt {S : List SO} {y : SO} {d : Int} {i : Nat} (hs : (dgs S).Pairwise (· < ·)) (hn : inS S d = false) (hy : S[i]? = some y) : d < y.dg ↔ lbS S d ≤ i := by
  obtain ⟨h1, h2⟩ := lbS_split hs d
  have hne : y.dg ≠ d := fun e => of_decide_eq_false hn (by rw [← e]; exact List.mem_map.2 ⟨y, List.mem_of_getElem? hy, rfl⟩)
  constructor
  · intro h
    rcases Nat.lt_or_ge i (lbS S d) with h' | h'
    · have := h1 y (List.mem_of_getElem? (i := i) (by rw [List.getElem?_take, if_pos h']; exact hy)); omega
    · exact h'
  · intro h
    have := h2 y (List.mem_of_getElem? (i := i - lbS S d) (by rw [List.getElem?_drop, show lbS S d + (i - lbS S d) = i by omega]; exact hy)); omega
theorem put_bad {S : List SO} {o : Obj} {c : Int × Int} (h : putF S o = c) (hc : c.1 ≠ 0) : putS S o = [] ∧ putD S o = 0 := by
  constructor
  · unfold putS; rw [h, if_pos hc]
  · unfold putD; rw [h, if_pos hc]
theorem put_cases {S : List SO} {o : Obj} (hv : ValS S) (ho : OkO o) :
    (inS S (objD o) = true ∧ (∃ y, S[lbS S (objD o)]? = some y ∧ y.dg = objD o ∧ y.ob = o) ∧ (⟨objD o, o⟩ : SO) ∈ S ∧ putF S o = (0, 0) ∧ putS S o = S ∧ putD S o = objD o) ∨
    (inS S (objD o) = true ∧ (∃ y, S[lbS S (objD o)]? = some y ∧ y.dg = objD o ∧ y.ob ≠ o) ∧ (⟨objD o, o⟩ : SO) ∉ S ∧ putF S o = (19, -1) ∧ putS S o = [] ∧ putD S o = 0) ∨
    (inS S (objD o) = false ∧ 40 ≤ S.length ∧ putF S o = (14, -1) ∧ putS S o = [] ∧ putD S o = 0) ∨
    (inS S (objD o) = false ∧ S.length < 40 ∧ putF S o = (0, 0) ∧ putS S o = addS S ⟨objD o, o⟩ ∧ putD S o = objD o) := by
  have z1 : ¬ (stF S).1 ≠ 0 := by rw [stF_of hv]; simp
  have z2 : ¬ (objF o).1 ≠ 0 := by rw [objF_of ho]; simp
  cases hi : inS S (objD o) with
  | true =>
    obtain ⟨y, hy, hyd⟩ := inS_get hv.sort hi
    by_cases hm : (⟨objD o, o⟩ : SO) ∈ S
    · have e : y = ⟨objD o, o⟩ := dg_uni hv.sort (List.mem_of_getElem? hy) hm hyd
      have hf : putF S o = (0, 0) := by unfold putF; rw [if_neg z1, if_neg z2, if_pos hi, if_pos hm]
      exact .inl ⟨rfl, ⟨y, hy, hyd, by rw [e]⟩, hm, hf, by unfold putS; rw [hf, if_neg (by simp), if_pos hi], by unfold putD; rw [hf]; rfl⟩
    · have hf : putF S o = (19, -1) := by unfold putF; rw [if_neg z1, if_neg z2, if_pos hi, if_neg hm]
      obtain ⟨b1, b2⟩ := put_bad hf (by decide)
      exact .inr (.inl ⟨rfl, ⟨y, hy, hyd, fun e => hm (by rw [← hyd, ← e]; exact List.mem_of_getElem? hy)⟩, hm, hf, b1, b2⟩)
  | false =>
    by_cases hl : 40 ≤ S.length
    · have hf : putF S o = (14, -1) := by unfold putF; rw [if_neg z1, if_neg z2, if_neg (by rw [hi]; simp), if_pos hl]
      obtain ⟨b1, b2⟩ := put_bad hf (by decide)
      exact .inr (.inr (.inl ⟨rfl, hl, hf, b1, b2⟩))
    · have hf : putF S o = (0, 0) := by unfold putF; rw [if_neg z1, if_neg z2, if_neg (by rw [hi]; simp), if_neg hl]
      exact .inr (.inr (.inr ⟨rfl, by omega, hf, by unfold putS; rw [hf, if_neg (by simp), if_neg (by rw [hi]; simp)], by unfold putD; rw [hf]; rfl⟩))

theorem copyS_meets : Meets Tryd.prog 15 (Spec.fresh copyG) := by
 refine meets_fresh (E_sameR.at_ 26) Tryd.func15 rfl rfl rfl ?_
 intro args bl p r bf hg hp
 unfold copyG at hg
 split at hg
 ·rename_i xs
  simp only [Option.some.injEq, Prod.mk.injEq] at hg
  obtain ⟨rfl, rfl, rfl⟩ := hg
  obtain ⟨he, hv⟩ := hp
  generalize dO xs = S at *
  subst he
  have hlen := hv.len
  have hT : (E_sameR).X = T := rfl
  have hx0 := And.intro @rect_eO (And.intro @dI_rows (And.intro @dU_rows (And.intro @eO.eq_1 @Tryd.results15)))
  have hx := hx0
  refine ⟨Nat.le_of_ble_eq_true rfl, ?_⟩
  intro F W0 M0 hnp hmk
  have hnp : Far.np = 0 := hnp
  refine vc_seq_k fun N1 h1 => ?_
  refine u_reg ?_
  try refine lg_mk ?_
  refine u_bx ?_
  refine u_al ?_
  refine lg_nil ?_
  refine h1 _ ?_; clear h1; try clear N1
  refine vc_seq_k fun N2 h2 => ?_
  refine u_reg ?_
  try refine lg_mk ?_
  refine u_al ?_
  refine lg_nil ?_
  refine h2 _ ?_; clear h2; try clear N2
  refine vc_seq_k fun N3 h3 => ?_
  refine vc_seq_k fun N4 h4 => ?_
  refine vc_nil1 2 0 _ 4 (vec_nil 58 4) rfl rfl rfl ?_
  simp only [updL, List.set, List.cons_append, List.nil_append]
  refine u_reg ?_
  try refine lg_mk ?_
  refine u_pt ?_
  refine u_ld ?_
  refine u_ln ?_
  refine u_mv ?_
  refine lg_nil ?_
  refine h4 _ ?_; clear h4; try clear N4
  refine vc_block ?_
  refine vc_loop_mk (σ := Nat) (fun s => (fun i => i ≤ S.length) s)
   (fun s => (fun i => [(1, .ptr 0 0 0), (2, .ptr 1 0 0), (3, .ptr 2 0 0), (7, .d (.sl (rows eO S))), (8, .d (.int .i64 (S.length : Nat))), (9, .d (.int .i64 (i : Nat)))]) s)
   (fun s => (fun i => [some (.one 24 [.d (.sl (rows eO S))]), some (.one 24 [.d .nils]), some (.one 24 [.sl 3 0 i]), some (.vec 58 4 (rows eO (S.take i)))]) s) (fun s => (fun i => S.length - i) s) hnp 0 ?_ [some 0, some 1, some 2, some 3] ?_ ?_
  ·dsimp only
   omega
  ·dsimp only
   refine ⟨by rfl, ?_, ?_⟩
   ·refine fin_ ?_
    exact cl_
   ·refine fin_ ?_
    exact cl_
  ·rintro i hinv N5 h5
   dsimp only at hinv ⊢
   have i1 := hinv
   refine vc_seq_k fun N6 h6 => ?_
   refine u_reg ?_
   try refine lg_mk ?_
   refine u_bn ?_
   refine lg_nil ?_
   refine h6 _ ?_; clear h6; try clear N6
   refine vc_seq_k fun N7 h7 => ?_
   refine u_cond (fun hb8 => ?_) (fun hb8 => ?_)
   ·obtain ⟨x, hxe⟩ := getE (l := S) (i := i) (by omega)
    have hxo := hv.ok x (mem_at hxe)
    have hsn := take_snoc hxe
    obtain ⟨d, o⟩ := x
    obtain ⟨k, l, u⟩ := o
    refine vc_skip ?_
    try simp only [k_rules]
    refine h7 _ ?_; clear h7; try clear N7
    refine vc_seq_k fun N9 h9 => ?_
    refine vc_block ?_
    refine vc_seq_k fun N10 h10 => ?_
    have hx := And.intro @hxe hx0
    refine u_reg ?_
    try refine lg_mk ?_
    refine u_pt ?_
    refine u_ld ?_
    refine u_al ?_
    refine u_st ?_
    refine lg_nil ?_
    have hx := hx0
    refine h10 _ ?_; clear h10; try clear N10
    refine vc_regG [25] hmix (by kernel_rfl) ?_
    try refine lg_mk ?_
    refine u_pt ?_
    refine u_ld ?_
    refine u_pt ?_
    refine u_ld ?_
    refine u_pt ?_
    refine u_ld ?_
    have hc := call_rule (E := (E_sameR.at_ 26)) (f := 25) (sp := Spec.pure cobG) rfl
    have hs := @cobG.eq_1
    refine u_hp (hq := by (first | (exact hxo) | exact sd_)) ?_
    refine u_bd ?_
    refine u_bs ?_
    refine u_ap (hq := by (first | ((repeat' apply And.intro) <;> first | rfl | trivial | omega | assumption | (simp; omega) | (rw [List.length_take]; omega)) | exact sd_)) ?_
    refine u_pt ?_
    refine u_st ?_
    refine lg_nil ?_
    refine h9 _ ?_; clear h9; try clear N9
    refine u_reg ?_
    try refine lg_mk ?_
    refine u_bn ?_
    refine u_mv ?_
    refine lg_nil ?_
    refine h5 _ ⟨i + 1, ?_, ?_, [some 0, some 1, some 2, some 6], ?_⟩
    ·dsimp only
     omega
    ·dsimp only
     omega
    ·dsimp only
     refine ⟨by rfl, ?_, ?_⟩
     ·refine fin_ ?_
      (repeat' apply And.intro) <;> (first | (first | rfl | trivial | (rw [hsn]; simp; done) | (rw [hsn, ← eO_snoc]; simp; done) | (rw [hsn, ← eO_snoc, List.take_of_length_le (by simp; omega)]; done) | (simp; omega)) | exact cl_)
     ·refine fin_ ?_
      (repeat' apply And.intro) <;> (first | (first | rfl | trivial | (rw [hsn]; simp; done) | (rw [hsn, ← eO_snoc]; simp; done) | (rw [hsn, ← eO_snoc, List.take_of_length_le (by simp; omega)]; done) | (simp; omega)) | exact cl_)
   ·refine vc_exit ?_
    simp only [k_rules, Nat.reduceEqDiff, reduceIte, eq_self]
    refine h3 _ ?_; clear h3; try clear N3
    refine vc_seq_k fun N11 h11 => ?_
    refine u_reg ?_
    try refine lg_mk ?_
    refine u_ld ?_
    refine u_st ?_
    refine lg_nil ?_
    refine h11 _ ?_; clear h11; try clear N11
    refine vc_ret ?_
    try simp only [k_rules]
    obtain rfl : i = S.length := by omega
    rw [List.take_length]
    refine fin_ ?_
    refine ⟨[some 3], by rfl, ?_, ?_⟩
    ·refine fin_ ?_
     exact cl_
    ·refine fin_ ?_
     exact cl_
 ·cases hg

def E_copyS : Env Tryd.prog := E_sameR.add 15 (Spec.fresh copyG) copyS_meets (by kernel_rfl)

theorem storesR_meets : Meets Tryd.prog 7 (Spec.pure storesG) := by
 refine meets_fun (E_copyS.at_ 49) Tryd.func7 rfl rfl rfl ?_
 intro args p r hg hp
 unfold storesG at hg
 split at hg
 ·rename_i xs ys
  simp only [Option.some.injEq, Prod.mk.injEq] at hg
  obtain ⟨rfl, rfl⟩ := hg
  obtain ⟨hx, hy, hl, hm, hsx, hsy⟩ := hp
  generalize dO xs = S at *
  generalize dO ys = T' at *
  subst hx hy
  have hT : (E_copyS).X = T := rfl
  have hx0 := And.intro @rect_eO (And.intro @dI_rows (And.intro @dU_rows (And.intro @dec_t (And.intro @dec_f @Tryd.results7))))
  have hx := hx0
  refine ⟨by rfl, ?_⟩
  intro F W0 hnp hmk
  refine vc_seq_k fun N1 h1 => ?_
  refine u_reg ?_
  try refine lg_mk ?_
  refine u_bx ?_
  refine u_bx ?_
  refine u_mv ?_
  refine lg_nil ?_
  refine h1 _ ?_; clear h1; try clear N1
  refine vc_seq_k fun N2 h2 => ?_
  refine vc_seq_k fun N3 h3 => ?_
  refine u_reg ?_
  try refine lg_mk ?_
  refine u_pt ?_
  refine u_ld ?_
  refine u_ln ?_
  refine u_pt ?_
  refine u_ld ?_
  refine u_ln ?_
  refine u_bn ?_
  refine lg_nil ?_
  refine h3 _ ?_; clear h3; try clear N3
  refine u_cond (fun hb4 => ?_) (fun hb4 => ?_)
  ·refine vc_seq_k fun N5 h5 => ?_
   refine u_reg ?_
   try refine lg_mk ?_
   refine u_mv ?_
   refine lg_nil ?_
   refine h5 _ ?_; clear h5; try clear N5
   refine vc_ret ?_
   try simp only [k_rules]
   have hr : decide (S = T') = false := decide_eq_false (fun h => by subst h; omega)
   rw [hr]
   refine fin2_ ?_
   exact cl_
  ·refine vc_skip ?_
   try simp only [k_rules]
   refine h2 _ ?_; clear h2; try clear N2
   refine vc_seq_k fun N6 h6 => ?_
   refine vc_seq_k fun N7 h7 => ?_
   refine u_reg ?_
   try refine lg_mk ?_
   refine u_mv ?_
   refine lg_nil ?_
   refine h7 _ ?_; clear h7; try clear N7
   refine vc_block ?_
   refine vc_loop_mk (σ := Nat) (fun s => (fun i => S.length = T'.length ∧ i ≤ S.length ∧ S.take i = T'.take i) s)
    (fun s => (fun i => [(2, .ptr 0 0 0), (3, .ptr 1 0 0), (5, .d (.int .i64 (i : Nat)))]) s)
    (fun s => (fun i => [some (.one 24 [.d (.sl (rows eO S))]), some (.one 24 [.d (.sl (rows eO T'))])]) s) (fun s => (fun i => S.length - i) s) hnp 0 ?_ [some 0, some 1] ?_ ?_
   ·dsimp only
    refine ⟨by omega, by omega, rfl⟩
   ·dsimp only
    refine ⟨by rfl, ?_, ?_⟩
    ·refine fin_ ?_
     exact cl_
    ·refine fin_ ?_
     exact cl_
   ·rintro i hinv N8 h8
    dsimp only at hinv ⊢
    obtain ⟨i1, i2, i3⟩ := hinv
    refine vc_seq_k fun N9 h9 => ?_
    refine vc_seq_k fun N10 h10 => ?_
    refine u_reg ?_
    try refine lg_mk ?_
    refine u_mv ?_
    refine u_pt ?_
    refine u_ld ?_
    refine u_ln ?_
    refine u_bn ?_
    refine lg_nil ?_
    refine h10 _ ?_; clear h10; try clear N10
    refine u_cond (fun hb11 => ?_) (fun hb11 => ?_)
    ·obtain ⟨a, ha⟩ := getE (l := S) (i := i) (by omega)
     obtain ⟨c, hc⟩ := getE (l := T') (i := i) (by omega)
     have hoa := hsx a (mem_at ha)
     have hoc := hsy c (mem_at hc)
     obtain ⟨d, k, l, u⟩ := a
     obtain ⟨d', k', l', u'⟩ := c
     have hoa1 : l.length ≤ 9223372036854775807 := hoa.1
     have hoc1 : l'.length ≤ 9223372036854775807 := hoc.1
     have hha := ha
     have hhc := hc
     refine vc_skip ?_
     try simp only [k_rules]
     refine h9 _ ?_; clear h9; try clear N9
     refine vc_seq_k fun N12 h12 => ?_
     refine vc_block ?_
     refine vc_seq_k fun N13 h13 => ?_
     rcases Classical.em (d = d') with hdd | hdd
     ·have hd : decide (d = d') = true := decide_eq_true hdd
      have hx := And.intro @hha (And.intro @hhc (And.intro @eO.eq_1 (And.intro @hd hx0)))
      refine u_reg ?_
      try refine lg_mk ?_
      refine u_pt ?_
      refine u_ld ?_
      refine u_mv ?_
      refine u_pt ?_
      refine u_pt ?_
      refine u_ld ?_
      refine u_pt ?_
      refine u_ld ?_
      refine u_mv ?_
      refine u_pt ?_
      refine u_pt ?_
      refine u_ld ?_
      refine u_bn ?_
      refine u_mv ?_
      refine g_pt ?_
      refine g_ld ?_
      refine g_mv ?_
      refine g_pt ?_
      refine g_pt ?_
      refine g_ld ?_
      refine g_pt ?_
      refine g_ld ?_
      refine g_mv ?_
      refine g_pt ?_
      refine g_pt ?_
      refine g_ld ?_
      have hc := call_rule (E := (E_copyS.at_ 49)) (f := 16) (sp := Spec.pure sameG) rfl
      have hs := @sameG.eq_1
      refine g_cp ?_
      refine g_un ?_
      refine u_pk ?_
      refine lg_nil ?_
      have hx := hx0
      refine h13 _ ?_; clear h13; try clear N13
      refine u_cond (fun hb14 => ?_) (fun hb14 => ?_)
      ·have hne := hb14
       refine vc_seq_k fun N15 h15 => ?_
       refine u_reg ?_
       try refine lg_mk ?_
       refine u_mv ?_
       refine lg_nil ?_
       refine h15 _ ?_; clear h15; try clear N15
       refine vc_ret ?_
       try simp only [k_rules]
       have hr : decide (S = T') = false := decide_eq_false (ne_at hha hhc (fun e => by obtain ⟨g1, g2⟩ := so_eq.1 e; first | exact hdd g1 | (simp at hne; exact hne g2.1 g2.2.1 g2.2.2)))
       rw [hr]
       refine fin2_ ?_
       exact cl_
      ·have hne := hb14
       refine vc_skip ?_
       try simp only [k_rules]
       refine h12 _ ?_; clear h12; try clear N12
       refine u_reg ?_
       try refine lg_mk ?_
       refine u_mv ?_
       refine u_bn ?_
       refine u_mv ?_
       refine lg_nil ?_
       refine h8 _ ⟨i + 1, ?_, ?_, [some 0, some 1], ?_⟩
       ·dsimp only
        refine ⟨i1, by omega, ?_⟩
        have he := so_eq.2 ⟨hdd, by simpa using hne⟩
        rw [← he] at hhc
        exact take_at hha hhc i3
       ·dsimp only
        omega
       ·dsimp only
        refine ⟨by rfl, ?_, ?_⟩
        ·refine fin_ ?_
         exact cl_
        ·refine fin_ ?_
         exact cl_
     ·have hd : decide (d = d') = false := decide_eq_false hdd
      have hx := And.intro @hha (And.intro @hhc (And.intro @eO.eq_1 (And.intro @hd hx0)))
      refine u_reg ?_
      try refine lg_mk ?_
      refine u_pt ?_
      refine u_ld ?_
      refine u_mv ?_
      refine u_pt ?_
      refine u_pt ?_
      refine u_ld ?_
      refine u_pt ?_
      refine u_ld ?_
      refine u_mv ?_
      refine u_pt ?_
      refine u_pt ?_
      refine u_ld ?_
      refine u_bn ?_
      refine u_mv ?_
      refine g_pt ?_
      refine g_ld ?_
      refine g_mv ?_
      refine g_pt ?_
      refine g_pt ?_
      refine g_ld ?_
      refine g_pt ?_
      refine g_ld ?_
      refine g_mv ?_
      refine g_pt ?_
      refine g_pt ?_
      refine g_ld ?_
      have hc := call_rule (E := (E_copyS.at_ 49)) (f := 16) (sp := Spec.pure sameG) rfl
      have hs := @sameG.eq_1
      refine g_cp ?_
      refine g_un ?_
      refine u_pk ?_
      refine lg_nil ?_
      have hx := hx0
      refine h13 _ ?_; clear h13; try clear N13
      refine u_cond (fun hb16 => ?_) (fun hb16 => ?_)
      ·have hne := hb16
       refine vc_seq_k fun N17 h17 => ?_
       refine u_reg ?_
       try refine lg_mk ?_
       refine u_mv ?_
       refine lg_nil ?_
       refine h17 _ ?_; clear h17; try clear N17
       refine vc_ret ?_
       try simp only [k_rules]
       have hr : decide (S = T') = false := decide_eq_false (ne_at hha hhc (fun e => by obtain ⟨g1, g2⟩ := so_eq.1 e; first | exact hdd g1 | (simp at hne; exact hne g2.1 g2.2.1 g2.2.2)))
       rw [hr]
       refine fin2_ ?_
       exact cl_
      ·simp at hb16
    ·refine vc_exit ?_
     simp only [k_rules, Nat.reduceEqDiff, reduceIte, eq_self]
     refine h6 _ ?_; clear h6; try clear N6
     refine vc_seq_k fun N18 h18 => ?_
     refine u_reg ?_
     try refine lg_mk ?_
     refine u_mv ?_
     refine lg_nil ?_
     refine h18 _ ?_; clear h18; try clear N18
     refine vc_ret ?_
     try simp only [k_rules]
     have hr : decide (S = T') = true := decide_eq_true (by rw [List.take_of_length_le (by omega), List.take_of_length_le (by omega)] at i3; exact i3)
     rw [hr]
     refine fin2_ ?_
     exact cl_
 ·cases hg

def E_storesR : Env Tryd.prog := E_copyS.add 7 (Spec.pure storesG) storesR_meets (by kernel_rfl)
end Go.Proofs.YtcjipciiljjfhaaDoor
