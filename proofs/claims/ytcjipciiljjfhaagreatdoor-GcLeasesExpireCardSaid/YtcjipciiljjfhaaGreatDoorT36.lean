/- Walks, printed by wip/gen/walk.py. -/
import Derived.Test.YtcjipciiljjfhaaGreatDoorT35
import Derived.Test.YtcjipciiljjfhaaGreatDoorV5
set_option linter.all false
set_option maxRecDepth 100000
set_option maxHeartbeats 4000000
namespace Go.Proofs.YtcjipciiljjfhaaGreatDoor
open Go Go.Vc Go.RowKit
def dS (xs : List (List D)) : List (List UInt8) := xs.map fun x => match x with | [.str s] => s | _ => []
theorem dS_rows (l : List (List UInt8)) : dS (rows eS l) = l := by
  simp only [dS, rows, List.map_map]
  conv => rhs; rw [← List.map_id l]
  exact List.map_congr_left fun c _ => rfl
theorem rect_eS (l : List (List UInt8)) : Rect 1 (rows eS l) = True := eq_true (rows_rect (f := eS) (fun _ => rfl) l)
def cpsG : List AV → Option (Prop × AV)
  | [.d (.str s)] => some (s.length ≤ 1000000, .d (.sl (rows eS (cps s))))
  | _ => none
def strsG : List AV → Option (Prop × AV)
  | [.d (.sl xs), .d (.sl ys)] => some (xs = rows eS (dS xs) ∧ ys = rows eS (dS ys) ∧ (dS xs).length ≤ 9223372036854775807 ∧ (dS ys).length ≤ 9223372036854775807, .d (.bool (decide (dS xs = dS ys))))
  | _ => none
def cnfRG : List AV → Option (Prop × AV)
  | [.d (.str a), .d (.str b)] => some (a.length ≤ 60 ∧ b.length ≤ 60, .d (.bool (cnfB a b)))
  | _ => none
theorem eS_snoc (l : List (List UInt8)) (x : List UInt8) : rows eS l ++ [[.str x]] = rows eS (l ++ [x]) := by simp [rows, eS]
theorem drop_at {s : List UInt8} {i : Nat} {c : UInt8} (h : s[i]? = some c) : s.drop i = c :: s.drop (i + 1) := by
  obtain ⟨h1, h2⟩ := List.getElem?_eq_some_iff.1 h
  rw [← h2]; exact List.drop_eq_getElem_cons h1

theorem cps_meets : Meets Tryz.prog 60 (Spec.pure cpsG) := by
 refine meets_fun (E_refsV.at_ 31) Tryz.func60 rfl rfl rfl ?_
 intro args p r hg hp
 unfold cpsG at hg
 split at hg
 ·rename_i u
  simp only [Option.some.injEq, Prod.mk.injEq] at hg
  obtain ⟨rfl, rfl⟩ := hg
  have hl := hp
  have hT : (E_refsV).X = T := rfl
  have hx0 := And.intro @rect_eS @Tryz.results60
  have hx := hx0
  refine ⟨by rfl, ?_⟩
  intro F W0 hnp hmk
  refine vc_seq_k fun N1 h1 => ?_
  refine u_reg ?_
  try refine lg_mk ?_
  refine u_mv ?_
  refine lg_nil ?_
  refine h1 _ ?_; clear h1; try clear N1
  refine vc_seq_k fun N2 h2 => ?_
  refine u_reg ?_
  try refine lg_mk ?_
  refine u_mv ?_
  refine lg_nil ?_
  refine h2 _ ?_; clear h2; try clear N2
  refine vc_seq_k fun N3 h3 => ?_
  refine u_reg ?_
  try refine lg_mk ?_
  refine u_mv ?_
  refine lg_nil ?_
  refine h3 _ ?_; clear h3; try clear N3
  refine vc_seq_k fun N4 h4 => ?_
  refine vc_seq_k fun N5 h5 => ?_
  refine u_reg ?_
  try refine lg_mk ?_
  refine u_mv ?_
  refine lg_nil ?_
  refine h5 _ ?_; clear h5; try clear N5
  refine vc_block ?_
  refine vc_loop_mk (σ := Nat × List (List UInt8) × List UInt8) (fun s => (fun i out now => i ≤ u.length ∧ cps u = out ++ cpsA now (u.drop i) ∧ out.length ≤ i ∧ now.length ≤ i) (s.1) (s.2.1) (s.2.2))
   (fun s => (fun i out now => [(0, .d (.str u)), (3, .sl 0 0 out.length), (4, .d (.str now)), (5, .d (.int .i64 (i : Nat)))]) (s.1) (s.2.1) (s.2.2))
   (fun s => (fun i out now => [some (.vec 9 1 (rows eS out))]) (s.1) (s.2.1) (s.2.2)) (fun s => (fun i out now => u.length - i) (s.1) (s.2.1) (s.2.2)) hnp (0, [], []) ?_ [none] ?_ ?_
  ·dsimp only
   exact ⟨by omega, rfl, by simp, by simp⟩
  ·dsimp only
   refine ⟨by rfl, ?_, ?_⟩
   ·refine fin_ ?_
    exact cl_
   ·refine fin_ ?_
    exact cl_
  ·rintro ⟨i, out, now⟩ hinv N6 h6
   dsimp only at hinv ⊢
   obtain ⟨i1, i2, i3, i4⟩ := hinv
   have hto : out.take out.length = out := List.take_length
   refine vc_seq_k fun N7 h7 => ?_
   refine vc_seq_k fun N8 h8 => ?_
   refine u_reg ?_
   try refine lg_mk ?_
   refine u_mv ?_
   refine u_mv ?_
   refine u_ln ?_
   refine u_bn ?_
   refine lg_nil ?_
   refine h8 _ ?_; clear h8; try clear N8
   refine u_cond (fun hb9 => ?_) (fun hb9 => ?_)
   ·obtain ⟨c, hce⟩ := getE (l := u) (i := i) (by omega)
    have hdc := drop_at hce
    have htn : ((i : Int) + 1).toNat = i + 1 := by omega
    have hsl : List.take (i + 1 - i) (List.drop i u) = [c] := by rw [hdc, show i + 1 - i = 1 by omega]; rfl
    rw [hdc] at i2
    refine vc_skip ?_
    try simp only [k_rules]
    refine h7 _ ?_; clear h7; try clear N7
    refine vc_seq_k fun N10 h10 => ?_
    refine vc_block ?_
    refine vc_seq_k fun N11 h11 => ?_
    have hx := And.intro @hce hx0
    refine u_reg ?_
    try refine lg_mk ?_
    refine u_mv ?_
    refine u_mv ?_
    refine u_pt ?_
    refine u_bn ?_
    refine lg_nil ?_
    have hx := hx0
    refine h11 _ ?_; clear h11; try clear N11
    refine u_cond (fun hb12 => ?_) (fun hb12 => ?_)
    ·have h47 : c = 47 := UInt8.toNat_inj.1 (by show c.toNat = 47; have := hb12; omega)
     subst h47
     simp only [cpsA, if_true] at i2
     refine vc_seq_k fun N13 h13 => ?_
     refine u_reg ?_
     try refine lg_mk ?_
     refine u_mv ?_
     refine u_mv ?_
     refine u_bs ?_
     refine u_ap ?_
     refine u_mv ?_
     refine lg_nil ?_
     refine h13 _ ?_; clear h13; try clear N13
     refine u_reg ?_
     try refine lg_mk ?_
     refine u_mv ?_
     refine lg_nil ?_
     refine h10 _ ?_; clear h10; try clear N10
     refine u_reg ?_
     try refine lg_mk ?_
     refine u_mv ?_
     refine u_bn ?_
     refine u_mv ?_
     refine lg_nil ?_
     refine h6 _ ⟨(i + 1, out ++ [now], []), ?_, ?_, [some 2], ?_⟩
     ·dsimp only
      exact ⟨by omega, by rw [List.append_assoc]; exact i2, by simp; omega, by simp⟩
     ·dsimp only
      omega
     ·dsimp only
      refine ⟨by rfl, ?_, ?_⟩
      ·refine fin_ ?_
       (repeat' apply And.intro) <;> (first | (first | rfl | trivial | omega | (rw [hto, eS_snoc]; done) | (simp; done)) | exact cl_)
      ·refine fin_ ?_
       (repeat' apply And.intro) <;> (first | (first | rfl | trivial | omega | (rw [hto, eS_snoc]; done) | (simp; done)) | exact cl_)
    ·have h47 : ¬ c = 47 := fun e => by have := hb12; subst e; simp at this
     simp only [cpsA, if_neg h47] at i2
     have hx := And.intro @htn (And.intro @hsl hx0)
     refine u_reg ?_
     try refine lg_mk ?_
     refine u_mv ?_
     refine u_mv ?_
     refine u_mv ?_
     refine u_mv ?_
     refine u_bn ?_
     refine u_sl ?_
     refine u_bn ?_
     refine u_mv ?_
     refine lg_nil ?_
     have hx := hx0
     refine h10 _ ?_; clear h10; try clear N10
     refine u_reg ?_
     try refine lg_mk ?_
     refine u_mv ?_
     refine u_bn ?_
     refine u_mv ?_
     refine lg_nil ?_
     refine h6 _ ⟨(i + 1, out, now ++ [c]), ?_, ?_, [some 0], ?_⟩
     ·dsimp only
      exact ⟨by omega, i2, by omega, by simp; omega⟩
     ·dsimp only
      omega
     ·dsimp only
      refine ⟨by rfl, ?_, ?_⟩
      ·refine fin_ ?_
       exact cl_
      ·refine fin_ ?_
       exact cl_
   ·refine vc_exit ?_
    simp only [k_rules, Nat.reduceEqDiff, reduceIte, eq_self]
    refine h4 _ ?_; clear h4; try clear N4
    refine vc_seq_k fun N14 h14 => ?_
    refine u_reg ?_
    try refine lg_mk ?_
    refine u_mv ?_
    refine u_mv ?_
    refine u_bs ?_
    refine u_ap ?_
    refine u_mv ?_
    refine lg_nil ?_
    refine h14 _ ?_; clear h14; try clear N14
    refine vc_ret ?_
    try simp only [k_rules]
    obtain rfl : i = u.length := by omega
    rw [List.drop_length] at i2
    have hcs : cps u = out ++ [now] := i2
    rw [hcs]
    refine fin2_ ?_
    (repeat' apply And.intro) <;> (first | (first | rfl | trivial | omega | (rw [hto, eS_snoc, rows_len]; simp; done) | (rw [hto, eS_snoc, List.take_of_length_le (by rw [rows_len]; simp)]; done) | (left; rw [hto, eS_snoc]; done) | (rw [hto, eS_snoc]; simp; done) | (simp; done) | (simp [rows, eS]; done) | (left; simp [rows, eS]; done)) | exact cl_)
 ·cases hg

def E_cps : Env Tryz.prog := E_refsV.add 60 (Spec.pure cpsG) cps_meets (by kernel_rfl)

theorem strs_meets : Meets Tryz.prog 61 (Spec.pure strsG) := by
 refine meets_fun (E_cps.at_ 26) Tryz.func61 rfl rfl rfl ?_
 intro args p r hg hp
 unfold strsG at hg
 split at hg
 ·rename_i xs ys
  simp only [Option.some.injEq, Prod.mk.injEq] at hg
  obtain ⟨rfl, rfl⟩ := hg
  obtain ⟨hx, hy, hl, hm⟩ := hp
  generalize dS xs = l at *
  generalize dS ys = m at *
  subst hx hy
  have hT : (E_cps).X = T := rfl
  have hx0 := And.intro @rect_eS @Tryz.results61
  have hx := hx0
  refine ⟨by rfl, ?_⟩
  intro F W0 hnp hmk
  refine vc_seq_k fun N1 h1 => ?_
  refine u_reg ?_
  try refine lg_mk ?_
  refine u_mv ?_
  refine lg_nil ?_
  refine h1 _ ?_; clear h1; try clear N1
  refine vc_seq_k fun N2 h2 => ?_
  refine vc_seq_k fun N3 h3 => ?_
  refine u_reg ?_
  try refine lg_mk ?_
  refine u_mv ?_
  refine u_ln ?_
  refine u_mv ?_
  refine u_ln ?_
  refine u_bn ?_
  refine lg_nil ?_
  refine h3 _ ?_; clear h3; try clear N3
  refine u_cond (fun hb4 => ?_) (fun hb4 => ?_)
  ·refine vc_seq_k fun N5 h5 => ?_
   refine u_reg ?_
   try refine lg_mk ?_
   refine u_mv ?_
   refine lg_nil ?_
   refine h5 _ ?_; clear h5; try clear N5
   refine vc_ret ?_
   try simp only [k_rules]
   have hr : decide (l = m) = false := decide_eq_false (fun h => by subst h; omega)
   rw [hr]
   refine fin2_ ?_
   exact cl_
  ·refine vc_skip ?_
   try simp only [k_rules]
   refine h2 _ ?_; clear h2; try clear N2
   refine vc_seq_k fun N6 h6 => ?_
   refine vc_seq_k fun N7 h7 => ?_
   refine u_reg ?_
   try refine lg_mk ?_
   refine u_mv ?_
   refine lg_nil ?_
   refine h7 _ ?_; clear h7; try clear N7
   refine vc_block ?_
   refine vc_loop_mk (σ := Nat) (fun s => (fun i => l.length = m.length ∧ i ≤ l.length ∧ l.take i = m.take i) s)
    (fun s => (fun i => [(0, .d (.sl (rows eS l))), (1, .d (.sl (rows eS m))), (5, .d (.int .i64 (i : Nat)))]) s)
    (fun s => (fun i => []) s) (fun s => (fun i => l.length - i) s) hnp 0 ?_ [] ?_ ?_
   ·dsimp only
    refine ⟨by omega, by omega, rfl⟩
   ·dsimp only
    refine ⟨by rfl, ?_, ?_⟩
    ·refine fin_ ?_
     exact cl_
    ·refine fin_ ?_
     exact cl_
   ·rintro i hinv N8 h8
    dsimp only at hinv ⊢
    obtain ⟨i1, i2, i3⟩ := hinv
    refine vc_seq_k fun N9 h9 => ?_
    refine vc_seq_k fun N10 h10 => ?_
    refine u_reg ?_
    try refine lg_mk ?_
    refine u_mv ?_
    refine u_mv ?_
    refine u_ln ?_
    refine u_bn ?_
    refine lg_nil ?_
    refine h10 _ ?_; clear h10; try clear N10
    refine u_cond (fun hb11 => ?_) (fun hb11 => ?_)
    ·obtain ⟨a, ha⟩ := getE (l := l) (i := i) (by omega)
     obtain ⟨c, hce⟩ := getE (l := m) (i := i) (by omega)
     refine vc_skip ?_
     try simp only [k_rules]
     refine h9 _ ?_; clear h9; try clear N9
     refine vc_seq_k fun N12 h12 => ?_
     refine vc_block ?_
     refine vc_seq_k fun N13 h13 => ?_
     have hx := And.intro @ha (And.intro @hce (And.intro @eS.eq_1 hx0))
     refine u_reg ?_
     try refine lg_mk ?_
     refine u_mv ?_
     refine u_mv ?_
     refine u_pt ?_
     refine u_ld ?_
     refine u_mv ?_
     refine u_mv ?_
     refine u_pt ?_
     refine u_ld ?_
     refine u_bn ?_
     refine lg_nil ?_
     have hx := hx0
     refine h13 _ ?_; clear h13; try clear N13
     refine u_cond (fun hb14 => ?_) (fun hb14 => ?_)
     ·have hne := hb14
      refine vc_seq_k fun N15 h15 => ?_
      refine u_reg ?_
      try refine lg_mk ?_
      refine u_mv ?_
      refine lg_nil ?_
      refine h15 _ ?_; clear h15; try clear N15
      refine vc_ret ?_
      try simp only [k_rules]
      have hr : decide (l = m) = false := decide_eq_false (ne_at ha hce (by simpa using hne))
      rw [hr]
      refine fin2_ ?_
      exact cl_
     ·have hne := hb14
      refine vc_skip ?_
      try simp only [k_rules]
      refine h12 _ ?_; clear h12; try clear N12
      refine u_reg ?_
      try refine lg_mk ?_
      refine u_mv ?_
      refine u_bn ?_
      refine u_mv ?_
      refine lg_nil ?_
      refine h8 _ ⟨i + 1, ?_, ?_, [], ?_⟩
      ·dsimp only
       refine ⟨i1, by omega, ?_⟩
       have he : a = c := by simpa using hne
       subst he
       exact take_at ha hce i3
      ·dsimp only
       omega
      ·dsimp only
       refine ⟨by rfl, ?_, ?_⟩
       ·refine fin_ ?_
        exact cl_
       ·refine fin_ ?_
        exact cl_
    ·refine vc_exit ?_
     simp only [k_rules, Nat.reduceEqDiff, reduceIte, eq_self]
     refine h6 _ ?_; clear h6; try clear N6
     refine vc_seq_k fun N16 h16 => ?_
     refine u_reg ?_
     try refine lg_mk ?_
     refine u_mv ?_
     refine lg_nil ?_
     refine h16 _ ?_; clear h16; try clear N16
     refine vc_ret ?_
     try simp only [k_rules]
     have hr : decide (l = m) = true := decide_eq_true (by rw [List.take_of_length_le (by omega), List.take_of_length_le (by omega)] at i3; exact i3)
     rw [hr]
     refine fin2_ ?_
     exact cl_
 ·cases hg

def E_strs : Env Tryz.prog := E_cps.add 61 (Spec.pure strsG) strs_meets (by kernel_rfl)

theorem cnfR_meets : Meets Tryz.prog 44 (Spec.pure cnfRG) := by
 refine meets_fun (E_strs.at_ 29) Tryz.func44 rfl rfl rfl ?_
 intro args p r hg hp
 unfold cnfRG at hg
 split at hg
 ·rename_i a b
  simp only [Option.some.injEq, Prod.mk.injEq] at hg
  obtain ⟨rfl, rfl⟩ := hg
  obtain ⟨ha, hb⟩ := hp
  have hla := cps_few a
  have hlb := cps_few b
  have hmn : (min ((cps a).length : Int) ((cps b).length : Int)).toNat = min (cps a).length (cps b).length := by omega
  have hT : (E_strs).X = T := rfl
  have hx0 := And.intro @dS_rows @Tryz.results44
  have hx := hx0
  refine ⟨by rfl, ?_⟩
  intro F W0 hnp hmk
  refine vc_seq_k fun N1 h1 => ?_
  refine u_reg ?_
  try refine lg_mk ?_
  refine u_mv ?_
  refine lg_nil ?_
  refine h1 _ ?_; clear h1; try clear N1
  refine vc_seq_k fun N2 h2 => ?_
  refine u_reg ?_
  try refine lg_mk ?_
  refine u_mv ?_
  have hc := call_rule (E := (E_strs.at_ 29)) (f := 60) (sp := Spec.pure cpsG) rfl
  have hs := @cpsG.eq_1
  refine u_hp ?_
  refine u_mv ?_
  have hc := call_rule (E := (E_strs.at_ 29)) (f := 60) (sp := Spec.pure cpsG) rfl
  have hs := @cpsG.eq_1
  refine u_hp ?_
  refine u_mv ?_
  refine u_mv ?_
  refine lg_nil ?_
  refine h2 _ ?_; clear h2; try clear N2
  refine vc_seq_k fun N3 h3 => ?_
  refine vc_seq_k fun N4 h4 => ?_
  refine u_reg ?_
  try refine lg_mk ?_
  refine u_mv ?_
  refine u_ln ?_
  refine u_mv ?_
  refine u_ln ?_
  refine u_bn ?_
  refine lg_nil ?_
  refine h4 _ ?_; clear h4; try clear N4
  refine u_cond (fun hb5 => ?_) (fun hb5 => ?_)
  ·refine vc_seq_k fun N6 h6 => ?_
   refine u_reg ?_
   try refine lg_mk ?_
   refine u_mv ?_
   refine lg_nil ?_
   refine h6 _ ?_; clear h6; try clear N6
   refine vc_ret ?_
   try simp only [k_rules]
   have hr : cnfB a b = false := by
    rw [cnfB_is, decide_eq_false (by have := hb5; omega)]; rfl
   rw [hr]
   refine fin2_ ?_
   exact cl_
  ·refine vc_skip ?_
   try simp only [k_rules]
   refine h3 _ ?_; clear h3; try clear N3
   refine vc_seq_k fun N7 h7 => ?_
   refine u_reg ?_
   try refine lg_mk ?_
   refine u_mv ?_
   refine u_ln ?_
   refine u_mv ?_
   refine u_ln ?_
   refine u_mm ?_
   refine u_mv ?_
   refine lg_nil ?_
   refine h7 _ ?_; clear h7; try clear N7
   refine vc_seq_k fun N8 h8 => ?_
   have hx := And.intro @hmn hx0
   refine u_reg ?_
   try refine lg_mk ?_
   refine u_mv ?_
   refine u_mv ?_
   refine u_sl ?_
   refine u_mv ?_
   refine u_mv ?_
   refine u_sl ?_
   have hc := call_rule (E := (E_strs.at_ 29)) (f := 61) (sp := Spec.pure strsG) rfl
   have hs := @strsG.eq_1
   refine u_cp (hq := by (first | ((repeat' apply And.intro) <;> first | rfl | (simp; omega) | omega) | exact sd_)) ?_
   refine u_mv ?_
   refine lg_nil ?_
   have hx := hx0
   refine h8 _ ?_; clear h8; try clear N8
   refine vc_ret ?_
   try simp only [k_rules]
   have hr := cnfB_is a b
   rw [decide_eq_true (by have := hb5; omega : (cps a).length ≠ (cps b).length), Bool.true_and] at hr
   rw [hr]
   refine fin2_ ?_
   (repeat' apply And.intro) <;> (first | (first | rfl | trivial | (rw [hmn]; done) | (left; rw [hmn]; done) | (simp; done)) | exact cl_)
 ·cases hg

def E_cnfR : Env Tryz.prog := E_strs.add 44 (Spec.pure cnfRG) cnfR_meets (by kernel_rfl)

theorem isDR_meets : Meets Tryz.prog 43 (Spec.pure isDG) := by
 refine meets_fun (E_cnfR.at_ 5) Tryz.func43 rfl rfl rfl ?_
 intro args p r hg hp
 unfold isDG at hg
 split at hg
 ·rename_i n
  simp only [Option.some.injEq, Prod.mk.injEq] at hg
  obtain ⟨rfl, rfl⟩ := hg
  have hT : (E_cnfR).X = T := rfl
  have hx0 := And.intro @dec_t (And.intro @dec_f @Tryz.results43)
  have hx := hx0
  refine ⟨by rfl, ?_⟩
  intro F W0 hnp hmk
  refine vc_seq_k fun N1 h1 => ?_
  refine u_reg ?_
  try refine lg_mk ?_
  refine u_mv ?_
  refine lg_nil ?_
  refine h1 _ ?_; clear h1; try clear N1
  refine vc_seq_k fun N2 h2 => ?_
  refine u_reg ?_
  try refine lg_mk ?_
  refine u_mv ?_
  have hc := call_rule (E := (E_cnfR.at_ 5)) (f := 29) (sp := Spec.pure inG) rfl
  have hs := @inG.eq_1
  refine u_cp ?_
  refine u_mv ?_
  refine lg_nil ?_
  refine h2 _ ?_; clear h2; try clear N2
  refine vc_ret ?_
  try simp only [k_rules]
  have hr : (decide ((0 : Int) ≤ n) && decide (n < 2305843009213693951)) = (decide ((0 : Int) ≤ n) && decide (n ≤ 2305843009213693950)) := by congr 1; apply decide_eq_decide.2; omega
  rw [hr]
  refine fin2_ ?_
  exact cl_
 ·cases hg

def E_isDR : Env Tryz.prog := E_cnfR.add 43 (Spec.pure isDG) isDR_meets (by kernel_rfl)
end Go.Proofs.YtcjipciiljjfhaaGreatDoor
