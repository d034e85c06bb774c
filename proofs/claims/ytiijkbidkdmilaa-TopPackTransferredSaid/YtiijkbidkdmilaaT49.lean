/- Walks, printed by wip/gen/walk.py. -/
import Derived.Test.YtiijkbidkdmilaaT48
import Derived.Test.YtiijkbidkdmilaaV5
set_option linter.all false
set_option maxRecDepth 100000
set_option maxHeartbeats 4000000
namespace Go.Proofs.Ytiijkbidkdmilaa
open Go Go.Vc Go.RowKit
theorem tkD0 (l : List (List D)) : l.take 0 = [] := rfl

/-- slices.Grow of nil, at bytes: an empty row of one's own. -/
def growG : GFun
  | [.d .nils, .d (.int .i64 n)], [] => some (0 ≤ n ∧ n ≤ 1000000000, .sl 0 0 0, [some (.vec 5 1 [])])
  | _, _ => none
def dUU : List (List D) → List (List UInt8) := List.map fun x => match x with | [.sl r] => dU r | _ => []
theorem dUU_rows (l : List (List UInt8)) : dUU (rows (eL eU) l) = l := by
  simp only [dUU, rows, List.map_map]
  conv => rhs; rw [← List.map_id l]
  refine List.map_congr_left fun c _ => ?_
  show dU (rows eU c) = c
  exact dU_rows c
def concatG : List AV → Option (Prop × AV)
  | [.d (.sl xs)] => some (xs = rows (eL eU) (dUU xs) ∧ (dUU xs).flatten.length ≤ 1000000000 ∧ (dUU xs).length ≤ 1000000000, .d (.sl (rows eU (dUU xs).flatten)))
  | _ => none
theorem flat_snoc {ll : List (List UInt8)} {k : Nat} {c : List UInt8} (h : ll[k]? = some c) : (ll.take (k + 1)).flatten = (ll.take k).flatten ++ c := by
  rw [List.take_add_one, h]; simp
theorem flat_le {ll : List (List UInt8)} (k : Nat) : (ll.take k).flatten.length ≤ ll.flatten.length := by
  conv => rhs; rw [← List.take_append_drop k ll]
  rw [List.flatten_append, List.length_append]; omega

theorem growU_meets : Meets Try.prog 29 (Spec.fresh growG) := by
 refine meets_fresh (E_count.at_ 27) Try.func29 rfl rfl rfl ?_
 intro args bl p r bf hg hp
 unfold growG at hg
 split at hg
 ·rename_i n
  simp only [Option.some.injEq, Prod.mk.injEq] at hg
  obtain ⟨rfl, rfl, rfl⟩ := hg
  obtain ⟨h0, hn⟩ := hp
  have hT : (E_count).X = T := rfl
  have hx0 := @Try.results29
  have hx := hx0
  refine ⟨Nat.le_of_ble_eq_true rfl, ?_⟩
  intro F W0 M0 hnp hmk
  have hnp : Far.np = 0 := hnp
  refine vc_seq_k fun N1 h1 => ?_
  refine u_reg ?_
  try refine lg_mk ?_
  refine u_mv ?_
  refine lg_nil ?_
  refine h1 _ ?_; clear h1; try clear N1
  refine vc_seq_k fun N2 h2 => ?_
  refine vc_seq_k fun N3 h3 => ?_
  refine u_reg ?_
  try refine lg_mk ?_
  refine u_mv ?_
  refine u_bn ?_
  refine lg_nil ?_
  refine h3 _ ?_; clear h3; try clear N3
  refine u_cond (fun hb4 => ?_) (fun hb4 => ?_)
  ·first | omega | exact absurd trivial hb4 | contradiction | (simp_all; done)
  ·refine vc_skip ?_
   try simp only [k_rules]
   refine h2 _ ?_; clear h2; try clear N2
   refine vc_seq_k fun N5 h5 => ?_
   refine vc_seq_k fun N6 h6 => ?_
   refine u_reg ?_
   try refine lg_mk ?_
   refine u_mv ?_
   refine u_mv ?_
   refine lg_sem (by rfl) (sem_cap (by first | (simp only [wB, eq_self, Nat.reduceEqDiff, reduceIte]; done) | (simp only [wB, eq_self, Nat.reduceEqDiff, reduceIte]; rfl)) (by first | trivial | simp only [wB, eq_self, Nat.reduceEqDiff, reduceIte]) (by first | (simp only [wB, eq_self, Nat.reduceEqDiff, reduceIte, env_rules, tys, hT, tiAgg]; done) | (simp only [wB, eq_self, Nat.reduceEqDiff, reduceIte, env_rules, tys, hT, tiAgg]; rfl)) (by first | (simp only [slA, wB, eq_self, Nat.reduceEqDiff, reduceIte]; done) | (simp only [slA, wB, eq_self, Nat.reduceEqDiff, reduceIte]; rfl)) fun z_r3_2 hz_r3_2 hz_r3_2' => ?_)
   try (obtain rfl := hz_r3_2' rfl)
   refine u_mv ?_
   refine u_ln ?_
   refine u_bn ?_
   refine u_bn ?_
   refine u_mv ?_
   refine lg_nil ?_
   refine h6 _ ?_; clear h6; try clear N6
   refine vc_seq_k fun N7 h7 => ?_
   refine u_reg ?_
   try refine lg_mk ?_
   refine u_mv ?_
   refine u_bn ?_
   refine lg_nil ?_
   refine h7 _ ?_; clear h7; try clear N7
   refine u_cond (fun hb8 => ?_) (fun hb8 => ?_)
   ·refine u_reg ?_
    try refine lg_mk ?_
    refine u_mv ?_
    refine u_mv ?_
    refine lg_sem (by rfl) (sem_cap (by first | (simp only [wB, eq_self, Nat.reduceEqDiff, reduceIte]; done) | (simp only [wB, eq_self, Nat.reduceEqDiff, reduceIte]; rfl)) (by first | trivial | simp only [wB, eq_self, Nat.reduceEqDiff, reduceIte]) (by first | (simp only [wB, eq_self, Nat.reduceEqDiff, reduceIte, env_rules, tys, hT, tiAgg]; done) | (simp only [wB, eq_self, Nat.reduceEqDiff, reduceIte, env_rules, tys, hT, tiAgg]; rfl)) (by first | (simp only [slA, wB, eq_self, Nat.reduceEqDiff, reduceIte]; done) | (simp only [slA, wB, eq_self, Nat.reduceEqDiff, reduceIte]; rfl)) fun z_r5_2 hz_r5_2 hz_r5_2' => ?_)
    try (obtain rfl := hz_r5_2' rfl)
    refine u_sl ?_
    refine u_mv ?_
    refine lg_sem (by rfl) (sem_appendM (by first | (simp only [wB, eq_self, Nat.reduceEqDiff, reduceIte]; done) | (simp only [wB, eq_self, Nat.reduceEqDiff, reduceIte]; rfl)) (by first | trivial | simp only [wB, eq_self, Nat.reduceEqDiff, reduceIte]) (by first | (simp only [wB, eq_self, Nat.reduceEqDiff, reduceIte, env_rules, tys, hT, tiAgg]; done) | (simp only [wB, eq_self, Nat.reduceEqDiff, reduceIte, env_rules, tys, hT, tiAgg]; rfl)) (by first | (simp only [wB, eq_self, Nat.reduceEqDiff, reduceIte, env_rules, tys, hT, tiAgg]; done) | (simp only [wB, eq_self, Nat.reduceEqDiff, reduceIte, env_rules, tys, hT, tiAgg]; rfl)) (by first | (simp only [wB, eq_self, Nat.reduceEqDiff, reduceIte, env_rules, tys, hT, tiAgg]; done) | (simp only [wB, eq_self, Nat.reduceEqDiff, reduceIte, env_rules, tys, hT, tiAgg]; rfl)) (by first | (simp only [wB, eq_self, Nat.reduceEqDiff, reduceIte]; done) | (simp only [wB, eq_self, Nat.reduceEqDiff, reduceIte]; rfl)) (by first | trivial | simp only [wB, eq_self, Nat.reduceEqDiff, reduceIte]) (by exact sd_) (by exact sd_) (by exact sd_) ?_)
    try simp only [wB, eq_self, Nat.reduceEqDiff, reduceIte, wL, Int.toNat_natCast, Int.reduceToNat, Nat.reduceAdd, Nat.reduceMul, Nat.reduceSub, Nat.reduceLeDiff, hx]
    refine u_mv ?_
    refine u_ln ?_
    refine u_sl ?_
    refine u_mv ?_
    refine lg_nil ?_
    refine h5 _ ?_; clear h5; try clear N5
    refine vc_seq_k fun N9 h9 => ?_
    try refine vc_short (id := 0) 0 (by rfl) ?_
    have hx := And.intro @tkD0 hx0
    refine u_reg ?_
    try refine lg_mk ?_
    refine u_mv ?_
    refine u_mv ?_
    refine lg_nil ?_
    have hx := hx0
    refine h9 _ ?_; clear h9; try clear N9
    refine vc_ret ?_
    try simp only [k_rules]
    refine fin_ ?_
    refine ⟨[some 0], by rfl, ?_, ?_⟩
    ·refine fin_ ?_
     exact cl_
    ·refine fin_ ?_
     exact cl_
   ·refine vc_skip ?_
    try simp only [k_rules]
    refine h5 _ ?_; clear h5; try clear N5
    refine vc_seq_k fun N10 h10 => ?_
    try refine vc_short (id := 0) 0 (by rfl) ?_
    have hx := And.intro @tkD0 hx0
    refine u_reg ?_
    try refine lg_mk ?_
    refine u_mv ?_
    refine u_mv ?_
    refine lg_nil ?_
    have hx := hx0
    refine h10 _ ?_; clear h10; try clear N10
    refine vc_ret ?_
    try simp only [k_rules]
    refine fin_ ?_
    refine ⟨[none], by rfl, ?_, ?_⟩
    ·refine fin_ ?_
     exact cl_
    ·refine fin_ ?_
     exact cl_
 ·cases hg

def E_growU : Env Try.prog := E_count.add 29 (Spec.fresh growG) growU_meets (by kernel_rfl)

theorem concatU_meets : Meets Try.prog 17 (Spec.pure concatG) := by
 refine meets_fun (E_growU.at_ 36) Try.func17 rfl rfl rfl ?_
 intro args p r hg hp
 unfold concatG at hg
 split at hg
 ·rename_i xs
  simp only [Option.some.injEq, Prod.mk.injEq] at hg
  obtain ⟨rfl, rfl⟩ := hg
  obtain ⟨hx, hb, hb2⟩ := hp
  generalize dUU xs = ll at *
  subst hx
  have hT : (E_growU).X = T := rfl
  have hx0 := @Try.results17
  have hx := hx0
  refine ⟨by rfl, ?_⟩
  intro F W0 hnp hmk
  refine vc_seq_k fun N1 h1 => ?_
  refine u_reg ?_
  try refine lg_mk ?_
  refine u_mv ?_
  refine lg_nil ?_
  refine h1 _ ?_; clear h1; try clear N1
  refine vc_seq_k fun N2 h2 => ?_
  refine u_reg ?_
  try refine lg_mk ?_
  refine u_mv ?_
  refine lg_nil ?_
  refine h2 _ ?_; clear h2; try clear N2
  refine vc_seq_k fun N3 h3 => ?_
  refine vc_seq_k fun N4 h4 => ?_
  refine u_reg ?_
  try refine lg_mk ?_
  refine u_mv ?_
  refine u_ln ?_
  refine u_mv ?_
  refine lg_nil ?_
  refine h4 _ ?_; clear h4; try clear N4
  refine vc_block ?_
  refine vc_loop_mk (σ := Nat) (fun s => (fun k => k ≤ ll.length) s)
   (fun s => (fun k => [(0, .d (.sl (rows (eL eU) ll))), (3, .d (.int .i64 ((ll.take k).flatten.length : Nat))), (9, .d (.sl (rows (eL eU) ll))), (10, .d (.int .i64 (ll.length : Nat))), (11, .d (.int .i64 (k : Nat)))]) s)
   (fun s => (fun k => []) s) (fun s => (fun k => ll.length - k) s) hnp 0 ?_ [] ?_ ?_
  ·dsimp only
   omega
  ·dsimp only
   refine ⟨by rfl, ?_, ?_⟩
   ·refine fin_ ?_
    exact cl_
   ·refine fin_ ?_
    exact cl_
  ·rintro k hinv N5 h5
   dsimp only at hinv ⊢
   refine vc_seq_k fun N6 h6 => ?_
   refine u_reg ?_
   try refine lg_mk ?_
   refine u_bn ?_
   refine lg_nil ?_
   refine h6 _ ?_; clear h6; try clear N6
   refine vc_seq_k fun N7 h7 => ?_
   refine u_cond (fun hb8 => ?_) (fun hb8 => ?_)
   ·obtain ⟨c, hc⟩ : ∃ c, ll[k]? = some c := ⟨_, List.getElem?_eq_getElem (by omega)⟩
    have hf := flat_snoc hc
    have hle := flat_le (ll := ll) (k + 1)
    have hfl : ((ll.take (k + 1)).flatten).length = (ll.take k).flatten.length + c.length := by rw [hf, List.length_append]
    refine vc_skip ?_
    try simp only [k_rules]
    refine h7 _ ?_; clear h7; try clear N7
    refine vc_seq_k fun N9 h9 => ?_
    refine vc_block ?_
    refine vc_seq_k fun N10 h10 => ?_
    have hx := And.intro @hc (And.intro @eL.eq_1 hx0)
    refine u_reg ?_
    try refine lg_mk ?_
    refine u_pt ?_
    refine u_ld ?_
    refine u_mv ?_
    refine lg_nil ?_
    have hx := hx0
    refine h10 _ ?_; clear h10; try clear N10
    refine vc_seq_k fun N11 h11 => ?_
    refine u_reg ?_
    try refine lg_mk ?_
    refine u_mv ?_
    refine u_mv ?_
    refine u_ln ?_
    refine u_bn ?_
    refine u_mv ?_
    refine lg_nil ?_
    refine h11 _ ?_; clear h11; try clear N11
    refine vc_seq_k fun N12 h12 => ?_
    refine u_reg ?_
    try refine lg_mk ?_
    refine u_mv ?_
    refine u_bn ?_
    refine lg_nil ?_
    refine h12 _ ?_; clear h12; try clear N12
    refine u_cond (fun hb13 => ?_) (fun hb13 => ?_)
    ·first | omega | exact absurd trivial hb13 | contradiction | (simp_all; done)
    ·refine vc_skip ?_
     try simp only [k_rules]
     refine h9 _ ?_; clear h9; try clear N9
     refine u_reg ?_
     try refine lg_mk ?_
     refine u_bn ?_
     refine u_mv ?_
     refine lg_nil ?_
     refine h5 _ ⟨k + 1, ?_, ?_, [], ?_⟩
     ·dsimp only
      omega
     ·dsimp only
      omega
     ·dsimp only
      refine ⟨by rfl, ?_, ?_⟩
      ·refine fin_ ?_
       (repeat' apply And.intro) <;> (first | (rw [hfl]; simp; done) | exact cl_)
      ·refine fin_ ?_
       (repeat' apply And.intro) <;> (first | (rw [hfl]; simp; done) | exact cl_)
   ·have hk : k = ll.length := by omega
    subst hk
    have hle := flat_le (ll := ll) ll.length
    refine vc_exit ?_
    simp only [k_rules, Nat.reduceEqDiff, reduceIte, eq_self]
    refine h3 _ ?_; clear h3; try clear N3
    refine vc_seq_k fun N14 h14 => ?_
    refine u_reg ?_
    try refine lg_mk ?_
    refine u_mv ?_
    refine lg_sem (by rfl) (sem_call_raw (f := 29) (sp := Spec.fresh growG) rfl (by simp only [map_rules, wB, eq_self, Nat.reduceEqDiff, reduceIte]; rfl) (by simp only [wB, eq_self, Nat.reduceEqDiff, reduceIte, and_true]) (by simp only [wB, eq_self, Nat.reduceEqDiff, reduceIte, wG, growG, Nat.reduceAdd, Nat.reduceSub, Nat.reduceLT, Nat.reduceLeDiff, if_true, if_false, ite_self, List.mem_append, true_implies, Option.bind_some, wL, Int.toNat_natCast, Int.reduceToNat, Nat.reduceAdd, Nat.reduceMul, Nat.reduceSub, Nat.reduceLeDiff, dI_rows, dB_rows, dU_rows, hx]; rfl) (by exact sd_) ?_)
    simp only [wB, eq_self, Nat.reduceEqDiff, reduceIte, wG, growG, Nat.reduceAdd, Nat.reduceSub, Nat.reduceLT, Nat.reduceLeDiff, if_true, if_false, ite_self, List.mem_append, true_implies, Option.bind_some, wL, Int.toNat_natCast, Int.reduceToNat, Nat.reduceAdd, Nat.reduceMul, Nat.reduceSub, Nat.reduceLeDiff, dI_rows, dB_rows, dU_rows, hx]
    refine u_mv ?_
    refine lg_nil ?_
    refine h14 _ ?_; clear h14; try clear N14
    refine vc_seq_k fun N15 h15 => ?_
    refine vc_seq_k fun N16 h16 => ?_
    refine u_reg ?_
    try refine lg_mk ?_
    refine u_mv ?_
    refine u_ln ?_
    refine u_mv ?_
    refine lg_nil ?_
    refine h16 _ ?_; clear h16; try clear N16
    refine vc_block ?_
    refine vc_loop_mk (σ := Nat) (fun s => (fun k => k ≤ ll.length) s)
     (fun s => (fun k => [(6, .sl 0 0 (ll.take k).flatten.length), (25, .d (.sl (rows (eL eU) ll))), (26, .d (.int .i64 (ll.length : Nat))), (27, .d (.int .i64 (k : Nat)))]) s)
     (fun s => (fun k => [some (.vec 5 1 (rows eU (ll.take k).flatten))]) s) (fun s => (fun k => ll.length - k) s) hnp 0 ?_ [some 0] ?_ ?_
    ·dsimp only
     omega
    ·dsimp only
     refine ⟨by rfl, ?_, ?_⟩
     ·refine fin_ ?_
      exact cl_
     ·refine fin_ ?_
      exact cl_
    ·rintro k hinv N17 h17
     dsimp only at hinv ⊢
     refine vc_seq_k fun N18 h18 => ?_
     refine u_reg ?_
     try refine lg_mk ?_
     refine u_bn ?_
     refine lg_nil ?_
     refine h18 _ ?_; clear h18; try clear N18
     refine vc_seq_k fun N19 h19 => ?_
     refine u_cond (fun hb20 => ?_) (fun hb20 => ?_)
     ·obtain ⟨c, hc⟩ : ∃ c, ll[k]? = some c := ⟨_, List.getElem?_eq_getElem (by omega)⟩
      have hf := flat_snoc hc
      have hle := flat_le (ll := ll) (k + 1)
      have hfl : ((ll.take (k + 1)).flatten).length = (ll.take k).flatten.length + c.length := by rw [hf, List.length_append]
      refine vc_skip ?_
      try simp only [k_rules]
      refine h19 _ ?_; clear h19; try clear N19
      refine vc_seq_k fun N21 h21 => ?_
      refine vc_block ?_
      refine vc_seq_k fun N22 h22 => ?_
      have hx := And.intro @hc (And.intro @eL.eq_1 hx0)
      refine u_reg ?_
      try refine lg_mk ?_
      refine u_pt ?_
      refine u_ld ?_
      refine u_mv ?_
      refine lg_nil ?_
      have hx := hx0
      refine h22 _ ?_; clear h22; try clear N22
      refine u_reg ?_
      try refine lg_mk ?_
      refine u_mv ?_
      refine u_mv ?_
      refine u_ap ?_
      refine u_mv ?_
      refine lg_nil ?_
      refine h21 _ ?_; clear h21; try clear N21
      refine u_reg ?_
      try refine lg_mk ?_
      refine u_bn ?_
      refine u_mv ?_
      refine lg_nil ?_
      refine h17 _ ⟨k + 1, ?_, ?_, [some 1], ?_⟩
      ·dsimp only
       omega
      ·dsimp only
       omega
      ·dsimp only
       refine ⟨by rfl, ?_, ?_⟩
       ·refine fin_ ?_
        (repeat' apply And.intro) <;> (first | (first | (rw [hfl]; done) | (rw [hf, List.take_length]; done)) | exact cl_)
       ·refine fin_ ?_
        (repeat' apply And.intro) <;> (first | (first | (rw [hfl]; done) | (rw [hf, List.take_length]; done)) | exact cl_)
     ·have hk : k = ll.length := by omega
      subst hk
      refine vc_exit ?_
      simp only [k_rules, Nat.reduceEqDiff, reduceIte, eq_self]
      refine h15 _ ?_; clear h15; try clear N15
      refine vc_seq_k fun N23 h23 => ?_
      refine u_reg ?_
      try refine lg_mk ?_
      refine u_mv ?_
      refine u_mv ?_
      refine lg_nil ?_
      refine h23 _ ?_; clear h23; try clear N23
      refine vc_ret ?_
      try simp only [k_rules]
      refine fin2_ ?_
      (repeat' apply And.intro) <;> (first | (first | rfl | exact Or.inl rfl | trivial | omega | (simp; done) | (simp [rows_take]; done) | (simp only [List.take_length]; done)) | exact cl_)
 ·cases hg

def E_concatU : Env Try.prog := E_growU.add 17 (Spec.pure concatG) concatU_meets (by kernel_rfl)
end Go.Proofs.Ytiijkbidkdmilaa
