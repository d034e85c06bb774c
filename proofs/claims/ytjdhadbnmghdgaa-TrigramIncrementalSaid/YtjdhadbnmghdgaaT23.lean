/- Walks, printed by wip/gen/walk.py. -/
import Derived.Test.YtjdhadbnmghdgaaT29
import Derived.Test.YtjdhadbnmghdgaaV5
set_option linter.all false
set_option maxRecDepth 100000
set_option maxHeartbeats 4000000
namespace Go.Proofs.Ytjdhadbnmghdgaa
open Go Go.Vc Go.RowKit
def copyG : GFun
  | [.agg [.d (.sl xs), .d (.sl ps)]], [] => some (xs = rows eI (dI xs) ∧ ps = rows eP (dP ps) ∧ ValP (dI xs) (dP ps), .agg [.sl 0 0 (dI xs).length, .sl 1 0 (dP ps).length], [some (.vec 3 1 (rows eI (dI xs))), some (.ob (.uv 55 2 1 3 1 ((dP ps).map uP)))])
  | _, _ => none
theorem zR_snoc {P : List Post} {vs : List Value} {g : Bs} {t : List Int} {v : Value} (h : vs.length = P.length) : zR (P ++ [(g, t)]) (vs ++ [v]) = zR P vs ++ [(g, .raw v)] := by
  unfold zR; rw [List.zipWith_append h.symm]; rfl
theorem bB_snoc {P : List Post} {vs : List Value} {g : Bs} {t : List Int} {v : Value} (h : vs.length = P.length) : bB (P ++ [(g, t)]) (vs ++ [v]) = bB P vs ++ [(v, rows eI t)] := by
  unfold bB; rw [List.zipWith_append h.symm]; rfl
theorem eG_snoc (Q : List (Bs × D)) (g : Bs) (d : D) : rows eG Q ++ [[.str g, d]] = rows eG (Q ++ [(g, d)]) := by simp [rows]; rfl
theorem take_snoc {α : Type} {l : List α} {i : Nat} {x : α} (h : l[i]? = some x) : l.take (i + 1) = l.take i ++ [x] := by rw [List.take_add_one, h]; rfl
theorem ouBox_ob (ds : List Nat) (n : Nat) (o : OB) : ouBox ds n (some (.ob o)) = some (.ob o) := rfl
def addF (ts : List Int) (P : List Post) (n : Int) (s : Bs) : Int × Int := if (valF ts P).1 ≠ 0 then valF ts P else if n < 0 ∨ 20 ≤ n then (3, -1) else if n ∈ ts then (7, -1) else if 400 < s.length then (10, -1) else (0, 0)
def addTs (ts : List Int) (P : List Post) (n : Int) (s : Bs) : List Int := if (addF ts P n s).1 = 0 then ins ts n else []
def addPs (ts : List Int) (P : List Post) (n : Int) (s : Bs) : List Post := if (addF ts P n s).1 = 0 then addP P n s else []
def addTG : List AV → Option (Prop × AV)
  | [.agg [.d (.sl xs), .d (.sl ps)], .d (.int .i64 n), .d (.str s)] => some (xs = rows eI (dI xs) ∧ (dI xs).length ≤ 9223372036854775807 ∧ ps = rows eP (dP ps) ∧ (dP ps).length ≤ 9223372036854775807 ∧ smallP (dP ps) ∧ s.length ≤ 9223372036854775807,
      .tup [.agg [.d (.sl (rows eI (addTs (dI xs) (dP ps) n s))), .d (.sl (rows eP (addPs (dI xs) (dP ps) n s)))], .agg [.d (.int .i64 (addF (dI xs) (dP ps) n s).1), .d (.int .i64 (addF (dI xs) (dP ps) n s).2)]])
  | _ => none

theorem copyI_meets : Meets Try.prog 41 (Spec.fresh copyG) := by
 refine meets_fresh (E_exT.at_ 30) Try.func41 rfl rfl rfl ?_
 intro args bl p r bf hg hp
 unfold copyG at hg
 split at hg
 ·rename_i xs ps
  simp only [Option.some.injEq, Prod.mk.injEq] at hg
  obtain ⟨rfl, rfl, rfl⟩ := hg
  obtain ⟨he, he2, hv⟩ := hp
  generalize dI xs = l at *
  generalize dP ps = P at *
  subst he he2
  have hlen20 := hv.tlen
  have hpl := hv.plen
  have hpm := hv.pmax
  have hT : (E_exT).X = T := rfl
  have hx0 := And.intro @rect_eP (And.intro @rect_eG (And.intro @cleanD_raw (And.intro @dI_rows (And.intro @eP_eq @Try.results41))))
  have hx := hx0
  refine ⟨Nat.le_of_ble_eq_true rfl, ?_⟩
  intro F W0 M0 hnp hmk
  have hnp : Far.np = 0 := hnp
  refine vc_seq_k fun N1 h1 => ?_
  refine u_reg ?_
  try refine lg_mk ?_
  refine u_bx ?_
  refine u_al ?_
  refine lg_nil ?_
  refine h1 _ ?_; clear h1; try clear N1
  refine vc_seq_k fun N2 h2 => ?_
  refine u_reg ?_
  try refine lg_mk ?_
  refine u_pt ?_
  refine u_ld ?_
  have hc := call_rule (E := (E_exT.at_ 30)) (f := 36) (sp := Spec.fresh (cloneF 3)) rfl
  have hs := @cloneF.eq_1
  refine u_hg (hq := by (first | (exact ⟨of_eq_true (rect_eI l), by omega⟩) | exact sd_)) ?_
  refine u_bd ?_
  refine u_al ?_
  refine u_st ?_
  refine lg_nil ?_
  refine h2 _ ?_; clear h2; try clear N2
  refine vc_seq_k fun N3 h3 => ?_
  refine vc_seq_k fun N4 h4 => ?_
  refine vc_nil1 3 1 _ 2 (vec_nil 55 2) rfl rfl rfl ?_
  simp only [updL, List.set, List.cons_append, List.nil_append]
  refine vc_newbag 3 1 rfl ?_
  simp only [List.cons_append, List.nil_append]
  refine u_reg ?_
  try refine lg_mk ?_
  refine u_pt ?_
  refine u_ld ?_
  refine u_ln ?_
  refine u_mv ?_
  refine lg_nil ?_
  refine h4 _ ?_; clear h4; try clear N4
  refine vc_block ?_
  refine vc_loop_mk (σ := Nat × List Value) (fun s => (fun i vs => i ≤ P.length ∧ vs.length = (P.take i).length) (s.1) (s.2))
   (fun s => (fun i vs => [(1, .ptr 0 0 0), (2, .ptr 1 0 0), (3, .ptr 3 0 0), (11, .d (.sl (rows eP P))), (12, .d (.int .i64 (P.length : Nat))), (13, .d (.int .i64 (i : Nat)))]) (s.1) (s.2))
   (fun s => (fun i vs => [some (.one 27 [.d (.sl (rows eI l)), .d (.sl (rows eP P))]), some (.one 27 [.d .nils, .d .nils]), some (.vec 3 1 (rows eI l)), some (.one 27 [.sl 2 0 l.length, .sl 4 0 i]), some (.vec 55 2 (rows eG (zR (P.take i) vs))), some (.ob (.bag 3 1 (bB (P.take i) vs)))]) (s.1) (s.2)) (fun s => (fun i vs => P.length - i) (s.1) (s.2)) hnp (0, []) ?_ [some 0, some 1, some 2, some 3, some 4, some 5] ?_ ?_
  ·dsimp only
   simp
  ·dsimp only
   refine ⟨by rfl, ?_, ?_⟩
   ·refine fin_ ?_
    exact cl_
   ·refine fin_ ?_
    exact cl_
  ·rintro ⟨i, vs⟩ hinv N5 h5
   dsimp only at hinv ⊢
   obtain ⟨i1, hvs⟩ := hinv
   refine vc_seq_k fun N6 h6 => ?_
   refine u_reg ?_
   try refine lg_mk ?_
   refine u_bn ?_
   refine lg_nil ?_
   refine h6 _ ?_; clear h6; try clear N6
   refine vc_seq_k fun N7 h7 => ?_
   refine u_cond (fun hb8 => ?_) (fun hb8 => ?_)
   ·obtain ⟨⟨g, t⟩, hxe⟩ := getE (l := P) (i := i) (by omega)
    have htl : t.length ≤ 20 := hpm _ (mem_at hxe)
    have hsn := take_snoc hxe
    have hzl : (zR (P.take i) vs).length = i := by rw [zR_len hvs, List.length_take]; omega
    refine vc_skip ?_
    try simp only [k_rules]
    refine h7 _ ?_; clear h7; try clear N7
    refine vc_seq_k fun N9 h9 => ?_
    refine vc_block ?_
    refine vc_seq_k fun N10 h10 => ?_
    have hx := And.intro @hxe hx0
    refine u_reg ?_
    try refine lg_mk ?_
    refine u_pt ?_
    refine u_ld ?_
    refine u_al ?_
    refine u_st ?_
    refine lg_nil ?_
    have hx := hx0
    refine h10 _ ?_; clear h10; try clear N10
    refine vc_regT [] (.seq [4, 5] (.alt 0 (.alt 1 (.alt 2 (.alt 3 (.seq [6, 7, 8, 9, 10, 11] .nil) (.alt 6 (.seq [3, 7, 8, 9, 10, 11] .nil) .nil)) (.alt 6 (.seq [2, 3, 7, 8, 9, 10, 11] .nil) .nil)) (.alt 2 (.alt 1 (.alt 3 (.seq [6, 7, 8, 9, 10, 11] .nil) (.alt 6 (.seq [3, 7, 8, 9, 10, 11] .nil) .nil)) (.alt 3 (.alt 1 (.seq [6, 7, 8, 9, 10, 11] .nil) (.alt 6 (.seq [1, 7, 8, 9, 10, 11] .nil) .nil)) (.alt 6 (.seq [1, 3, 7, 8, 9, 10, 11] .nil) .nil))) (.alt 6 (.seq [1, 2, 3, 7, 8, 9, 10, 11] .nil) .nil))) (.alt 2 (.alt 0 (.alt 1 (.alt 3 (.seq [6, 7, 8, 9, 10, 11] .nil) (.alt 6 (.seq [3, 7, 8, 9, 10, 11] .nil) .nil)) (.alt 3 (.alt 1 (.seq [6, 7, 8, 9, 10, 11] .nil) (.alt 6 (.seq [1, 7, 8, 9, 10, 11] .nil) .nil)) (.alt 6 (.seq [1, 3, 7, 8, 9, 10, 11] .nil) .nil))) (.alt 3 (.alt 0 (.alt 1 (.seq [6, 7, 8, 9, 10, 11] .nil) (.alt 6 (.seq [1, 7, 8, 9, 10, 11] .nil) .nil)) (.alt 6 (.seq [0, 1, 7, 8, 9, 10, 11] .nil) .nil)) (.alt 6 (.seq [0, 1, 3, 7, 8, 9, 10, 11] .nil) .nil))) (.alt 6 (.seq [0, 1, 2, 3, 7, 8, 9, 10, 11] .nil) .nil)))) hmix (by kernel_rfl) ?_
    refine at_seq ?_
    simp only [pick_rules, list_rules]
    try refine lg_mk ?_
    refine u_pt ?_
    refine u_ld ?_
    refine lg_nil ?_
    refine at_alt ?_ ?_
    ·simp only [pick_rules, list_rules]
     try refine lg_mk ?_
     refine u_pt ?_
     refine lg_nil ?_
     refine at_alt ?_ ?_
     ·simp only [pick_rules, list_rules]
      try refine lg_mk ?_
      refine u_ld ?_
      refine lg_nil ?_
      refine at_alt ?_ ?_
      ·simp only [pick_rules, list_rules]
       try refine lg_mk ?_
       refine u_pt ?_
       refine lg_nil ?_
       refine at_alt ?_ ?_
       ·simp only [pick_rules, list_rules]
        try refine lg_mk ?_
        refine u_ld ?_
        refine lg_nil ?_
        refine at_seq ?_
        simp only [pick_rules, list_rules]
        try refine lg_mk ?_
        have hs := @cloneF.eq_1
        refine lg_sem (by rfl) (sem_call_put 5 (f := 36) (sp := Spec.fresh (cloneF 3)) rfl (by simp only [map_rules, wB, eq_self, Nat.reduceEqDiff, reduceIte]; rfl)  (by simp only [wB, eq_self, Nat.reduceEqDiff, reduceIte, and_true]) (m1 := (bB (P.take i) vs)) (m2 := []) (by simp only [wB, eq_self, Nat.reduceEqDiff, reduceIte, callS, rd_rules, pureL, cleanD, pure_rules, hs, sc_rules, heap_rules, wL, Int.toNat_natCast, Int.reduceToNat, Nat.reduceAdd, Nat.reduceMul, Nat.reduceSub, Nat.reduceLeDiff, List.mem_cons, List.not_mem_nil, dI_rows, dB_rows, dU_rows, hx, wG, Nat.reduceAdd, Nat.reduceSub, Nat.reduceLT, Nat.reduceLeDiff, if_true, if_false, ite_self, List.mem_append, true_implies, Option.bind_some, List.set_cons_zero, List.set_cons_succ, or_false, false_or]; rfl) (by first | trivial | ((try dsimp only); (first | (exact ⟨of_eq_true (rect_eI t), by omega⟩) | exact sd_))) (by simp only [wB, eq_self, Nat.reduceEqDiff, reduceIte, wG, heap_rules, Nat.reduceAdd, Nat.reduceSub, Nat.reduceLT, Nat.reduceLeDiff, kilL, List.cons_append, List.nil_append, List.mem_cons, List.not_mem_nil, or_false, false_or, wL, Int.toNat_natCast, Int.reduceToNat, Nat.reduceAdd, Nat.reduceMul, Nat.reduceSub, Nat.reduceLeDiff, hx]; rfl) (by rfl) (by rfl) (by rfl) (List.append_nil _).symm (by first | decide | simp) (by first | exact Nat.le_refl _ | (simp [rows]; done) | (first | (exact ⟨of_eq_true (rect_eI t), by omega⟩) | exact sd_)) fun v1 => ?_)
        simp only [wB, eq_self, Nat.reduceEqDiff, reduceIte, wG, heap_rules, Nat.reduceAdd, Nat.reduceSub, Nat.reduceLT, Nat.reduceLeDiff, kilL, List.cons_append, List.nil_append, List.mem_cons, List.not_mem_nil, or_false, false_or, wL, Int.toNat_natCast, Int.reduceToNat, Nat.reduceAdd, Nat.reduceMul, Nat.reduceSub, Nat.reduceLeDiff, hx]
        refine u_bd ?_
        refine u_bs ?_
        refine u_ap (hq := by (first | ((repeat' apply And.intro) <;> first | rfl | trivial | omega | assumption | (simp; omega)) | exact sd_)) ?_
        refine u_pt ?_
        refine u_st ?_
        refine lg_nil ?_
        refine at_nil ?_
        refine h9 _ ?_; clear h9; try clear N9
        refine u_reg ?_
        try refine lg_mk ?_
        refine u_bn ?_
        refine u_mv ?_
        refine lg_nil ?_
        have e1 := zR_snoc (g := g) (t := t) (v := v1) hvs
        have e2 := bB_snoc (g := g) (t := t) (v := v1) hvs
        rw [← hsn] at e1 e2
        refine h5 _ ⟨(i + 1, vs ++ [v1]), ?_, ?_, [some 0, some 1, some 2, some 3, some 10, some 8], ?_⟩
        ·dsimp only
         exact ⟨by omega, by rw [hsn]; simp [hvs]⟩
        ·dsimp only
         omega
        ·dsimp only
         refine ⟨by rfl, ?_, ?_⟩
         ·refine fin_ ?_
          (repeat' apply And.intro) <;> (first | (first | rfl | trivial | (rw [e1, ← eG_snoc]; simp [hzl]; done) | (rw [e1, ← eG_snoc, List.take_of_length_le (by omega)]; done) | (rw [List.take_length]; exact congrArg (OB.bag _ _) e2.symm) | exact congrArg (OB.bag _ _) e2.symm | (simp [hzl]; omega)) | exact cl_)
         ·refine fin_ ?_
          (repeat' apply And.intro) <;> (first | (first | rfl | trivial | (rw [e1, ← eG_snoc]; simp [hzl]; done) | (rw [e1, ← eG_snoc, List.take_of_length_le (by omega)]; done) | (rw [List.take_length]; exact congrArg (OB.bag _ _) e2.symm) | exact congrArg (OB.bag _ _) e2.symm | (simp [hzl]; omega)) | exact cl_)
       refine at_alt ?_ ?_
       ·simp only [pick_rules, list_rules]
        try refine lg_mk ?_
        have hs := @cloneF.eq_1
        refine lg_sem (by rfl) (sem_call_put 5 (f := 36) (sp := Spec.fresh (cloneF 3)) rfl (by simp only [map_rules, wB, eq_self, Nat.reduceEqDiff, reduceIte]; rfl)  (by simp only [wB, eq_self, Nat.reduceEqDiff, reduceIte, and_true]) (m1 := (bB (P.take i) vs)) (m2 := []) (by simp only [wB, eq_self, Nat.reduceEqDiff, reduceIte, callS, rd_rules, pureL, cleanD, pure_rules, hs, sc_rules, heap_rules, wL, Int.toNat_natCast, Int.reduceToNat, Nat.reduceAdd, Nat.reduceMul, Nat.reduceSub, Nat.reduceLeDiff, List.mem_cons, List.not_mem_nil, dI_rows, dB_rows, dU_rows, hx, wG, Nat.reduceAdd, Nat.reduceSub, Nat.reduceLT, Nat.reduceLeDiff, if_true, if_false, ite_self, List.mem_append, true_implies, Option.bind_some, List.set_cons_zero, List.set_cons_succ, or_false, false_or]; rfl) (by first | trivial | ((try dsimp only); (first | (exact ⟨of_eq_true (rect_eI t), by omega⟩) | exact sd_))) (by simp only [wB, eq_self, Nat.reduceEqDiff, reduceIte, wG, heap_rules, Nat.reduceAdd, Nat.reduceSub, Nat.reduceLT, Nat.reduceLeDiff, kilL, List.cons_append, List.nil_append, List.mem_cons, List.not_mem_nil, or_false, false_or, wL, Int.toNat_natCast, Int.reduceToNat, Nat.reduceAdd, Nat.reduceMul, Nat.reduceSub, Nat.reduceLeDiff, hx]; rfl) (by rfl) (by rfl) (by rfl) (List.append_nil _).symm (by first | decide | simp) (by first | exact Nat.le_refl _ | (simp [rows]; done) | (first | (exact ⟨of_eq_true (rect_eI t), by omega⟩) | exact sd_)) fun v1 => ?_)
        simp only [wB, eq_self, Nat.reduceEqDiff, reduceIte, wG, heap_rules, Nat.reduceAdd, Nat.reduceSub, Nat.reduceLT, Nat.reduceLeDiff, kilL, List.cons_append, List.nil_append, List.mem_cons, List.not_mem_nil, or_false, false_or, wL, Int.toNat_natCast, Int.reduceToNat, Nat.reduceAdd, Nat.reduceMul, Nat.reduceSub, Nat.reduceLeDiff, hx]
        refine lg_nil ?_
        refine at_seq ?_
        simp only [pick_rules, list_rules]
        try refine lg_mk ?_
        refine u_ld ?_
        refine u_bd ?_
        refine u_bs ?_
        refine u_ap (hq := by (first | ((repeat' apply And.intro) <;> first | rfl | trivial | omega | assumption | (simp; omega)) | exact sd_)) ?_
        refine u_pt ?_
        refine u_st ?_
        refine lg_nil ?_
        refine at_nil ?_
        refine h9 _ ?_; clear h9; try clear N9
        refine u_reg ?_
        try refine lg_mk ?_
        refine u_bn ?_
        refine u_mv ?_
        refine lg_nil ?_
        have e1 := zR_snoc (g := g) (t := t) (v := v1) hvs
        have e2 := bB_snoc (g := g) (t := t) (v := v1) hvs
        rw [← hsn] at e1 e2
        refine h5 _ ⟨(i + 1, vs ++ [v1]), ?_, ?_, [some 0, some 1, some 2, some 3, some 10, some 8], ?_⟩
        ·dsimp only
         exact ⟨by omega, by rw [hsn]; simp [hvs]⟩
        ·dsimp only
         omega
        ·dsimp only
         refine ⟨by rfl, ?_, ?_⟩
         ·refine fin_ ?_
          (repeat' apply And.intro) <;> (first | (first | rfl | trivial | (rw [e1, ← eG_snoc]; simp [hzl]; done) | (rw [e1, ← eG_snoc, List.take_of_length_le (by omega)]; done) | (rw [List.take_length]; exact congrArg (OB.bag _ _) e2.symm) | exact congrArg (OB.bag _ _) e2.symm | (simp [hzl]; omega)) | exact cl_)
         ·refine fin_ ?_
          (repeat' apply And.intro) <;> (first | (first | rfl | trivial | (rw [e1, ← eG_snoc]; simp [hzl]; done) | (rw [e1, ← eG_snoc, List.take_of_length_le (by omega)]; done) | (rw [List.take_length]; exact congrArg (OB.bag _ _) e2.symm) | exact congrArg (OB.bag _ _) e2.symm | (simp [hzl]; omega)) | exact cl_)
       exact at_end
      refine at_alt ?_ ?_
      ·simp only [pick_rules, list_rules]
       try refine lg_mk ?_
       have hs := @cloneF.eq_1
       refine lg_sem (by rfl) (sem_call_put 5 (f := 36) (sp := Spec.fresh (cloneF 3)) rfl (by simp only [map_rules, wB, eq_self, Nat.reduceEqDiff, reduceIte]; rfl)  (by simp only [wB, eq_self, Nat.reduceEqDiff, reduceIte, and_true]) (m1 := (bB (P.take i) vs)) (m2 := []) (by simp only [wB, eq_self, Nat.reduceEqDiff, reduceIte, callS, rd_rules, pureL, cleanD, pure_rules, hs, sc_rules, heap_rules, wL, Int.toNat_natCast, Int.reduceToNat, Nat.reduceAdd, Nat.reduceMul, Nat.reduceSub, Nat.reduceLeDiff, List.mem_cons, List.not_mem_nil, dI_rows, dB_rows, dU_rows, hx, wG, Nat.reduceAdd, Nat.reduceSub, Nat.reduceLT, Nat.reduceLeDiff, if_true, if_false, ite_self, List.mem_append, true_implies, Option.bind_some, List.set_cons_zero, List.set_cons_succ, or_false, false_or]; rfl) (by first | trivial | ((try dsimp only); (first | (exact ⟨of_eq_true (rect_eI t), by omega⟩) | exact sd_))) (by simp only [wB, eq_self, Nat.reduceEqDiff, reduceIte, wG, heap_rules, Nat.reduceAdd, Nat.reduceSub, Nat.reduceLT, Nat.reduceLeDiff, kilL, List.cons_append, List.nil_append, List.mem_cons, List.not_mem_nil, or_false, false_or, wL, Int.toNat_natCast, Int.reduceToNat, Nat.reduceAdd, Nat.reduceMul, Nat.reduceSub, Nat.reduceLeDiff, hx]; rfl) (by rfl) (by rfl) (by rfl) (List.append_nil _).symm (by first | decide | simp) (by first | exact Nat.le_refl _ | (simp [rows]; done) | (first | (exact ⟨of_eq_true (rect_eI t), by omega⟩) | exact sd_)) fun v1 => ?_)
       simp only [wB, eq_self, Nat.reduceEqDiff, reduceIte, wG, heap_rules, Nat.reduceAdd, Nat.reduceSub, Nat.reduceLT, Nat.reduceLeDiff, kilL, List.cons_append, List.nil_append, List.mem_cons, List.not_mem_nil, or_false, false_or, wL, Int.toNat_natCast, Int.reduceToNat, Nat.reduceAdd, Nat.reduceMul, Nat.reduceSub, Nat.reduceLeDiff, hx]
       refine lg_nil ?_
       refine at_seq ?_
       simp only [pick_rules, list_rules]
       try refine lg_mk ?_
       refine u_pt ?_
       refine u_ld ?_
       refine u_bd ?_
       refine u_bs ?_
       refine u_ap (hq := by (first | ((repeat' apply And.intro) <;> first | rfl | trivial | omega | assumption | (simp; omega)) | exact sd_)) ?_
       refine u_pt ?_
       refine u_st ?_
       refine lg_nil ?_
       refine at_nil ?_
       refine h9 _ ?_; clear h9; try clear N9
       refine u_reg ?_
       try refine lg_mk ?_
       refine u_bn ?_
       refine u_mv ?_
       refine lg_nil ?_
       have e1 := zR_snoc (g := g) (t := t) (v := v1) hvs
       have e2 := bB_snoc (g := g) (t := t) (v := v1) hvs
       rw [← hsn] at e1 e2
       refine h5 _ ⟨(i + 1, vs ++ [v1]), ?_, ?_, [some 0, some 1, some 2, some 3, some 10, some 8], ?_⟩
       ·dsimp only
        exact ⟨by omega, by rw [hsn]; simp [hvs]⟩
       ·dsimp only
        omega
       ·dsimp only
        refine ⟨by rfl, ?_, ?_⟩
        ·refine fin_ ?_
         (repeat' apply And.intro) <;> (first | (first | rfl | trivial | (rw [e1, ← eG_snoc]; simp [hzl]; done) | (rw [e1, ← eG_snoc, List.take_of_length_le (by omega)]; done) | (rw [List.take_length]; exact congrArg (OB.bag _ _) e2.symm) | exact congrArg (OB.bag _ _) e2.symm | (simp [hzl]; omega)) | exact cl_)
        ·refine fin_ ?_
         (repeat' apply And.intro) <;> (first | (first | rfl | trivial | (rw [e1, ← eG_snoc]; simp [hzl]; done) | (rw [e1, ← eG_snoc, List.take_of_length_le (by omega)]; done) | (rw [List.take_length]; exact congrArg (OB.bag _ _) e2.symm) | exact congrArg (OB.bag _ _) e2.symm | (simp [hzl]; omega)) | exact cl_)
      exact at_end
     refine at_alt ?_ ?_
     ·simp only [pick_rules, list_rules]
      try refine lg_mk ?_
      refine u_pt ?_
      refine lg_nil ?_
      refine at_alt ?_ ?_
      ·simp only [pick_rules, list_rules]
       try refine lg_mk ?_
       refine u_ld ?_
       refine lg_nil ?_
       refine at_alt ?_ ?_
       ·simp only [pick_rules, list_rules]
        try refine lg_mk ?_
        refine u_ld ?_
        refine lg_nil ?_
        refine at_seq ?_
        simp only [pick_rules, list_rules]
        try refine lg_mk ?_
        have hs := @cloneF.eq_1
        refine lg_sem (by rfl) (sem_call_put 5 (f := 36) (sp := Spec.fresh (cloneF 3)) rfl (by simp only [map_rules, wB, eq_self, Nat.reduceEqDiff, reduceIte]; rfl)  (by simp only [wB, eq_self, Nat.reduceEqDiff, reduceIte, and_true]) (m1 := (bB (P.take i) vs)) (m2 := []) (by simp only [wB, eq_self, Nat.reduceEqDiff, reduceIte, callS, rd_rules, pureL, cleanD, pure_rules, hs, sc_rules, heap_rules, wL, Int.toNat_natCast, Int.reduceToNat, Nat.reduceAdd, Nat.reduceMul, Nat.reduceSub, Nat.reduceLeDiff, List.mem_cons, List.not_mem_nil, dI_rows, dB_rows, dU_rows, hx, wG, Nat.reduceAdd, Nat.reduceSub, Nat.reduceLT, Nat.reduceLeDiff, if_true, if_false, ite_self, List.mem_append, true_implies, Option.bind_some, List.set_cons_zero, List.set_cons_succ, or_false, false_or]; rfl) (by first | trivial | ((try dsimp only); (first | (exact ⟨of_eq_true (rect_eI t), by omega⟩) | exact sd_))) (by simp only [wB, eq_self, Nat.reduceEqDiff, reduceIte, wG, heap_rules, Nat.reduceAdd, Nat.reduceSub, Nat.reduceLT, Nat.reduceLeDiff, kilL, List.cons_append, List.nil_append, List.mem_cons, List.not_mem_nil, or_false, false_or, wL, Int.toNat_natCast, Int.reduceToNat, Nat.reduceAdd, Nat.reduceMul, Nat.reduceSub, Nat.reduceLeDiff, hx]; rfl) (by rfl) (by rfl) (by rfl) (List.append_nil _).symm (by first | decide | simp) (by first | exact Nat.le_refl _ | (simp [rows]; done) | (first | (exact ⟨of_eq_true (rect_eI t), by omega⟩) | exact sd_)) fun v1 => ?_)
        simp only [wB, eq_self, Nat.reduceEqDiff, reduceIte, wG, heap_rules, Nat.reduceAdd, Nat.reduceSub, Nat.reduceLT, Nat.reduceLeDiff, kilL, List.cons_append, List.nil_append, List.mem_cons, List.not_mem_nil, or_false, false_or, wL, Int.toNat_natCast, Int.reduceToNat, Nat.reduceAdd, Nat.reduceMul, Nat.reduceSub, Nat.reduceLeDiff, hx]
        refine u_bd ?_
        refine u_bs ?_
        refine u_ap (hq := by (first | ((repeat' apply And.intro) <;> first | rfl | trivial | omega | assumption | (simp; omega)) | exact sd_)) ?_
        refine u_pt ?_
        refine u_st ?_
        refine lg_nil ?_
        refine at_nil ?_
        refine h9 _ ?_; clear h9; try clear N9
        refine u_reg ?_
        try refine lg_mk ?_
        refine u_bn ?_
        refine u_mv ?_
        refine lg_nil ?_
        have e1 := zR_snoc (g := g) (t := t) (v := v1) hvs
        have e2 := bB_snoc (g := g) (t := t) (v := v1) hvs
        rw [← hsn] at e1 e2
        refine h5 _ ⟨(i + 1, vs ++ [v1]), ?_, ?_, [some 0, some 1, some 2, some 3, some 10, some 8], ?_⟩
        ·dsimp only
         exact ⟨by omega, by rw [hsn]; simp [hvs]⟩
        ·dsimp only
         omega
        ·dsimp only
         refine ⟨by rfl, ?_, ?_⟩
         ·refine fin_ ?_
          (repeat' apply And.intro) <;> (first | (first | rfl | trivial | (rw [e1, ← eG_snoc]; simp [hzl]; done) | (rw [e1, ← eG_snoc, List.take_of_length_le (by omega)]; done) | (rw [List.take_length]; exact congrArg (OB.bag _ _) e2.symm) | exact congrArg (OB.bag _ _) e2.symm | (simp [hzl]; omega)) | exact cl_)
         ·refine fin_ ?_
          (repeat' apply And.intro) <;> (first | (first | rfl | trivial | (rw [e1, ← eG_snoc]; simp [hzl]; done) | (rw [e1, ← eG_snoc, List.take_of_length_le (by omega)]; done) | (rw [List.take_length]; exact congrArg (OB.bag _ _) e2.symm) | exact congrArg (OB.bag _ _) e2.symm | (simp [hzl]; omega)) | exact cl_)
       refine at_alt ?_ ?_
       ·simp only [pick_rules, list_rules]
        try refine lg_mk ?_
        have hs := @cloneF.eq_1
        refine lg_sem (by rfl) (sem_call_put 5 (f := 36) (sp := Spec.fresh (cloneF 3)) rfl (by simp only [map_rules, wB, eq_self, Nat.reduceEqDiff, reduceIte]; rfl)  (by simp only [wB, eq_self, Nat.reduceEqDiff, reduceIte, and_true]) (m1 := (bB (P.take i) vs)) (m2 := []) (by simp only [wB, eq_self, Nat.reduceEqDiff, reduceIte, callS, rd_rules, pureL, cleanD, pure_rules, hs, sc_rules, heap_rules, wL, Int.toNat_natCast, Int.reduceToNat, Nat.reduceAdd, Nat.reduceMul, Nat.reduceSub, Nat.reduceLeDiff, List.mem_cons, List.not_mem_nil, dI_rows, dB_rows, dU_rows, hx, wG, Nat.reduceAdd, Nat.reduceSub, Nat.reduceLT, Nat.reduceLeDiff, if_true, if_false, ite_self, List.mem_append, true_implies, Option.bind_some, List.set_cons_zero, List.set_cons_succ, or_false, false_or]; rfl) (by first | trivial | ((try dsimp only); (first | (exact ⟨of_eq_true (rect_eI t), by omega⟩) | exact sd_))) (by simp only [wB, eq_self, Nat.reduceEqDiff, reduceIte, wG, heap_rules, Nat.reduceAdd, Nat.reduceSub, Nat.reduceLT, Nat.reduceLeDiff, kilL, List.cons_append, List.nil_append, List.mem_cons, List.not_mem_nil, or_false, false_or, wL, Int.toNat_natCast, Int.reduceToNat, Nat.reduceAdd, Nat.reduceMul, Nat.reduceSub, Nat.reduceLeDiff, hx]; rfl) (by rfl) (by rfl) (by rfl) (List.append_nil _).symm (by first | decide | simp) (by first | exact Nat.le_refl _ | (simp [rows]; done) | (first | (exact ⟨of_eq_true (rect_eI t), by omega⟩) | exact sd_)) fun v1 => ?_)
        simp only [wB, eq_self, Nat.reduceEqDiff, reduceIte, wG, heap_rules, Nat.reduceAdd, Nat.reduceSub, Nat.reduceLT, Nat.reduceLeDiff, kilL, List.cons_append, List.nil_append, List.mem_cons, List.not_mem_nil, or_false, false_or, wL, Int.toNat_natCast, Int.reduceToNat, Nat.reduceAdd, Nat.reduceMul, Nat.reduceSub, Nat.reduceLeDiff, hx]
        refine lg_nil ?_
        refine at_seq ?_
        simp only [pick_rules, list_rules]
        try refine lg_mk ?_
        refine u_ld ?_
        refine u_bd ?_
        refine u_bs ?_
        refine u_ap (hq := by (first | ((repeat' apply And.intro) <;> first | rfl | trivial | omega | assumption | (simp; omega)) | exact sd_)) ?_
        refine u_pt ?_
        refine u_st ?_
        refine lg_nil ?_
        refine at_nil ?_
        refine h9 _ ?_; clear h9; try clear N9
        refine u_reg ?_
        try refine lg_mk ?_
        refine u_bn ?_
        refine u_mv ?_
        refine lg_nil ?_
        have e1 := zR_snoc (g := g) (t := t) (v := v1) hvs
        have e2 := bB_snoc (g := g) (t := t) (v := v1) hvs
        rw [← hsn] at e1 e2
        refine h5 _ ⟨(i + 1, vs ++ [v1]), ?_, ?_, [some 0, some 1, some 2, some 3, some 10, some 8], ?_⟩
        ·dsimp only
         exact ⟨by omega, by rw [hsn]; simp [hvs]⟩
        ·dsimp only
         omega
        ·dsimp only
         refine ⟨by rfl, ?_, ?_⟩
         ·refine fin_ ?_
          (repeat' apply And.intro) <;> (first | (first | rfl | trivial | (rw [e1, ← eG_snoc]; simp [hzl]; done) | (rw [e1, ← eG_snoc, List.take_of_length_le (by omega)]; done) | (rw [List.take_length]; exact congrArg (OB.bag _ _) e2.symm) | exact congrArg (OB.bag _ _) e2.symm | (simp [hzl]; omega)) | exact cl_)
         ·refine fin_ ?_
          (repeat' apply And.intro) <;> (first | (first | rfl | trivial | (rw [e1, ← eG_snoc]; simp [hzl]; done) | (rw [e1, ← eG_snoc, List.take_of_length_le (by omega)]; done) | (rw [List.take_length]; exact congrArg (OB.bag _ _) e2.symm) | exact congrArg (OB.bag _ _) e2.symm | (simp [hzl]; omega)) | exact cl_)
       exact at_end
      refine at_alt ?_ ?_
      ·simp only [pick_rules, list_rules]
       try refine lg_mk ?_
       refine u_ld ?_
       refine lg_nil ?_
       refine at_alt ?_ ?_
       ·simp only [pick_rules, list_rules]
        try refine lg_mk ?_
        refine u_ld ?_
        refine lg_nil ?_
        refine at_seq ?_
        simp only [pick_rules, list_rules]
        try refine lg_mk ?_
        have hs := @cloneF.eq_1
        refine lg_sem (by rfl) (sem_call_put 5 (f := 36) (sp := Spec.fresh (cloneF 3)) rfl (by simp only [map_rules, wB, eq_self, Nat.reduceEqDiff, reduceIte]; rfl)  (by simp only [wB, eq_self, Nat.reduceEqDiff, reduceIte, and_true]) (m1 := (bB (P.take i) vs)) (m2 := []) (by simp only [wB, eq_self, Nat.reduceEqDiff, reduceIte, callS, rd_rules, pureL, cleanD, pure_rules, hs, sc_rules, heap_rules, wL, Int.toNat_natCast, Int.reduceToNat, Nat.reduceAdd, Nat.reduceMul, Nat.reduceSub, Nat.reduceLeDiff, List.mem_cons, List.not_mem_nil, dI_rows, dB_rows, dU_rows, hx, wG, Nat.reduceAdd, Nat.reduceSub, Nat.reduceLT, Nat.reduceLeDiff, if_true, if_false, ite_self, List.mem_append, true_implies, Option.bind_some, List.set_cons_zero, List.set_cons_succ, or_false, false_or]; rfl) (by first | trivial | ((try dsimp only); (first | (exact ⟨of_eq_true (rect_eI t), by omega⟩) | exact sd_))) (by simp only [wB, eq_self, Nat.reduceEqDiff, reduceIte, wG, heap_rules, Nat.reduceAdd, Nat.reduceSub, Nat.reduceLT, Nat.reduceLeDiff, kilL, List.cons_append, List.nil_append, List.mem_cons, List.not_mem_nil, or_false, false_or, wL, Int.toNat_natCast, Int.reduceToNat, Nat.reduceAdd, Nat.reduceMul, Nat.reduceSub, Nat.reduceLeDiff, hx]; rfl) (by rfl) (by rfl) (by rfl) (List.append_nil _).symm (by first | decide | simp) (by first | exact Nat.le_refl _ | (simp [rows]; done) | (first | (exact ⟨of_eq_true (rect_eI t), by omega⟩) | exact sd_)) fun v1 => ?_)
        simp only [wB, eq_self, Nat.reduceEqDiff, reduceIte, wG, heap_rules, Nat.reduceAdd, Nat.reduceSub, Nat.reduceLT, Nat.reduceLeDiff, kilL, List.cons_append, List.nil_append, List.mem_cons, List.not_mem_nil, or_false, false_or, wL, Int.toNat_natCast, Int.reduceToNat, Nat.reduceAdd, Nat.reduceMul, Nat.reduceSub, Nat.reduceLeDiff, hx]
        refine u_bd ?_
        refine u_bs ?_
        refine u_ap (hq := by (first | ((repeat' apply And.intro) <;> first | rfl | trivial | omega | assumption | (simp; omega)) | exact sd_)) ?_
        refine u_pt ?_
        refine u_st ?_
        refine lg_nil ?_
        refine at_nil ?_
        refine h9 _ ?_; clear h9; try clear N9
        refine u_reg ?_
        try refine lg_mk ?_
        refine u_bn ?_
        refine u_mv ?_
        refine lg_nil ?_
        have e1 := zR_snoc (g := g) (t := t) (v := v1) hvs
        have e2 := bB_snoc (g := g) (t := t) (v := v1) hvs
        rw [← hsn] at e1 e2
        refine h5 _ ⟨(i + 1, vs ++ [v1]), ?_, ?_, [some 0, some 1, some 2, some 3, some 10, some 8], ?_⟩
        ·dsimp only
         exact ⟨by omega, by rw [hsn]; simp [hvs]⟩
        ·dsimp only
         omega
        ·dsimp only
         refine ⟨by rfl, ?_, ?_⟩
         ·refine fin_ ?_
          (repeat' apply And.intro) <;> (first | (first | rfl | trivial | (rw [e1, ← eG_snoc]; simp [hzl]; done) | (rw [e1, ← eG_snoc, List.take_of_length_le (by omega)]; done) | (rw [List.take_length]; exact congrArg (OB.bag _ _) e2.symm) | exact congrArg (OB.bag _ _) e2.symm | (simp [hzl]; omega)) | exact cl_)
         ·refine fin_ ?_
          (repeat' apply And.intro) <;> (first | (first | rfl | trivial | (rw [e1, ← eG_snoc]; simp [hzl]; done) | (rw [e1, ← eG_snoc, List.take_of_length_le (by omega)]; done) | (rw [List.take_length]; exact congrArg (OB.bag _ _) e2.symm) | exact congrArg (OB.bag _ _) e2.symm | (simp [hzl]; omega)) | exact cl_)
       refine at_alt ?_ ?_
       ·simp only [pick_rules, list_rules]
        try refine lg_mk ?_
        have hs := @cloneF.eq_1
        refine lg_sem (by rfl) (sem_call_put 5 (f := 36) (sp := Spec.fresh (cloneF 3)) rfl (by simp only [map_rules, wB, eq_self, Nat.reduceEqDiff, reduceIte]; rfl)  (by simp only [wB, eq_self, Nat.reduceEqDiff, reduceIte, and_true]) (m1 := (bB (P.take i) vs)) (m2 := []) (by simp only [wB, eq_self, Nat.reduceEqDiff, reduceIte, callS, rd_rules, pureL, cleanD, pure_rules, hs, sc_rules, heap_rules, wL, Int.toNat_natCast, Int.reduceToNat, Nat.reduceAdd, Nat.reduceMul, Nat.reduceSub, Nat.reduceLeDiff, List.mem_cons, List.not_mem_nil, dI_rows, dB_rows, dU_rows, hx, wG, Nat.reduceAdd, Nat.reduceSub, Nat.reduceLT, Nat.reduceLeDiff, if_true, if_false, ite_self, List.mem_append, true_implies, Option.bind_some, List.set_cons_zero, List.set_cons_succ, or_false, false_or]; rfl) (by first | trivial | ((try dsimp only); (first | (exact ⟨of_eq_true (rect_eI t), by omega⟩) | exact sd_))) (by simp only [wB, eq_self, Nat.reduceEqDiff, reduceIte, wG, heap_rules, Nat.reduceAdd, Nat.reduceSub, Nat.reduceLT, Nat.reduceLeDiff, kilL, List.cons_append, List.nil_append, List.mem_cons, List.not_mem_nil, or_false, false_or, wL, Int.toNat_natCast, Int.reduceToNat, Nat.reduceAdd, Nat.reduceMul, Nat.reduceSub, Nat.reduceLeDiff, hx]; rfl) (by rfl) (by rfl) (by rfl) (List.append_nil _).symm (by first | decide | simp) (by first | exact Nat.le_refl _ | (simp [rows]; done) | (first | (exact ⟨of_eq_true (rect_eI t), by omega⟩) | exact sd_)) fun v1 => ?_)
        simp only [wB, eq_self, Nat.reduceEqDiff, reduceIte, wG, heap_rules, Nat.reduceAdd, Nat.reduceSub, Nat.reduceLT, Nat.reduceLeDiff, kilL, List.cons_append, List.nil_append, List.mem_cons, List.not_mem_nil, or_false, false_or, wL, Int.toNat_natCast, Int.reduceToNat, Nat.reduceAdd, Nat.reduceMul, Nat.reduceSub, Nat.reduceLeDiff, hx]
        refine lg_nil ?_
        refine at_seq ?_
        simp only [pick_rules, list_rules]
        try refine lg_mk ?_
        refine u_ld ?_
        refine u_bd ?_
        refine u_bs ?_
        refine u_ap (hq := by (first | ((repeat' apply And.intro) <;> first | rfl | trivial | omega | assumption | (simp; omega)) | exact sd_)) ?_
        refine u_pt ?_
        refine u_st ?_
        refine lg_nil ?_
        refine at_nil ?_
        refine h9 _ ?_; clear h9; try clear N9
        refine u_reg ?_
        try refine lg_mk ?_
        refine u_bn ?_
        refine u_mv ?_
        refine lg_nil ?_
        have e1 := zR_snoc (g := g) (t := t) (v := v1) hvs
        have e2 := bB_snoc (g := g) (t := t) (v := v1) hvs
        rw [← hsn] at e1 e2
        refine h5 _ ⟨(i + 1, vs ++ [v1]), ?_, ?_, [some 0, some 1, some 2, some 3, some 10, some 8], ?_⟩
        ·dsimp only
         exact ⟨by omega, by rw [hsn]; simp [hvs]⟩
        ·dsimp only
         omega
        ·dsimp only
         refine ⟨by rfl, ?_, ?_⟩
         ·refine fin_ ?_
          (repeat' apply And.intro) <;> (first | (first | rfl | trivial | (rw [e1, ← eG_snoc]; simp [hzl]; done) | (rw [e1, ← eG_snoc, List.take_of_length_le (by omega)]; done) | (rw [List.take_length]; exact congrArg (OB.bag _ _) e2.symm) | exact congrArg (OB.bag _ _) e2.symm | (simp [hzl]; omega)) | exact cl_)
         ·refine fin_ ?_
          (repeat' apply And.intro) <;> (first | (first | rfl | trivial | (rw [e1, ← eG_snoc]; simp [hzl]; done) | (rw [e1, ← eG_snoc, List.take_of_length_le (by omega)]; done) | (rw [List.take_length]; exact congrArg (OB.bag _ _) e2.symm) | exact congrArg (OB.bag _ _) e2.symm | (simp [hzl]; omega)) | exact cl_)
       exact at_end
      refine at_alt ?_ ?_
      ·simp only [pick_rules, list_rules]
       try refine lg_mk ?_
       have hs := @cloneF.eq_1
       refine lg_sem (by rfl) (sem_call_put 5 (f := 36) (sp := Spec.fresh (cloneF 3)) rfl (by simp only [map_rules, wB, eq_self, Nat.reduceEqDiff, reduceIte]; rfl)  (by simp only [wB, eq_self, Nat.reduceEqDiff, reduceIte, and_true]) (m1 := (bB (P.take i) vs)) (m2 := []) (by simp only [wB, eq_self, Nat.reduceEqDiff, reduceIte, callS, rd_rules, pureL, cleanD, pure_rules, hs, sc_rules, heap_rules, wL, Int.toNat_natCast, Int.reduceToNat, Nat.reduceAdd, Nat.reduceMul, Nat.reduceSub, Nat.reduceLeDiff, List.mem_cons, List.not_mem_nil, dI_rows, dB_rows, dU_rows, hx, wG, Nat.reduceAdd, Nat.reduceSub, Nat.reduceLT, Nat.reduceLeDiff, if_true, if_false, ite_self, List.mem_append, true_implies, Option.bind_some, List.set_cons_zero, List.set_cons_succ, or_false, false_or]; rfl) (by first | trivial | ((try dsimp only); (first | (exact ⟨of_eq_true (rect_eI t), by omega⟩) | exact sd_))) (by simp only [wB, eq_self, Nat.reduceEqDiff, reduceIte, wG, heap_rules, Nat.reduceAdd, Nat.reduceSub, Nat.reduceLT, Nat.reduceLeDiff, kilL, List.cons_append, List.nil_append, List.mem_cons, List.not_mem_nil, or_false, false_or, wL, Int.toNat_natCast, Int.reduceToNat, Nat.reduceAdd, Nat.reduceMul, Nat.reduceSub, Nat.reduceLeDiff, hx]; rfl) (by rfl) (by rfl) (by rfl) (List.append_nil _).symm (by first | decide | simp) (by first | exact Nat.le_refl _ | (simp [rows]; done) | (first | (exact ⟨of_eq_true (rect_eI t), by omega⟩) | exact sd_)) fun v1 => ?_)
       simp only [wB, eq_self, Nat.reduceEqDiff, reduceIte, wG, heap_rules, Nat.reduceAdd, Nat.reduceSub, Nat.reduceLT, Nat.reduceLeDiff, kilL, List.cons_append, List.nil_append, List.mem_cons, List.not_mem_nil, or_false, false_or, wL, Int.toNat_natCast, Int.reduceToNat, Nat.reduceAdd, Nat.reduceMul, Nat.reduceSub, Nat.reduceLeDiff, hx]
       refine lg_nil ?_
       refine at_seq ?_
       simp only [pick_rules, list_rules]
       try refine lg_mk ?_
       refine u_ld ?_
       refine u_ld ?_
       refine u_bd ?_
       refine u_bs ?_
       refine u_ap (hq := by (first | ((repeat' apply And.intro) <;> first | rfl | trivial | omega | assumption | (simp; omega)) | exact sd_)) ?_
       refine u_pt ?_
       refine u_st ?_
       refine lg_nil ?_
       refine at_nil ?_
       refine h9 _ ?_; clear h9; try clear N9
       refine u_reg ?_
       try refine lg_mk ?_
       refine u_bn ?_
       refine u_mv ?_
       refine lg_nil ?_
       have e1 := zR_snoc (g := g) (t := t) (v := v1) hvs
       have e2 := bB_snoc (g := g) (t := t) (v := v1) hvs
       rw [← hsn] at e1 e2
       refine h5 _ ⟨(i + 1, vs ++ [v1]), ?_, ?_, [some 0, some 1, some 2, some 3, some 10, some 8], ?_⟩
       ·dsimp only
        exact ⟨by omega, by rw [hsn]; simp [hvs]⟩
       ·dsimp only
        omega
       ·dsimp only
        refine ⟨by rfl, ?_, ?_⟩
        ·refine fin_ ?_
         (repeat' apply And.intro) <;> (first | (first | rfl | trivial | (rw [e1, ← eG_snoc]; simp [hzl]; done) | (rw [e1, ← eG_snoc, List.take_of_length_le (by omega)]; done) | (rw [List.take_length]; exact congrArg (OB.bag _ _) e2.symm) | exact congrArg (OB.bag _ _) e2.symm | (simp [hzl]; omega)) | exact cl_)
        ·refine fin_ ?_
         (repeat' apply And.intro) <;> (first | (first | rfl | trivial | (rw [e1, ← eG_snoc]; simp [hzl]; done) | (rw [e1, ← eG_snoc, List.take_of_length_le (by omega)]; done) | (rw [List.take_length]; exact congrArg (OB.bag _ _) e2.symm) | exact congrArg (OB.bag _ _) e2.symm | (simp [hzl]; omega)) | exact cl_)
      exact at_end
     refine at_alt ?_ ?_
     ·simp only [pick_rules, list_rules]
      try refine lg_mk ?_
      have hs := @cloneF.eq_1
      refine lg_sem (by rfl) (sem_call_put 5 (f := 36) (sp := Spec.fresh (cloneF 3)) rfl (by simp only [map_rules, wB, eq_self, Nat.reduceEqDiff, reduceIte]; rfl)  (by simp only [wB, eq_self, Nat.reduceEqDiff, reduceIte, and_true]) (m1 := (bB (P.take i) vs)) (m2 := []) (by simp only [wB, eq_self, Nat.reduceEqDiff, reduceIte, callS, rd_rules, pureL, cleanD, pure_rules, hs, sc_rules, heap_rules, wL, Int.toNat_natCast, Int.reduceToNat, Nat.reduceAdd, Nat.reduceMul, Nat.reduceSub, Nat.reduceLeDiff, List.mem_cons, List.not_mem_nil, dI_rows, dB_rows, dU_rows, hx, wG, Nat.reduceAdd, Nat.reduceSub, Nat.reduceLT, Nat.reduceLeDiff, if_true, if_false, ite_self, List.mem_append, true_implies, Option.bind_some, List.set_cons_zero, List.set_cons_succ, or_false, false_or]; rfl) (by first | trivial | ((try dsimp only); (first | (exact ⟨of_eq_true (rect_eI t), by omega⟩) | exact sd_))) (by simp only [wB, eq_self, Nat.reduceEqDiff, reduceIte, wG, heap_rules, Nat.reduceAdd, Nat.reduceSub, Nat.reduceLT, Nat.reduceLeDiff, kilL, List.cons_append, List.nil_append, List.mem_cons, List.not_mem_nil, or_false, false_or, wL, Int.toNat_natCast, Int.reduceToNat, Nat.reduceAdd, Nat.reduceMul, Nat.reduceSub, Nat.reduceLeDiff, hx]; rfl) (by rfl) (by rfl) (by rfl) (List.append_nil _).symm (by first | decide | simp) (by first | exact Nat.le_refl _ | (simp [rows]; done) | (first | (exact ⟨of_eq_true (rect_eI t), by omega⟩) | exact sd_)) fun v1 => ?_)
      simp only [wB, eq_self, Nat.reduceEqDiff, reduceIte, wG, heap_rules, Nat.reduceAdd, Nat.reduceSub, Nat.reduceLT, Nat.reduceLeDiff, kilL, List.cons_append, List.nil_append, List.mem_cons, List.not_mem_nil, or_false, false_or, wL, Int.toNat_natCast, Int.reduceToNat, Nat.reduceAdd, Nat.reduceMul, Nat.reduceSub, Nat.reduceLeDiff, hx]
      refine lg_nil ?_
      refine at_seq ?_
      simp only [pick_rules, list_rules]
      try refine lg_mk ?_
      refine u_ld ?_
      refine u_pt ?_
      refine u_ld ?_
      refine u_bd ?_
      refine u_bs ?_
      refine u_ap (hq := by (first | ((repeat' apply And.intro) <;> first | rfl | trivial | omega | assumption | (simp; omega)) | exact sd_)) ?_
      refine u_pt ?_
      refine u_st ?_
      refine lg_nil ?_
      refine at_nil ?_
      refine h9 _ ?_; clear h9; try clear N9
      refine u_reg ?_
      try refine lg_mk ?_
      refine u_bn ?_
      refine u_mv ?_
      refine lg_nil ?_
      have e1 := zR_snoc (g := g) (t := t) (v := v1) hvs
      have e2 := bB_snoc (g := g) (t := t) (v := v1) hvs
      rw [← hsn] at e1 e2
      refine h5 _ ⟨(i + 1, vs ++ [v1]), ?_, ?_, [some 0, some 1, some 2, some 3, some 10, some 8], ?_⟩
      ·dsimp only
       exact ⟨by omega, by rw [hsn]; simp [hvs]⟩
      ·dsimp only
       omega
      ·dsimp only
       refine ⟨by rfl, ?_, ?_⟩
       ·refine fin_ ?_
        (repeat' apply And.intro) <;> (first | (first | rfl | trivial | (rw [e1, ← eG_snoc]; simp [hzl]; done) | (rw [e1, ← eG_snoc, List.take_of_length_le (by omega)]; done) | (rw [List.take_length]; exact congrArg (OB.bag _ _) e2.symm) | exact congrArg (OB.bag _ _) e2.symm | (simp [hzl]; omega)) | exact cl_)
       ·refine fin_ ?_
        (repeat' apply And.intro) <;> (first | (first | rfl | trivial | (rw [e1, ← eG_snoc]; simp [hzl]; done) | (rw [e1, ← eG_snoc, List.take_of_length_le (by omega)]; done) | (rw [List.take_length]; exact congrArg (OB.bag _ _) e2.symm) | exact congrArg (OB.bag _ _) e2.symm | (simp [hzl]; omega)) | exact cl_)
     exact at_end
    refine at_alt ?_ ?_
    ·simp only [pick_rules, list_rules]
     try refine lg_mk ?_
     refine u_pt ?_
     refine lg_nil ?_
     refine at_alt ?_ ?_
     ·simp only [pick_rules, list_rules]
      try refine lg_mk ?_
      refine u_pt ?_
      refine lg_nil ?_
      refine at_alt ?_ ?_
      ·simp only [pick_rules, list_rules]
       try refine lg_mk ?_
       refine u_ld ?_
       refine lg_nil ?_
       refine at_alt ?_ ?_
       ·simp only [pick_rules, list_rules]
        try refine lg_mk ?_
        refine u_ld ?_
        refine lg_nil ?_
        refine at_seq ?_
        simp only [pick_rules, list_rules]
        try refine lg_mk ?_
        have hs := @cloneF.eq_1
        refine lg_sem (by rfl) (sem_call_put 5 (f := 36) (sp := Spec.fresh (cloneF 3)) rfl (by simp only [map_rules, wB, eq_self, Nat.reduceEqDiff, reduceIte]; rfl)  (by simp only [wB, eq_self, Nat.reduceEqDiff, reduceIte, and_true]) (m1 := (bB (P.take i) vs)) (m2 := []) (by simp only [wB, eq_self, Nat.reduceEqDiff, reduceIte, callS, rd_rules, pureL, cleanD, pure_rules, hs, sc_rules, heap_rules, wL, Int.toNat_natCast, Int.reduceToNat, Nat.reduceAdd, Nat.reduceMul, Nat.reduceSub, Nat.reduceLeDiff, List.mem_cons, List.not_mem_nil, dI_rows, dB_rows, dU_rows, hx, wG, Nat.reduceAdd, Nat.reduceSub, Nat.reduceLT, Nat.reduceLeDiff, if_true, if_false, ite_self, List.mem_append, true_implies, Option.bind_some, List.set_cons_zero, List.set_cons_succ, or_false, false_or]; rfl) (by first | trivial | ((try dsimp only); (first | (exact ⟨of_eq_true (rect_eI t), by omega⟩) | exact sd_))) (by simp only [wB, eq_self, Nat.reduceEqDiff, reduceIte, wG, heap_rules, Nat.reduceAdd, Nat.reduceSub, Nat.reduceLT, Nat.reduceLeDiff, kilL, List.cons_append, List.nil_append, List.mem_cons, List.not_mem_nil, or_false, false_or, wL, Int.toNat_natCast, Int.reduceToNat, Nat.reduceAdd, Nat.reduceMul, Nat.reduceSub, Nat.reduceLeDiff, hx]; rfl) (by rfl) (by rfl) (by rfl) (List.append_nil _).symm (by first | decide | simp) (by first | exact Nat.le_refl _ | (simp [rows]; done) | (first | (exact ⟨of_eq_true (rect_eI t), by omega⟩) | exact sd_)) fun v1 => ?_)
        simp only [wB, eq_self, Nat.reduceEqDiff, reduceIte, wG, heap_rules, Nat.reduceAdd, Nat.reduceSub, Nat.reduceLT, Nat.reduceLeDiff, kilL, List.cons_append, List.nil_append, List.mem_cons, List.not_mem_nil, or_false, false_or, wL, Int.toNat_natCast, Int.reduceToNat, Nat.reduceAdd, Nat.reduceMul, Nat.reduceSub, Nat.reduceLeDiff, hx]
        refine u_bd ?_
        refine u_bs ?_
        refine u_ap (hq := by (first | ((repeat' apply And.intro) <;> first | rfl | trivial | omega | assumption | (simp; omega)) | exact sd_)) ?_
        refine u_pt ?_
        refine u_st ?_
        refine lg_nil ?_
        refine at_nil ?_
        refine h9 _ ?_; clear h9; try clear N9
        refine u_reg ?_
        try refine lg_mk ?_
        refine u_bn ?_
        refine u_mv ?_
        refine lg_nil ?_
        have e1 := zR_snoc (g := g) (t := t) (v := v1) hvs
        have e2 := bB_snoc (g := g) (t := t) (v := v1) hvs
        rw [← hsn] at e1 e2
        refine h5 _ ⟨(i + 1, vs ++ [v1]), ?_, ?_, [some 0, some 1, some 2, some 3, some 10, some 8], ?_⟩
        ·dsimp only
         exact ⟨by omega, by rw [hsn]; simp [hvs]⟩
        ·dsimp only
         omega
        ·dsimp only
         refine ⟨by rfl, ?_, ?_⟩
         ·refine fin_ ?_
          (repeat' apply And.intro) <;> (first | (first | rfl | trivial | (rw [e1, ← eG_snoc]; simp [hzl]; done) | (rw [e1, ← eG_snoc, List.take_of_length_le (by omega)]; done) | (rw [List.take_length]; exact congrArg (OB.bag _ _) e2.symm) | exact congrArg (OB.bag _ _) e2.symm | (simp [hzl]; omega)) | exact cl_)
         ·refine fin_ ?_
          (repeat' apply And.intro) <;> (first | (first | rfl | trivial | (rw [e1, ← eG_snoc]; simp [hzl]; done) | (rw [e1, ← eG_snoc, List.take_of_length_le (by omega)]; done) | (rw [List.take_length]; exact congrArg (OB.bag _ _) e2.symm) | exact congrArg (OB.bag _ _) e2.symm | (simp [hzl]; omega)) | exact cl_)
       refine at_alt ?_ ?_
       ·simp only [pick_rules, list_rules]
        try refine lg_mk ?_
        have hs := @cloneF.eq_1
        refine lg_sem (by rfl) (sem_call_put 5 (f := 36) (sp := Spec.fresh (cloneF 3)) rfl (by simp only [map_rules, wB, eq_self, Nat.reduceEqDiff, reduceIte]; rfl)  (by simp only [wB, eq_self, Nat.reduceEqDiff, reduceIte, and_true]) (m1 := (bB (P.take i) vs)) (m2 := []) (by simp only [wB, eq_self, Nat.reduceEqDiff, reduceIte, callS, rd_rules, pureL, cleanD, pure_rules, hs, sc_rules, heap_rules, wL, Int.toNat_natCast, Int.reduceToNat, Nat.reduceAdd, Nat.reduceMul, Nat.reduceSub, Nat.reduceLeDiff, List.mem_cons, List.not_mem_nil, dI_rows, dB_rows, dU_rows, hx, wG, Nat.reduceAdd, Nat.reduceSub, Nat.reduceLT, Nat.reduceLeDiff, if_true, if_false, ite_self, List.mem_append, true_implies, Option.bind_some, List.set_cons_zero, List.set_cons_succ, or_false, false_or]; rfl) (by first | trivial | ((try dsimp only); (first | (exact ⟨of_eq_true (rect_eI t), by omega⟩) | exact sd_))) (by simp only [wB, eq_self, Nat.reduceEqDiff, reduceIte, wG, heap_rules, Nat.reduceAdd, Nat.reduceSub, Nat.reduceLT, Nat.reduceLeDiff, kilL, List.cons_append, List.nil_append, List.mem_cons, List.not_mem_nil, or_false, false_or, wL, Int.toNat_natCast, Int.reduceToNat, Nat.reduceAdd, Nat.reduceMul, Nat.reduceSub, Nat.reduceLeDiff, hx]; rfl) (by rfl) (by rfl) (by rfl) (List.append_nil _).symm (by first | decide | simp) (by first | exact Nat.le_refl _ | (simp [rows]; done) | (first | (exact ⟨of_eq_true (rect_eI t), by omega⟩) | exact sd_)) fun v1 => ?_)
        simp only [wB, eq_self, Nat.reduceEqDiff, reduceIte, wG, heap_rules, Nat.reduceAdd, Nat.reduceSub, Nat.reduceLT, Nat.reduceLeDiff, kilL, List.cons_append, List.nil_append, List.mem_cons, List.not_mem_nil, or_false, false_or, wL, Int.toNat_natCast, Int.reduceToNat, Nat.reduceAdd, Nat.reduceMul, Nat.reduceSub, Nat.reduceLeDiff, hx]
        refine lg_nil ?_
        refine at_seq ?_
        simp only [pick_rules, list_rules]
        try refine lg_mk ?_
        refine u_ld ?_
        refine u_bd ?_
        refine u_bs ?_
        refine u_ap (hq := by (first | ((repeat' apply And.intro) <;> first | rfl | trivial | omega | assumption | (simp; omega)) | exact sd_)) ?_
        refine u_pt ?_
        refine u_st ?_
        refine lg_nil ?_
        refine at_nil ?_
        refine h9 _ ?_; clear h9; try clear N9
        refine u_reg ?_
        try refine lg_mk ?_
        refine u_bn ?_
        refine u_mv ?_
        refine lg_nil ?_
        have e1 := zR_snoc (g := g) (t := t) (v := v1) hvs
        have e2 := bB_snoc (g := g) (t := t) (v := v1) hvs
        rw [← hsn] at e1 e2
        refine h5 _ ⟨(i + 1, vs ++ [v1]), ?_, ?_, [some 0, some 1, some 2, some 3, some 10, some 8], ?_⟩
        ·dsimp only
         exact ⟨by omega, by rw [hsn]; simp [hvs]⟩
        ·dsimp only
         omega
        ·dsimp only
         refine ⟨by rfl, ?_, ?_⟩
         ·refine fin_ ?_
          (repeat' apply And.intro) <;> (first | (first | rfl | trivial | (rw [e1, ← eG_snoc]; simp [hzl]; done) | (rw [e1, ← eG_snoc, List.take_of_length_le (by omega)]; done) | (rw [List.take_length]; exact congrArg (OB.bag _ _) e2.symm) | exact congrArg (OB.bag _ _) e2.symm | (simp [hzl]; omega)) | exact cl_)
         ·refine fin_ ?_
          (repeat' apply And.intro) <;> (first | (first | rfl | trivial | (rw [e1, ← eG_snoc]; simp [hzl]; done) | (rw [e1, ← eG_snoc, List.take_of_length_le (by omega)]; done) | (rw [List.take_length]; exact congrArg (OB.bag _ _) e2.symm) | exact congrArg (OB.bag _ _) e2.symm | (simp [hzl]; omega)) | exact cl_)
       exact at_end
      refine at_alt ?_ ?_
      ·simp only [pick_rules, list_rules]
       try refine lg_mk ?_
       refine u_ld ?_
       refine lg_nil ?_
       refine at_alt ?_ ?_
       ·simp only [pick_rules, list_rules]
        try refine lg_mk ?_
        refine u_ld ?_
        refine lg_nil ?_
        refine at_seq ?_
        simp only [pick_rules, list_rules]
        try refine lg_mk ?_
        have hs := @cloneF.eq_1
        refine lg_sem (by rfl) (sem_call_put 5 (f := 36) (sp := Spec.fresh (cloneF 3)) rfl (by simp only [map_rules, wB, eq_self, Nat.reduceEqDiff, reduceIte]; rfl)  (by simp only [wB, eq_self, Nat.reduceEqDiff, reduceIte, and_true]) (m1 := (bB (P.take i) vs)) (m2 := []) (by simp only [wB, eq_self, Nat.reduceEqDiff, reduceIte, callS, rd_rules, pureL, cleanD, pure_rules, hs, sc_rules, heap_rules, wL, Int.toNat_natCast, Int.reduceToNat, Nat.reduceAdd, Nat.reduceMul, Nat.reduceSub, Nat.reduceLeDiff, List.mem_cons, List.not_mem_nil, dI_rows, dB_rows, dU_rows, hx, wG, Nat.reduceAdd, Nat.reduceSub, Nat.reduceLT, Nat.reduceLeDiff, if_true, if_false, ite_self, List.mem_append, true_implies, Option.bind_some, List.set_cons_zero, List.set_cons_succ, or_false, false_or]; rfl) (by first | trivial | ((try dsimp only); (first | (exact ⟨of_eq_true (rect_eI t), by omega⟩) | exact sd_))) (by simp only [wB, eq_self, Nat.reduceEqDiff, reduceIte, wG, heap_rules, Nat.reduceAdd, Nat.reduceSub, Nat.reduceLT, Nat.reduceLeDiff, kilL, List.cons_append, List.nil_append, List.mem_cons, List.not_mem_nil, or_false, false_or, wL, Int.toNat_natCast, Int.reduceToNat, Nat.reduceAdd, Nat.reduceMul, Nat.reduceSub, Nat.reduceLeDiff, hx]; rfl) (by rfl) (by rfl) (by rfl) (List.append_nil _).symm (by first | decide | simp) (by first | exact Nat.le_refl _ | (simp [rows]; done) | (first | (exact ⟨of_eq_true (rect_eI t), by omega⟩) | exact sd_)) fun v1 => ?_)
        simp only [wB, eq_self, Nat.reduceEqDiff, reduceIte, wG, heap_rules, Nat.reduceAdd, Nat.reduceSub, Nat.reduceLT, Nat.reduceLeDiff, kilL, List.cons_append, List.nil_append, List.mem_cons, List.not_mem_nil, or_false, false_or, wL, Int.toNat_natCast, Int.reduceToNat, Nat.reduceAdd, Nat.reduceMul, Nat.reduceSub, Nat.reduceLeDiff, hx]
        refine u_bd ?_
        refine u_bs ?_
        refine u_ap (hq := by (first | ((repeat' apply And.intro) <;> first | rfl | trivial | omega | assumption | (simp; omega)) | exact sd_)) ?_
        refine u_pt ?_
        refine u_st ?_
        refine lg_nil ?_
        refine at_nil ?_
        refine h9 _ ?_; clear h9; try clear N9
        refine u_reg ?_
        try refine lg_mk ?_
        refine u_bn ?_
        refine u_mv ?_
        refine lg_nil ?_
        have e1 := zR_snoc (g := g) (t := t) (v := v1) hvs
        have e2 := bB_snoc (g := g) (t := t) (v := v1) hvs
        rw [← hsn] at e1 e2
        refine h5 _ ⟨(i + 1, vs ++ [v1]), ?_, ?_, [some 0, some 1, some 2, some 3, some 10, some 8], ?_⟩
        ·dsimp only
         exact ⟨by omega, by rw [hsn]; simp [hvs]⟩
        ·dsimp only
         omega
        ·dsimp only
         refine ⟨by rfl, ?_, ?_⟩
         ·refine fin_ ?_
          (repeat' apply And.intro) <;> (first | (first | rfl | trivial | (rw [e1, ← eG_snoc]; simp [hzl]; done) | (rw [e1, ← eG_snoc, List.take_of_length_le (by omega)]; done) | (rw [List.take_length]; exact congrArg (OB.bag _ _) e2.symm) | exact congrArg (OB.bag _ _) e2.symm | (simp [hzl]; omega)) | exact cl_)
         ·refine fin_ ?_
          (repeat' apply And.intro) <;> (first | (first | rfl | trivial | (rw [e1, ← eG_snoc]; simp [hzl]; done) | (rw [e1, ← eG_snoc, List.take_of_length_le (by omega)]; done) | (rw [List.take_length]; exact congrArg (OB.bag _ _) e2.symm) | exact congrArg (OB.bag _ _) e2.symm | (simp [hzl]; omega)) | exact cl_)
       refine at_alt ?_ ?_
       ·simp only [pick_rules, list_rules]
        try refine lg_mk ?_
        have hs := @cloneF.eq_1
        refine lg_sem (by rfl) (sem_call_put 5 (f := 36) (sp := Spec.fresh (cloneF 3)) rfl (by simp only [map_rules, wB, eq_self, Nat.reduceEqDiff, reduceIte]; rfl)  (by simp only [wB, eq_self, Nat.reduceEqDiff, reduceIte, and_true]) (m1 := (bB (P.take i) vs)) (m2 := []) (by simp only [wB, eq_self, Nat.reduceEqDiff, reduceIte, callS, rd_rules, pureL, cleanD, pure_rules, hs, sc_rules, heap_rules, wL, Int.toNat_natCast, Int.reduceToNat, Nat.reduceAdd, Nat.reduceMul, Nat.reduceSub, Nat.reduceLeDiff, List.mem_cons, List.not_mem_nil, dI_rows, dB_rows, dU_rows, hx, wG, Nat.reduceAdd, Nat.reduceSub, Nat.reduceLT, Nat.reduceLeDiff, if_true, if_false, ite_self, List.mem_append, true_implies, Option.bind_some, List.set_cons_zero, List.set_cons_succ, or_false, false_or]; rfl) (by first | trivial | ((try dsimp only); (first | (exact ⟨of_eq_true (rect_eI t), by omega⟩) | exact sd_))) (by simp only [wB, eq_self, Nat.reduceEqDiff, reduceIte, wG, heap_rules, Nat.reduceAdd, Nat.reduceSub, Nat.reduceLT, Nat.reduceLeDiff, kilL, List.cons_append, List.nil_append, List.mem_cons, List.not_mem_nil, or_false, false_or, wL, Int.toNat_natCast, Int.reduceToNat, Nat.reduceAdd, Nat.reduceMul, Nat.reduceSub, Nat.reduceLeDiff, hx]; rfl) (by rfl) (by rfl) (by rfl) (List.append_nil _).symm (by first | decide | simp) (by first | exact Nat.le_refl _ | (simp [rows]; done) | (first | (exact ⟨of_eq_true (rect_eI t), by omega⟩) | exact sd_)) fun v1 => ?_)
        simp only [wB, eq_self, Nat.reduceEqDiff, reduceIte, wG, heap_rules, Nat.reduceAdd, Nat.reduceSub, Nat.reduceLT, Nat.reduceLeDiff, kilL, List.cons_append, List.nil_append, List.mem_cons, List.not_mem_nil, or_false, false_or, wL, Int.toNat_natCast, Int.reduceToNat, Nat.reduceAdd, Nat.reduceMul, Nat.reduceSub, Nat.reduceLeDiff, hx]
        refine lg_nil ?_
        refine at_seq ?_
        simp only [pick_rules, list_rules]
        try refine lg_mk ?_
        refine u_ld ?_
        refine u_bd ?_
        refine u_bs ?_
        refine u_ap (hq := by (first | ((repeat' apply And.intro) <;> first | rfl | trivial | omega | assumption | (simp; omega)) | exact sd_)) ?_
        refine u_pt ?_
        refine u_st ?_
        refine lg_nil ?_
        refine at_nil ?_
        refine h9 _ ?_; clear h9; try clear N9
        refine u_reg ?_
        try refine lg_mk ?_
        refine u_bn ?_
        refine u_mv ?_
        refine lg_nil ?_
        have e1 := zR_snoc (g := g) (t := t) (v := v1) hvs
        have e2 := bB_snoc (g := g) (t := t) (v := v1) hvs
        rw [← hsn] at e1 e2
        refine h5 _ ⟨(i + 1, vs ++ [v1]), ?_, ?_, [some 0, some 1, some 2, some 3, some 10, some 8], ?_⟩
        ·dsimp only
         exact ⟨by omega, by rw [hsn]; simp [hvs]⟩
        ·dsimp only
         omega
        ·dsimp only
         refine ⟨by rfl, ?_, ?_⟩
         ·refine fin_ ?_
          (repeat' apply And.intro) <;> (first | (first | rfl | trivial | (rw [e1, ← eG_snoc]; simp [hzl]; done) | (rw [e1, ← eG_snoc, List.take_of_length_le (by omega)]; done) | (rw [List.take_length]; exact congrArg (OB.bag _ _) e2.symm) | exact congrArg (OB.bag _ _) e2.symm | (simp [hzl]; omega)) | exact cl_)
         ·refine fin_ ?_
          (repeat' apply And.intro) <;> (first | (first | rfl | trivial | (rw [e1, ← eG_snoc]; simp [hzl]; done) | (rw [e1, ← eG_snoc, List.take_of_length_le (by omega)]; done) | (rw [List.take_length]; exact congrArg (OB.bag _ _) e2.symm) | exact congrArg (OB.bag _ _) e2.symm | (simp [hzl]; omega)) | exact cl_)
       exact at_end
      refine at_alt ?_ ?_
      ·simp only [pick_rules, list_rules]
       try refine lg_mk ?_
       have hs := @cloneF.eq_1
       refine lg_sem (by rfl) (sem_call_put 5 (f := 36) (sp := Spec.fresh (cloneF 3)) rfl (by simp only [map_rules, wB, eq_self, Nat.reduceEqDiff, reduceIte]; rfl)  (by simp only [wB, eq_self, Nat.reduceEqDiff, reduceIte, and_true]) (m1 := (bB (P.take i) vs)) (m2 := []) (by simp only [wB, eq_self, Nat.reduceEqDiff, reduceIte, callS, rd_rules, pureL, cleanD, pure_rules, hs, sc_rules, heap_rules, wL, Int.toNat_natCast, Int.reduceToNat, Nat.reduceAdd, Nat.reduceMul, Nat.reduceSub, Nat.reduceLeDiff, List.mem_cons, List.not_mem_nil, dI_rows, dB_rows, dU_rows, hx, wG, Nat.reduceAdd, Nat.reduceSub, Nat.reduceLT, Nat.reduceLeDiff, if_true, if_false, ite_self, List.mem_append, true_implies, Option.bind_some, List.set_cons_zero, List.set_cons_succ, or_false, false_or]; rfl) (by first | trivial | ((try dsimp only); (first | (exact ⟨of_eq_true (rect_eI t), by omega⟩) | exact sd_))) (by simp only [wB, eq_self, Nat.reduceEqDiff, reduceIte, wG, heap_rules, Nat.reduceAdd, Nat.reduceSub, Nat.reduceLT, Nat.reduceLeDiff, kilL, List.cons_append, List.nil_append, List.mem_cons, List.not_mem_nil, or_false, false_or, wL, Int.toNat_natCast, Int.reduceToNat, Nat.reduceAdd, Nat.reduceMul, Nat.reduceSub, Nat.reduceLeDiff, hx]; rfl) (by rfl) (by rfl) (by rfl) (List.append_nil _).symm (by first | decide | simp) (by first | exact Nat.le_refl _ | (simp [rows]; done) | (first | (exact ⟨of_eq_true (rect_eI t), by omega⟩) | exact sd_)) fun v1 => ?_)
       simp only [wB, eq_self, Nat.reduceEqDiff, reduceIte, wG, heap_rules, Nat.reduceAdd, Nat.reduceSub, Nat.reduceLT, Nat.reduceLeDiff, kilL, List.cons_append, List.nil_append, List.mem_cons, List.not_mem_nil, or_false, false_or, wL, Int.toNat_natCast, Int.reduceToNat, Nat.reduceAdd, Nat.reduceMul, Nat.reduceSub, Nat.reduceLeDiff, hx]
       refine lg_nil ?_
       refine at_seq ?_
       simp only [pick_rules, list_rules]
       try refine lg_mk ?_
       refine u_ld ?_
       refine u_ld ?_
       refine u_bd ?_
       refine u_bs ?_
       refine u_ap (hq := by (first | ((repeat' apply And.intro) <;> first | rfl | trivial | omega | assumption | (simp; omega)) | exact sd_)) ?_
       refine u_pt ?_
       refine u_st ?_
       refine lg_nil ?_
       refine at_nil ?_
       refine h9 _ ?_; clear h9; try clear N9
       refine u_reg ?_
       try refine lg_mk ?_
       refine u_bn ?_
       refine u_mv ?_
       refine lg_nil ?_
       have e1 := zR_snoc (g := g) (t := t) (v := v1) hvs
       have e2 := bB_snoc (g := g) (t := t) (v := v1) hvs
       rw [← hsn] at e1 e2
       refine h5 _ ⟨(i + 1, vs ++ [v1]), ?_, ?_, [some 0, some 1, some 2, some 3, some 10, some 8], ?_⟩
       ·dsimp only
        exact ⟨by omega, by rw [hsn]; simp [hvs]⟩
       ·dsimp only
        omega
       ·dsimp only
        refine ⟨by rfl, ?_, ?_⟩
        ·refine fin_ ?_
         (repeat' apply And.intro) <;> (first | (first | rfl | trivial | (rw [e1, ← eG_snoc]; simp [hzl]; done) | (rw [e1, ← eG_snoc, List.take_of_length_le (by omega)]; done) | (rw [List.take_length]; exact congrArg (OB.bag _ _) e2.symm) | exact congrArg (OB.bag _ _) e2.symm | (simp [hzl]; omega)) | exact cl_)
        ·refine fin_ ?_
         (repeat' apply And.intro) <;> (first | (first | rfl | trivial | (rw [e1, ← eG_snoc]; simp [hzl]; done) | (rw [e1, ← eG_snoc, List.take_of_length_le (by omega)]; done) | (rw [List.take_length]; exact congrArg (OB.bag _ _) e2.symm) | exact congrArg (OB.bag _ _) e2.symm | (simp [hzl]; omega)) | exact cl_)
      exact at_end
     refine at_alt ?_ ?_
     ·simp only [pick_rules, list_rules]
      try refine lg_mk ?_
      refine u_ld ?_
      refine lg_nil ?_
      refine at_alt ?_ ?_
      ·simp only [pick_rules, list_rules]
       try refine lg_mk ?_
       refine u_pt ?_
       refine lg_nil ?_
       refine at_alt ?_ ?_
       ·simp only [pick_rules, list_rules]
        try refine lg_mk ?_
        refine u_ld ?_
        refine lg_nil ?_
        refine at_seq ?_
        simp only [pick_rules, list_rules]
        try refine lg_mk ?_
        have hs := @cloneF.eq_1
        refine lg_sem (by rfl) (sem_call_put 5 (f := 36) (sp := Spec.fresh (cloneF 3)) rfl (by simp only [map_rules, wB, eq_self, Nat.reduceEqDiff, reduceIte]; rfl)  (by simp only [wB, eq_self, Nat.reduceEqDiff, reduceIte, and_true]) (m1 := (bB (P.take i) vs)) (m2 := []) (by simp only [wB, eq_self, Nat.reduceEqDiff, reduceIte, callS, rd_rules, pureL, cleanD, pure_rules, hs, sc_rules, heap_rules, wL, Int.toNat_natCast, Int.reduceToNat, Nat.reduceAdd, Nat.reduceMul, Nat.reduceSub, Nat.reduceLeDiff, List.mem_cons, List.not_mem_nil, dI_rows, dB_rows, dU_rows, hx, wG, Nat.reduceAdd, Nat.reduceSub, Nat.reduceLT, Nat.reduceLeDiff, if_true, if_false, ite_self, List.mem_append, true_implies, Option.bind_some, List.set_cons_zero, List.set_cons_succ, or_false, false_or]; rfl) (by first | trivial | ((try dsimp only); (first | (exact ⟨of_eq_true (rect_eI t), by omega⟩) | exact sd_))) (by simp only [wB, eq_self, Nat.reduceEqDiff, reduceIte, wG, heap_rules, Nat.reduceAdd, Nat.reduceSub, Nat.reduceLT, Nat.reduceLeDiff, kilL, List.cons_append, List.nil_append, List.mem_cons, List.not_mem_nil, or_false, false_or, wL, Int.toNat_natCast, Int.reduceToNat, Nat.reduceAdd, Nat.reduceMul, Nat.reduceSub, Nat.reduceLeDiff, hx]; rfl) (by rfl) (by rfl) (by rfl) (List.append_nil _).symm (by first | decide | simp) (by first | exact Nat.le_refl _ | (simp [rows]; done) | (first | (exact ⟨of_eq_true (rect_eI t), by omega⟩) | exact sd_)) fun v1 => ?_)
        simp only [wB, eq_self, Nat.reduceEqDiff, reduceIte, wG, heap_rules, Nat.reduceAdd, Nat.reduceSub, Nat.reduceLT, Nat.reduceLeDiff, kilL, List.cons_append, List.nil_append, List.mem_cons, List.not_mem_nil, or_false, false_or, wL, Int.toNat_natCast, Int.reduceToNat, Nat.reduceAdd, Nat.reduceMul, Nat.reduceSub, Nat.reduceLeDiff, hx]
        refine u_bd ?_
        refine u_bs ?_
        refine u_ap (hq := by (first | ((repeat' apply And.intro) <;> first | rfl | trivial | omega | assumption | (simp; omega)) | exact sd_)) ?_
        refine u_pt ?_
        refine u_st ?_
        refine lg_nil ?_
        refine at_nil ?_
        refine h9 _ ?_; clear h9; try clear N9
        refine u_reg ?_
        try refine lg_mk ?_
        refine u_bn ?_
        refine u_mv ?_
        refine lg_nil ?_
        have e1 := zR_snoc (g := g) (t := t) (v := v1) hvs
        have e2 := bB_snoc (g := g) (t := t) (v := v1) hvs
        rw [← hsn] at e1 e2
        refine h5 _ ⟨(i + 1, vs ++ [v1]), ?_, ?_, [some 0, some 1, some 2, some 3, some 10, some 8], ?_⟩
        ·dsimp only
         exact ⟨by omega, by rw [hsn]; simp [hvs]⟩
        ·dsimp only
         omega
        ·dsimp only
         refine ⟨by rfl, ?_, ?_⟩
         ·refine fin_ ?_
          (repeat' apply And.intro) <;> (first | (first | rfl | trivial | (rw [e1, ← eG_snoc]; simp [hzl]; done) | (rw [e1, ← eG_snoc, List.take_of_length_le (by omega)]; done) | (rw [List.take_length]; exact congrArg (OB.bag _ _) e2.symm) | exact congrArg (OB.bag _ _) e2.symm | (simp [hzl]; omega)) | exact cl_)
         ·refine fin_ ?_
          (repeat' apply And.intro) <;> (first | (first | rfl | trivial | (rw [e1, ← eG_snoc]; simp [hzl]; done) | (rw [e1, ← eG_snoc, List.take_of_length_le (by omega)]; done) | (rw [List.take_length]; exact congrArg (OB.bag _ _) e2.symm) | exact congrArg (OB.bag _ _) e2.symm | (simp [hzl]; omega)) | exact cl_)
       refine at_alt ?_ ?_
       ·simp only [pick_rules, list_rules]
        try refine lg_mk ?_
        have hs := @cloneF.eq_1
        refine lg_sem (by rfl) (sem_call_put 5 (f := 36) (sp := Spec.fresh (cloneF 3)) rfl (by simp only [map_rules, wB, eq_self, Nat.reduceEqDiff, reduceIte]; rfl)  (by simp only [wB, eq_self, Nat.reduceEqDiff, reduceIte, and_true]) (m1 := (bB (P.take i) vs)) (m2 := []) (by simp only [wB, eq_self, Nat.reduceEqDiff, reduceIte, callS, rd_rules, pureL, cleanD, pure_rules, hs, sc_rules, heap_rules, wL, Int.toNat_natCast, Int.reduceToNat, Nat.reduceAdd, Nat.reduceMul, Nat.reduceSub, Nat.reduceLeDiff, List.mem_cons, List.not_mem_nil, dI_rows, dB_rows, dU_rows, hx, wG, Nat.reduceAdd, Nat.reduceSub, Nat.reduceLT, Nat.reduceLeDiff, if_true, if_false, ite_self, List.mem_append, true_implies, Option.bind_some, List.set_cons_zero, List.set_cons_succ, or_false, false_or]; rfl) (by first | trivial | ((try dsimp only); (first | (exact ⟨of_eq_true (rect_eI t), by omega⟩) | exact sd_))) (by simp only [wB, eq_self, Nat.reduceEqDiff, reduceIte, wG, heap_rules, Nat.reduceAdd, Nat.reduceSub, Nat.reduceLT, Nat.reduceLeDiff, kilL, List.cons_append, List.nil_append, List.mem_cons, List.not_mem_nil, or_false, false_or, wL, Int.toNat_natCast, Int.reduceToNat, Nat.reduceAdd, Nat.reduceMul, Nat.reduceSub, Nat.reduceLeDiff, hx]; rfl) (by rfl) (by rfl) (by rfl) (List.append_nil _).symm (by first | decide | simp) (by first | exact Nat.le_refl _ | (simp [rows]; done) | (first | (exact ⟨of_eq_true (rect_eI t), by omega⟩) | exact sd_)) fun v1 => ?_)
        simp only [wB, eq_self, Nat.reduceEqDiff, reduceIte, wG, heap_rules, Nat.reduceAdd, Nat.reduceSub, Nat.reduceLT, Nat.reduceLeDiff, kilL, List.cons_append, List.nil_append, List.mem_cons, List.not_mem_nil, or_false, false_or, wL, Int.toNat_natCast, Int.reduceToNat, Nat.reduceAdd, Nat.reduceMul, Nat.reduceSub, Nat.reduceLeDiff, hx]
        refine lg_nil ?_
        refine at_seq ?_
        simp only [pick_rules, list_rules]
        try refine lg_mk ?_
        refine u_ld ?_
        refine u_bd ?_
        refine u_bs ?_
        refine u_ap (hq := by (first | ((repeat' apply And.intro) <;> first | rfl | trivial | omega | assumption | (simp; omega)) | exact sd_)) ?_
        refine u_pt ?_
        refine u_st ?_
        refine lg_nil ?_
        refine at_nil ?_
        refine h9 _ ?_; clear h9; try clear N9
        refine u_reg ?_
        try refine lg_mk ?_
        refine u_bn ?_
        refine u_mv ?_
        refine lg_nil ?_
        have e1 := zR_snoc (g := g) (t := t) (v := v1) hvs
        have e2 := bB_snoc (g := g) (t := t) (v := v1) hvs
        rw [← hsn] at e1 e2
        refine h5 _ ⟨(i + 1, vs ++ [v1]), ?_, ?_, [some 0, some 1, some 2, some 3, some 10, some 8], ?_⟩
        ·dsimp only
         exact ⟨by omega, by rw [hsn]; simp [hvs]⟩
        ·dsimp only
         omega
        ·dsimp only
         refine ⟨by rfl, ?_, ?_⟩
         ·refine fin_ ?_
          (repeat' apply And.intro) <;> (first | (first | rfl | trivial | (rw [e1, ← eG_snoc]; simp [hzl]; done) | (rw [e1, ← eG_snoc, List.take_of_length_le (by omega)]; done) | (rw [List.take_length]; exact congrArg (OB.bag _ _) e2.symm) | exact congrArg (OB.bag _ _) e2.symm | (simp [hzl]; omega)) | exact cl_)
         ·refine fin_ ?_
          (repeat' apply And.intro) <;> (first | (first | rfl | trivial | (rw [e1, ← eG_snoc]; simp [hzl]; done) | (rw [e1, ← eG_snoc, List.take_of_length_le (by omega)]; done) | (rw [List.take_length]; exact congrArg (OB.bag _ _) e2.symm) | exact congrArg (OB.bag _ _) e2.symm | (simp [hzl]; omega)) | exact cl_)
       exact at_end
      refine at_alt ?_ ?_
      ·simp only [pick_rules, list_rules]
       try refine lg_mk ?_
       have hs := @cloneF.eq_1
       refine lg_sem (by rfl) (sem_call_put 5 (f := 36) (sp := Spec.fresh (cloneF 3)) rfl (by simp only [map_rules, wB, eq_self, Nat.reduceEqDiff, reduceIte]; rfl)  (by simp only [wB, eq_self, Nat.reduceEqDiff, reduceIte, and_true]) (m1 := (bB (P.take i) vs)) (m2 := []) (by simp only [wB, eq_self, Nat.reduceEqDiff, reduceIte, callS, rd_rules, pureL, cleanD, pure_rules, hs, sc_rules, heap_rules, wL, Int.toNat_natCast, Int.reduceToNat, Nat.reduceAdd, Nat.reduceMul, Nat.reduceSub, Nat.reduceLeDiff, List.mem_cons, List.not_mem_nil, dI_rows, dB_rows, dU_rows, hx, wG, Nat.reduceAdd, Nat.reduceSub, Nat.reduceLT, Nat.reduceLeDiff, if_true, if_false, ite_self, List.mem_append, true_implies, Option.bind_some, List.set_cons_zero, List.set_cons_succ, or_false, false_or]; rfl) (by first | trivial | ((try dsimp only); (first | (exact ⟨of_eq_true (rect_eI t), by omega⟩) | exact sd_))) (by simp only [wB, eq_self, Nat.reduceEqDiff, reduceIte, wG, heap_rules, Nat.reduceAdd, Nat.reduceSub, Nat.reduceLT, Nat.reduceLeDiff, kilL, List.cons_append, List.nil_append, List.mem_cons, List.not_mem_nil, or_false, false_or, wL, Int.toNat_natCast, Int.reduceToNat, Nat.reduceAdd, Nat.reduceMul, Nat.reduceSub, Nat.reduceLeDiff, hx]; rfl) (by rfl) (by rfl) (by rfl) (List.append_nil _).symm (by first | decide | simp) (by first | exact Nat.le_refl _ | (simp [rows]; done) | (first | (exact ⟨of_eq_true (rect_eI t), by omega⟩) | exact sd_)) fun v1 => ?_)
       simp only [wB, eq_self, Nat.reduceEqDiff, reduceIte, wG, heap_rules, Nat.reduceAdd, Nat.reduceSub, Nat.reduceLT, Nat.reduceLeDiff, kilL, List.cons_append, List.nil_append, List.mem_cons, List.not_mem_nil, or_false, false_or, wL, Int.toNat_natCast, Int.reduceToNat, Nat.reduceAdd, Nat.reduceMul, Nat.reduceSub, Nat.reduceLeDiff, hx]
       refine lg_nil ?_
       refine at_seq ?_
       simp only [pick_rules, list_rules]
       try refine lg_mk ?_
       refine u_pt ?_
       refine u_ld ?_
       refine u_bd ?_
       refine u_bs ?_
       refine u_ap (hq := by (first | ((repeat' apply And.intro) <;> first | rfl | trivial | omega | assumption | (simp; omega)) | exact sd_)) ?_
       refine u_pt ?_
       refine u_st ?_
       refine lg_nil ?_
       refine at_nil ?_
       refine h9 _ ?_; clear h9; try clear N9
       refine u_reg ?_
       try refine lg_mk ?_
       refine u_bn ?_
       refine u_mv ?_
       refine lg_nil ?_
       have e1 := zR_snoc (g := g) (t := t) (v := v1) hvs
       have e2 := bB_snoc (g := g) (t := t) (v := v1) hvs
       rw [← hsn] at e1 e2
       refine h5 _ ⟨(i + 1, vs ++ [v1]), ?_, ?_, [some 0, some 1, some 2, some 3, some 10, some 8], ?_⟩
       ·dsimp only
        exact ⟨by omega, by rw [hsn]; simp [hvs]⟩
       ·dsimp only
        omega
       ·dsimp only
        refine ⟨by rfl, ?_, ?_⟩
        ·refine fin_ ?_
         (repeat' apply And.intro) <;> (first | (first | rfl | trivial | (rw [e1, ← eG_snoc]; simp [hzl]; done) | (rw [e1, ← eG_snoc, List.take_of_length_le (by omega)]; done) | (rw [List.take_length]; exact congrArg (OB.bag _ _) e2.symm) | exact congrArg (OB.bag _ _) e2.symm | (simp [hzl]; omega)) | exact cl_)
        ·refine fin_ ?_
         (repeat' apply And.intro) <;> (first | (first | rfl | trivial | (rw [e1, ← eG_snoc]; simp [hzl]; done) | (rw [e1, ← eG_snoc, List.take_of_length_le (by omega)]; done) | (rw [List.take_length]; exact congrArg (OB.bag _ _) e2.symm) | exact congrArg (OB.bag _ _) e2.symm | (simp [hzl]; omega)) | exact cl_)
      exact at_end
     refine at_alt ?_ ?_
     ·simp only [pick_rules, list_rules]
      try refine lg_mk ?_
      have hs := @cloneF.eq_1
      refine lg_sem (by rfl) (sem_call_put 5 (f := 36) (sp := Spec.fresh (cloneF 3)) rfl (by simp only [map_rules, wB, eq_self, Nat.reduceEqDiff, reduceIte]; rfl)  (by simp only [wB, eq_self, Nat.reduceEqDiff, reduceIte, and_true]) (m1 := (bB (P.take i) vs)) (m2 := []) (by simp only [wB, eq_self, Nat.reduceEqDiff, reduceIte, callS, rd_rules, pureL, cleanD, pure_rules, hs, sc_rules, heap_rules, wL, Int.toNat_natCast, Int.reduceToNat, Nat.reduceAdd, Nat.reduceMul, Nat.reduceSub, Nat.reduceLeDiff, List.mem_cons, List.not_mem_nil, dI_rows, dB_rows, dU_rows, hx, wG, Nat.reduceAdd, Nat.reduceSub, Nat.reduceLT, Nat.reduceLeDiff, if_true, if_false, ite_self, List.mem_append, true_implies, Option.bind_some, List.set_cons_zero, List.set_cons_succ, or_false, false_or]; rfl) (by first | trivial | ((try dsimp only); (first | (exact ⟨of_eq_true (rect_eI t), by omega⟩) | exact sd_))) (by simp only [wB, eq_self, Nat.reduceEqDiff, reduceIte, wG, heap_rules, Nat.reduceAdd, Nat.reduceSub, Nat.reduceLT, Nat.reduceLeDiff, kilL, List.cons_append, List.nil_append, List.mem_cons, List.not_mem_nil, or_false, false_or, wL, Int.toNat_natCast, Int.reduceToNat, Nat.reduceAdd, Nat.reduceMul, Nat.reduceSub, Nat.reduceLeDiff, hx]; rfl) (by rfl) (by rfl) (by rfl) (List.append_nil _).symm (by first | decide | simp) (by first | exact Nat.le_refl _ | (simp [rows]; done) | (first | (exact ⟨of_eq_true (rect_eI t), by omega⟩) | exact sd_)) fun v1 => ?_)
      simp only [wB, eq_self, Nat.reduceEqDiff, reduceIte, wG, heap_rules, Nat.reduceAdd, Nat.reduceSub, Nat.reduceLT, Nat.reduceLeDiff, kilL, List.cons_append, List.nil_append, List.mem_cons, List.not_mem_nil, or_false, false_or, wL, Int.toNat_natCast, Int.reduceToNat, Nat.reduceAdd, Nat.reduceMul, Nat.reduceSub, Nat.reduceLeDiff, hx]
      refine lg_nil ?_
      refine at_seq ?_
      simp only [pick_rules, list_rules]
      try refine lg_mk ?_
      refine u_pt ?_
      refine u_ld ?_
      refine u_ld ?_
      refine u_bd ?_
      refine u_bs ?_
      refine u_ap (hq := by (first | ((repeat' apply And.intro) <;> first | rfl | trivial | omega | assumption | (simp; omega)) | exact sd_)) ?_
      refine u_pt ?_
      refine u_st ?_
      refine lg_nil ?_
      refine at_nil ?_
      refine h9 _ ?_; clear h9; try clear N9
      refine u_reg ?_
      try refine lg_mk ?_
      refine u_bn ?_
      refine u_mv ?_
      refine lg_nil ?_
      have e1 := zR_snoc (g := g) (t := t) (v := v1) hvs
      have e2 := bB_snoc (g := g) (t := t) (v := v1) hvs
      rw [← hsn] at e1 e2
      refine h5 _ ⟨(i + 1, vs ++ [v1]), ?_, ?_, [some 0, some 1, some 2, some 3, some 10, some 8], ?_⟩
      ·dsimp only
       exact ⟨by omega, by rw [hsn]; simp [hvs]⟩
      ·dsimp only
       omega
      ·dsimp only
       refine ⟨by rfl, ?_, ?_⟩
       ·refine fin_ ?_
        (repeat' apply And.intro) <;> (first | (first | rfl | trivial | (rw [e1, ← eG_snoc]; simp [hzl]; done) | (rw [e1, ← eG_snoc, List.take_of_length_le (by omega)]; done) | (rw [List.take_length]; exact congrArg (OB.bag _ _) e2.symm) | exact congrArg (OB.bag _ _) e2.symm | (simp [hzl]; omega)) | exact cl_)
       ·refine fin_ ?_
        (repeat' apply And.intro) <;> (first | (first | rfl | trivial | (rw [e1, ← eG_snoc]; simp [hzl]; done) | (rw [e1, ← eG_snoc, List.take_of_length_le (by omega)]; done) | (rw [List.take_length]; exact congrArg (OB.bag _ _) e2.symm) | exact congrArg (OB.bag _ _) e2.symm | (simp [hzl]; omega)) | exact cl_)
     exact at_end
    refine at_alt ?_ ?_
    ·simp only [pick_rules, list_rules]
     try refine lg_mk ?_
     have hs := @cloneF.eq_1
     refine lg_sem (by rfl) (sem_call_put 5 (f := 36) (sp := Spec.fresh (cloneF 3)) rfl (by simp only [map_rules, wB, eq_self, Nat.reduceEqDiff, reduceIte]; rfl)  (by simp only [wB, eq_self, Nat.reduceEqDiff, reduceIte, and_true]) (m1 := (bB (P.take i) vs)) (m2 := []) (by simp only [wB, eq_self, Nat.reduceEqDiff, reduceIte, callS, rd_rules, pureL, cleanD, pure_rules, hs, sc_rules, heap_rules, wL, Int.toNat_natCast, Int.reduceToNat, Nat.reduceAdd, Nat.reduceMul, Nat.reduceSub, Nat.reduceLeDiff, List.mem_cons, List.not_mem_nil, dI_rows, dB_rows, dU_rows, hx, wG, Nat.reduceAdd, Nat.reduceSub, Nat.reduceLT, Nat.reduceLeDiff, if_true, if_false, ite_self, List.mem_append, true_implies, Option.bind_some, List.set_cons_zero, List.set_cons_succ, or_false, false_or]; rfl) (by first | trivial | ((try dsimp only); (first | (exact ⟨of_eq_true (rect_eI t), by omega⟩) | exact sd_))) (by simp only [wB, eq_self, Nat.reduceEqDiff, reduceIte, wG, heap_rules, Nat.reduceAdd, Nat.reduceSub, Nat.reduceLT, Nat.reduceLeDiff, kilL, List.cons_append, List.nil_append, List.mem_cons, List.not_mem_nil, or_false, false_or, wL, Int.toNat_natCast, Int.reduceToNat, Nat.reduceAdd, Nat.reduceMul, Nat.reduceSub, Nat.reduceLeDiff, hx]; rfl) (by rfl) (by rfl) (by rfl) (List.append_nil _).symm (by first | decide | simp) (by first | exact Nat.le_refl _ | (simp [rows]; done) | (first | (exact ⟨of_eq_true (rect_eI t), by omega⟩) | exact sd_)) fun v1 => ?_)
     simp only [wB, eq_self, Nat.reduceEqDiff, reduceIte, wG, heap_rules, Nat.reduceAdd, Nat.reduceSub, Nat.reduceLT, Nat.reduceLeDiff, kilL, List.cons_append, List.nil_append, List.mem_cons, List.not_mem_nil, or_false, false_or, wL, Int.toNat_natCast, Int.reduceToNat, Nat.reduceAdd, Nat.reduceMul, Nat.reduceSub, Nat.reduceLeDiff, hx]
     refine lg_nil ?_
     refine at_seq ?_
     simp only [pick_rules, list_rules]
     try refine lg_mk ?_
     refine u_pt ?_
     refine u_ld ?_
     refine u_pt ?_
     refine u_ld ?_
     refine u_bd ?_
     refine u_bs ?_
     refine u_ap (hq := by (first | ((repeat' apply And.intro) <;> first | rfl | trivial | omega | assumption | (simp; omega)) | exact sd_)) ?_
     refine u_pt ?_
     refine u_st ?_
     refine lg_nil ?_
     refine at_nil ?_
     refine h9 _ ?_; clear h9; try clear N9
     refine u_reg ?_
     try refine lg_mk ?_
     refine u_bn ?_
     refine u_mv ?_
     refine lg_nil ?_
     have e1 := zR_snoc (g := g) (t := t) (v := v1) hvs
     have e2 := bB_snoc (g := g) (t := t) (v := v1) hvs
     rw [← hsn] at e1 e2
     refine h5 _ ⟨(i + 1, vs ++ [v1]), ?_, ?_, [some 0, some 1, some 2, some 3, some 10, some 8], ?_⟩
     ·dsimp only
      exact ⟨by omega, by rw [hsn]; simp [hvs]⟩
     ·dsimp only
      omega
     ·dsimp only
      refine ⟨by rfl, ?_, ?_⟩
      ·refine fin_ ?_
       (repeat' apply And.intro) <;> (first | (first | rfl | trivial | (rw [e1, ← eG_snoc]; simp [hzl]; done) | (rw [e1, ← eG_snoc, List.take_of_length_le (by omega)]; done) | (rw [List.take_length]; exact congrArg (OB.bag _ _) e2.symm) | exact congrArg (OB.bag _ _) e2.symm | (simp [hzl]; omega)) | exact cl_)
      ·refine fin_ ?_
       (repeat' apply And.intro) <;> (first | (first | rfl | trivial | (rw [e1, ← eG_snoc]; simp [hzl]; done) | (rw [e1, ← eG_snoc, List.take_of_length_le (by omega)]; done) | (rw [List.take_length]; exact congrArg (OB.bag _ _) e2.symm) | exact congrArg (OB.bag _ _) e2.symm | (simp [hzl]; omega)) | exact cl_)
    exact at_end
   ·obtain rfl : i = P.length := by omega
    refine vc_close1 3 1 5 rfl rfl rfl rfl rfl (by decide) (ps := P.map uP) (vs := vs) (by rw [List.length_map, hvs, List.length_take]; omega) (by rw [rawR_uP, List.take_length]) (by rw [rawB_uP, List.take_length]) ?_
    simp only [kilL, updL, List.set, List.cons_append, List.nil_append, List.mem_cons, List.not_mem_nil, or_false]
    refine vc_exit ?_
    simp only [k_rules, Nat.reduceEqDiff, reduceIte, eq_self]
    refine h3 _ ?_; clear h3; try clear N3
    refine vc_seq_k fun N11 h11 => ?_
    refine u_reg ?_
    try refine lg_mk ?_
    refine u_ld ?_
    refine u_st ?_
    refine lg_nil ?_
    refine h11 _ ?_; clear h11; try clear N11
    refine vc_ret ?_
    try simp only [k_rules]
    refine fin_ ?_
    refine ⟨[some 2, some 6], by rfl, ?_, ?_⟩
    ·refine fin_ ?_
     exact cl_
    ·refine fin_ ?_
     exact cl_
 ·cases hg

def E_copyI : Env Try.prog := E_exT.add 41 (Spec.fresh copyG) copyI_meets (by kernel_rfl)
end Go.Proofs.Ytjdhadbnmghdgaa
