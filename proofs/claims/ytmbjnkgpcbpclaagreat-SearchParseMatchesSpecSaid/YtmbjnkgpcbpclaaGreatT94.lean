/- Walks, printed by wip/gen/walk.py. -/
import Derived.Test.YtmbjnkgpcbpclaaGreatT93
import Derived.Test.YtmbjnkgpcbpclaaGreatV5
set_option linter.all false
set_option maxRecDepth 100000
set_option maxHeartbeats 4000000
namespace Go.Proofs.YtmbjnkgpcbpclaaGreat
open Go Go.Vc Go.RowKit
theorem qdX_s {t : Bs} {f a : Nat} {s : Bs} {c : UInt8} (hc : t[a]? = some c) : qdX t (f + 1) a s = if c = 34 then .ok (a, s) else if c = 10 then .error (1, ((a : Nat) : Int)) else if c = 92 then (match t[a + 1]? with
      | none => .error (1, ((t.length : Nat) : Int))
      | some d => if d = 34 ∨ d = 92 then qdX t f (a + 2) (s ++ [d]) else .error (1, ((a : Nat) : Int)))
      else qdX t f (a + 1) (s ++ [c]) := by rw [qdX, hc]; rfl
theorem qdX_n {t : Bs} {f a : Nat} {s : Bs} (hc : t[a]? = none) : qdX t (f + 1) a s = .error (1, ((a : Nat) : Int)) := by rw [qdX, hc]
def erR (a : Nat) (c k : Int) (R : Except (Int × Int) (Nat × Bs)) : Prop := (∃ e S, R = .ok (e, S) ∧ okT S = false ∧ c = 3 ∧ k = ((a : Nat) : Int)) ∨ R = .error (c, k)
theorem erR_of {t : Bs} {a : Nat} {ns : List Sn} {c k : Int} (h : qtX t a ns = .error (c, k)) : erR a c k (qdX t (t.length + 1) (a + 1) []) := by
  unfold qtX at h
  split at h
  · rename_i e s he
    split at h
    · cases h
    · rename_i ho
      cases h
      exact .inl ⟨e, s, he, by simpa using ho, rfl, rfl⟩
  · rename_i e he
    cases h; exact .inr he
theorem erR_e {a : Nat} {c k c' k' : Int} {R : Except (Int × Int) (Nat × Bs)} (h : erR a c k R) (e : R = .error (c', k')) : c = c' ∧ k = k' := by
  rcases h with ⟨_, _, h, _⟩ | h
  · rw [h] at e; cases e
  · rw [h] at e; cases e; exact ⟨rfl, rfl⟩
theorem erR_o {a : Nat} {c k : Int} {R : Except (Int × Int) (Nat × Bs)} {z : Nat} {S : Bs} (h : erR a c k R) (e : R = .ok (z, S)) : okT S = false ∧ c = 3 ∧ k = ((a : Nat) : Int) := by
  rcases h with ⟨_, _, h, h2, h3, h4⟩ | h
  · rw [h] at e; cases e; exact ⟨h2, h3, h4⟩
  · rw [h] at e; cases e

theorem qux_pan  : Panics Tryz.prog 82 (Spec.gen quoX) 29 := by
  refine panics_gen (E_bst.at_ 127) Tryz.func82 rfl rfl rfl ?_
  intro args bl p r bf hg hp
  unfold quoX at hg
  split at hg
  rename_i ty t a n vt sz xs
  simp only [Option.some.injEq, Prod.mk.injEq] at hg
  obtain ⟨rfl, rfl, rfl⟩ := hg
  obtain ⟨hpr, hlt, hsm⟩ := hp
  obtain ⟨rfl, rfl, rfl, he, rfl, ha0, hal, htl, hqa⟩ := hpr
  generalize dSn xs = q at *
  subst he
  obtain ⟨a, rfl⟩ := Int.eq_ofNat_of_zero_le ha0
  simp only [Int.toNat_natCast] at *
  have hal : a ≤ t.length := by omega
  have hqa : q.length ≤ a := by omega
  obtain ⟨k1, k2⟩ := skS_le hal
  have hlt : a < t.length := by omega
  obtain ⟨c0, k0, hall, hc0⟩ := bad_e hsm
  rw [hall]
  have hER := erR_of hall
  generalize hRR : qdX t (t.length + 1) (a + 1) [] = RR at *
  have hT : (E_bst).X = T := rfl
  have hx0 := And.intro @dec_t (And.intro @dec_f (And.intro @Int.toNat_natCast (And.intro @rdS.eq_1 (And.intro @dSn_rows (And.intro @rect_eSn (And.intro @ofN_u @Tryz.results82))))))
  have hx := hx0
  refine ⟨_, _, rfl, rfl, rfl, Nat.le_of_ble_eq_true rfl, ?_⟩
  intro F W0 M0 hnp hmk
  have hnp : Far.np = 2 := hnp
  refine vc_seq_k fun N1 h1 => ?_
  refine u_reg ?_
  try refine lg_mk ?_
  refine u_mv ?_
  refine lg_nil ?_
  refine h1 _ ?_; clear h1; try clear N1
  refine vc_seq_k fun N2 h2 => ?_
  refine u_reg ?_
  try refine lg_mk ?_
  refine u_mv ?_
  refine u_nl ?_
  refine u_pt ?_
  refine u_ld ?_
  refine u_mv ?_
  refine lg_nil ?_
  refine h2 _ ?_; clear h2; try clear N2
  refine vc_seq_k fun N3 h3 => ?_
  refine u_reg ?_
  try refine lg_mk ?_
  refine u_al ?_
  refine lg_nil ?_
  refine h3 _ ?_; clear h3; try clear N3
  refine vc_seq_k fun N4 h4 => ?_
  refine vc_seq_k fun N5 h5 => ?_
  refine vc_nil1 2 1 (.ob (.bfr 5 [] false)) 1 (fun _ _ _ => ⟨rfl, .inl ⟨rfl, rfl, rfl⟩⟩) rfl rfl rfl ?_
  simp only [updL, List.set, List.cons_append, List.nil_append]
  refine u_reg ?_
  try refine lg_mk ?_
  refine u_mv ?_
  refine u_nl ?_
  refine u_pt ?_
  refine u_ld ?_
  refine u_bn ?_
  refine u_nl ?_
  refine u_pt ?_
  refine u_st ?_
  refine lg_nil ?_
  refine h5 _ ?_; clear h5; try clear N5
  refine vc_block ?_
  refine vc_loop_mk (σ := Nat × Bs × Bool × Nat) (fun s => (fun i s2 b g => qdX t g i s2 = RR ∧ i ≤ t.length ∧ a + 1 ≤ i ∧ s2.length ≤ i ∧ t.length + 1 ≤ g + i) (s.1) (s.2.1) (s.2.2.1) (s.2.2.2))
    (fun s => (fun i s2 b g => [(0, .ptr 0 0 0), (3, .d (.int .i64 (a : Nat))), (4, .ptr 2 0 0)]) (s.1) (s.2.1) (s.2.2.1) (s.2.2.2))
    (fun s => (fun i s2 b g => [some (.one 75 [.d (.str t), .d (.int .i64 (i : Nat)), .sl 1 0 q.length]), some (.vec 55 4 (rows eSn q)), some (.one 143 [ndP 2 b, .sl 3 0 s2.length]), some (.ob (.bfr 5 s2 false))]) (s.1) (s.2.1) (s.2.2.1) (s.2.2.2)) (fun s => (fun i s2 b g => g) (s.1) (s.2.1) (s.2.2.1) (s.2.2.2)) hnp (a + 1, [], false, t.length + 1) ?_ [some 0, some 1, some 2, some 3] ?_ ?_
  dsimp only
  exact ⟨hRR, by omega, by omega, Nat.zero_le _, by omega⟩
  dsimp only
  refine ⟨by rfl, ?_, ?_⟩
  refine fin_ ?_
  exact cl_
  refine fin_ ?_
  exact cl_
  rintro ⟨i, s2, b, g⟩ hinv N6 h6
  dsimp only at hinv ⊢
  obtain ⟨hI, i2, i3, i4, i5⟩ := hinv
  obtain ⟨g0, rfl⟩ : ∃ g0, g = g0 + 1 := ⟨g - 1, by omega⟩
  refine vc_seq_k fun N7 h7 => ?_
  refine vc_block ?_
  refine vc_seq_k fun N8 h8 => ?_
  refine vc_seq_k fun N9 h9 => ?_
  refine u_reg ?_
  try refine lg_mk ?_
  refine u_mv ?_
  refine u_nl ?_
  refine u_pt ?_
  refine u_ld ?_
  refine u_mv ?_
  refine u_nl ?_
  refine u_pt ?_
  refine u_ld ?_
  refine u_ln ?_
  refine u_bn ?_
  refine lg_nil ?_
  refine h9 _ ?_; clear h9; try clear N9
  refine u_cond (fun hb10 => ?_) (fun hb10 => ?_)
  have hnn : t[i]? = none := List.getElem?_eq_none (by have := hb10; (try simp at this); omega)
  rw [qdX_n hnn] at hI
  obtain ⟨rfl, rfl⟩ := erR_e hER hI.symm
  refine vc_pan [] 5 (by rfl) (by rfl) ?_
  simp only [List.take_succ_cons, List.take_zero]
  try refine lg_mk ?_
  iterate 2 refine u_mv ?_
  refine u_nl ?_
  refine u_pt ?_
  refine u_ld ?_
  refine lg_nil ?_
  show PanO _ _ _ _
  have hs := @failG.eq_1
  refine ⟨_, 44, _, _, _, _, _, Spec.gen failG, 29, _, _, _, _, _, [0, 1], rfl, fail_pan, by kernel_rfl, (by first | trivial | simp only [wB, eq_self, Nat.reduceEqDiff, reduceIte, and_true]), (by simp only [map_rules, wB, eq_self, Nat.reduceEqDiff, reduceIte, callS, rd_rules, pureL, cleanD, pure_rules, hs, sc_rules, heap_rules, wL, Int.toNat_natCast, Int.reduceToNat, Nat.reduceAdd, Nat.reduceMul, Nat.reduceSub, Nat.reduceLeDiff, List.mem_cons, List.not_mem_nil, dI_rows, dB_rows, dU_rows, hx, wG, Nat.reduceAdd, Nat.reduceSub, Nat.reduceLT, Nat.reduceLeDiff, if_true, if_false, ite_self, List.mem_append, true_implies, Option.bind_some, List.set_cons_zero, List.set_cons_succ, or_false, false_or]; rfl), (by trivial), ?_⟩
  exact rfl
  have hil : i < t.length := by have := hb10; (try simp at this); omega
  obtain ⟨c, hc⟩ := getE (l := t) (i := i) hil
  rw [qdX_s hc] at hI
  refine vc_skip ?_
  try simp only [k_rules]
  refine h8 _ ?_; clear h8; try clear N8
  refine vc_seq_k fun N11 h11 => ?_
  have hx := And.intro @hc hx0
  refine u_reg ?_
  try refine lg_mk ?_
  refine u_mv ?_
  refine u_nl ?_
  refine u_pt ?_
  refine u_ld ?_
  refine u_mv ?_
  refine u_nl ?_
  refine u_pt ?_
  refine u_ld ?_
  refine u_pt ?_
  refine u_mv ?_
  refine lg_nil ?_
  have hx := hx0
  refine h11 _ ?_; clear h11; try clear N11
  refine vc_seq_k fun N12 h12 => ?_
  refine vc_seq_k fun N13 h13 => ?_
  refine u_reg ?_
  try refine lg_mk ?_
  refine u_mv ?_
  refine u_bn ?_
  refine lg_nil ?_
  refine h13 _ ?_; clear h13; try clear N13
  refine u_cond (fun hb14 => ?_) (fun hb14 => ?_)
  have h34 : c = 34 := by have := hb14; first | exact UInt8.toNat_inj.1 (show c.toNat = 34 by (try simp at this); omega) | (simpa using this)
  rw [if_pos h34] at hI
  obtain ⟨hok, rfl, rfl⟩ := erR_o hER hI.symm
  refine vc_exit ?_
  simp only [k_rules, Nat.reduceEqDiff, reduceIte, eq_self]
  refine h4 _ ?_; clear h4; try clear N4
  refine vc_seq_k fun N15 h15 => ?_
  refine u_reg ?_
  try refine lg_mk ?_
  refine u_mv ?_
  refine u_nl ?_
  refine u_pt ?_
  refine u_ld ?_
  refine u_bn ?_
  refine u_nl ?_
  refine u_pt ?_
  refine u_st ?_
  refine lg_nil ?_
  refine h15 _ ?_; clear h15; try clear N15
  refine vc_seq_k fun N16 h16 => ?_
  refine vc_seq_k fun N17 h17 => ?_
  cases b
  simp only [ndP_f]
  have hx := And.intro @hok hx0
  refine u_reg ?_
  try refine lg_mk ?_
  have hc := call_rule (E := (E_bst.at_ 127)) (f := 96) (sp := Spec.gen bstG) rfl
  have hs := @bstG.eq_1
  refine u_hg ?_
  have hc := call_rule (E := (E_bst.at_ 127)) (f := 62) (sp := Spec.pure isTG) rfl
  have hs := @isTG.eq_1
  refine u_cp ?_
  refine u_un ?_
  refine lg_nil ?_
  have hx := hx0
  refine h17 _ ?_; clear h17; try clear N17
  refine u_cond (fun hb18 => ?_) (fun hb18 => ?_)
  refine vc_pan [] 2 (by rfl) (by rfl) ?_
  simp only [List.take_succ_cons, List.take_zero]
  try refine lg_mk ?_
  iterate 2 refine u_mv ?_
  refine lg_nil ?_
  show PanO _ _ _ _
  have hs := @failG.eq_1
  refine ⟨_, 44, _, _, _, _, _, Spec.gen failG, 29, _, _, _, _, _, [0, 1], rfl, fail_pan, by kernel_rfl, (by first | trivial | simp only [wB, eq_self, Nat.reduceEqDiff, reduceIte, and_true]), (by simp only [map_rules, wB, eq_self, Nat.reduceEqDiff, reduceIte, callS, rd_rules, pureL, cleanD, pure_rules, hs, sc_rules, heap_rules, wL, Int.toNat_natCast, Int.reduceToNat, Nat.reduceAdd, Nat.reduceMul, Nat.reduceSub, Nat.reduceLeDiff, List.mem_cons, List.not_mem_nil, dI_rows, dB_rows, dU_rows, hx, wG, Nat.reduceAdd, Nat.reduceSub, Nat.reduceLT, Nat.reduceLeDiff, if_true, if_false, ite_self, List.mem_append, true_implies, Option.bind_some, List.set_cons_zero, List.set_cons_succ, or_false, false_or]; rfl), (by trivial), ?_⟩
  exact rfl
  ·first | omega | exact absurd trivial hb18 | contradiction | (simp_all; done)
  simp only [ndP_t]
  have hx := And.intro @hok hx0
  refine u_reg ?_
  try refine lg_mk ?_
  have hc := call_rule (E := (E_bst.at_ 127)) (f := 96) (sp := Spec.gen bstG) rfl
  have hs := @bstG.eq_1
  refine u_hg ?_
  have hc := call_rule (E := (E_bst.at_ 127)) (f := 62) (sp := Spec.pure isTG) rfl
  have hs := @isTG.eq_1
  refine u_cp ?_
  refine u_un ?_
  refine lg_nil ?_
  have hx := hx0
  refine h17 _ ?_; clear h17; try clear N17
  refine u_cond (fun hb19 => ?_) (fun hb19 => ?_)
  refine vc_pan [] 2 (by rfl) (by rfl) ?_
  simp only [List.take_succ_cons, List.take_zero]
  try refine lg_mk ?_
  iterate 2 refine u_mv ?_
  refine lg_nil ?_
  show PanO _ _ _ _
  have hs := @failG.eq_1
  refine ⟨_, 44, _, _, _, _, _, Spec.gen failG, 29, _, _, _, _, _, [0, 1], rfl, fail_pan, by kernel_rfl, (by first | trivial | simp only [wB, eq_self, Nat.reduceEqDiff, reduceIte, and_true]), (by simp only [map_rules, wB, eq_self, Nat.reduceEqDiff, reduceIte, callS, rd_rules, pureL, cleanD, pure_rules, hs, sc_rules, heap_rules, wL, Int.toNat_natCast, Int.reduceToNat, Nat.reduceAdd, Nat.reduceMul, Nat.reduceSub, Nat.reduceLeDiff, List.mem_cons, List.not_mem_nil, dI_rows, dB_rows, dU_rows, hx, wG, Nat.reduceAdd, Nat.reduceSub, Nat.reduceLT, Nat.reduceLeDiff, if_true, if_false, ite_self, List.mem_append, true_implies, Option.bind_some, List.set_cons_zero, List.set_cons_succ, or_false, false_or]; rfl), (by trivial), ?_⟩
  exact rfl
  ·first | omega | exact absurd trivial hb19 | contradiction | (simp_all; done)
  have h34 : c ≠ 34 := by intro h; have := hb14; subst h; simp at this
  rw [if_neg h34] at hI
  refine vc_skip ?_
  try simp only [k_rules]
  refine h12 _ ?_; clear h12; try clear N12
  refine vc_seq_k fun N20 h20 => ?_
  refine vc_seq_k fun N21 h21 => ?_
  refine u_reg ?_
  try refine lg_mk ?_
  refine u_mv ?_
  refine u_bn ?_
  refine lg_nil ?_
  refine h21 _ ?_; clear h21; try clear N21
  refine u_cond (fun hb22 => ?_) (fun hb22 => ?_)
  have h10 : c = 10 := by have := hb22; first | exact UInt8.toNat_inj.1 (show c.toNat = 10 by (try simp at this); omega) | (simpa using this)
  rw [if_pos h10] at hI
  obtain ⟨rfl, rfl⟩ := erR_e hER hI.symm
  refine vc_pan [] 5 (by rfl) (by rfl) ?_
  simp only [List.take_succ_cons, List.take_zero]
  try refine lg_mk ?_
  iterate 2 refine u_mv ?_
  refine u_nl ?_
  refine u_pt ?_
  refine u_ld ?_
  refine lg_nil ?_
  show PanO _ _ _ _
  have hs := @failG.eq_1
  refine ⟨_, 44, _, _, _, _, _, Spec.gen failG, 29, _, _, _, _, _, [0, 1], rfl, fail_pan, by kernel_rfl, (by first | trivial | simp only [wB, eq_self, Nat.reduceEqDiff, reduceIte, and_true]), (by simp only [map_rules, wB, eq_self, Nat.reduceEqDiff, reduceIte, callS, rd_rules, pureL, cleanD, pure_rules, hs, sc_rules, heap_rules, wL, Int.toNat_natCast, Int.reduceToNat, Nat.reduceAdd, Nat.reduceMul, Nat.reduceSub, Nat.reduceLeDiff, List.mem_cons, List.not_mem_nil, dI_rows, dB_rows, dU_rows, hx, wG, Nat.reduceAdd, Nat.reduceSub, Nat.reduceLT, Nat.reduceLeDiff, if_true, if_false, ite_self, List.mem_append, true_implies, Option.bind_some, List.set_cons_zero, List.set_cons_succ, or_false, false_or]; rfl), (by trivial), ?_⟩
  exact rfl
  have h10 : c ≠ 10 := by intro h; have := hb22; subst h; simp at this
  rw [if_neg h10] at hI
  refine vc_skip ?_
  try simp only [k_rules]
  refine h20 _ ?_; clear h20; try clear N20
  refine vc_seq_k fun N23 h23 => ?_
  refine vc_seq_k fun N24 h24 => ?_
  refine u_reg ?_
  try refine lg_mk ?_
  refine u_mv ?_
  refine u_bn ?_
  refine lg_nil ?_
  refine h24 _ ?_; clear h24; try clear N24
  refine u_cond (fun hb25 => ?_) (fun hb25 => ?_)
  have h92 : c = 92 := by have := hb25; first | exact UInt8.toNat_inj.1 (show c.toNat = 92 by (try simp at this); omega) | (simpa using this)
  rw [if_pos h92] at hI
  have hi1 : ((i : Int) + 1).toNat = i + 1 := by omega
  refine vc_seq_k fun N26 h26 => ?_
  refine vc_seq_k fun N27 h27 => ?_
  refine u_reg ?_
  try refine lg_mk ?_
  refine u_mv ?_
  refine u_nl ?_
  refine u_pt ?_
  refine u_ld ?_
  refine u_bn ?_
  refine u_mv ?_
  refine u_nl ?_
  refine u_pt ?_
  refine u_ld ?_
  refine u_ln ?_
  refine u_bn ?_
  refine lg_nil ?_
  refine h27 _ ?_; clear h27; try clear N27
  refine u_cond (fun hb28 => ?_) (fun hb28 => ?_)
  have hnn : t[i + 1]? = none := List.getElem?_eq_none (by have := hb28; (try simp at this); omega)
  rw [hnn] at hI
  obtain ⟨rfl, rfl⟩ := erR_e hER hI.symm
  refine vc_pan [] 6 (by rfl) (by rfl) ?_
  simp only [List.take_succ_cons, List.take_zero]
  try refine lg_mk ?_
  iterate 2 refine u_mv ?_
  refine u_nl ?_
  refine u_pt ?_
  refine u_ld ?_
  refine u_ln ?_
  refine lg_nil ?_
  show PanO _ _ _ _
  have hs := @failG.eq_1
  refine ⟨_, 44, _, _, _, _, _, Spec.gen failG, 29, _, _, _, _, _, [0, 1], rfl, fail_pan, by kernel_rfl, (by first | trivial | simp only [wB, eq_self, Nat.reduceEqDiff, reduceIte, and_true]), (by simp only [map_rules, wB, eq_self, Nat.reduceEqDiff, reduceIte, callS, rd_rules, pureL, cleanD, pure_rules, hs, sc_rules, heap_rules, wL, Int.toNat_natCast, Int.reduceToNat, Nat.reduceAdd, Nat.reduceMul, Nat.reduceSub, Nat.reduceLeDiff, List.mem_cons, List.not_mem_nil, dI_rows, dB_rows, dU_rows, hx, wG, Nat.reduceAdd, Nat.reduceSub, Nat.reduceLT, Nat.reduceLeDiff, if_true, if_false, ite_self, List.mem_append, true_implies, Option.bind_some, List.set_cons_zero, List.set_cons_succ, or_false, false_or]; rfl), (by trivial), ?_⟩
  exact rfl
  have hd1 : i + 1 < t.length := by have := hb28; (try simp at this); omega
  obtain ⟨d, hd⟩ := getE (l := t) (i := i + 1) hd1
  rw [hd] at hI
  dsimp only at hI
  refine vc_skip ?_
  try simp only [k_rules]
  refine h26 _ ?_; clear h26; try clear N26
  refine vc_seq_k fun N29 h29 => ?_
  refine vc_seq_k fun N30 h30 => ?_
  have hx := And.intro @hi1 (And.intro @hd hx0)
  refine u_reg ?_
  try refine lg_mk ?_
  refine u_mv ?_
  refine u_nl ?_
  refine u_pt ?_
  refine u_ld ?_
  refine u_mv ?_
  refine u_nl ?_
  refine u_pt ?_
  refine u_ld ?_
  refine u_bn ?_
  refine u_pt ?_
  refine u_mv ?_
  refine lg_nil ?_
  have hx := hx0
  refine h30 _ ?_; clear h30; try clear N30
  refine vc_seq_k fun N31 h31 => ?_
  rcases (show d = 34 ∨ d = 92 ∨ (d ≠ 34 ∧ d ≠ 92) by by_cases h1 : d = 34; exact .inl h1; by_cases h2 : d = 92; exact .inr (.inl h2); exact .inr (.inr ⟨h1, h2⟩)) with rfl | rfl | ⟨n3, n9⟩
  rw [if_pos (by decide)] at hI
  have hn := hI
  have g3 := True.intro
  have g9 := True.intro
  have hx := And.intro @g3 (And.intro @g9 hx0)
  refine u_reg ?_
  try refine lg_mk ?_
  refine u_mv ?_
  refine u_bn ?_
  refine u_mv ?_
  refine lg_g0 ?_ ?_
  focus (exact gt_)
  refine lg_g0 ?_ ?_
  focus (exact gt_)
  refine u_pk ?_
  refine lg_nil ?_
  have hx := hx0
  refine h31 _ ?_; clear h31; try clear N31
  refine u_cond (fun hb32 => ?_) (fun hb32 => ?_)
  ·first | omega | exact absurd trivial hb32 | contradiction | (simp_all; done)
  refine vc_skip ?_
  try simp only [k_rules]
  refine h29 _ ?_; clear h29; try clear N29
  refine u_reg ?_
  try refine lg_mk ?_
  refine u_mv ?_
  refine u_nl ?_
  refine u_pt ?_
  refine u_ld ?_
  refine u_bn ?_
  refine u_nl ?_
  refine u_pt ?_
  refine u_st ?_
  refine lg_nil ?_
  refine h23 _ ?_; clear h23; try clear N23
  cases b
  simp only [ndP_f]
  refine u_reg ?_
  try refine lg_mk ?_
  refine u_mv ?_
  have hc := call_rule (E := (E_bst.at_ 127)) (f := 95) (sp := Spec.gen wbG) rfl
  have hs := @wbG.eq_1
  refine u_hg (hq := by (first | ((refine ⟨rfl, ?_, ?_, by omega⟩ <;> first | (have := c.toNat_lt; omega) | decide)) | exact sd_)) ?_
  refine lg_nil ?_
  refine h7 _ ?_; clear h7; try clear N7
  refine u_reg ?_
  try refine lg_mk ?_
  refine u_mv ?_
  refine u_nl ?_
  refine u_pt ?_
  refine u_ld ?_
  refine u_bn ?_
  refine u_nl ?_
  refine u_pt ?_
  refine u_st ?_
  refine lg_nil ?_
  refine h6 _ ⟨(i + 2, s2 ++ [34], true, g0), ?_, ?_, [some 0, some 1, some 2, some 4], ?_⟩
  dsimp only
  exact ⟨hn, by omega, by omega, by simp; omega, by omega⟩
  dsimp only
  omega
  dsimp only
  refine ⟨by rfl, ?_, ?_⟩
  refine fin_ ?_
  ·(repeat' apply And.intro) <;> (first | (simp only [ndP_t, List.length_append, List.length_singleton]; exact cl_) | exact cl_)
  refine fin_ ?_
  ·(repeat' apply And.intro) <;> (first | (simp only [ndP_t, List.length_append, List.length_singleton]; exact cl_) | exact cl_)
  simp only [ndP_t]
  refine u_reg ?_
  try refine lg_mk ?_
  refine u_mv ?_
  have hc := call_rule (E := (E_bst.at_ 127)) (f := 95) (sp := Spec.gen wbG) rfl
  have hs := @wbG.eq_1
  refine u_hg (hq := by (first | ((refine ⟨rfl, ?_, ?_, by omega⟩ <;> first | (have := c.toNat_lt; omega) | decide)) | exact sd_)) ?_
  refine lg_nil ?_
  refine h7 _ ?_; clear h7; try clear N7
  refine u_reg ?_
  try refine lg_mk ?_
  refine u_mv ?_
  refine u_nl ?_
  refine u_pt ?_
  refine u_ld ?_
  refine u_bn ?_
  refine u_nl ?_
  refine u_pt ?_
  refine u_st ?_
  refine lg_nil ?_
  refine h6 _ ⟨(i + 2, s2 ++ [34], true, g0), ?_, ?_, [some 0, some 1, some 2, some 4], ?_⟩
  dsimp only
  exact ⟨hn, by omega, by omega, by simp; omega, by omega⟩
  dsimp only
  omega
  dsimp only
  refine ⟨by rfl, ?_, ?_⟩
  refine fin_ ?_
  ·(repeat' apply And.intro) <;> (first | (simp only [ndP_t, List.length_append, List.length_singleton]; exact cl_) | exact cl_)
  refine fin_ ?_
  ·(repeat' apply And.intro) <;> (first | (simp only [ndP_t, List.length_append, List.length_singleton]; exact cl_) | exact cl_)
  rw [if_pos (by decide)] at hI
  have hn := hI
  have g3 := True.intro
  have g9 := True.intro
  have hx := And.intro @g3 (And.intro @g9 hx0)
  refine u_reg ?_
  try refine lg_mk ?_
  refine u_mv ?_
  refine u_bn ?_
  refine u_mv ?_
  refine v_mv ?_
  refine v_bn ?_
  refine u_pk ?_
  refine lg_nil ?_
  have hx := hx0
  refine h31 _ ?_; clear h31; try clear N31
  refine u_cond (fun hb33 => ?_) (fun hb33 => ?_)
  ·first | omega | exact absurd trivial hb33 | contradiction | (simp_all; done)
  refine vc_skip ?_
  try simp only [k_rules]
  refine h29 _ ?_; clear h29; try clear N29
  refine u_reg ?_
  try refine lg_mk ?_
  refine u_mv ?_
  refine u_nl ?_
  refine u_pt ?_
  refine u_ld ?_
  refine u_bn ?_
  refine u_nl ?_
  refine u_pt ?_
  refine u_st ?_
  refine lg_nil ?_
  refine h23 _ ?_; clear h23; try clear N23
  cases b
  simp only [ndP_f]
  refine u_reg ?_
  try refine lg_mk ?_
  refine u_mv ?_
  have hc := call_rule (E := (E_bst.at_ 127)) (f := 95) (sp := Spec.gen wbG) rfl
  have hs := @wbG.eq_1
  refine u_hg (hq := by (first | ((refine ⟨rfl, ?_, ?_, by omega⟩ <;> first | (have := c.toNat_lt; omega) | decide)) | exact sd_)) ?_
  refine lg_nil ?_
  refine h7 _ ?_; clear h7; try clear N7
  refine u_reg ?_
  try refine lg_mk ?_
  refine u_mv ?_
  refine u_nl ?_
  refine u_pt ?_
  refine u_ld ?_
  refine u_bn ?_
  refine u_nl ?_
  refine u_pt ?_
  refine u_st ?_
  refine lg_nil ?_
  refine h6 _ ⟨(i + 2, s2 ++ [92], true, g0), ?_, ?_, [some 0, some 1, some 2, some 4], ?_⟩
  dsimp only
  exact ⟨hn, by omega, by omega, by simp; omega, by omega⟩
  dsimp only
  omega
  dsimp only
  refine ⟨by rfl, ?_, ?_⟩
  refine fin_ ?_
  ·(repeat' apply And.intro) <;> (first | (simp only [ndP_t, List.length_append, List.length_singleton]; exact cl_) | exact cl_)
  refine fin_ ?_
  ·(repeat' apply And.intro) <;> (first | (simp only [ndP_t, List.length_append, List.length_singleton]; exact cl_) | exact cl_)
  simp only [ndP_t]
  refine u_reg ?_
  try refine lg_mk ?_
  refine u_mv ?_
  have hc := call_rule (E := (E_bst.at_ 127)) (f := 95) (sp := Spec.gen wbG) rfl
  have hs := @wbG.eq_1
  refine u_hg (hq := by (first | ((refine ⟨rfl, ?_, ?_, by omega⟩ <;> first | (have := c.toNat_lt; omega) | decide)) | exact sd_)) ?_
  refine lg_nil ?_
  refine h7 _ ?_; clear h7; try clear N7
  refine u_reg ?_
  try refine lg_mk ?_
  refine u_mv ?_
  refine u_nl ?_
  refine u_pt ?_
  refine u_ld ?_
  refine u_bn ?_
  refine u_nl ?_
  refine u_pt ?_
  refine u_st ?_
  refine lg_nil ?_
  refine h6 _ ⟨(i + 2, s2 ++ [92], true, g0), ?_, ?_, [some 0, some 1, some 2, some 4], ?_⟩
  dsimp only
  exact ⟨hn, by omega, by omega, by simp; omega, by omega⟩
  dsimp only
  omega
  dsimp only
  refine ⟨by rfl, ?_, ?_⟩
  refine fin_ ?_
  ·(repeat' apply And.intro) <;> (first | (simp only [ndP_t, List.length_append, List.length_singleton]; exact cl_) | exact cl_)
  refine fin_ ?_
  ·(repeat' apply And.intro) <;> (first | (simp only [ndP_t, List.length_append, List.length_singleton]; exact cl_) | exact cl_)
  rw [if_neg (by rintro (h | h); exact n3 h; exact n9 h)] at hI
  obtain ⟨rfl, rfl⟩ := erR_e hER hI.symm
  have g3 : ((d.toNat : Int) = 34) = False := eq_false fun h => n3 (u8_eq (d := 34) h)
  have g9 : ((d.toNat : Int) = 92) = False := eq_false fun h => n9 (u8_eq (d := 92) h)
  have hx := And.intro @g3 (And.intro @g9 hx0)
  refine u_reg ?_
  try refine lg_mk ?_
  refine u_mv ?_
  refine u_bn ?_
  refine u_mv ?_
  refine v_mv ?_
  refine v_bn ?_
  refine u_pk ?_
  refine lg_nil ?_
  have hx := hx0
  refine h31 _ ?_; clear h31; try clear N31
  refine u_cond (fun hb34 => ?_) (fun hb34 => ?_)
  refine vc_pan [] 5 (by rfl) (by rfl) ?_
  simp only [List.take_succ_cons, List.take_zero]
  try refine lg_mk ?_
  iterate 2 refine u_mv ?_
  refine u_nl ?_
  refine u_pt ?_
  refine u_ld ?_
  refine lg_nil ?_
  show PanO _ _ _ _
  have hs := @failG.eq_1
  refine ⟨_, 44, _, _, _, _, _, Spec.gen failG, 29, _, _, _, _, _, [0, 1], rfl, fail_pan, by kernel_rfl, (by first | trivial | simp only [wB, eq_self, Nat.reduceEqDiff, reduceIte, and_true]), (by simp only [map_rules, wB, eq_self, Nat.reduceEqDiff, reduceIte, callS, rd_rules, pureL, cleanD, pure_rules, hs, sc_rules, heap_rules, wL, Int.toNat_natCast, Int.reduceToNat, Nat.reduceAdd, Nat.reduceMul, Nat.reduceSub, Nat.reduceLeDiff, List.mem_cons, List.not_mem_nil, dI_rows, dB_rows, dU_rows, hx, wG, Nat.reduceAdd, Nat.reduceSub, Nat.reduceLT, Nat.reduceLeDiff, if_true, if_false, ite_self, List.mem_append, true_implies, Option.bind_some, List.set_cons_zero, List.set_cons_succ, or_false, false_or]; rfl), (by trivial), ?_⟩
  exact rfl
  ·first | omega | exact absurd trivial hb34 | contradiction | (simp_all; done)
  have h92 : c ≠ 92 := by intro h; have := hb25; subst h; simp at this
  rw [if_neg h92] at hI
  have hn := hI
  refine vc_skip ?_
  try simp only [k_rules]
  refine h23 _ ?_; clear h23; try clear N23
  cases b
  simp only [ndP_f]
  refine u_reg ?_
  try refine lg_mk ?_
  refine u_mv ?_
  have hc := call_rule (E := (E_bst.at_ 127)) (f := 95) (sp := Spec.gen wbG) rfl
  have hs := @wbG.eq_1
  refine u_hg (hq := by (first | ((refine ⟨rfl, ?_, ?_, by omega⟩ <;> first | (have := c.toNat_lt; omega) | decide)) | exact sd_)) ?_
  refine lg_nil ?_
  refine h7 _ ?_; clear h7; try clear N7
  refine u_reg ?_
  try refine lg_mk ?_
  refine u_mv ?_
  refine u_nl ?_
  refine u_pt ?_
  refine u_ld ?_
  refine u_bn ?_
  refine u_nl ?_
  refine u_pt ?_
  refine u_st ?_
  refine lg_nil ?_
  refine h6 _ ⟨(i + 1, s2 ++ [c], true, g0), ?_, ?_, [some 0, some 1, some 2, some 4], ?_⟩
  dsimp only
  exact ⟨hn, by omega, by omega, by simp; omega, by omega⟩
  dsimp only
  omega
  dsimp only
  refine ⟨by rfl, ?_, ?_⟩
  refine fin_ ?_
  ·(repeat' apply And.intro) <;> (first | (simp only [ndP_t, List.length_append, List.length_singleton]; exact cl_) | exact cl_)
  refine fin_ ?_
  ·(repeat' apply And.intro) <;> (first | (simp only [ndP_t, List.length_append, List.length_singleton]; exact cl_) | exact cl_)
  simp only [ndP_t]
  refine u_reg ?_
  try refine lg_mk ?_
  refine u_mv ?_
  have hc := call_rule (E := (E_bst.at_ 127)) (f := 95) (sp := Spec.gen wbG) rfl
  have hs := @wbG.eq_1
  refine u_hg (hq := by (first | ((refine ⟨rfl, ?_, ?_, by omega⟩ <;> first | (have := c.toNat_lt; omega) | decide)) | exact sd_)) ?_
  refine lg_nil ?_
  refine h7 _ ?_; clear h7; try clear N7
  refine u_reg ?_
  try refine lg_mk ?_
  refine u_mv ?_
  refine u_nl ?_
  refine u_pt ?_
  refine u_ld ?_
  refine u_bn ?_
  refine u_nl ?_
  refine u_pt ?_
  refine u_st ?_
  refine lg_nil ?_
  refine h6 _ ⟨(i + 1, s2 ++ [c], true, g0), ?_, ?_, [some 0, some 1, some 2, some 4], ?_⟩
  dsimp only
  exact ⟨hn, by omega, by omega, by simp; omega, by omega⟩
  dsimp only
  omega
  dsimp only
  refine ⟨by rfl, ?_, ?_⟩
  refine fin_ ?_
  ·(repeat' apply And.intro) <;> (first | (simp only [ndP_t, List.length_append, List.length_singleton]; exact cl_) | exact cl_)
  refine fin_ ?_
  ·(repeat' apply And.intro) <;> (first | (simp only [ndP_t, List.length_append, List.length_singleton]; exact cl_) | exact cl_)
  cases hg
end Go.Proofs.YtmbjnkgpcbpclaaGreat
