/- Walks, printed by wip/gen/walk.py. -/
import Derived.Test.YtlbjffdaooadoaaDoorT19
import Derived.Test.YtlbjffdaooadoaaDoorV6
import Derived.Test.YtlbjffdaooadoaaDoorV5
set_option linter.all false
set_option maxRecDepth 100000
set_option maxHeartbeats 4000000
namespace Go.Proofs.YtlbjffdaooadoaaDoor
open Go Go.Vc Go.RowKit
def chkG : GFun
  | [.agg [.d (.int .i64 a), .d (.int .i64 b), .d (.int .i64 c), .d (.int .i64 e)], .d (.int .i64 i), .sl 0 0 m], [some (.vec t s xs)] => some (xs = rows eI (dI xs) ∧ t = 3 ∧ s = 1 ∧ m = (dI xs).length ∧ (dI xs).length ≤ 1000, .d (.int .i64 (ndC ⟨a, b, c, e⟩ (dI xs))), [some (.vec 3 1 (rows eI (dI xs)))])
  | _, _ => none
theorem want_is (l : List Int) {k : Nat} (h : k ≤ l.length) (h2 : k ≤ 2) : splice [[D.int .i64 0], [D.int .i64 0]] 0 (rows eI (List.take 2 (List.take k (List.drop (l.length - k) l)))) = [[.int .i64 (wnt l k 0)], [.int .i64 (wnt l k 1)]] := by
  have hl : (l.drop (l.length - k)).length = k := by rw [List.length_drop]; omega
  rw [List.take_of_length_le (l := List.drop _ l) (by omega), List.take_of_length_le (by omega)]
  unfold wnt
  generalize l.drop (l.length - k) = r at hl ⊢
  match k, h2, r, hl with
  | 0, _, [], _ => rfl
  | 1, _, [a], _ => rfl
  | 2, _, [a, b], _ => rfl

theorem chk_meets : Meets Tryd.prog 51 (Spec.gen chkG) := by
 refine meets_handed (E_runq.at_ 58) Tryd.func51 rfl rfl rfl ?_
 intro args bl p r bf hg hp
 unfold chkG at hg
 split at hg
 rename_i a b c e i m t s xs
 simp only [Option.some.injEq, Prod.mk.injEq] at hg
 obtain ⟨rfl, rfl, rfl⟩ := hg
 obtain ⟨he, rfl, rfl, rfl, hl⟩ := hp
 generalize dI xs = l at *
 subst he
 have hT : (E_runq).X = T := rfl
 have hx0 := And.intro @dI_rows (And.intro @dec_t (And.intro @dec_f @Tryd.results51))
 have hx := hx0
 refine ⟨Nat.le_of_ble_eq_true rfl, ?_⟩
 intro F W0 M0 hnp hmk
 have hnp : Far.np = 1 := hnp
 refine vc_seq_k fun N1 h1 => ?_
 refine u_reg ?_
 try refine lg_mk ?_
 refine u_bx (hq := by exact so_) ?_
 refine u_mv (hq := by exact so_) ?_
 refine lg_nil ?_
 refine h1 _ ?_; clear h1; try clear N1
 refine vc_seq_k fun N2 h2 => ?_
 refine u_reg ?_
 try refine lg_mk ?_
 refine u_pt (hq := by exact so_) ?_
 refine u_ld (hq := by exact so_) ?_
 have hc := call_rule (E := (E_runq.at_ 58)) (f := 47) (sp := Spec.pure arG) rfl
 have hs := @arG.eq_1
 refine u_cp (hq := by exact so_) ?_
 refine u_mv (hq := by exact so_) ?_
 refine lg_nil ?_
 refine h2 _ ?_; clear h2; try clear N2
 refine vc_seq_k fun N3 h3 => ?_
 refine vc_block ?_
 refine vc_seq_k fun N4 h4 => ?_
 refine u_reg ?_
 try refine lg_mk ?_
 refine u_pt (hq := by exact so_) ?_
 refine u_ld (hq := by exact so_) ?_
 refine u_bn (hq := by exact so_) ?_
 refine u_mv (hq := by exact so_) ?_
 refine s_pt (hq := by exact si_) ?_
 refine s_ld (hq := by exact si_) ?_
 refine s_bn (hq := by exact si_) ?_
 refine u_pk (hq := by exact so_) ?_
 refine u_mv (hq := by exact so_) ?_
 refine lg_nil ?_
 refine h4 _ ?_; clear h4; try clear N4
 refine u_cond (fun hb5 => ?_) (fun hb5 => ?_)
 have g1 : a < 1 ∨ 16 < a := by have := hb5; simpa using this
 refine vc_seq_k fun N6 h6 => ?_
 refine u_reg ?_
 try refine lg_mk ?_
 refine u_mv (hq := by exact so_) ?_
 refine lg_nil ?_
 refine h6 _ ?_; clear h6; try clear N6
 refine vc_ret ?_
 try simp only [k_rules]
 have hr : ndC ⟨a, b, c, e⟩ l = 4 := by
  unfold ndC; dsimp only; rw [if_pos g1]
 rw [hr]
 refine fin_ ?_
 refine ⟨[some 0], by rfl, ?_, ?_⟩
 refine fin_ ?_
 exact cl_
 refine fin_ ?_
 exact cl_
 have g1 : ¬(a < 1 ∨ 16 < a) := by have := hb5; simpa using this
 refine vc_seq_k fun N7 h7 => ?_
 refine vc_regG [75] hmix (by kernel_rfl) ?_
 try refine lg_mk ?_
 refine u_pt (hq := by exact so_) ?_
 refine u_ld (hq := by exact so_) ?_
 refine u_bn (hq := by exact so_) ?_
 refine u_mv (hq := by exact so_) ?_
 refine s_pt (hq := by exact si_) ?_
 refine s_ld (hq := by exact si_) ?_
 refine s_pt (hq := by exact si_) ?_
 refine s_ld (hq := by exact si_) ?_
 have hc := call_rule (E := (E_runq.at_ 58)) (f := 75) (sp := Spec.pure mostG) rfl
 have hs := @mostG.eq_1
 refine s_cp (hq := by exact si_) ?_
 refine s_bn (hq := by exact si_) ?_
 refine u_pk (hq := by exact so_) ?_
 refine u_mv (hq := by exact so_) ?_
 refine lg_nil ?_
 refine h7 _ ?_; clear h7; try clear N7
 refine u_cond (fun hb8 => ?_) (fun hb8 => ?_)
 have g2 : b < 0 ∨ mostN a < b := by have := hb8; simpa using this
 refine vc_seq_k fun N9 h9 => ?_
 refine u_reg ?_
 try refine lg_mk ?_
 refine u_mv (hq := by exact so_) ?_
 refine lg_nil ?_
 refine h9 _ ?_; clear h9; try clear N9
 refine vc_ret ?_
 try simp only [k_rules]
 have hr : ndC ⟨a, b, c, e⟩ l = 3 := by
  unfold ndC; dsimp only; rw [if_neg g1, if_pos g2]
 rw [hr]
 refine fin_ ?_
 refine ⟨[some 0], by rfl, ?_, ?_⟩
 refine fin_ ?_
 exact cl_
 refine fin_ ?_
 exact cl_
 have g2 : ¬(b < 0 ∨ mostN a < b) := by have := hb8; simpa using this
 refine vc_seq_k fun N10 h10 => ?_
 refine u_reg ?_
 try refine lg_mk ?_
 refine u_mv (hq := by exact so_) ?_
 refine u_ln (hq := by exact so_) ?_
 refine u_mv (hq := by exact so_) ?_
 refine u_bn (hq := by exact so_) ?_
 refine u_mv (hq := by exact so_) ?_
 refine lg_nil ?_
 refine h10 _ ?_; clear h10; try clear N10
 refine u_cond (fun hb11 => ?_) (fun hb11 => ?_)
 refine vc_seq_k fun N12 h12 => ?_
 refine u_reg ?_
 try refine lg_mk ?_
 refine u_mv (hq := by exact so_) ?_
 refine lg_nil ?_
 refine h12 _ ?_; clear h12; try clear N12
 refine vc_ret ?_
 try simp only [k_rules]
 have hr : ndC ⟨a, b, c, e⟩ l = 5 := by
  unfold ndC; dsimp only; rw [if_neg g1, if_neg g2, if_pos (by have := hb11; (try simp at this); omega)]
 rw [hr]
 refine fin_ ?_
 refine ⟨[some 0], by rfl, ?_, ?_⟩
 refine fin_ ?_
 exact cl_
 refine fin_ ?_
 exact cl_
 have hkl : ar a ≤ l.length := by have := hb11; (try simp at this); omega
 have hk2 : ar a ≤ 2 := by rcases ar_or a with ⟨_, h⟩ | ⟨_, _, h⟩ | ⟨_, h⟩ <;> omega
 have hwt := want_is l hkl hk2
 have hsu : ((l.length : Int) - (ar a : Int)).toNat = l.length - ar a := by omega
 have hss : l.length - (l.length - ar a) = ar a := by omega
 refine vc_skip ?_
 try simp only [k_rules]
 refine h3 _ ?_; clear h3; try clear N3
 refine vc_seq_k fun N13 h13 => ?_
 refine u_reg ?_
 try refine lg_mk ?_
 refine lg_sem (by rfl) (sem_allocFull (by first | (simp only [wB, eq_self, Nat.reduceEqDiff, reduceIte, env_rules, tys, hT, tiAgg]; done) | (simp only [wB, eq_self, Nat.reduceEqDiff, reduceIte, env_rules, tys, hT, tiAgg]; rfl)) (by simp only [List.map]; rfl) (by simp) (by decide) (by decide) ?_)
 try simp only [wB, eq_self, Nat.reduceEqDiff, reduceIte, wL, Int.toNat_natCast, Int.reduceToNat, Nat.reduceAdd, Nat.reduceMul, Nat.reduceSub, Nat.reduceLeDiff, hx]
 refine lg_nil ?_
 refine h13 _ ?_; clear h13; try clear N13
 refine vc_seq_k fun N14 h14 => ?_
 have hx := And.intro @hsu (And.intro @hss hx0)
 refine u_reg ?_
 try refine lg_mk ?_
 refine lg_semV (by rfl) (semv_arr (by first | (simp only [wB, eq_self, Nat.reduceEqDiff, reduceIte]; done) | (simp only [wB, eq_self, Nat.reduceEqDiff, reduceIte]; rfl)) (by first | trivial | simp only [wB, eq_self, Nat.reduceEqDiff, reduceIte]) (by simp only [wB, eq_self, Nat.reduceEqDiff, reduceIte]; rfl) (by first | (simp only [wB, eq_self, Nat.reduceEqDiff, reduceIte, env_rules, tys, hT, tiAgg]; done) | (simp only [wB, eq_self, Nat.reduceEqDiff, reduceIte, env_rules, tys, hT, tiAgg]; rfl)) (by first | (simp only [wB, eq_self, Nat.reduceEqDiff, reduceIte, env_rules, tys, hT, tiAgg]; done) | (simp only [wB, eq_self, Nat.reduceEqDiff, reduceIte, env_rules, tys, hT, tiAgg]; rfl)) rfl (by decide)) ?_
 try simp only [wB, eq_self, Nat.reduceEqDiff, reduceIte, wL, Int.toNat_natCast, Int.reduceToNat, Nat.reduceAdd, Nat.reduceMul, Nat.reduceSub, Nat.reduceLeDiff, hx]
 iterate 2 refine u_mv (hq := by exact so_) ?_
 refine u_ln (hq := by exact so_) ?_
 refine u_mv (hq := by exact so_) ?_
 refine u_bn (hq := by exact so_) ?_
 refine u_sl (hq := by exact so_) ?_
 refine lg_sem (by rfl) (sem_unfull (id := 2) (by simp only [wB, eq_self, Nat.reduceEqDiff, reduceIte]; rfl) (sem_copy (by first | (simp only [wB, eq_self, Nat.reduceEqDiff, reduceIte]; done) | (simp only [wB, eq_self, Nat.reduceEqDiff, reduceIte]; rfl)) (by first | trivial | simp only [wB, eq_self, Nat.reduceEqDiff, reduceIte]) (by simp only [heap_rules, wB, eq_self, Nat.reduceEqDiff, reduceIte]; rfl) (by first | (simp only [wB, eq_self, Nat.reduceEqDiff, reduceIte, env_rules, tys, hT, tiAgg]; done) | (simp only [wB, eq_self, Nat.reduceEqDiff, reduceIte, env_rules, tys, hT, tiAgg]; rfl)) (by first | (simp only [wB, eq_self, Nat.reduceEqDiff, reduceIte, env_rules, tys, hT, tiAgg]; done) | (simp only [wB, eq_self, Nat.reduceEqDiff, reduceIte, env_rules, tys, hT, tiAgg]; rfl)) rfl (by first | (simp only [wB, eq_self, Nat.reduceEqDiff, reduceIte]; done) | (simp only [wB, eq_self, Nat.reduceEqDiff, reduceIte]; rfl)) (by first | trivial | simp only [wB, eq_self, Nat.reduceEqDiff, reduceIte]) (by simp only [rowsSrc, heap_rules, wB, eq_self, Nat.reduceEqDiff, reduceIte, wL, Int.toNat_natCast, Int.reduceToNat, Nat.reduceAdd, Nat.reduceMul, Nat.reduceSub, Nat.reduceLeDiff, hx]; rfl) (by (first | (first | omega | decide | exact rows_rect (f := eI) (fun _ => rfl) _) | exact sd_)) (by (first | (first | omega | decide | exact rows_rect (f := eI) (fun _ => rfl) _) | exact sd_)) (by (first | (first | omega | decide | exact rows_rect (f := eI) (fun _ => rfl) _) | exact sd_)) ?_))
 try simp only [heap_rules, wB, eq_self, Nat.reduceEqDiff, reduceIte, wL, Int.toNat_natCast, Int.reduceToNat, Nat.reduceAdd, Nat.reduceMul, Nat.reduceSub, Nat.reduceLeDiff, hx]
 refine lg_nil ?_
 have hx := hx0
 refine h14 _ ?_; clear h14; try clear N14
 refine vc_seq_k fun N15 h15 => ?_
 refine vc_seq_k fun N16 h16 => ?_
 rcases (show (c = wnt l (ar a) 0 ∧ e = wnt l (ar a) 1) ∨ (c = wnt l (ar a) 0 ∧ e ≠ wnt l (ar a) 1) ∨ c ≠ wnt l (ar a) 0 by by_cases h : c = wnt l (ar a) 0 <;> by_cases h' : e = wnt l (ar a) 1 <;> simp [h, h']) with ⟨e1, e2⟩ | ⟨e1, e2⟩ | e1
 have f1 : (c = wnt l (ar a) 0) = True := eq_true e1
 have f2 : (e = wnt l (ar a) 1) = True := eq_true e2
 have hx := And.intro @f1 (And.intro @f2 (And.intro @hwt hx0))
 refine u_reg ?_
 try refine lg_mk ?_
 refine u_pt (hq := by exact so_) ?_
 refine u_ld (hq := by exact so_) ?_
 refine u_pt (hq := by exact so_) ?_
 refine u_ld (hq := by exact so_) ?_
 refine u_bn (hq := by exact so_) ?_
 refine u_mv (hq := by exact so_) ?_
 refine s_pt (hq := by exact si_) ?_
 refine s_ld (hq := by exact si_) ?_
 refine s_pt (hq := by exact si_) ?_
 refine s_ld (hq := by exact si_) ?_
 refine s_bn (hq := by exact si_) ?_
 refine u_pk (hq := by exact so_) ?_
 refine lg_nil ?_
 have hx := hx0
 refine h16 _ ?_; clear h16; try clear N16
 refine u_cond (fun hb17 => ?_) (fun hb17 => ?_)
 ·first | omega | exact absurd trivial hb17 | contradiction | (simp_all; done)
 refine vc_skip ?_
 try simp only [k_rules]
 refine h15 _ ?_; clear h15; try clear N15
 refine vc_seq_k fun N18 h18 => ?_
 refine u_reg ?_
 try refine lg_mk ?_
 refine u_mv (hq := by exact so_) ?_
 refine lg_nil ?_
 refine h18 _ ?_; clear h18; try clear N18
 refine vc_ret ?_
 try simp only [k_rules]
 have hr : ndC ⟨a, b, c, e⟩ l = 0 := by
  unfold ndC; dsimp only; rw [if_neg g1, if_neg g2, if_neg (by omega), if_pos ⟨e1, e2⟩]
 rw [hr]
 refine fin_ ?_
 refine ⟨[some 0], by rfl, ?_, ?_⟩
 refine fin_ ?_
 exact cl_
 refine fin_ ?_
 exact cl_
 have f1 : (c = wnt l (ar a) 0) = True := eq_true e1
 have f2 : (e = wnt l (ar a) 1) = False := eq_false e2
 have hx := And.intro @f1 (And.intro @f2 (And.intro @hwt hx0))
 refine u_reg ?_
 try refine lg_mk ?_
 refine u_pt (hq := by exact so_) ?_
 refine u_ld (hq := by exact so_) ?_
 refine u_pt (hq := by exact so_) ?_
 refine u_ld (hq := by exact so_) ?_
 refine u_bn (hq := by exact so_) ?_
 refine u_mv (hq := by exact so_) ?_
 refine s_pt (hq := by exact si_) ?_
 refine s_ld (hq := by exact si_) ?_
 refine s_pt (hq := by exact si_) ?_
 refine s_ld (hq := by exact si_) ?_
 refine s_bn (hq := by exact si_) ?_
 refine u_pk (hq := by exact so_) ?_
 refine lg_nil ?_
 have hx := hx0
 refine h16 _ ?_; clear h16; try clear N16
 refine u_cond (fun hb19 => ?_) (fun hb19 => ?_)
 refine vc_seq_k fun N20 h20 => ?_
 refine u_reg ?_
 try refine lg_mk ?_
 refine u_mv (hq := by exact so_) ?_
 refine lg_nil ?_
 refine h20 _ ?_; clear h20; try clear N20
 refine vc_ret ?_
 try simp only [k_rules]
 have hr : ndC ⟨a, b, c, e⟩ l = 5 := by
  unfold ndC; dsimp only; rw [if_neg g1, if_neg g2, if_neg (by omega), if_neg (fun h => e2 h.2)]
 rw [hr]
 refine fin_ ?_
 refine ⟨[some 0], by rfl, ?_, ?_⟩
 refine fin_ ?_
 exact cl_
 refine fin_ ?_
 exact cl_
 ·first | omega | exact absurd trivial hb19 | contradiction | (simp_all; done)
 have f1 : (c = wnt l (ar a) 0) = False := eq_false e1
 have f2 : True := trivial
 have hx := And.intro @f1 (And.intro @f2 (And.intro @hwt hx0))
 refine u_reg ?_
 try refine lg_mk ?_
 refine u_pt (hq := by exact so_) ?_
 refine u_ld (hq := by exact so_) ?_
 refine u_pt (hq := by exact so_) ?_
 refine u_ld (hq := by exact so_) ?_
 refine u_bn (hq := by exact so_) ?_
 refine u_mv (hq := by exact so_) ?_
 refine s_pt (hq := by exact si_) ?_
 refine s_ld (hq := by exact si_) ?_
 refine s_pt (hq := by exact si_) ?_
 refine s_ld (hq := by exact si_) ?_
 refine s_bn (hq := by exact si_) ?_
 refine u_pk (hq := by exact so_) ?_
 refine lg_nil ?_
 have hx := hx0
 refine h16 _ ?_; clear h16; try clear N16
 refine u_cond (fun hb21 => ?_) (fun hb21 => ?_)
 refine vc_seq_k fun N22 h22 => ?_
 refine u_reg ?_
 try refine lg_mk ?_
 refine u_mv (hq := by exact so_) ?_
 refine lg_nil ?_
 refine h22 _ ?_; clear h22; try clear N22
 refine vc_ret ?_
 try simp only [k_rules]
 have hr : ndC ⟨a, b, c, e⟩ l = 5 := by
  unfold ndC; dsimp only; rw [if_neg g1, if_neg g2, if_neg (by omega), if_neg (fun h => e1 h.1)]
 rw [hr]
 refine fin_ ?_
 refine ⟨[some 0], by rfl, ?_, ?_⟩
 refine fin_ ?_
 exact cl_
 refine fin_ ?_
 exact cl_
 ·first | omega | exact absurd trivial hb21 | contradiction | (simp_all; done)
 cases hg

def E_chk : Env Tryd.prog := E_runq.add 51 (Spec.gen chkG) chk_meets (by kernel_rfl)

theorem valQ_at {q : List Nd} {i : Nat} {c : Int} (h1 : 1 ≤ q.length) (h2 : q.length ≤ 40) (hi : i < q.length) (h : ∀ j, j < i → qC q j = 0) (hc : qC q i = c) (h0 : c ≠ 0) : valQ q = (c, (i : Int)) := by
  have hf := firstF_at (f := qC q) (g := iI) (i := i) (by rw [hc]; exact h0) h hi
  unfold valQ
  rw [if_neg (by omega), hf, hc, if_pos h0]; rfl
theorem valQ_end {q : List Nd} (h1 : 1 ≤ q.length) (h2 : q.length ≤ 40) (h : ∀ j, j < q.length → qC q j = 0) : valQ q = if (rts q q.length).length ≠ 1 then (5, -1) else (0, 0) := by
  unfold valQ
  rw [if_neg (by omega), firstF_none h, if_neg (by simp)]
theorem rts_next {q : List Nd} {i : Nat} {x : Nd} (h : q.getD i default = x) : rows eI (List.take ((rts q i).length - ar x.kd) (rts q i)) ++ [[D.int .i64 (i : Int)]] = rows eI (rts q (i + 1)) := by
  show _ = rows eI ((rts q i).take ((rts q i).length - ar (q.getD i default).kd) ++ [(i : Int)])
  rw [h]; simp [rows, eI]
theorem rts_nextL {q : List Nd} {i : Nat} {x : Nd} (h : q.getD i default = x) (hk : ar x.kd ≤ (rts q i).length) : (rts q (i + 1)).length = (rts q i).length - ar x.kd + 1 := by
  show ((rts q i).take ((rts q i).length - ar (q.getD i default).kd) ++ [(i : Int)]).length = _
  rw [h]; simp
theorem ndC_len {n : Nd} {l : List Int} (h : ndC n l = 0) : ar n.kd ≤ l.length := by
  unfold ndC at h
  split at h
  · omega
  · split at h
    · omega
    · split at h
      · omega
      · omega
def valG : List AV → Option (Prop × AV)
  | [.agg [.d (.sl xs)]] => some (xs = rows eN (dN xs) ∧ (dN xs).length ≤ 9223372036854775807, .agg [.d (.int .i64 (valQ (dN xs)).1), .d (.int .i64 (valQ (dN xs)).2)])
  | _ => none

theorem val_meets : Meets Tryd.prog 24 (Spec.pure valG) := by
 refine meets_fun (E_chk.at_ 52) Tryd.func24 rfl rfl rfl ?_
 intro args p r hg hp
 unfold valG at hg
 split at hg
 rename_i xs
 simp only [Option.some.injEq, Prod.mk.injEq] at hg
 obtain ⟨rfl, rfl⟩ := hg
 obtain ⟨he, hl⟩ := hp
 generalize dN xs = q at *
 subst he
 have hT : (E_chk).X = T := rfl
 have hx0 := And.intro @rect_eN (And.intro @dN_rows (And.intro @dI_rows (And.intro @dec_t (And.intro @dec_f @Tryd.results24))))
 have hx := hx0
 refine ⟨by rfl, ?_⟩
 intro F W0 hnp hmk
 refine vc_seq_k fun N1 h1 => ?_
 refine u_reg ?_
 try refine lg_mk ?_
 refine u_bx ?_
 refine u_al ?_
 refine lg_nil ?_
 refine h1 _ ?_; clear h1; try clear N1
 refine vc_seq_k fun N2 h2 => ?_
 refine vc_seq_k fun N3 h3 => ?_
 refine u_reg ?_
 try refine lg_mk ?_
 refine u_pt ?_
 refine u_ld ?_
 refine u_ln ?_
 refine u_bn ?_
 refine u_mv ?_
 refine g_pt ?_
 refine g_ld ?_
 refine g_ln ?_
 refine g_bn ?_
 refine u_pk ?_
 refine lg_nil ?_
 refine h3 _ ?_; clear h3; try clear N3
 refine u_cond (fun hb4 => ?_) (fun hb4 => ?_)
 refine vc_seq_k fun N5 h5 => ?_
 refine u_reg ?_
 try refine lg_mk ?_
 refine u_bd ?_
 refine u_st ?_
 refine lg_nil ?_
 refine h5 _ ?_; clear h5; try clear N5
 refine vc_ret ?_
 try simp only [k_rules]
 have hr : valQ q = (9, -1) := by unfold valQ; rw [if_pos (by have := hb4; (try simp at this); omega)]
 rw [hr]
 refine fin2_ ?_
 exact cl_
 have h1 : 1 ≤ q.length := by have := hb4; (try simp at this); omega
 have h40 : q.length ≤ 40 := by have := hb4; (try simp at this); omega
 refine vc_skip ?_
 try simp only [k_rules]
 refine h2 _ ?_; clear h2; try clear N2
 refine vc_seq_k fun N6 h6 => ?_
 refine u_reg ?_
 try refine lg_mk ?_
 refine u_mv ?_
 refine lg_nil ?_
 refine h6 _ ?_; clear h6; try clear N6
 refine vc_seq_k fun N7 h7 => ?_
 refine vc_seq_k fun N8 h8 => ?_
 refine u_reg ?_
 try refine lg_mk ?_
 refine u_pt ?_
 refine u_ld ?_
 refine u_ln ?_
 refine u_mv ?_
 refine lg_nil ?_
 refine h8 _ ?_; clear h8; try clear N8
 refine vc_block ?_
 refine vc_loop_mk (σ := Nat) (fun s => (fun i => i ≤ q.length ∧ ∀ j, j < i → qC q j = 0) s)
  (fun s => (fun i => [(1, .ptr 0 0 0), (2, .ptr 1 0 0), (3, .sl 2 0 (rts q i).length), (19, .d (.sl (rows eN q))), (20, .d (.int .i64 (q.length : Nat))), (21, .d (.int .i64 (i : Nat)))]) s)
  (fun s => (fun i => [some (.one 24 [.d (.sl (rows eN q))]), some (.one 27 [.d (.int .i64 0), .d (.int .i64 0)]), some (.vec 3 1 (rows eI (rts q i)))]) s) (fun s => (fun i => q.length - i) s) hnp 0 ?_ [some 0, some 1, none] ?_ ?_
 dsimp only
 exact ⟨by omega, fun j hj => by omega⟩
 dsimp only
 refine ⟨by rfl, ?_, ?_⟩
 refine fin_ ?_
 exact cl_
 refine fin_ ?_
 exact cl_
 rintro i hinv N9 h9
 dsimp only at hinv ⊢
 obtain ⟨i1, i2⟩ := hinv
 refine vc_seq_k fun N10 h10 => ?_
 refine u_reg ?_
 try refine lg_mk ?_
 refine u_bn ?_
 refine lg_nil ?_
 refine h10 _ ?_; clear h10; try clear N10
 refine vc_seq_k fun N11 h11 => ?_
 refine u_cond (fun hb12 => ?_) (fun hb12 => ?_)
 have hiq : i < q.length := by have := hb12; omega
 obtain ⟨x, hxe⟩ := getE (l := q) (i := i) hiq
 have hxd : q.getD i default = x := by rw [List.getD_eq_getElem?_getD, hxe]; rfl
 have hrl := rts_len q i
 have hqx : qC q i = ndC x (rts q i) := by unfold qC; rw [hxd]
 have hnx := rts_next hxd
 have hnl := fun h => rts_nextL hxd h
 have hcl := fun h => ndC_len (n := x) (l := rts q i) h
 obtain ⟨a, b, c, d⟩ := x
 dsimp only at hnx hnl hcl
 refine vc_skip ?_
 try simp only [k_rules]
 refine h11 _ ?_; clear h11; try clear N11
 refine vc_seq_k fun N13 h13 => ?_
 refine vc_block ?_
 refine vc_seq_k fun N14 h14 => ?_
 have hx := And.intro @hxe (And.intro @eN.eq_1 hx0)
 refine u_reg ?_
 try refine lg_mk ?_
 refine u_mv ?_
 refine u_pt ?_
 refine u_ld ?_
 refine u_al ?_
 refine u_mv ?_
 refine u_st ?_
 refine lg_nil ?_
 have hx := hx0
 refine h14 _ ?_; clear h14; try clear N14
 refine vc_seq_k fun N15 h15 => ?_
 refine vc_seq_k fun N16 h16 => ?_
 refine u_reg ?_
 try refine lg_mk ?_
 refine u_ld ?_
 iterate 2 refine u_mv ?_
 have hc := call_rule (E := (E_chk.at_ 52)) (f := 51) (sp := Spec.gen chkG) rfl
 have hs := @chkG.eq_1
 refine u_hg ?_
 refine u_mv ?_
 refine lg_nil ?_
 refine h16 _ ?_; clear h16; try clear N16
 refine vc_seq_k fun N17 h17 => ?_
 refine u_reg ?_
 try refine lg_mk ?_
 refine u_mv ?_
 refine u_bn ?_
 refine lg_nil ?_
 refine h17 _ ?_; clear h17; try clear N17
 refine u_cond (fun hb18 => ?_) (fun hb18 => ?_)
 refine vc_seq_k fun N19 h19 => ?_
 refine u_reg ?_
 try refine lg_mk ?_
 iterate 2 refine u_mv ?_
 refine u_bd ?_
 refine u_st ?_
 refine lg_nil ?_
 refine h19 _ ?_; clear h19; try clear N19
 refine vc_ret ?_
 try simp only [k_rules]
 have hr := valQ_at h1 h40 hiq i2 hqx (by have := hb18; simpa using this)
 rw [hr]
 refine fin2_ ?_
 exact cl_
 have hc0 : ndC ⟨a, b, c, d⟩ (rts q i) = 0 := by have := hb18; simpa using this
 have hak := hcl hc0
 have hnk := hnl hak
 have hsu : (((rts q i).length : Int) - (ar a : Int)).toNat = (rts q i).length - ar a := by omega
 refine vc_skip ?_
 try simp only [k_rules]
 refine h15 _ ?_; clear h15; try clear N15
 have hx := And.intro @hsu hx0
 refine u_reg ?_
 try refine lg_mk ?_
 iterate 2 refine u_mv (hq := by exact so_) ?_
 refine u_ln (hq := by exact so_) ?_
 refine u_pt (hq := by exact so_) ?_
 refine u_ld (hq := by exact so_) ?_
 have hc := call_rule (E := (E_chk.at_ 52)) (f := 47) (sp := Spec.pure arG) rfl
 have hs := @arG.eq_1
 refine u_cp (hq := by exact so_) ?_
 refine u_bn (hq := by exact so_) ?_
 refine u_sl (hq := by exact so_) ?_
 refine u_mv (hq := by exact so_) ?_
 refine u_bs (hq := by exact so_) ?_
 refine u_ap (hq := by exact so_) ?_
 refine u_mv (hq := by exact so_) ?_
 refine lg_nil ?_
 have hx := hx0
 refine h13 _ ?_; clear h13; try clear N13
 refine u_reg ?_
 try refine lg_mk ?_
 refine u_bn ?_
 refine u_mv ?_
 refine lg_nil ?_
 refine h9 _ ⟨i + 1, ?_, ?_, [some 0, some 1, some 5], ?_⟩
 dsimp only
 exact ⟨by omega, lt_succF i2 (by rw [hqx]; exact hc0)⟩
 dsimp only
 omega
 dsimp only
 refine ⟨by rfl, ?_, ?_⟩
 refine fin_ ?_
 ·(repeat' apply And.intro) <;> (first | (first | rfl | trivial | omega | (rw [hnx]; done) | (rw [hnk]; done) | exact Or.inl rfl) | exact cl_)
 refine fin_ ?_
 ·(repeat' apply And.intro) <;> (first | (first | rfl | trivial | omega | (rw [hnx]; done) | (rw [hnk]; done) | exact Or.inl rfl) | exact cl_)
 obtain rfl : i = q.length := by have := hb12; omega
 have hre := valQ_end h1 h40 i2
 have hrl := rts_len q q.length
 refine vc_exit ?_
 simp only [k_rules, Nat.reduceEqDiff, reduceIte, eq_self]
 refine h7 _ ?_; clear h7; try clear N7
 refine vc_seq_k fun N20 h20 => ?_
 refine vc_seq_k fun N21 h21 => ?_
 refine u_reg ?_
 try refine lg_mk ?_
 refine u_mv ?_
 refine u_ln ?_
 refine u_bn ?_
 refine lg_nil ?_
 refine h21 _ ?_; clear h21; try clear N21
 refine u_cond (fun hb22 => ?_) (fun hb22 => ?_)
 refine vc_seq_k fun N23 h23 => ?_
 refine u_reg ?_
 try refine lg_mk ?_
 refine u_bd ?_
 refine u_st ?_
 refine lg_nil ?_
 refine h23 _ ?_; clear h23; try clear N23
 refine vc_ret ?_
 try simp only [k_rules]
 rw [if_pos (by have := hb22; (try simp at this); omega)] at hre
 rw [hre]
 refine fin2_ ?_
 exact cl_
 refine vc_skip ?_
 try simp only [k_rules]
 refine h20 _ ?_; clear h20; try clear N20
 refine vc_seq_k fun N24 h24 => ?_
 refine u_reg ?_
 try refine lg_mk ?_
 refine u_bd ?_
 refine u_st ?_
 refine lg_nil ?_
 refine h24 _ ?_; clear h24; try clear N24
 refine vc_ret ?_
 try simp only [k_rules]
 rw [if_neg (by have := hb22; (try simp at this); omega)] at hre
 rw [hre]
 refine fin2_ ?_
 exact cl_
 cases hg

def E_val : Env Tryd.prog := E_chk.add 24 (Spec.pure valG) val_meets (by kernel_rfl)
end Go.Proofs.YtlbjffdaooadoaaDoor
