/- Walks, printed by wip/gen/walk.py. -/
import Derived.Test.YtmbjnkgpcbpclaaGreatT57
import Derived.Test.YtmbjnkgpcbpclaaGreatV5
set_option linter.all false
set_option maxRecDepth 100000
set_option maxHeartbeats 4000000
namespace Go.Proofs.YtmbjnkgpcbpclaaGreat
open Go Go.Vc Go.RowKit
def mvF (u : Bs) (q : List Sn) (i : Nat) : List Bool := msV u q i ++ List.replicate (q.length - i) false
theorem mvF_len {u : Bs} {q : List Sn} {i : Nat} (h : i ≤ q.length) : (mvF u q i).length = q.length := by
  unfold mvF; rw [List.length_append, msV_len, List.length_replicate]; omega
theorem mvF_at {u : Bs} {q : List Sn} {i j : Nat} (h : j < i) : (mvF u q i)[j]? = (msV u q i)[j]? := by
  unfold mvF; rw [List.getElem?_append_left (by rw [msV_len]; exact h)]
theorem mvF_set {u : Bs} {q : List Sn} {i : Nat} {x : Sn} (hi : i < q.length) (h : q.getD i default = x) {v : Bool} (hv : v = msN u x (msV u q i)) : (mvF u q i).set i v = mvF u q (i + 1) := by
  unfold mvF
  rw [List.set_append_right _ _ (by rw [msV_len]; exact Nat.le_refl _), msV_len, Nat.sub_self, msV_step h, ← hv]
  obtain ⟨n, hn⟩ : ∃ n, q.length - i = n + 1 := ⟨q.length - i - 1, by omega⟩
  rw [hn, show q.length - (i + 1) = n by omega, List.replicate_succ, List.set_cons_zero, List.append_assoc]; rfl
theorem mvF_end (u : Bs) (q : List Sn) : mvF u q q.length = msV u q q.length := by unfold mvF; rw [Nat.sub_self, List.replicate_zero, List.append_nil]
theorem setB (l : List Bool) (i : Nat) (v : Bool) : (rows eB l).set i [.bool v] = rows eB (l.set i v) := by unfold rows; rw [List.map_set]; rfl
theorem mvF_zero (u : Bs) (q : List Sn) : mvF u q 0 = List.replicate q.length false := rfl

theorem mtP_meets : Meets Tryz.prog 32 (Spec.pure mtG) := by
 refine meets_fun (E_val.at_ 81) Tryz.func32 rfl rfl rfl ?_
 intro args p r hg hp
 unfold mtG at hg
 split at hg
 rename_i u xs
 simp only [Option.some.injEq, Prod.mk.injEq] at hg
 obtain ⟨rfl, rfl⟩ := hg
 obtain ⟨he, hv, hul⟩ := hp
 generalize dSn xs = q at *
 subst he
 obtain ⟨_, h1, h40, _⟩ := val_mp hv
 have hT : (E_val).X = T := rfl
 have hx0 := And.intro @rect_eSn (And.intro @dSn_rows (And.intro @dB_rows (And.intro @dec_t (And.intro @dec_f @Tryz.results32))))
 have hx := hx0
 refine ⟨by rfl, ?_⟩
 intro F W0 hnp hmk
 refine vc_seq_k fun N1 h1 => ?_
 refine u_reg ?_
 try refine lg_mk ?_
 refine u_bx (hq := by exact sq_) ?_
 refine u_mv (hq := by exact sq_) ?_
 refine lg_nil ?_
 refine h1 _ ?_; clear h1; try clear N1
 refine vc_seq_k fun N2 h2 => ?_
 refine u_reg ?_
 try refine lg_mk ?_
 refine u_pt (hq := by exact sq_) ?_
 refine u_ld (hq := by exact sq_) ?_
 refine u_ln (hq := by exact sq_) ?_
 refine u_ms (hq := by exact sq_) ?_
 refine u_mv (hq := by exact sq_) ?_
 refine lg_nil ?_
 refine h2 _ ?_; clear h2; try clear N2
 refine vc_seq_k fun N3 h3 => ?_
 refine vc_seq_k fun N4 h4 => ?_
 refine u_reg ?_
 try refine lg_mk ?_
 refine u_pt (hq := by exact sq_) ?_
 refine u_ld (hq := by exact sq_) ?_
 refine u_ln (hq := by exact sq_) ?_
 refine u_mv (hq := by exact sq_) ?_
 refine lg_nil ?_
 refine h4 _ ?_; clear h4; try clear N4
 refine vc_block ?_
 refine vc_loop_mk (σ := Nat) (fun s => (fun i => i ≤ q.length) s)
  (fun s => (fun i => [(0, .d (.str u)), (3, .ptr 0 0 0), (5, .sl 1 0 q.length), (13, .d (.sl (rows eSn q))), (14, .d (.int .i64 (q.length : Nat))), (15, .d (.int .i64 (i : Nat)))]) s)
  (fun s => (fun i => [some (.one 25 [.d (.sl (rows eSn q))]), some (.vec 4 1 (rows eB (mvF u q i)))]) s) (fun s => (fun i => q.length - i) s) hnp 0 ?_ [some 0, some 1] ?_ ?_
 dsimp only
 omega
 dsimp only
 refine ⟨by rfl, ?_, ?_⟩
 refine fin_ ?_
 ·(repeat' apply And.intro) <;> (first | (first | rfl | trivial | omega | (rw [mvF_zero]; simp [rows, eB]; done) | (simp [mvF_zero, rows, eB]; done)) | exact cl_)
 refine fin_ ?_
 ·(repeat' apply And.intro) <;> (first | (first | rfl | trivial | omega | (rw [mvF_zero]; simp [rows, eB]; done) | (simp [mvF_zero, rows, eB]; done)) | exact cl_)
 rintro i hinv N5 h5
 dsimp only at hinv ⊢
 have i1 := hinv
 refine vc_seq_k fun N6 h6 => ?_
 refine u_reg ?_
 try refine lg_mk ?_
 refine u_bn (hq := by exact sq_) ?_
 refine lg_nil ?_
 refine h6 _ ?_; clear h6; try clear N6
 refine vc_seq_k fun N7 h7 => ?_
 refine u_cond (fun hb8 => ?_) (fun hb8 => ?_)
 have hiq : i < q.length := by have := hb8; omega
 obtain ⟨x, hxe⟩ := getE (l := q) (i := i) hiq
 have hxd : q.getD i default = x := by rw [List.getD_eq_getElem?_getD, hxe]; rfl
 have hml := msV_len u q i
 have hfl := mvF_len (u := u) (q := q) (i := i) (by omega)
 obtain ⟨y0, hf0⟩ := getE (l := mvF u q i) (i := i) (by omega)
 have hok := okS_node hv hiq hxd
 have hat := okS_at hv hiq hxd
 obtain ⟨a, b, c, e⟩ := x
 dsimp only at hok hat
 refine vc_skip ?_
 try simp only [k_rules]
 refine h7 _ ?_; clear h7; try clear N7
 refine vc_seq_k fun N9 h9 => ?_
 refine vc_block ?_
 refine vc_seq_k fun N10 h10 => ?_
 have hx := And.intro @hxe (And.intro @eSn.eq_1 hx0)
 refine u_reg ?_
 try refine lg_mk ?_
 refine u_mv (hq := by exact sq_) ?_
 refine u_pt (hq := by exact sq_) ?_
 refine u_ld (hq := by exact sq_) ?_
 refine u_al (hq := by exact sq_) ?_
 refine u_mv (hq := by exact sq_) ?_
 refine u_st (hq := by exact sq_) ?_
 refine lg_nil ?_
 have hx := hx0
 refine h10 _ ?_; clear h10; try clear N10
 refine vc_seq_k fun N11 h11 => ?_
 refine u_reg ?_
 try refine lg_mk ?_
 refine u_pt (hq := by exact sq_) ?_
 refine u_ld (hq := by exact sq_) ?_
 refine lg_nil ?_
 refine h11 _ ?_; clear h11; try clear N11
 refine vc_block ?_
 refine vc_seq_k fun N12 h12 => ?_
 refine u_reg ?_
 try refine lg_mk ?_
 refine u_bn (hq := by exact sq_) ?_
 refine u_mv (hq := by exact sq_) ?_
 refine lg_nil ?_
 refine h12 _ ?_; clear h12; try clear N12
 refine u_cond (fun hb13 => ?_) (fun hb13 => ?_)
 have hk1 : a = 1 := by have := hb13; (try simp at this); omega
 have hbl := okT_len (hok.2.1 hk1)
 have hch := cont_has u b
 have hx := And.intro @hch (And.intro @hf0 (And.intro @eB.eq_1 hx0))
 refine u_reg ?_
 try refine lg_mk ?_
 iterate 3 refine u_mv (hq := by exact sq_) ?_
 refine u_pt (hq := by exact sq_) ?_
 refine u_ld (hq := by exact sq_) ?_
 have hc := call_rule (E := (E_val.at_ 81)) (f := 61) (sp := Spec.pure contG) rfl
 have hs := @contG.eq_1
 refine u_cp (hq := by exact so_) ?_
 refine u_pt (hq := by exact sq_) ?_
 refine u_st (hq := by exact sq_) ?_
 refine lg_nil ?_
 have hx := hx0
 refine h9 _ ?_; clear h9; try clear N9
 refine u_reg ?_
 try refine lg_mk ?_
 refine u_bn (hq := by exact sq_) ?_
 refine u_mv (hq := by exact sq_) ?_
 refine lg_nil ?_
 have hset := mvF_set hiq hxd (v := hasSub u b) (msN_1 hk1).symm
 refine h5 _ ⟨i + 1, ?_, ?_, [some 0, some 1], ?_⟩
 dsimp only
 omega
 dsimp only
 omega
 dsimp only
 refine ⟨by rfl, ?_, ?_⟩
 refine fin_ ?_
 ·(repeat' apply And.intro) <;> (first | (first | rfl | trivial | omega | (rw [setB, hset]; done) | exact Or.inl rfl | exact Or.inl (by simp)) | exact cl_)
 refine fin_ ?_
 ·(repeat' apply And.intro) <;> (first | (first | rfl | trivial | omega | (rw [setB, hset]; done) | exact Or.inl rfl | exact Or.inl (by simp)) | exact cl_)
 have hk1 : ¬a = 1 := by have := hb13; (try simp at this); omega
 obtain ⟨hc0, hci, he0, hei⟩ := hat hk1
 obtain ⟨y1, hv1⟩ := getE (l := msV u q i) (i := c.toNat) (by omega)
 obtain ⟨y2, hv2⟩ := getE (l := msV u q i) (i := e.toNat) (by omega)
 have hf1 := (mvF_at (u := u) (q := q) (i := i) (j := c.toNat) (by omega)).trans hv1
 have hf2 := (mvF_at (u := u) (q := q) (i := i) (j := e.toNat) (by omega)).trans hv2
 refine vc_seq_k fun N14 h14 => ?_
 refine u_reg ?_
 try refine lg_mk ?_
 refine u_bn (hq := by exact sq_) ?_
 refine u_mv (hq := by exact sq_) ?_
 refine lg_nil ?_
 refine h14 _ ?_; clear h14; try clear N14
 refine u_cond (fun hb15 => ?_) (fun hb15 => ?_)
 cases y1
 skip
 have hx := And.intro @hf0 (And.intro @hf1 (And.intro @hf2 (And.intro @eB.eq_1 hx0)))
 refine u_reg ?_
 try refine lg_mk ?_
 iterate 3 refine u_mv (hq := by exact sq_) ?_
 refine u_pt (hq := by exact sq_) ?_
 refine u_ld (hq := by exact sq_) ?_
 refine u_pt (hq := by exact sq_) ?_
 refine u_ld (hq := by exact sq_) ?_
 refine u_mv (hq := by exact sq_) ?_
 refine lg_g0 ?_ ?_
 focus (exact gt_)
 refine lg_g0 ?_ ?_
 focus (exact gt_)
 refine lg_g0 ?_ ?_
 focus (exact gt_)
 refine lg_g0 ?_ ?_
 focus (exact gt_)
 refine lg_g0 ?_ ?_
 focus (exact gt_)
 refine u_pk (hq := by exact sq_) ?_
 refine u_pt (hq := by exact sq_) ?_
 refine u_st (hq := by exact sq_) ?_
 refine lg_nil ?_
 have hx := hx0
 refine h9 _ ?_; clear h9; try clear N9
 refine u_reg ?_
 try refine lg_mk ?_
 refine u_bn (hq := by exact sq_) ?_
 refine u_mv (hq := by exact sq_) ?_
 refine lg_nil ?_
 have hset := mvF_set hiq hxd (v := false) (msN_2 (by have := hb15; (try simp at this); omega) hv1 hv2).symm
 refine h5 _ ⟨i + 1, ?_, ?_, [some 0, some 1], ?_⟩
 dsimp only
 omega
 dsimp only
 omega
 dsimp only
 refine ⟨by rfl, ?_, ?_⟩
 refine fin_ ?_
 ·(repeat' apply And.intro) <;> (first | (first | rfl | trivial | omega | (rw [setB, hset]; done) | exact Or.inl rfl | exact Or.inl (by simp)) | exact cl_)
 refine fin_ ?_
 ·(repeat' apply And.intro) <;> (first | (first | rfl | trivial | omega | (rw [setB, hset]; done) | exact Or.inl rfl | exact Or.inl (by simp)) | exact cl_)
 skip
 have hx := And.intro @hf0 (And.intro @hf1 (And.intro @hf2 (And.intro @eB.eq_1 hx0)))
 refine u_reg ?_
 try refine lg_mk ?_
 iterate 3 refine u_mv (hq := by exact sq_) ?_
 refine u_pt (hq := by exact sq_) ?_
 refine u_ld (hq := by exact sq_) ?_
 refine u_pt (hq := by exact sq_) ?_
 refine u_ld (hq := by exact sq_) ?_
 refine u_mv (hq := by exact sq_) ?_
 refine v_mv (hq := by exact sq_) ?_
 refine v_pt (hq := by exact sq_) ?_
 refine v_ld (hq := by exact sq_) ?_
 refine v_pt (hq := by exact sq_) ?_
 refine v_ld (hq := by exact sq_) ?_
 refine u_pk (hq := by exact sq_) ?_
 refine u_pt (hq := by exact sq_) ?_
 refine u_st (hq := by exact sq_) ?_
 refine lg_nil ?_
 have hx := hx0
 refine h9 _ ?_; clear h9; try clear N9
 refine u_reg ?_
 try refine lg_mk ?_
 refine u_bn (hq := by exact sq_) ?_
 refine u_mv (hq := by exact sq_) ?_
 refine lg_nil ?_
 have hset := mvF_set hiq hxd (v := y2) (msN_2 (by have := hb15; (try simp at this); omega) hv1 hv2).symm
 refine h5 _ ⟨i + 1, ?_, ?_, [some 0, some 1], ?_⟩
 dsimp only
 omega
 dsimp only
 omega
 dsimp only
 refine ⟨by rfl, ?_, ?_⟩
 refine fin_ ?_
 ·(repeat' apply And.intro) <;> (first | (first | rfl | trivial | omega | (rw [setB, hset]; done) | exact Or.inl rfl | exact Or.inl (by simp)) | exact cl_)
 refine fin_ ?_
 ·(repeat' apply And.intro) <;> (first | (first | rfl | trivial | omega | (rw [setB, hset]; done) | exact Or.inl rfl | exact Or.inl (by simp)) | exact cl_)
 have hk2 : ¬a = 2 := by have := hb15; (try simp at this); omega
 refine vc_seq_k fun N16 h16 => ?_
 refine u_reg ?_
 try refine lg_mk ?_
 refine u_bn (hq := by exact sq_) ?_
 refine u_mv (hq := by exact sq_) ?_
 refine lg_nil ?_
 refine h16 _ ?_; clear h16; try clear N16
 refine u_cond (fun hb17 => ?_) (fun hb17 => ?_)
 cases y1
 skip
 have hx := And.intro @hf0 (And.intro @hf1 (And.intro @hf2 (And.intro @eB.eq_1 hx0)))
 refine u_reg ?_
 try refine lg_mk ?_
 iterate 3 refine u_mv (hq := by exact sq_) ?_
 refine u_pt (hq := by exact sq_) ?_
 refine u_ld (hq := by exact sq_) ?_
 refine u_pt (hq := by exact sq_) ?_
 refine u_ld (hq := by exact sq_) ?_
 refine u_mv (hq := by exact sq_) ?_
 refine v_mv (hq := by exact sq_) ?_
 refine v_pt (hq := by exact sq_) ?_
 refine v_ld (hq := by exact sq_) ?_
 refine v_pt (hq := by exact sq_) ?_
 refine v_ld (hq := by exact sq_) ?_
 refine u_pk (hq := by exact sq_) ?_
 refine u_pt (hq := by exact sq_) ?_
 refine u_st (hq := by exact sq_) ?_
 refine lg_nil ?_
 have hx := hx0
 refine h9 _ ?_; clear h9; try clear N9
 refine u_reg ?_
 try refine lg_mk ?_
 refine u_bn (hq := by exact sq_) ?_
 refine u_mv (hq := by exact sq_) ?_
 refine lg_nil ?_
 have hset := mvF_set hiq hxd (v := y2) (msN_3 (by have := hb17; (try simp at this); omega) hv1 hv2).symm
 refine h5 _ ⟨i + 1, ?_, ?_, [some 0, some 1], ?_⟩
 dsimp only
 omega
 dsimp only
 omega
 dsimp only
 refine ⟨by rfl, ?_, ?_⟩
 refine fin_ ?_
 ·(repeat' apply And.intro) <;> (first | (first | rfl | trivial | omega | (rw [setB, hset]; done) | exact Or.inl rfl | exact Or.inl (by simp)) | exact cl_)
 refine fin_ ?_
 ·(repeat' apply And.intro) <;> (first | (first | rfl | trivial | omega | (rw [setB, hset]; done) | exact Or.inl rfl | exact Or.inl (by simp)) | exact cl_)
 skip
 have hx := And.intro @hf0 (And.intro @hf1 (And.intro @hf2 (And.intro @eB.eq_1 hx0)))
 refine u_reg ?_
 try refine lg_mk ?_
 iterate 3 refine u_mv (hq := by exact sq_) ?_
 refine u_pt (hq := by exact sq_) ?_
 refine u_ld (hq := by exact sq_) ?_
 refine u_pt (hq := by exact sq_) ?_
 refine u_ld (hq := by exact sq_) ?_
 refine u_mv (hq := by exact sq_) ?_
 refine lg_g0 ?_ ?_
 focus (exact gt_)
 refine lg_g0 ?_ ?_
 focus (exact gt_)
 refine lg_g0 ?_ ?_
 focus (exact gt_)
 refine lg_g0 ?_ ?_
 focus (exact gt_)
 refine lg_g0 ?_ ?_
 focus (exact gt_)
 refine u_pk (hq := by exact sq_) ?_
 refine u_pt (hq := by exact sq_) ?_
 refine u_st (hq := by exact sq_) ?_
 refine lg_nil ?_
 have hx := hx0
 refine h9 _ ?_; clear h9; try clear N9
 refine u_reg ?_
 try refine lg_mk ?_
 refine u_bn (hq := by exact sq_) ?_
 refine u_mv (hq := by exact sq_) ?_
 refine lg_nil ?_
 have hset := mvF_set hiq hxd (v := true) (msN_3 (by have := hb17; (try simp at this); omega) hv1 hv2).symm
 refine h5 _ ⟨i + 1, ?_, ?_, [some 0, some 1], ?_⟩
 dsimp only
 omega
 dsimp only
 omega
 dsimp only
 refine ⟨by rfl, ?_, ?_⟩
 refine fin_ ?_
 ·(repeat' apply And.intro) <;> (first | (first | rfl | trivial | omega | (rw [setB, hset]; done) | exact Or.inl rfl | exact Or.inl (by simp)) | exact cl_)
 refine fin_ ?_
 ·(repeat' apply And.intro) <;> (first | (first | rfl | trivial | omega | (rw [setB, hset]; done) | exact Or.inl rfl | exact Or.inl (by simp)) | exact cl_)
 have hx := And.intro @hf0 (And.intro @hf1 (And.intro @eB.eq_1 hx0))
 refine u_reg ?_
 try refine lg_mk ?_
 iterate 3 refine u_mv (hq := by exact sq_) ?_
 refine u_pt (hq := by exact sq_) ?_
 refine u_ld (hq := by exact sq_) ?_
 refine u_pt (hq := by exact sq_) ?_
 refine u_ld (hq := by exact sq_) ?_
 refine u_un (hq := by exact sq_) ?_
 refine u_pt (hq := by exact sq_) ?_
 refine u_st (hq := by exact sq_) ?_
 refine lg_nil ?_
 have hx := hx0
 refine h9 _ ?_; clear h9; try clear N9
 refine u_reg ?_
 try refine lg_mk ?_
 refine u_bn (hq := by exact sq_) ?_
 refine u_mv (hq := by exact sq_) ?_
 refine lg_nil ?_
 have hset := mvF_set hiq hxd (v := !y1) (msN_4 hk1 hk2 (by have := hb17; (try simp at this); omega) hv1).symm
 refine h5 _ ⟨i + 1, ?_, ?_, [some 0, some 1], ?_⟩
 dsimp only
 omega
 dsimp only
 omega
 dsimp only
 refine ⟨by rfl, ?_, ?_⟩
 refine fin_ ?_
 ·(repeat' apply And.intro) <;> (first | (first | rfl | trivial | omega | (rw [setB, hset]; done) | exact Or.inl rfl | exact Or.inl (by simp)) | exact cl_)
 refine fin_ ?_
 ·(repeat' apply And.intro) <;> (first | (first | rfl | trivial | omega | (rw [setB, hset]; done) | exact Or.inl rfl | exact Or.inl (by simp)) | exact cl_)
 obtain rfl : i = q.length := by have := hb8; omega
 have hml := msV_len u q q.length
 obtain ⟨y1, hv1⟩ := getE (l := msV u q q.length) (i := q.length - 1) (by omega)
 have hmq : mtQ u q = y1 := by unfold mtQ; rw [List.getD_eq_getElem?_getD, hv1]; rfl
 have hpm : ((q.length : Int) - 1).toNat = q.length - 1 := by omega
 rw [mvF_end]
 refine vc_exit ?_
 simp only [k_rules, Nat.reduceEqDiff, reduceIte, eq_self]
 refine h3 _ ?_; clear h3; try clear N3
 refine vc_seq_k fun N18 h18 => ?_
 have hx := And.intro @hpm (And.intro @hv1 (And.intro @eB.eq_1 hx0))
 refine u_reg ?_
 try refine lg_mk ?_
 iterate 2 refine u_mv (hq := by exact sq_) ?_
 refine u_ln (hq := by exact sq_) ?_
 refine u_bn (hq := by exact sq_) ?_
 refine u_pt (hq := by exact sq_) ?_
 refine u_ld (hq := by exact sq_) ?_
 refine u_mv (hq := by exact sq_) ?_
 refine lg_nil ?_
 have hx := hx0
 refine h18 _ ?_; clear h18; try clear N18
 refine vc_ret ?_
 try simp only [k_rules]
 rw [hmq]
 refine fin2_ ?_
 exact cl_
 cases hg

def E_mtP : Env Tryz.prog := E_val.add 32 (Spec.pure mtG) mtP_meets (by kernel_rfl)
end Go.Proofs.YtmbjnkgpcbpclaaGreat
