/- Walks, printed by wip/gen/walk.py. -/
import Derived.Test.YtmbjnkgpcbpclaaGreatT52
import Derived.Test.YtmbjnkgpcbpclaaGreatV5
set_option linter.all false
set_option maxRecDepth 100000
set_option maxHeartbeats 4000000
namespace Go.Proofs.YtmbjnkgpcbpclaaGreat
open Go Go.Vc Go.RowKit
theorem valS_at {q : List Sn} {i : Nat} {c : Int} (h1 : 1 ≤ q.length) (h2 : q.length ≤ 40) (hi : i < q.length) (h : ∀ j, j < i → qCs q j = 0) (hc : qCs q i = c) (h0 : c ≠ 0) : valS q = (c, (i : Int)) := by
  have hf := firstF_at (f := qCs q) (g := iI) (i := i) (by rw [hc]; exact h0) h hi
  unfold valS
  rw [if_neg (by omega), hf, hc, if_pos h0]; rfl
theorem valS_end {q : List Sn} (h1 : 1 ≤ q.length) (h2 : q.length ≤ 40) (h : ∀ j, j < q.length → qCs q j = 0) : valS q = if (rtsS q q.length).length ≠ 1 then (5, -1) else (0, 0) := by
  unfold valS
  rw [if_neg (by omega), firstF_none h, if_neg (by simp)]
theorem rtsS_step {q : List Sn} {i : Nat} {x : Sn} (hi : i < q.length) (h : q.getD i default = x) : rtsS q (i + 1) = (rtsS q i).take ((rtsS q i).length - sar x.kd) ++ [(i : Int)] := by
 show (rtsS q i).take ((rtsS q i).length - ar ((mpQ q).getD i default).kd) ++ [(i : Int)] = _
 rw [mp_ar hi, h]
theorem rtsS_next {q : List Sn} {i : Nat} {x : Sn} (hi : i < q.length) (h : q.getD i default = x) : rows eI (List.take ((rtsS q i).length - sar x.kd) (rtsS q i)) ++ [[D.int .i64 (i : Int)]] = rows eI (rtsS q (i + 1)) := by
  rw [rtsS_step hi h]; simp [rows, eI]
theorem rtsS_nextL {q : List Sn} {i : Nat} {x : Sn} (hi : i < q.length) (h : q.getD i default = x) (hk : sar x.kd ≤ (rtsS q i).length) : (rtsS q (i + 1)).length = (rtsS q i).length - sar x.kd + 1 := by
  rw [rtsS_step hi h]; simp
theorem rtsS_len (q : List Sn) (i : Nat) : (rtsS q i).length ≤ i := rts_len _ _
theorem snC_len {n : Sn} {l : List Int} (h : snC n l = 0) : sar n.kd ≤ l.length := by
  have := (snF_c h).1
  split at this
  · omega
  · omega
def bigS (q : List Sn) : Prop := ∀ n ∈ q, n.tx.length ≤ 9223372036854775807
def valG : List AV → Option (Prop × AV)
  | [.agg [.d (.sl xs)]] => some (xs = rows eSn (dSn xs) ∧ (dSn xs).length ≤ 9223372036854775807 ∧ bigS (dSn xs), .agg [.d (.int .i64 (valS (dSn xs)).1), .d (.int .i64 (valS (dSn xs)).2)])
  | _ => none

theorem val_meets : Meets Tryz.prog 11 (Spec.pure valG) := by
 refine meets_fun (E_chk.at_ 51) Tryz.func11 rfl rfl rfl ?_
 intro args p r hg hp
 unfold valG at hg
 split at hg
 rename_i xs
 simp only [Option.some.injEq, Prod.mk.injEq] at hg
 obtain ⟨rfl, rfl⟩ := hg
 obtain ⟨he, hl, hbg⟩ := hp
 generalize dSn xs = q at *
 subst he
 have hT : (E_chk).X = T := rfl
 have hx0 := And.intro @rect_eSn (And.intro @dSn_rows (And.intro @dI_rows (And.intro @dec_t (And.intro @dec_f @Tryz.results11))))
 have hx := hx0
 refine ⟨by rfl, ?_⟩
 intro F W0 hnp hmk
 refine vc_seq_k fun N1 h1 => ?_
 refine u_reg ?_
 try refine lg_mk ?_
 refine u_bx ?_
 refine u_al ?_
 refine lg_nil ?_
 refine h1 _ ?_; clear h1; try clear N1
 refine vc_seq_k fun N2 h2 => ?_
 refine vc_seq_k fun N3 h3 => ?_
 refine u_reg ?_
 try refine lg_mk ?_
 refine u_pt ?_
 refine u_ld ?_
 refine u_ln ?_
 refine u_bn ?_
 refine u_mv ?_
 refine g_pt ?_
 refine g_ld ?_
 refine g_ln ?_
 refine g_bn ?_
 refine u_pk ?_
 refine lg_nil ?_
 refine h3 _ ?_; clear h3; try clear N3
 refine u_cond (fun hb4 => ?_) (fun hb4 => ?_)
 refine vc_seq_k fun N5 h5 => ?_
 refine u_reg ?_
 try refine lg_mk ?_
 refine u_bd ?_
 refine u_st ?_
 refine lg_nil ?_
 refine h5 _ ?_; clear h5; try clear N5
 refine vc_ret ?_
 try simp only [k_rules]
 have hr : valS q = (9, -1) := by unfold valS; rw [if_pos (by have := hb4; (try simp at this); omega)]
 rw [hr]
 refine fin2_ ?_
 exact cl_
 have h1 : 1 ≤ q.length := by have := hb4; (try simp at this); omega
 have h40 : q.length ≤ 40 := by have := hb4; (try simp at this); omega
 refine vc_skip ?_
 try simp only [k_rules]
 refine h2 _ ?_; clear h2; try clear N2
 refine vc_seq_k fun N6 h6 => ?_
 refine u_reg ?_
 try refine lg_mk ?_
 refine u_mv ?_
 refine lg_nil ?_
 refine h6 _ ?_; clear h6; try clear N6
 refine vc_seq_k fun N7 h7 => ?_
 refine vc_seq_k fun N8 h8 => ?_
 refine u_reg ?_
 try refine lg_mk ?_
 refine u_pt ?_
 refine u_ld ?_
 refine u_ln ?_
 refine u_mv ?_
 refine lg_nil ?_
 refine h8 _ ?_; clear h8; try clear N8
 refine vc_block ?_
 refine vc_loop_mk (σ := Nat) (fun s => (fun i => i ≤ q.length ∧ ∀ j, j < i → qCs q j = 0) s)
  (fun s => (fun i => [(1, .ptr 0 0 0), (2, .ptr 1 0 0), (3, .sl 2 0 (rtsS q i).length), (19, .d (.sl (rows eSn q))), (20, .d (.int .i64 (q.length : Nat))), (21, .d (.int .i64 (i : Nat)))]) s)
  (fun s => (fun i => [some (.one 25 [.d (.sl (rows eSn q))]), some (.one 29 [.d (.int .i64 0), .d (.int .i64 0)]), some (.vec 3 1 (rows eI (rtsS q i)))]) s) (fun s => (fun i => q.length - i) s) hnp 0 ?_ [some 0, some 1, none] ?_ ?_
 dsimp only
 exact ⟨by omega, fun j hj => by omega⟩
 dsimp only
 refine ⟨by rfl, ?_, ?_⟩
 refine fin_ ?_
 exact cl_
 refine fin_ ?_
 exact cl_
 rintro i hinv N9 h9
 dsimp only at hinv ⊢
 obtain ⟨i1, i2⟩ := hinv
 refine vc_seq_k fun N10 h10 => ?_
 refine u_reg ?_
 try refine lg_mk ?_
 refine u_bn ?_
 refine lg_nil ?_
 refine h10 _ ?_; clear h10; try clear N10
 refine vc_seq_k fun N11 h11 => ?_
 refine u_cond (fun hb12 => ?_) (fun hb12 => ?_)
 have hiq : i < q.length := by have := hb12; omega
 obtain ⟨x, hxe⟩ := getE (l := q) (i := i) hiq
 have hxd : q.getD i default = x := by rw [List.getD_eq_getElem?_getD, hxe]; rfl
 have hbx := hbg x (mem_at hxe)
 have hrl := rtsS_len q i
 have hqx : qCs q i = snC x (rtsS q i) := by unfold qCs; rw [hxd]
 have hnx := rtsS_next hiq hxd
 have hnl := fun h => rtsS_nextL hiq hxd h
 have hcl := fun h => snC_len (n := x) (l := rtsS q i) h
 obtain ⟨a, b, c, d⟩ := x
 dsimp only at hnx hnl hcl hbx
 refine vc_skip ?_
 try simp only [k_rules]
 refine h11 _ ?_; clear h11; try clear N11
 refine vc_seq_k fun N13 h13 => ?_
 refine vc_block ?_
 refine vc_seq_k fun N14 h14 => ?_
 have hx := And.intro @hxe (And.intro @eSn.eq_1 hx0)
 refine u_reg ?_
 try refine lg_mk ?_
 refine u_mv ?_
 refine u_pt ?_
 refine u_ld ?_
 refine u_al ?_
 refine u_mv ?_
 refine u_st ?_
 refine lg_nil ?_
 have hx := hx0
 refine h14 _ ?_; clear h14; try clear N14
 refine vc_seq_k fun N15 h15 => ?_
 refine vc_seq_k fun N16 h16 => ?_
 refine u_reg ?_
 try refine lg_mk ?_
 refine u_ld ?_
 refine u_mv ?_
 have hc := call_rule (E := (E_chk.at_ 51)) (f := 33) (sp := Spec.gen chkSG) rfl
 have hs := @chkSG.eq_1
 refine u_hg ?_
 refine u_mv ?_
 refine lg_nil ?_
 refine h16 _ ?_; clear h16; try clear N16
 refine vc_seq_k fun N17 h17 => ?_
 refine u_reg ?_
 try refine lg_mk ?_
 refine u_mv ?_
 refine u_bn ?_
 refine lg_nil ?_
 refine h17 _ ?_; clear h17; try clear N17
 refine u_cond (fun hb18 => ?_) (fun hb18 => ?_)
 refine vc_seq_k fun N19 h19 => ?_
 refine u_reg ?_
 try refine lg_mk ?_
 iterate 2 refine u_mv ?_
 refine u_bd ?_
 refine u_st ?_
 refine lg_nil ?_
 refine h19 _ ?_; clear h19; try clear N19
 refine vc_ret ?_
 try simp only [k_rules]
 have hr := valS_at h1 h40 hiq i2 hqx (by have := hb18; simpa using this)
 rw [hr]
 refine fin2_ ?_
 exact cl_
 have hc0 : snC ⟨a, b, c, d⟩ (rtsS q i) = 0 := by have := hb18; simpa using this
 have hak := hcl hc0
 have hnk := hnl hak
 have hsu : (((rtsS q i).length : Int) - (sar a : Int)).toNat = (rtsS q i).length - sar a := by omega
 refine vc_skip ?_
 try simp only [k_rules]
 refine h15 _ ?_; clear h15; try clear N15
 have hx := And.intro @hsu hx0
 refine u_reg ?_
 try refine lg_mk ?_
 iterate 2 refine u_mv (hq := by exact so_) ?_
 refine u_ln (hq := by exact so_) ?_
 refine u_pt (hq := by exact so_) ?_
 refine u_ld (hq := by exact so_) ?_
 have hc := call_rule (E := (E_chk.at_ 51)) (f := 34) (sp := Spec.pure sarG) rfl
 have hs := @sarG.eq_1
 refine u_cp (hq := by exact so_) ?_
 refine u_bn (hq := by exact so_) ?_
 refine u_sl (hq := by exact so_) ?_
 refine u_mv (hq := by exact so_) ?_
 refine u_bs (hq := by exact so_) ?_
 refine u_ap (hq := by exact so_) ?_
 refine u_mv (hq := by exact so_) ?_
 refine lg_nil ?_
 have hx := hx0
 refine h13 _ ?_; clear h13; try clear N13
 refine u_reg ?_
 try refine lg_mk ?_
 refine u_bn ?_
 refine u_mv ?_
 refine lg_nil ?_
 refine h9 _ ⟨i + 1, ?_, ?_, [some 0, some 1, some 5], ?_⟩
 dsimp only
 exact ⟨by omega, lt_succF i2 (by rw [hqx]; exact hc0)⟩
 dsimp only
 omega
 dsimp only
 refine ⟨by rfl, ?_, ?_⟩
 refine fin_ ?_
 ·(repeat' apply And.intro) <;> (first | (first | rfl | trivial | omega | (rw [hnx]; done) | (rw [hnk]; done) | exact Or.inl rfl) | exact cl_)
 refine fin_ ?_
 ·(repeat' apply And.intro) <;> (first | (first | rfl | trivial | omega | (rw [hnx]; done) | (rw [hnk]; done) | exact Or.inl rfl) | exact cl_)
 obtain rfl : i = q.length := by have := hb12; omega
 have hre := valS_end h1 h40 i2
 have hrl := rtsS_len q q.length
 refine vc_exit ?_
 simp only [k_rules, Nat.reduceEqDiff, reduceIte, eq_self]
 refine h7 _ ?_; clear h7; try clear N7
 refine vc_seq_k fun N20 h20 => ?_
 refine vc_seq_k fun N21 h21 => ?_
 refine u_reg ?_
 try refine lg_mk ?_
 refine u_mv ?_
 refine u_ln ?_
 refine u_bn ?_
 refine lg_nil ?_
 refine h21 _ ?_; clear h21; try clear N21
 refine u_cond (fun hb22 => ?_) (fun hb22 => ?_)
 refine vc_seq_k fun N23 h23 => ?_
 refine u_reg ?_
 try refine lg_mk ?_
 refine u_bd ?_
 refine u_st ?_
 refine lg_nil ?_
 refine h23 _ ?_; clear h23; try clear N23
 refine vc_ret ?_
 try simp only [k_rules]
 rw [if_pos (by have := hb22; (try simp at this); omega)] at hre
 rw [hre]
 refine fin2_ ?_
 exact cl_
 refine vc_skip ?_
 try simp only [k_rules]
 refine h20 _ ?_; clear h20; try clear N20
 refine vc_seq_k fun N24 h24 => ?_
 refine u_reg ?_
 try refine lg_mk ?_
 refine u_bd ?_
 refine u_st ?_
 refine lg_nil ?_
 refine h24 _ ?_; clear h24; try clear N24
 refine vc_ret ?_
 try simp only [k_rules]
 rw [if_neg (by have := hb22; (try simp at this); omega)] at hre
 rw [hre]
 refine fin2_ ?_
 exact cl_
 cases hg

def E_val : Env Tryz.prog := E_chk.add 11 (Spec.pure valG) val_meets (by kernel_rfl)
end Go.Proofs.YtmbjnkgpcbpclaaGreat
