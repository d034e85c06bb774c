/- Walks, printed by wip/gen/walk.py. -/
import Derived.Test.YtmbjnkgpcbpclaaGreatT59
import Derived.Test.YtmbjnkgpcbpclaaGreatV5
set_option linter.all false
set_option maxRecDepth 100000
set_option maxHeartbeats 4000000
namespace Go.Proofs.YtmbjnkgpcbpclaaGreat
open Go Go.Vc Go.RowKit
def fnL (ts : List Bs) (q : List Sn) : Nat → List Int
  | 0 => []
  | i + 1 => if mtQ (ts.getD i []) q = true then fnL ts q i ++ [(i : Int)] else fnL ts q i
theorem fnL_len (ts : List Bs) (q : List Sn) : ∀ i, (fnL ts q i).length ≤ i
  | 0 => Nat.le_refl _
  | i + 1 => by
    have := fnL_len ts q i
    unfold fnL
    split
    · simp; omega
    · omega
def fnV (ts : List Bs) (q : List Sn) : Int × Int × List Int := if (fdF ts q).1 ≠ 0 then ((fdF ts q).1, (fdF ts q).2, []) else (0, 0, fnL ts q ts.length)
def fnG : List AV → Option (Prop × AV)
  | [.d (.sl xs), .agg [.d (.sl ys)]] => some (xs = rows eT (dT xs) ∧ (dT xs).length ≤ 9223372036854775807 ∧ (∀ s ∈ dT xs, s.length ≤ 9223372036854775807) ∧ ys = rows eSn (dSn ys) ∧ (dSn ys).length ≤ 9223372036854775807 ∧ bigS (dSn ys), .tup [.d (.sl (rows eI (fnV (dT xs) (dSn ys)).2.2)), .agg [.d (.int .i64 (fnV (dT xs) (dSn ys)).1), .d (.int .i64 (fnV (dT xs) (dSn ys)).2.1)]])
  | _ => none
theorem fn_yes {ts : List Bs} {q : List Sn} {i : Nat} {z : Bs} (h : ts.getD i [] = z) (hm : mtQ z q = true) : fnL ts q (i + 1) = fnL ts q i ++ [(i : Int)] := by show (if _ then _ else _) = _; rw [h, if_pos hm]
theorem fn_no {ts : List Bs} {q : List Sn} {i : Nat} {z : Bs} (h : ts.getD i [] = z) (hm : mtQ z q = false) : fnL ts q (i + 1) = fnL ts q i := by show (if _ then _ else _) = _; rw [h, if_neg (by rw [hm]; simp)]
theorem snI (l : List Int) (k : Int) : rows eI l ++ [[.int .i64 k]] = rows eI (l ++ [k]) := by simp [rows, eI]
theorem fn_cases (ts : List Bs) (q : List Sn) : (∃ c i : Int, fdF ts q = (c, i) ∧ c ≠ 0 ∧ fnV ts q = (c, i, [])) ∨ (fdF ts q = (0, 0) ∧ valS q = (0, 0) ∧ ts.length ≤ 20 ∧ (∀ s ∈ ts, s.length ≤ 400) ∧ fnV ts q = (0, 0, fnL ts q ts.length)) := by
  unfold fnV
  rcases fd_cases ts q with ⟨c, i, e1, e2, e3⟩ | ⟨e1, c, i, e2, e3, e4⟩ | ⟨e1, e2, e3⟩
  · exact .inl ⟨c, i, e3, e2, by rw [e3]; exact if_pos e2⟩
  · exact .inl ⟨c, -2, e4, e3, by rw [e4]; exact if_pos e3⟩
  · obtain ⟨_, h2, h3⟩ := txF_zero (ts := ts) (by rw [e1])
    exact .inr ⟨e3, e2, h2, h3, by rw [e3]; exact if_neg (by simp)⟩

theorem fnd_meets : Meets Tryz.prog 10 (Spec.pure fnG) := by
 refine meets_fun (E_ckf.at_ 34) Tryz.func10 rfl rfl rfl ?_
 intro args p r hg hp
 unfold fnG at hg
 split at hg
 rename_i xs ys
 simp only [Option.some.injEq, Prod.mk.injEq] at hg
 obtain ⟨rfl, rfl⟩ := hg
 obtain ⟨he, hl, hsm, he2, hl2, hbg⟩ := hp
 generalize dT xs = ts at *
 generalize dSn ys = q at *
 subst he he2
 have hT : (E_ckf).X = T := rfl
 have hx0 := And.intro @rect_eT (And.intro @rect_eSn (And.intro @dT_rows (And.intro @dSn_rows (And.intro @dI_rows (And.intro @dec_t (And.intro @dec_f @Tryz.results10))))))
 have hx := hx0
 refine ⟨by rfl, ?_⟩
 intro F W0 hnp hmk
 refine vc_seq_k fun N1 h1 => ?_
 refine u_reg ?_
 try refine lg_mk ?_
 refine u_bx (hq := by exact sq_) ?_
 refine u_mv (hq := by exact sq_) ?_
 refine u_al (hq := by exact sq_) ?_
 refine lg_nil ?_
 refine h1 _ ?_; clear h1; try clear N1
 refine vc_seq_k fun N2 h2 => ?_
 refine vc_seq_k fun N3 h3 => ?_
 rcases fn_cases ts q with ⟨c, k, e1, e2, hr⟩ | ⟨e1, hv, h20, hsz, hr⟩
 have c1 : (c = 0) = False := eq_false e2
 have hx := And.intro @e1 hx0
 refine u_reg ?_
 try refine lg_mk ?_
 refine u_mv (hq := by exact sq_) ?_
 refine u_ld (hq := by exact sq_) ?_
 have hc := call_rule (E := (E_ckf.at_ 34)) (f := 31) (sp := Spec.pure fdG) rfl
 have hs := @fdG.eq_1
 refine u_cp (hq := by (first | (exact ⟨trivial, hl, hsm, trivial, hl2, hbg⟩) | exact sd_)) ?_
 refine u_al (hq := by exact sq_) ?_
 refine u_st (hq := by exact sq_) ?_
 refine lg_nil ?_
 have hx := hx0
 refine h3 _ ?_; clear h3; try clear N3
 refine vc_seq_k fun N4 h4 => ?_
 have hx := And.intro @c1 hx0
 refine u_reg ?_
 try refine lg_mk ?_
 refine u_ld (hq := by exact sq_) ?_
 refine u_bd (hq := by exact sq_) ?_
 refine u_bn (hq := by exact sq_) ?_
 refine lg_nil ?_
 have hx := hx0
 refine h4 _ ?_; clear h4; try clear N4
 refine u_cond (fun hb5 => ?_) (fun hb5 => ?_)
 refine vc_seq_k fun N6 h6 => ?_
 refine u_reg ?_
 try refine lg_mk ?_
 refine u_ld (hq := by exact sq_) ?_
 refine u_mv (hq := by exact sq_) ?_
 refine u_st (hq := by exact sq_) ?_
 refine lg_nil ?_
 refine h6 _ ?_; clear h6; try clear N6
 refine vc_ret ?_
 try simp only [k_rules]
 rw [hr]
 refine fin2_ ?_
 ·(repeat' apply And.intro) <;> (first | (first | rfl | trivial | omega | (rw [List.take_of_length_le (by simp [rows])]; done) | (simp [rows]; done)) | exact cl_)
 ·first | omega | exact absurd trivial hb5 | contradiction | (simp_all; done)
 have c1 := True.intro
 have hx := And.intro @e1 hx0
 refine u_reg ?_
 try refine lg_mk ?_
 refine u_mv (hq := by exact sq_) ?_
 refine u_ld (hq := by exact sq_) ?_
 have hc := call_rule (E := (E_ckf.at_ 34)) (f := 31) (sp := Spec.pure fdG) rfl
 have hs := @fdG.eq_1
 refine u_cp (hq := by (first | (exact ⟨trivial, hl, hsm, trivial, hl2, hbg⟩) | exact sd_)) ?_
 refine u_al (hq := by exact sq_) ?_
 refine u_st (hq := by exact sq_) ?_
 refine lg_nil ?_
 have hx := hx0
 refine h3 _ ?_; clear h3; try clear N3
 refine vc_seq_k fun N7 h7 => ?_
 have hx := And.intro @c1 hx0
 refine u_reg ?_
 try refine lg_mk ?_
 refine u_ld (hq := by exact sq_) ?_
 refine u_bd (hq := by exact sq_) ?_
 refine u_bn (hq := by exact sq_) ?_
 refine lg_nil ?_
 have hx := hx0
 refine h7 _ ?_; clear h7; try clear N7
 refine u_cond (fun hb8 => ?_) (fun hb8 => ?_)
 ·first | omega | exact absurd trivial hb8 | contradiction | (simp_all; done)
 refine vc_skip ?_
 try simp only [k_rules]
 refine h2 _ ?_; clear h2; try clear N2
 refine vc_seq_k fun N9 h9 => ?_
 refine u_reg ?_
 try refine lg_mk ?_
 refine u_mv (hq := by exact sq_) ?_
 refine lg_nil ?_
 refine h9 _ ?_; clear h9; try clear N9
 refine vc_seq_k fun N10 h10 => ?_
 refine vc_seq_k fun N11 h11 => ?_
 refine u_reg ?_
 try refine lg_mk ?_
 refine u_mv (hq := by exact sq_) ?_
 refine u_ln (hq := by exact sq_) ?_
 refine u_mv (hq := by exact sq_) ?_
 refine lg_nil ?_
 refine h11 _ ?_; clear h11; try clear N11
 refine vc_block ?_
 refine vc_loop_mk (σ := Nat) (fun s => (fun i => i ≤ ts.length) s)
  (fun s => (fun i => [(0, .d (.sl (rows eT ts))), (3, .ptr 0 0 0), (5, .ptr 1 0 0), (7, .sl 2 0 (fnL ts q i).length), (17, .d (.sl (rows eT ts))), (18, .d (.int .i64 (ts.length : Nat))), (19, .d (.int .i64 (i : Nat)))]) s)
  (fun s => (fun i => [some (.one 25 [.d (.sl (rows eSn q))]), some (.one 29 [.d (.int .i64 0), .d (.int .i64 0)]), some (.vec 3 1 (rows eI (fnL ts q i)))]) s) (fun s => (fun i => ts.length - i) s) hnp 0 ?_ [some 0, some 1, none] ?_ ?_
 dsimp only
 omega
 dsimp only
 refine ⟨by rfl, ?_, ?_⟩
 refine fin_ ?_
 exact cl_
 refine fin_ ?_
 exact cl_
 rintro i hinv N12 h12
 dsimp only at hinv ⊢
 have i1 := hinv
 have hfl := fnL_len ts q i
 refine vc_seq_k fun N13 h13 => ?_
 refine u_reg ?_
 try refine lg_mk ?_
 refine u_bn (hq := by exact sq_) ?_
 refine lg_nil ?_
 refine h13 _ ?_; clear h13; try clear N13
 refine vc_seq_k fun N14 h14 => ?_
 refine u_cond (fun hb15 => ?_) (fun hb15 => ?_)
 have hil : i < ts.length := by have := hb15; omega
 obtain ⟨z, hze⟩ := getE (l := ts) (i := i) hil
 have hzd : ts.getD i [] = z := by rw [List.getD_eq_getElem?_getD, hze]; rfl
 have hzl := hsz z (mem_at hze)
 refine vc_skip ?_
 try simp only [k_rules]
 refine h14 _ ?_; clear h14; try clear N14
 refine vc_seq_k fun N16 h16 => ?_
 refine vc_block ?_
 refine vc_seq_k fun N17 h17 => ?_
 have hx := And.intro @hze (And.intro @eT.eq_1 hx0)
 refine u_reg ?_
 try refine lg_mk ?_
 refine u_mv (hq := by exact sq_) ?_
 refine u_pt (hq := by exact sq_) ?_
 refine u_ld (hq := by exact sq_) ?_
 iterate 2 refine u_mv (hq := by exact sq_) ?_
 refine lg_nil ?_
 have hx := hx0
 refine h17 _ ?_; clear h17; try clear N17
 refine vc_seq_k fun N18 h18 => ?_
 refine u_reg ?_
 try refine lg_mk ?_
 refine u_mv (hq := by exact sq_) ?_
 refine u_ld (hq := by exact sq_) ?_
 have hc := call_rule (E := (E_ckf.at_ 34)) (f := 32) (sp := Spec.pure mtG) rfl
 have hs := @mtG.eq_1
 refine u_cp (hq := by (first | ((first | exact ⟨trivial, hv, by omega⟩ | exact ⟨hv, by omega⟩ | ((repeat' apply And.intro) <;> first | rfl | exact hv | omega))) | exact sd_)) ?_
 refine lg_nil ?_
 refine h18 _ ?_; clear h18; try clear N18
 refine u_cond (fun hb19 => ?_) (fun hb19 => ?_)
 have hst := fn_yes hzd hb19
 refine u_reg ?_
 try refine lg_mk ?_
 iterate 2 refine u_mv (hq := by exact sq_) ?_
 refine u_bs (hq := by exact sq_) ?_
 refine u_ap (hq := by exact sq_) ?_
 refine u_mv (hq := by exact sq_) ?_
 refine lg_nil ?_
 refine h16 _ ?_; clear h16; try clear N16
 refine u_reg ?_
 try refine lg_mk ?_
 refine u_bn (hq := by exact sq_) ?_
 refine u_mv (hq := by exact sq_) ?_
 refine lg_nil ?_
 refine h12 _ ⟨i + 1, ?_, ?_, [some 0, some 1, some 4], ?_⟩
 dsimp only
 omega
 dsimp only
 omega
 dsimp only
 refine ⟨by rfl, ?_, ?_⟩
 refine fin_ ?_
 ·(repeat' apply And.intro) <;> (first | (first | rfl | trivial | omega | exact Or.inl rfl | (rw [List.take_of_length_le (Nat.le_refl _), snI, hst]; done) | (rw [hst]; done) | (rw [hst]; simp; done)) | exact cl_)
 refine fin_ ?_
 ·(repeat' apply And.intro) <;> (first | (first | rfl | trivial | omega | exact Or.inl rfl | (rw [List.take_of_length_le (Nat.le_refl _), snI, hst]; done) | (rw [hst]; done) | (rw [hst]; simp; done)) | exact cl_)
 have hst := fn_no hzd (by have := hb19; simpa using this)
 refine vc_skip ?_
 try simp only [k_rules]
 refine h16 _ ?_; clear h16; try clear N16
 refine u_reg ?_
 try refine lg_mk ?_
 refine u_bn (hq := by exact sq_) ?_
 refine u_mv (hq := by exact sq_) ?_
 refine lg_nil ?_
 refine h12 _ ⟨i + 1, ?_, ?_, [some 0, some 1, some 2], ?_⟩
 dsimp only
 omega
 dsimp only
 omega
 dsimp only
 refine ⟨by rfl, ?_, ?_⟩
 refine fin_ ?_
 ·(repeat' apply And.intro) <;> (first | (first | rfl | trivial | omega | exact Or.inl rfl | (rw [List.take_of_length_le (Nat.le_refl _), snI, hst]; done) | (rw [hst]; done) | (rw [hst]; simp; done)) | exact cl_)
 refine fin_ ?_
 ·(repeat' apply And.intro) <;> (first | (first | rfl | trivial | omega | exact Or.inl rfl | (rw [List.take_of_length_le (Nat.le_refl _), snI, hst]; done) | (rw [hst]; done) | (rw [hst]; simp; done)) | exact cl_)
 obtain rfl : i = ts.length := by have := hb15; omega
 refine vc_exit ?_
 simp only [k_rules, Nat.reduceEqDiff, reduceIte, eq_self]
 refine h10 _ ?_; clear h10; try clear N10
 refine vc_seq_k fun N20 h20 => ?_
 refine u_reg ?_
 try refine lg_mk ?_
 refine u_mv (hq := by exact sq_) ?_
 refine u_bd (hq := by exact sq_) ?_
 refine u_mv (hq := by exact sq_) ?_
 refine u_st (hq := by exact sq_) ?_
 refine lg_nil ?_
 refine h20 _ ?_; clear h20; try clear N20
 refine vc_ret ?_
 try simp only [k_rules]
 rw [hr]
 refine fin2_ ?_
 ·(repeat' apply And.intro) <;> (first | (first | rfl | trivial | omega | (rw [List.take_of_length_le (by simp [rows])]; done) | (simp [rows]; done)) | exact cl_)
 cases hg

def E_fnd : Env Tryz.prog := E_ckf.add 10 (Spec.pure fnG) fnd_meets (by kernel_rfl)
end Go.Proofs.YtmbjnkgpcbpclaaGreat
