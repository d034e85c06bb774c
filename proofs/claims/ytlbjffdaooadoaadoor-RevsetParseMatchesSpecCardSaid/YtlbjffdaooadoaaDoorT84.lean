/- Walks, printed by wip/gen/walk.py. -/
import Derived.Test.YtlbjffdaooadoaaDoorT83
import Derived.Test.YtlbjffdaooadoaaDoorV5
set_option linter.all false
set_option maxRecDepth 100000
set_option maxHeartbeats 4000000
namespace Go.Proofs.YtlbjffdaooadoaaDoor
open Go Go.Vc Go.RowKit
theorem rect_eT (l : List Tn) : Rect 2 (rows eT l) = True := eq_true (rows_rect (f := eT) (fun _ => rfl) l)
def tksG : List AV → Option (Prop × AV)
  | [.d (.str t)] => some (t.length ≤ 1000000, .d (.sl (rows eT (tksQ t))))
  | _ => none
theorem snocT {t : Bs} {i : Nat} (h : tkL t i ≠ []) : ∃ X w a, tkL t i = X ++ [(w, a)] ∧ 0 < i := by
  refine ⟨(tkL t i).dropLast, ((tkL t i).getLast h).1, ((tkL t i).getLast h).2, (List.dropLast_concat_getLast h).symm, ?_⟩
  cases i with
  | zero => exact absurd rfl h
  | succ i => omega
theorem gr_cases (t : Bs) (i : Nat) (hi : i < t.length) : ∃ b, t[i]? = some b ∧ byI t i = (b.toNat : Int) ∧ t.getD i 0 = b ∧ List.take (i + 1 - i) (List.drop i t) = [b] ∧
    ((tkL t i = [] ∧ grB t (tkL t i) i = false) ∨ ∃ X w a, tkL t i = X ++ [(w, a)] ∧ 0 < i ∧ a + w.length ≤ i ∧ ((a + w.length ≠ i ∧ grB t (tkL t i) i = false) ∨ (a + w.length = i ∧ ¬0 < kcI (b.toNat : Int) ∧ grB t (tkL t i) i = false) ∨ ∃ d, t[i - 1]? = some d ∧ a + w.length = i ∧ 0 < kcI (b.toNat : Int) ∧ ((kcI (b.toNat : Int) ≠ kcI (d.toNat : Int) ∧ grB t (tkL t i) i = false) ∨ (kcI (b.toNat : Int) = kcI (d.toNat : Int) ∧ grB t (tkL t i) i = true)))) := by
  obtain ⟨b, hb⟩ := getE (l := t) (i := i) hi
  have hg : t.getD i 0 = b := by rw [List.getD_eq_getElem?_getD, hb]; rfl
  have hy : byI t i = (b.toNat : Int) := by unfold byI; rw [hg]
  refine ⟨b, hb, hy, hg, ?_, ?_⟩
  · rw [show i + 1 - i = 0 + 1 by omega, List.take_add_one, List.take_zero, List.getElem?_drop, Nat.add_zero, hb]; rfl
  by_cases h0 : tkL t i = []
  · exact .inl ⟨h0, by rw [h0]; rfl⟩
  obtain ⟨X, w, a, hX, hi0⟩ := snocT h0
  refine .inr ⟨X, w, a, hX, hi0, ?_, ?_⟩
  · exact tkL_end t i (w, a) (by rw [hX, List.getLast?_concat])
  rw [hX, grB_snoc, hy]
  dsimp only
  by_cases h1 : a + w.length = i
  · by_cases h2 : 0 < kcI (b.toNat : Int)
    · obtain ⟨d, hd⟩ := getE (l := t) (i := i - 1) (by omega)
      have hyd : byI t (i - 1) = (d.toNat : Int) := by unfold byI; rw [List.getD_eq_getElem?_getD, hd]; rfl
      rw [hyd]
      refine .inr (.inr ⟨d, hd, h1, h2, ?_⟩)
      by_cases h3 : kcI (b.toNat : Int) = kcI (d.toNat : Int)
      · exact .inr ⟨h3, by rw [decide_eq_true h1, decide_eq_true h2, decide_eq_true h3]; rfl⟩
      · exact .inl ⟨h3, by rw [decide_eq_false h3]; simp⟩
    · exact .inr (.inl ⟨h1, h2, by rw [decide_eq_false h2]; simp⟩)
  · exact .inl ⟨h1, by rw [decide_eq_false h1]; rfl⟩
theorem tk_step0 {t : Bs} {i : Nat} (h : byI t i = 32) : tkL t (i + 1) = tkL t i := by show tkS t (tkL t i) i = _; unfold tkS; rw [if_pos h]
theorem tk_step1 {t : Bs} {i : Nat} {b : UInt8} (h : byI t i ≠ 32) (hg : grB t (tkL t i) i = false) (hb : t.getD i 0 = b) : tkL t (i + 1) = tkL t i ++ [([b], i)] := by
  show tkS t (tkL t i) i = _
  rw [tkS_new h hg, hb]
theorem tk_step2 {t : Bs} {i : Nat} {b : UInt8} {X : List Tn} {w : Bs} {a : Nat} (h : byI t i ≠ 32) (hg : grB t (tkL t i) i = true) (hb : t.getD i 0 = b) (hX : tkL t i = X ++ [(w, a)]) : tkL t (i + 1) = X ++ [(w ++ [b], a)] := by
  show tkS t (tkL t i) i = _
  unfold tkS gwT
  rw [if_neg h, if_pos hg, hX, List.getLast?_concat, hb, List.dropLast_concat]
theorem set_last (X : List Tn) (x : Tn) (w : Bs) (a : Nat) : (rows eT (X ++ [x])).set X.length [.str w, .int .i64 (a : Nat)] = rows eT (X ++ [(w, a)]) := by
  have : rows eT (X ++ [x]) = rows eT X ++ [eT x] := by simp [rows]
  rw [this, List.set_append_right _ _ (by simp [rows])]
  simp [rows, eT]
theorem end_tk (t : Bs) : List.take ((tkL t t.length).length + 1) (rows eT (List.take (tkL t t.length).length (tkL t t.length)) ++ [[.str [], .int .i64 (t.length : Nat)]]) = rows eT (tksQ t) := by
  unfold tksQ
  rw [List.take_of_length_le (Nat.le_refl _), List.take_of_length_le (by simp [rows])]
  simp [rows, eT]
theorem end_le (t : Bs) : (tkL t t.length).length + 1 ≤ (rows eT (List.take (tkL t t.length).length (tkL t t.length)) ++ [[D.str [], .int .i64 (t.length : Nat)]]).length := by simp [rows]
theorem snT_rows (l : List Tn) (w : Bs) (a : Nat) : rows eT l ++ [[.str w, .int .i64 (a : Nat)]] = rows eT (l ++ [(w, a)]) := by simp [rows, eT]

theorem tkn_meets : Meets Tryd.prog 59 (Spec.pure tksG) := by
 refine meets_fun (E_redr.at_ 87) Tryd.func59 rfl rfl rfl ?_
 intro args p r hg hp
 unfold tksG at hg
 split at hg
 rename_i t
 simp only [Option.some.injEq, Prod.mk.injEq] at hg
 obtain ⟨rfl, rfl⟩ := hg
 have htl := hp
 have hT : (E_redr).X = T := rfl
 have hx0 := And.intro @dec_t (And.intro @dec_f (And.intro @rect_eT (And.intro @Int.toNat_natCast @Tryd.results59)))
 have hx := hx0
 refine ⟨by rfl, ?_⟩
 intro F W0 hnp hmk
 refine vc_seq_k fun N1 h1 => ?_
 refine u_reg ?_
 try refine lg_mk ?_
 refine u_mv (hq := by exact so_) ?_
 refine lg_nil ?_
 refine h1 _ ?_; clear h1; try clear N1
 refine vc_seq_k fun N2 h2 => ?_
 refine u_reg ?_
 try refine lg_mk ?_
 refine u_mv (hq := by exact so_) ?_
 refine lg_nil ?_
 refine h2 _ ?_; clear h2; try clear N2
 refine vc_seq_k fun N3 h3 => ?_
 refine vc_seq_k fun N4 h4 => ?_
 refine u_reg ?_
 try refine lg_mk ?_
 refine u_mv (hq := by exact so_) ?_
 refine lg_nil ?_
 refine h4 _ ?_; clear h4; try clear N4
 refine vc_block ?_
 refine vc_loop_mk (σ := Nat) (fun s => (fun i => i ≤ t.length) s)
  (fun s => (fun i => [(0, .d (.str t)), (3, .sl 0 0 (tkL t i).length), (4, .d (.int .i64 (i : Nat)))]) s)
  (fun s => (fun i => [some (.vec 94 2 (rows eT (tkL t i)))]) s) (fun s => (fun i => t.length - i) s) hnp 0 ?_ [none] ?_ ?_
 dsimp only
 ·first | rfl | exact Or.inr rfl | exact Or.inl rfl | trivial | omega | assumption | (simp; done) | (simp; omega)
 dsimp only
 refine ⟨by rfl, ?_, ?_⟩
 refine fin_ ?_
 exact cl_
 refine fin_ ?_
 exact cl_
 rintro i hinv N5 h5
 dsimp only at hinv ⊢
 skip
 refine vc_seq_k fun N6 h6 => ?_
 refine vc_seq_k fun N7 h7 => ?_
 refine u_reg ?_
 try refine lg_mk ?_
 iterate 2 refine u_mv (hq := by exact so_) ?_
 refine u_ln (hq := by exact so_) ?_
 refine u_bn (hq := by exact so_) ?_
 refine lg_nil ?_
 refine h7 _ ?_; clear h7; try clear N7
 refine u_cond (fun hb8 => ?_) (fun hb8 => ?_)
 have hil : i < t.length := by have := hb8; omega
 obtain ⟨b, hbe, hby, hbg, hbt, hcs⟩ := gr_cases t i hil
 have htn := tkL_len t i
 have hip : ((i : Int) + 1).toNat = i + 1 := by omega
 refine vc_skip ?_
 try simp only [k_rules]
 refine h6 _ ?_; clear h6; try clear N6
 refine vc_seq_k fun N9 h9 => ?_
 refine vc_block ?_
 refine vc_seq_k fun N10 h10 => ?_
 refine vc_seq_k fun N11 h11 => ?_
 have hx := And.intro @hbe hx0
 refine u_reg ?_
 try refine lg_mk ?_
 iterate 2 refine u_mv (hq := by exact so_) ?_
 refine u_pt (hq := by exact so_) ?_
 refine u_bn (hq := by exact so_) ?_
 refine lg_nil ?_
 have hx := hx0
 refine h11 _ ?_; clear h11; try clear N11
 refine u_cond (fun hb12 => ?_) (fun hb12 => ?_)
 have h32 : byI t i = 32 := by rw [hby]; have := hb12; (try simp at this); omega
 have hst := tk_step0 h32
 refine vc_exit ?_
 simp only [k_rules, Nat.reduceEqDiff, reduceIte, eq_self]
 refine h9 _ ?_; clear h9; try clear N9
 refine u_reg ?_
 try refine lg_mk ?_
 refine u_mv (hq := by exact so_) ?_
 refine u_bn (hq := by exact so_) ?_
 refine u_mv (hq := by exact so_) ?_
 refine lg_nil ?_
 refine h5 _ ⟨i + 1, ?_, ?_, [some 0], ?_⟩
 dsimp only
 omega
 dsimp only
 omega
 dsimp only
 refine ⟨by rfl, ?_, ?_⟩
 refine fin_ ?_
 ·(repeat' apply And.intro) <;> (first | (first | rfl | trivial | omega | (rw [hst]; done)) | exact cl_)
 refine fin_ ?_
 ·(repeat' apply And.intro) <;> (first | (first | rfl | trivial | omega | (rw [hst]; done)) | exact cl_)
 have h32 : byI t i ≠ 32 := by rw [hby]; have := hb12; (try simp at this); omega
 refine vc_skip ?_
 try simp only [k_rules]
 refine h10 _ ?_; clear h10; try clear N10
 refine vc_seq_k fun N13 h13 => ?_
 rcases hcs with ⟨hX, hgr⟩ | ⟨X, w, a, hX, hi0, hae, ⟨g1, hgr⟩ | ⟨g1, g2, hgr⟩ | ⟨d, hde, g1, g2, ⟨g3, hgr⟩ | ⟨g3, hgr⟩⟩⟩
 have hst := tk_step1 h32 hgr hbg
 have f1 : (0 ≤ ((0 : Nat) : Int) - 1) = False := eq_false (by omega)
 have hXl : ([] : List Tn).length = 0 := rfl
 have f2 := True.intro
 have f3 := True.intro
 have f4 := True.intro
 have hxi := True.intro
 have hi2 := True.intro
 have hde := True.intro
 rw [hX]
 have hx := And.intro @hXl hx0
 refine u_reg ?_
 try refine lg_mk ?_
 refine u_mv (hq := by exact so_) ?_
 refine u_ln (hq := by exact so_) ?_
 refine u_bn (hq := by exact so_) ?_
 refine u_mv (hq := by exact so_) ?_
 refine lg_nil ?_
 have hx := hx0
 refine h13 _ ?_; clear h13; try clear N13
 refine vc_seq_k fun N14 h14 => ?_
 refine vc_seq_k fun N15 h15 => ?_
 have hx := And.intro @f1 hx0
 refine vc_regO [80] [0, 1, 2, 3, 4, 5, 6, 7, 8, 9, 10, 11, 12, 13, 14, 15, 16, 17, 18, 19, 20, 21, 22, 23, 24, 25, 26, 27, 28, 30, 31, 32, 33, 29, 34, 35, 36] hmix (by kernel_rfl) ?_
 simp only [pick_rules, list_rules]
 try refine lg_mk ?_
 refine u_mv (hq := by exact so_) ?_
 refine u_bn (hq := by exact so_) ?_
 refine u_mv (hq := by exact so_) ?_
 refine lg_g0 ?_ ?_
 focus (exact gt_)
 refine lg_g0 ?_ ?_
 focus (exact gt_)
 refine lg_g0 ?_ ?_
 focus (exact gt_)
 refine lg_g0 ?_ ?_
 focus (exact gt_)
 refine lg_g0 ?_ ?_
 focus (exact gt_)
 refine lg_g0 ?_ ?_
 focus (exact gt_)
 refine lg_g0 ?_ ?_
 focus (exact gt_)
 refine lg_g0 ?_ ?_
 focus (exact gt_)
 refine lg_g0 ?_ ?_
 focus (exact gt_)
 refine lg_g0 ?_ ?_
 focus (exact gt_)
 refine lg_g0 ?_ ?_
 focus (exact gt_)
 refine lg_g0 ?_ ?_
 focus (exact gt_)
 refine lg_g0 ?_ ?_
 focus (exact gt_)
 refine lg_g0 ?_ ?_
 focus (exact gt_)
 refine u_pk (hq := by exact so_) ?_
 refine u_mv (hq := by exact so_) ?_
 refine lg_g0 ?_ ?_
 focus (exact gt_)
 refine lg_g0 ?_ ?_
 focus (exact gt_)
 refine lg_g0 ?_ ?_
 focus (exact gt_)
 refine lg_g0 ?_ ?_
 focus (exact gt_)
 refine lg_g0 ?_ ?_
 focus (exact gt_)
 refine u_pk (hq := by exact so_) ?_
 refine u_mv (hq := by exact so_) ?_
 refine lg_g0 ?_ ?_
 focus (exact gt_)
 refine lg_g0 ?_ ?_
 focus (exact gt_)
 refine lg_g0 ?_ ?_
 focus (exact gt_)
 refine lg_g0 ?_ ?_
 focus (exact gt_)
 refine lg_g0 ?_ ?_
 focus (exact gt_)
 refine lg_g0 ?_ ?_
 focus (exact gt_)
 refine lg_g0 ?_ ?_
 focus (exact gt_)
 refine lg_g0 ?_ ?_
 focus (exact gt_)
 refine lg_g0 ?_ ?_
 focus (exact gt_)
 refine lg_g0 ?_ ?_
 focus (exact gt_)
 refine u_pk (hq := by exact so_) ?_
 refine lg_nil ?_
 have hx := hx0
 refine h15 _ ?_; clear h15; try clear N15
 refine u_cond (fun hb16 => ?_) (fun hb16 => ?_)
 ·first | omega | exact absurd trivial hb16 | contradiction | (simp_all; done)
 refine vc_skip ?_
 try simp only [k_rules]
 refine h14 _ ?_; clear h14; try clear N14
 have hx := And.intro @hip (And.intro @hbt hx0)
 refine u_reg ?_
 try refine lg_mk ?_
 iterate 4 refine u_mv (hq := by exact so_) ?_
 refine u_bn (hq := by exact so_) ?_
 refine u_sl (hq := by exact so_) ?_
 refine u_mv (hq := by exact so_) ?_
 refine u_bd (hq := by exact so_) ?_
 refine u_bs (hq := by exact so_) ?_
 refine u_ap (hq := by exact so_) ?_
 refine u_mv (hq := by exact so_) ?_
 refine lg_nil ?_
 have hx := hx0
 refine h9 _ ?_; clear h9; try clear N9
 refine u_reg ?_
 try refine lg_mk ?_
 refine u_mv (hq := by exact so_) ?_
 refine u_bn (hq := by exact so_) ?_
 refine u_mv (hq := by exact so_) ?_
 refine lg_nil ?_
 refine h5 _ ⟨i + 1, ?_, ?_, [some 2], ?_⟩
 dsimp only
 omega
 dsimp only
 omega
 dsimp only
 refine ⟨by rfl, ?_, ?_⟩
 refine fin_ ?_
 ·(repeat' apply And.intro) <;> (first | (first | rfl | trivial | omega | (rw [hst, hX]; rfl) | (rw [List.take_of_length_le (Nat.le_refl _), snT_rows, hst, hX]; done) | (rw [hst, hX]; simp; done) | exact Or.inl (by simp)) | exact cl_)
 refine fin_ ?_
 ·(repeat' apply And.intro) <;> (first | (first | rfl | trivial | omega | (rw [hst, hX]; rfl) | (rw [List.take_of_length_le (Nat.le_refl _), snT_rows, hst, hX]; done) | (rw [hst, hX]; simp; done) | exact Or.inl (by simp)) | exact cl_)
 have hst := tk_step1 h32 hgr hbg
 rw [hX]
 rw [hX] at htn
 have hXl : (X ++ [(w, a)]).length = X.length + 1 := by simp
 have hxi : (X ++ [(w, a)])[X.length]? = some (w, a) := by simp
 have hi2 : (((X.length + 1 : Nat) : Int) - 1).toNat = X.length := by omega
 have f1 : (0 ≤ (((X.length + 1 : Nat) : Int) - 1)) = True := eq_true (by omega)
 have f2 : ((a : Int) + (w.length : Int) = (i : Int)) = False := eq_false (by omega)
 have f3 := True.intro
 have f4 := True.intro
 have hde := True.intro
 have hx := And.intro @hXl hx0
 refine u_reg ?_
 try refine lg_mk ?_
 refine u_mv (hq := by exact so_) ?_
 refine u_ln (hq := by exact so_) ?_
 refine u_bn (hq := by exact so_) ?_
 refine u_mv (hq := by exact so_) ?_
 refine lg_nil ?_
 have hx := hx0
 refine h13 _ ?_; clear h13; try clear N13
 refine vc_seq_k fun N17 h17 => ?_
 refine vc_seq_k fun N18 h18 => ?_
 have hx := And.intro @f1 (And.intro @f2 (And.intro @hi2 (And.intro @hxi (And.intro @eT.eq_1 hx0))))
 refine vc_regO [80] [0, 1, 2, 3, 4, 5, 6, 7, 8, 9, 10, 11, 12, 13, 14, 15, 16, 17, 18, 19, 20, 21, 22, 23, 24, 25, 26, 27, 28, 30, 31, 32, 33, 29, 34, 35, 36] hmix (by kernel_rfl) ?_
 simp only [pick_rules, list_rules]
 try refine lg_mk ?_
 refine u_mv (hq := by exact so_) ?_
 refine u_bn (hq := by exact so_) ?_
 refine u_mv (hq := by exact so_) ?_
 iterate 2 refine s_mv (hq := by exact si_) ?_
 iterate 2 refine s_pt (hq := by exact si_) ?_
 refine s_ld (hq := by exact si_) ?_
 iterate 2 refine s_mv (hq := by exact si_) ?_
 iterate 2 refine s_pt (hq := by exact si_) ?_
 refine s_ld (hq := by exact si_) ?_
 refine s_ln (hq := by exact si_) ?_
 refine s_bn (hq := by exact si_) ?_
 refine s_mv (hq := by exact si_) ?_
 refine s_bn (hq := by exact si_) ?_
 refine u_pk (hq := by exact so_) ?_
 refine u_mv (hq := by exact so_) ?_
 refine lg_g0 ?_ ?_
 focus (exact gt_)
 refine lg_g0 ?_ ?_
 focus (exact gt_)
 refine lg_g0 ?_ ?_
 focus (exact gt_)
 refine lg_g0 ?_ ?_
 focus (exact gt_)
 refine lg_g0 ?_ ?_
 focus (exact gt_)
 refine u_pk (hq := by exact so_) ?_
 refine u_mv (hq := by exact so_) ?_
 refine lg_g0 ?_ ?_
 focus (exact gt_)
 refine lg_g0 ?_ ?_
 focus (exact gt_)
 refine lg_g0 ?_ ?_
 focus (exact gt_)
 refine lg_g0 ?_ ?_
 focus (exact gt_)
 refine lg_g0 ?_ ?_
 focus (exact gt_)
 refine lg_g0 ?_ ?_
 focus (exact gt_)
 refine lg_g0 ?_ ?_
 focus (exact gt_)
 refine lg_g0 ?_ ?_
 focus (exact gt_)
 refine lg_g0 ?_ ?_
 focus (exact gt_)
 refine lg_g0 ?_ ?_
 focus (exact gt_)
 refine u_pk (hq := by exact so_) ?_
 refine lg_nil ?_
 have hx := hx0
 refine h18 _ ?_; clear h18; try clear N18
 refine u_cond (fun hb19 => ?_) (fun hb19 => ?_)
 ·first | omega | exact absurd trivial hb19 | contradiction | (simp_all; done)
 refine vc_skip ?_
 try simp only [k_rules]
 refine h17 _ ?_; clear h17; try clear N17
 have hx := And.intro @hip (And.intro @hbt hx0)
 refine u_reg ?_
 try refine lg_mk ?_
 iterate 4 refine u_mv (hq := by exact so_) ?_
 refine u_bn (hq := by exact so_) ?_
 refine u_sl (hq := by exact so_) ?_
 refine u_mv (hq := by exact so_) ?_
 refine u_bd (hq := by exact so_) ?_
 refine u_bs (hq := by exact so_) ?_
 refine u_ap (hq := by exact so_) ?_
 refine u_mv (hq := by exact so_) ?_
 refine lg_nil ?_
 have hx := hx0
 refine h9 _ ?_; clear h9; try clear N9
 refine u_reg ?_
 try refine lg_mk ?_
 refine u_mv (hq := by exact so_) ?_
 refine u_bn (hq := by exact so_) ?_
 refine u_mv (hq := by exact so_) ?_
 refine lg_nil ?_
 refine h5 _ ⟨i + 1, ?_, ?_, [some 2], ?_⟩
 dsimp only
 omega
 dsimp only
 omega
 dsimp only
 refine ⟨by rfl, ?_, ?_⟩
 refine fin_ ?_
 ·(repeat' apply And.intro) <;> (first | (first | rfl | trivial | omega | (rw [hst, hX]; rfl) | (rw [List.take_of_length_le (Nat.le_refl _), snT_rows, hst, hX]; done) | (rw [hst, hX]; simp; done) | exact Or.inl (by simp)) | exact cl_)
 refine fin_ ?_
 ·(repeat' apply And.intro) <;> (first | (first | rfl | trivial | omega | (rw [hst, hX]; rfl) | (rw [List.take_of_length_le (Nat.le_refl _), snT_rows, hst, hX]; done) | (rw [hst, hX]; simp; done) | exact Or.inl (by simp)) | exact cl_)
 have hst := tk_step1 h32 hgr hbg
 rw [hX]
 rw [hX] at htn
 have hXl : (X ++ [(w, a)]).length = X.length + 1 := by simp
 have hxi : (X ++ [(w, a)])[X.length]? = some (w, a) := by simp
 have hi2 : (((X.length + 1 : Nat) : Int) - 1).toNat = X.length := by omega
 have f1 : (0 ≤ (((X.length + 1 : Nat) : Int) - 1)) = True := eq_true (by omega)
 have f2 : ((a : Int) + (w.length : Int) = (i : Int)) = True := eq_true (by omega)
 have f3 : (0 < kcI (b.toNat : Int)) = False := eq_false g2
 have f4 := True.intro
 have hde := True.intro
 have hx := And.intro @hXl hx0
 refine u_reg ?_
 try refine lg_mk ?_
 refine u_mv (hq := by exact so_) ?_
 refine u_ln (hq := by exact so_) ?_
 refine u_bn (hq := by exact so_) ?_
 refine u_mv (hq := by exact so_) ?_
 refine lg_nil ?_
 have hx := hx0
 refine h13 _ ?_; clear h13; try clear N13
 refine vc_seq_k fun N20 h20 => ?_
 refine vc_seq_k fun N21 h21 => ?_
 have hx := And.intro @f1 (And.intro @f2 (And.intro @f3 (And.intro @hi2 (And.intro @hxi (And.intro @eT.eq_1 (And.intro @hbe hx0))))))
 refine vc_regO [80] [0, 1, 2, 3, 4, 5, 6, 7, 8, 9, 10, 11, 12, 13, 14, 15, 16, 17, 18, 19, 20, 21, 22, 23, 24, 25, 26, 27, 28, 30, 31, 32, 33, 29, 34, 35, 36] hmix (by kernel_rfl) ?_
 simp only [pick_rules, list_rules]
 try refine lg_mk ?_
 refine u_mv (hq := by exact so_) ?_
 refine u_bn (hq := by exact so_) ?_
 refine u_mv (hq := by exact so_) ?_
 iterate 2 refine s_mv (hq := by exact si_) ?_
 iterate 2 refine s_pt (hq := by exact si_) ?_
 refine s_ld (hq := by exact si_) ?_
 iterate 2 refine s_mv (hq := by exact si_) ?_
 iterate 2 refine s_pt (hq := by exact si_) ?_
 refine s_ld (hq := by exact si_) ?_
 refine s_ln (hq := by exact si_) ?_
 refine s_bn (hq := by exact si_) ?_
 refine s_mv (hq := by exact si_) ?_
 refine s_bn (hq := by exact si_) ?_
 refine u_pk (hq := by exact so_) ?_
 refine u_mv (hq := by exact so_) ?_
 iterate 2 refine s_mv (hq := by exact si_) ?_
 refine s_pt (hq := by exact si_) ?_
 have hc := call_rule (E := (E_redr.at_ 87)) (f := 80) (sp := Spec.pure kcG) rfl
 have hs := @kcG.eq_1
 refine s_cp (hq := by exact si_) ?_
 refine s_bn (hq := by exact si_) ?_
 refine u_pk (hq := by exact so_) ?_
 refine u_mv (hq := by exact so_) ?_
 refine lg_g0 ?_ ?_
 focus (exact gt_)
 refine lg_g0 ?_ ?_
 focus (exact gt_)
 refine lg_g0 ?_ ?_
 focus (exact gt_)
 refine lg_g0 ?_ ?_
 focus (exact gt_)
 refine lg_g0 ?_ ?_
 focus (exact gt_)
 refine lg_g0 ?_ ?_
 focus (exact gt_)
 refine lg_g0 ?_ ?_
 focus (exact gt_)
 refine lg_g0 ?_ ?_
 focus (exact gt_)
 refine lg_g0 ?_ ?_
 focus (exact gt_)
 refine lg_g0 ?_ ?_
 focus (exact gt_)
 refine u_pk (hq := by exact so_) ?_
 refine lg_nil ?_
 have hx := hx0
 refine h21 _ ?_; clear h21; try clear N21
 refine u_cond (fun hb22 => ?_) (fun hb22 => ?_)
 ·first | omega | exact absurd trivial hb22 | contradiction | (simp_all; done)
 refine vc_skip ?_
 try simp only [k_rules]
 refine h20 _ ?_; clear h20; try clear N20
 have hx := And.intro @hip (And.intro @hbt hx0)
 refine u_reg ?_
 try refine lg_mk ?_
 iterate 4 refine u_mv (hq := by exact so_) ?_
 refine u_bn (hq := by exact so_) ?_
 refine u_sl (hq := by exact so_) ?_
 refine u_mv (hq := by exact so_) ?_
 refine u_bd (hq := by exact so_) ?_
 refine u_bs (hq := by exact so_) ?_
 refine u_ap (hq := by exact so_) ?_
 refine u_mv (hq := by exact so_) ?_
 refine lg_nil ?_
 have hx := hx0
 refine h9 _ ?_; clear h9; try clear N9
 refine u_reg ?_
 try refine lg_mk ?_
 refine u_mv (hq := by exact so_) ?_
 refine u_bn (hq := by exact so_) ?_
 refine u_mv (hq := by exact so_) ?_
 refine lg_nil ?_
 refine h5 _ ⟨i + 1, ?_, ?_, [some 2], ?_⟩
 dsimp only
 omega
 dsimp only
 omega
 dsimp only
 refine ⟨by rfl, ?_, ?_⟩
 refine fin_ ?_
 ·(repeat' apply And.intro) <;> (first | (first | rfl | trivial | omega | (rw [hst, hX]; rfl) | (rw [List.take_of_length_le (Nat.le_refl _), snT_rows, hst, hX]; done) | (rw [hst, hX]; simp; done) | exact Or.inl (by simp)) | exact cl_)
 refine fin_ ?_
 ·(repeat' apply And.intro) <;> (first | (first | rfl | trivial | omega | (rw [hst, hX]; rfl) | (rw [List.take_of_length_le (Nat.le_refl _), snT_rows, hst, hX]; done) | (rw [hst, hX]; simp; done) | exact Or.inl (by simp)) | exact cl_)
 have hst := tk_step1 h32 hgr hbg
 rw [hX]
 rw [hX] at htn
 have hXl : (X ++ [(w, a)]).length = X.length + 1 := by simp
 have hxi : (X ++ [(w, a)])[X.length]? = some (w, a) := by simp
 have hi2 : (((X.length + 1 : Nat) : Int) - 1).toNat = X.length := by omega
 have f1 : (0 ≤ (((X.length + 1 : Nat) : Int) - 1)) = True := eq_true (by omega)
 have hi3 : ((i : Int) - 1).toNat = i - 1 := by omega
 have f2 : ((a : Int) + (w.length : Int) = (i : Int)) = True := eq_true (by omega)
 have f3 : (0 < kcI (b.toNat : Int)) = True := eq_true g2
 have f4 : (kcI (b.toNat : Int) = kcI (d.toNat : Int)) = False := eq_false g3
 have hx := And.intro @hXl hx0
 refine u_reg ?_
 try refine lg_mk ?_
 refine u_mv (hq := by exact so_) ?_
 refine u_ln (hq := by exact so_) ?_
 refine u_bn (hq := by exact so_) ?_
 refine u_mv (hq := by exact so_) ?_
 refine lg_nil ?_
 have hx := hx0
 refine h13 _ ?_; clear h13; try clear N13
 refine vc_seq_k fun N23 h23 => ?_
 refine vc_seq_k fun N24 h24 => ?_
 have hx := And.intro @f1 (And.intro @f2 (And.intro @f3 (And.intro @f4 (And.intro @hi2 (And.intro @hxi (And.intro @eT.eq_1 (And.intro @hbe (And.intro @hde (And.intro @hi3 hx0)))))))))
 refine vc_regO [80] [0, 1, 2, 3, 4, 5, 6, 7, 8, 9, 10, 11, 12, 13, 14, 15, 16, 17, 18, 19, 20, 21, 22, 23, 24, 25, 26, 27, 28, 30, 31, 32, 33, 29, 34, 35, 36] hmix (by kernel_rfl) ?_
 simp only [pick_rules, list_rules]
 try refine lg_mk ?_
 refine u_mv (hq := by exact so_) ?_
 refine u_bn (hq := by exact so_) ?_
 refine u_mv (hq := by exact so_) ?_
 iterate 2 refine s_mv (hq := by exact si_) ?_
 iterate 2 refine s_pt (hq := by exact si_) ?_
 refine s_ld (hq := by exact si_) ?_
 iterate 2 refine s_mv (hq := by exact si_) ?_
 iterate 2 refine s_pt (hq := by exact si_) ?_
 refine s_ld (hq := by exact si_) ?_
 refine s_ln (hq := by exact si_) ?_
 refine s_bn (hq := by exact si_) ?_
 refine s_mv (hq := by exact si_) ?_
 refine s_bn (hq := by exact si_) ?_
 refine u_pk (hq := by exact so_) ?_
 refine u_mv (hq := by exact so_) ?_
 iterate 2 refine s_mv (hq := by exact si_) ?_
 refine s_pt (hq := by exact si_) ?_
 have hc := call_rule (E := (E_redr.at_ 87)) (f := 80) (sp := Spec.pure kcG) rfl
 have hs := @kcG.eq_1
 refine s_cp (hq := by exact si_) ?_
 refine s_bn (hq := by exact si_) ?_
 refine u_pk (hq := by exact so_) ?_
 refine u_mv (hq := by exact so_) ?_
 iterate 2 refine s_mv (hq := by exact si_) ?_
 refine s_pt (hq := by exact si_) ?_
 iterate 2 refine s_mv (hq := by exact si_) ?_
 refine s_bn (hq := by exact si_) ?_
 refine s_pt (hq := by exact si_) ?_
 have hc := call_rule (E := (E_redr.at_ 87)) (f := 80) (sp := Spec.pure kcG) rfl
 have hs := @kcG.eq_1
 refine s_cp (hq := by exact si_) ?_
 have hc := call_rule (E := (E_redr.at_ 87)) (f := 80) (sp := Spec.pure kcG) rfl
 have hs := @kcG.eq_1
 refine s_cp (hq := by exact si_) ?_
 refine s_bn (hq := by exact si_) ?_
 refine u_pk (hq := by exact so_) ?_
 refine lg_nil ?_
 have hx := hx0
 refine h24 _ ?_; clear h24; try clear N24
 refine u_cond (fun hb25 => ?_) (fun hb25 => ?_)
 ·first | omega | exact absurd trivial hb25 | contradiction | (simp_all; done)
 refine vc_skip ?_
 try simp only [k_rules]
 refine h23 _ ?_; clear h23; try clear N23
 have hx := And.intro @hip (And.intro @hbt hx0)
 refine u_reg ?_
 try refine lg_mk ?_
 iterate 4 refine u_mv (hq := by exact so_) ?_
 refine u_bn (hq := by exact so_) ?_
 refine u_sl (hq := by exact so_) ?_
 refine u_mv (hq := by exact so_) ?_
 refine u_bd (hq := by exact so_) ?_
 refine u_bs (hq := by exact so_) ?_
 refine u_ap (hq := by exact so_) ?_
 refine u_mv (hq := by exact so_) ?_
 refine lg_nil ?_
 have hx := hx0
 refine h9 _ ?_; clear h9; try clear N9
 refine u_reg ?_
 try refine lg_mk ?_
 refine u_mv (hq := by exact so_) ?_
 refine u_bn (hq := by exact so_) ?_
 refine u_mv (hq := by exact so_) ?_
 refine lg_nil ?_
 refine h5 _ ⟨i + 1, ?_, ?_, [some 2], ?_⟩
 dsimp only
 omega
 dsimp only
 omega
 dsimp only
 refine ⟨by rfl, ?_, ?_⟩
 refine fin_ ?_
 ·(repeat' apply And.intro) <;> (first | (first | rfl | trivial | omega | (rw [hst, hX]; rfl) | (rw [List.take_of_length_le (Nat.le_refl _), snT_rows, hst, hX]; done) | (rw [hst, hX]; simp; done) | exact Or.inl (by simp)) | exact cl_)
 refine fin_ ?_
 ·(repeat' apply And.intro) <;> (first | (first | rfl | trivial | omega | (rw [hst, hX]; rfl) | (rw [List.take_of_length_le (Nat.le_refl _), snT_rows, hst, hX]; done) | (rw [hst, hX]; simp; done) | exact Or.inl (by simp)) | exact cl_)
 have hst := tk_step2 h32 hgr hbg hX
 rw [hX]
 rw [hX] at htn
 have hXl : (X ++ [(w, a)]).length = X.length + 1 := by simp
 have hxi : (X ++ [(w, a)])[X.length]? = some (w, a) := by simp
 have hi2 : (((X.length + 1 : Nat) : Int) - 1).toNat = X.length := by omega
 have f1 : (0 ≤ (((X.length + 1 : Nat) : Int) - 1)) = True := eq_true (by omega)
 have hi3 : ((i : Int) - 1).toNat = i - 1 := by omega
 have f2 : ((a : Int) + (w.length : Int) = (i : Int)) = True := eq_true (by omega)
 have f3 : (0 < kcI (b.toNat : Int)) = True := eq_true g2
 have f4 : (kcI (b.toNat : Int) = kcI (d.toNat : Int)) = True := eq_true g3
 have hx := And.intro @hXl hx0
 refine u_reg ?_
 try refine lg_mk ?_
 refine u_mv (hq := by exact so_) ?_
 refine u_ln (hq := by exact so_) ?_
 refine u_bn (hq := by exact so_) ?_
 refine u_mv (hq := by exact so_) ?_
 refine lg_nil ?_
 have hx := hx0
 refine h13 _ ?_; clear h13; try clear N13
 refine vc_seq_k fun N26 h26 => ?_
 refine vc_seq_k fun N27 h27 => ?_
 have hx := And.intro @f1 (And.intro @f2 (And.intro @f3 (And.intro @f4 (And.intro @hi2 (And.intro @hxi (And.intro @eT.eq_1 (And.intro @hbe (And.intro @hde (And.intro @hi3 hx0)))))))))
 refine vc_regO [80] [0, 1, 2, 3, 4, 5, 6, 7, 8, 9, 10, 11, 12, 13, 14, 15, 16, 17, 18, 19, 20, 21, 22, 23, 24, 25, 26, 27, 28, 30, 31, 32, 33, 29, 34, 35, 36] hmix (by kernel_rfl) ?_
 simp only [pick_rules, list_rules]
 try refine lg_mk ?_
 refine u_mv (hq := by exact so_) ?_
 refine u_bn (hq := by exact so_) ?_
 refine u_mv (hq := by exact so_) ?_
 iterate 2 refine s_mv (hq := by exact si_) ?_
 iterate 2 refine s_pt (hq := by exact si_) ?_
 refine s_ld (hq := by exact si_) ?_
 iterate 2 refine s_mv (hq := by exact si_) ?_
 iterate 2 refine s_pt (hq := by exact si_) ?_
 refine s_ld (hq := by exact si_) ?_
 refine s_ln (hq := by exact si_) ?_
 refine s_bn (hq := by exact si_) ?_
 refine s_mv (hq := by exact si_) ?_
 refine s_bn (hq := by exact si_) ?_
 refine u_pk (hq := by exact so_) ?_
 refine u_mv (hq := by exact so_) ?_
 iterate 2 refine s_mv (hq := by exact si_) ?_
 refine s_pt (hq := by exact si_) ?_
 have hc := call_rule (E := (E_redr.at_ 87)) (f := 80) (sp := Spec.pure kcG) rfl
 have hs := @kcG.eq_1
 refine s_cp (hq := by exact si_) ?_
 refine s_bn (hq := by exact si_) ?_
 refine u_pk (hq := by exact so_) ?_
 refine u_mv (hq := by exact so_) ?_
 iterate 2 refine s_mv (hq := by exact si_) ?_
 refine s_pt (hq := by exact si_) ?_
 iterate 2 refine s_mv (hq := by exact si_) ?_
 refine s_bn (hq := by exact si_) ?_
 refine s_pt (hq := by exact si_) ?_
 have hc := call_rule (E := (E_redr.at_ 87)) (f := 80) (sp := Spec.pure kcG) rfl
 have hs := @kcG.eq_1
 refine s_cp (hq := by exact si_) ?_
 have hc := call_rule (E := (E_redr.at_ 87)) (f := 80) (sp := Spec.pure kcG) rfl
 have hs := @kcG.eq_1
 refine s_cp (hq := by exact si_) ?_
 refine s_bn (hq := by exact si_) ?_
 refine u_pk (hq := by exact so_) ?_
 refine lg_nil ?_
 have hx := hx0
 refine h27 _ ?_; clear h27; try clear N27
 refine u_cond (fun hb28 => ?_) (fun hb28 => ?_)
 refine vc_seq_k fun N29 h29 => ?_
 have hx := And.intro @hi2 (And.intro @hxi (And.intro @eT.eq_1 (And.intro @hip (And.intro @hbt hx0))))
 refine u_reg ?_
 try refine lg_mk ?_
 iterate 4 refine u_mv (hq := by exact so_) ?_
 iterate 2 refine u_pt (hq := by exact so_) ?_
 refine u_ld (hq := by exact so_) ?_
 iterate 3 refine u_mv (hq := by exact so_) ?_
 refine u_bn (hq := by exact so_) ?_
 refine u_sl (hq := by exact so_) ?_
 refine u_bn (hq := by exact so_) ?_
 iterate 2 refine u_pt (hq := by exact so_) ?_
 refine u_st (hq := by exact so_) ?_
 refine lg_nil ?_
 have hx := hx0
 refine h29 _ ?_; clear h29; try clear N29
 refine vc_exit ?_
 simp only [k_rules, Nat.reduceEqDiff, reduceIte, eq_self]
 refine h9 _ ?_; clear h9; try clear N9
 refine u_reg ?_
 try refine lg_mk ?_
 refine u_mv (hq := by exact so_) ?_
 refine u_bn (hq := by exact so_) ?_
 refine u_mv (hq := by exact so_) ?_
 refine lg_nil ?_
 refine h5 _ ⟨i + 1, ?_, ?_, [some 0], ?_⟩
 dsimp only
 omega
 dsimp only
 omega
 dsimp only
 refine ⟨by rfl, ?_, ?_⟩
 refine fin_ ?_
 ·(repeat' apply And.intro) <;> (first | (first | rfl | trivial | omega | (rw [set_last, hst]; done) | (rw [hst]; simp; done) | exact Or.inl (by simp)) | exact cl_)
 refine fin_ ?_
 ·(repeat' apply And.intro) <;> (first | (first | rfl | trivial | omega | (rw [set_last, hst]; done) | (rw [hst]; simp; done) | exact Or.inl (by simp)) | exact cl_)
 ·first | omega | exact absurd trivial hb28 | contradiction | (simp_all; done)
 obtain rfl : i = t.length := by have := hb8; omega
 have htn := tkL_len t t.length
 refine vc_exit ?_
 simp only [k_rules, Nat.reduceEqDiff, reduceIte, eq_self]
 refine h3 _ ?_; clear h3; try clear N3
 refine vc_seq_k fun N30 h30 => ?_
 refine u_reg ?_
 try refine lg_mk ?_
 iterate 2 refine u_mv (hq := by exact so_) ?_
 refine u_ln (hq := by exact so_) ?_
 refine u_bd (hq := by exact so_) ?_
 refine u_bs (hq := by exact so_) ?_
 refine u_ap (hq := by exact so_) ?_
 refine u_mv (hq := by exact so_) ?_
 refine lg_nil ?_
 refine h30 _ ?_; clear h30; try clear N30
 refine vc_ret ?_
 try simp only [k_rules]
 refine fin2_ ?_
 ·(repeat' apply And.intro) <;> (first | (first | rfl | trivial | omega | (rw [Nat.zero_add]; exact end_le t) | exact congrArg D.sl (end_tk t)) | exact cl_)
 cases hg

def E_tkn : Env Tryd.prog := E_redr.add 59 (Spec.pure tksG) tkn_meets (by kernel_rfl)
end Go.Proofs.YtlbjffdaooadoaaDoor
