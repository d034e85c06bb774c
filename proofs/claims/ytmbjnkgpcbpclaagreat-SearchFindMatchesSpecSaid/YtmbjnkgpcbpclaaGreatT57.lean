/- Walks, printed by wip/gen/walk.py. -/
import Derived.Test.YtmbjnkgpcbpclaaGreatT56
import Derived.Test.YtmbjnkgpcbpclaaGreatV5
set_option linter.all false
set_option maxRecDepth 100000
set_option maxHeartbeats 4000000
namespace Go.Proofs.YtmbjnkgpcbpclaaGreat
open Go Go.Vc Go.RowKit
def szI (q : List Nd) (i : Nat) : Nat := szN (szl q i) (ar (q.getD i default).kd)
theorem szl_at {q : List Nd} : ∀ {n i : Nat}, i < n → (szl q n).getD i 0 = szI q i
  | n + 1, i, h => by
    by_cases hi : i < n
    · rw [szl_get hi]; exact szl_at hi
    · obtain rfl : i = n := by omega
      show (szl q i ++ [_]).getD i 0 = _
      rw [List.getD_eq_getElem?_getD, List.getElem?_append_right (by rw [szl_len]; exact Nat.le_refl _), szl_len, Nat.sub_self]; rfl
def okQ (q : List Nd) : Prop := 1 ≤ q.length ∧ q.length ≤ 40 ∧ ∀ j, j < q.length → refC q j = 0
theorem ok_of_val {q : List Nd} (h : valQ q = (0, 0)) : okQ q ∧ (rts q q.length).length = 1 := by
  unfold valQ at h
  split at h
  · cases h
  · rename_i h1
    split at h
    · rename_i h2; rw [h] at h2; exact absurd rfl h2
    · rename_i h2
      have h0 := fun j hj => firstF_zero (f := qC q) (g := iI) (n := q.length) (by omega) j hj
      refine ⟨⟨by omega, by omega, fun j hj => ?_⟩, ?_⟩
      · rw [refC_is (by omega) fun k hk => h0 k (by omega)]; exact h0 j hj
      · split at h
        · cases h
        · rename_i h3; omega
theorem szI_le {q : List Nd} (h : okQ q) {i : Nat} (hi : i < q.length) : 1 ≤ szI q i ∧ szI q i ≤ i + 1 := by
  refine ⟨?_, ?_⟩
  · unfold szI
    rw [szN_is _ (by rcases ar_or (q.getD i default).kd with ⟨_, h⟩ | ⟨_, _, h⟩ | ⟨_, h⟩ <;> omega)]
    exact nK_pos _ _
  · have := szl_le (q := q) (i := i + 1) (by omega) (fun j hj => h.2.2 j (by omega)) i (by omega)
    rwa [szl_at (by omega)] at this

theorem ok_node {q : List Nd} (h : okQ q) {i : Nat} (hi : i < q.length) {x : Nd} (hx : q.getD i default = x) : 1 ≤ x.kd ∧ x.kd ≤ 16 ∧ 0 ≤ x.nm ∧ x.nm ≤ mostN x.kd ∧
    (ar x.kd = 0 → x.lf = 0 ∧ x.rt = 0 ∧ szI q i = 1) ∧ (ar x.kd = 1 → 1 ≤ i ∧ x.lf = ((i - 1 : Nat) : Int) ∧ x.rt = 0 ∧ szI q i = 1 + szI q (i - 1)) ∧
    (ar x.kd = 2 → szI q (i - 1) + 1 ≤ i ∧ x.lf = ((i - 1 - szI q (i - 1) : Nat) : Int) ∧ x.rt = ((i - 1 : Nat) : Int) ∧ szI q i = 1 + szI q (i - 1) + szI q (i - 1 - szI q (i - 1))) := by
  have hr := h.2.2 i hi
  have hl := szl_len q i
  have hb := ref_sz hr
  rw [hx] at hb
  have hg := szB_get hb
  rw [hl] at hg
  unfold refC at hr
  rw [hx] at hr
  split at hr
  · cases hr
  rename_i c1
  split at hr
  · cases hr
  rename_i c2
  split at hr
  · cases hr
  split at hr
  · rename_i c3 c4
    simp only [Bool.and_eq_false_iff, decide_eq_false_iff_not, not_or, Decidable.not_not] at c1 c2
    have e1 : 1 ≤ i → (szl q i).getD (i - 1) 0 = szI q (i - 1) := fun h => szl_at (by omega)
    obtain ⟨c4, c5⟩ := c4
    unfold opL at c4
    unfold opR at c5
    rw [hl] at c4 c5
    have eI : szI q i = szN (szl q i) (ar x.kd) := by unfold szI; rw [hx]
    refine ⟨c1.1, c1.2, c2.1, c2.2, fun ha => ?_, fun ha => ?_, fun ha => ?_⟩
    · rw [ha] at c4 c5 eI
      exact ⟨by simpa using c4, by simpa using c5, eI⟩
    · rw [ha] at c4 c5 eI hg
      have h1 := hg.1 (by omega)
      have e2 := e1 h1
      refine ⟨h1, ?_, by simpa using c5, ?_⟩
      · rw [c4, if_pos rfl]; omega
      · rw [eI]; show 1 + (szl q i).getD ((szl q i).length - 1) 0 = _; rw [hl, e2]
    · rw [ha] at c4 c5 eI hg
      have h1 := hg.1 (by omega)
      have h2 := hg.2 (by omega)
      have e2 := e1 h1
      rw [e2] at h2 c4
      refine ⟨by omega, ?_, ?_, ?_⟩
      · rw [c4, if_neg (by omega), if_pos rfl]; omega
      · rw [c5, if_pos rfl]; omega
      · rw [eI]
        show 1 + (szl q i).getD ((szl q i).length - 1) 0 + (szl q i).getD ((szl q i).length - (1 + (szl q i).getD ((szl q i).length - 1) 0)) 0 = _
        rw [hl, e2, szl_at (q := q) (n := i) (i := i - (1 + szI q (i - 1))) (by omega)]
        congr 2; omega
  · cases hr

theorem val_mp {q : List Sn} (h : valS q = (0, 0)) : valQ (mpQ q) = (0, 0) ∧ 1 ≤ q.length ∧ q.length ≤ 40 ∧ ∀ j, j < q.length → qCs q j = 0 := by
  unfold valS at h
  split at h
  · cases h
  · rename_i h1
    split at h
    · rename_i h2; rw [h] at h2; exact absurd rfl h2
    · rename_i h2
      have h0 := fun j hj => firstF_zero (f := qCs q) (g := iI) (n := q.length) (by omega) j hj
      split at h
      · cases h
      · rename_i h3
        refine ⟨?_, by omega, by omega, h0⟩
        unfold valQ
        rw [mp_len, if_neg h1, firstF_none fun j hj => qC_of hj (h0 j hj), if_neg (by simp)]
        exact if_neg h3
theorem valS_code {q : List Sn} (h : valS q ≠ (0, 0)) : (valS q).1 ≠ 0 := by
  intro h0
  unfold valS at h h0
  split at h
  · rename_i h1; rw [if_pos h1] at h0; exact absurd h0 (by decide)
  · rename_i h1
    rw [if_neg h1] at h0
    split at h
    · rename_i h2; rw [if_pos h2] at h0; exact h2 h0
    · rename_i h2
      rw [if_neg h2] at h0
      split at h
      · rename_i h3; rw [if_pos h3] at h0; exact absurd h0 (by decide)
      · exact h rfl
theorem okS_node {q : List Sn} (h : valS q = (0, 0)) {i : Nat} (hi : i < q.length) {x : Sn} (hx : q.getD i default = x) : (1 ≤ x.kd ∧ x.kd ≤ 4) ∧ (x.kd = 1 → okT x.tx = true) ∧ (x.kd ≠ 1 → x.tx = []) ∧ (x.kd = 1 → x.lf = 0 ∧ x.rt = 0 ∧ szI (mpQ q) i = 1) ∧
    (x.kd = 4 → 1 ≤ i ∧ x.lf = ((i - 1 : Nat) : Int) ∧ x.rt = 0 ∧ szI (mpQ q) i = 1 + szI (mpQ q) (i - 1)) ∧
    (x.kd = 2 ∨ x.kd = 3 → szI (mpQ q) (i - 1) + 1 ≤ i ∧ x.lf = ((i - 1 - szI (mpQ q) (i - 1) : Nat) : Int) ∧ x.rt = ((i - 1 : Nat) : Int) ∧ szI (mpQ q) i = 1 + szI (mpQ q) (i - 1) + szI (mpQ q) (i - 1 - szI (mpQ q) (i - 1))) := by
  obtain ⟨h1, _, _, h4⟩ := val_mp h
  have hq := (ok_of_val h1).1
  have hm : (mpQ q).getD i default = nM x := by rw [mp_at hi, hx]
  obtain ⟨_, _, _, _, o5, o6, o7⟩ := ok_node hq (by rw [mp_len]; exact hi) hm
  have hs := h4 i hi
  rw [qCs_mp hi, hx] at hs
  obtain ⟨_, s2, s3, s4⟩ := snF_c hs
  have ha : ar (nM x).kd = sar x.kd := ar_kM _
  rw [ha] at o5 o6 o7
  refine ⟨s2, s3, s4, fun hk => o5 (by rw [hk]; rfl), fun hk => o6 (by rw [hk]; rfl), fun hk => o7 (by rcases hk with hk | hk <;> rw [hk] <;> rfl)⟩
def msN (u : Bs) (n : Sn) (l : List Bool) : Bool :=
  if n.kd = 1 then hasSub u n.tx else if n.kd = 2 then l.getD n.lf.toNat false && l.getD n.rt.toNat false
  else if n.kd = 3 then l.getD n.lf.toNat false || l.getD n.rt.toNat false else !(l.getD n.lf.toNat false)
def msV (u : Bs) (q : List Sn) : Nat → List Bool
  | 0 => []
  | i + 1 => msV u q i ++ [msN u (q.getD i default) (msV u q i)]
theorem msV_len (u : Bs) (q : List Sn) : ∀ i, (msV u q i).length = i
  | 0 => rfl
  | i + 1 => by simp [msV, msV_len u q i]
def mtQ (u : Bs) (q : List Sn) : Bool := (msV u q q.length).getD (q.length - 1) false
def mtG : List AV → Option (Prop × AV)
  | [.d (.str u), .agg [.d (.sl xs)]] => some (xs = rows eSn (dSn xs) ∧ valS (dSn xs) = (0, 0) ∧ u.length ≤ 1000000000, .d (.bool (mtQ u (dSn xs))))
  | _ => none
theorem okT_len {b : Bs} (h : okT b = true) : 1 ≤ b.length ∧ b.length ≤ 80 := by
  unfold okT at h
  simp only [Bool.and_eq_true, decide_eq_true_eq] at h
  exact h.1
theorem okS_at {q : List Sn} (h : valS q = (0, 0)) {i : Nat} (hi : i < q.length) {x : Sn} (hx : q.getD i default = x) (hk : x.kd ≠ 1) : 0 ≤ x.lf ∧ x.lf < i ∧ 0 ≤ x.rt ∧ x.rt < i := by
  obtain ⟨h1, _, _, _, h5, h6⟩ := okS_node h hi hx
  by_cases h4 : x.kd = 4
  · obtain ⟨a, b, c, _⟩ := h5 h4; omega
  · obtain ⟨a, b, c, _⟩ := h6 (by omega); omega

theorem msN_1 {u : Bs} {a c e : Int} {b : Bs} {l : List Bool} (h : a = 1) : msN u ⟨a, b, c, e⟩ l = hasSub u b := if_pos h
theorem getDB {l : List Bool} {j : Int} {v : Bool} (h : l[j.toNat]? = some v) : l.getD j.toNat false = v := by rw [List.getD_eq_getElem?_getD, h]; rfl
theorem msN_2 {u : Bs} {a c e : Int} {b : Bs} {l : List Bool} {v w : Bool} (h : a = 2) (h1 : l[c.toNat]? = some v) (h2 : l[e.toNat]? = some w) : msN u ⟨a, b, c, e⟩ l = (v && w) := by
  unfold msN; dsimp only; rw [if_neg (by omega), if_pos h, getDB h1, getDB h2]
theorem msN_3 {u : Bs} {a c e : Int} {b : Bs} {l : List Bool} {v w : Bool} (h : a = 3) (h1 : l[c.toNat]? = some v) (h2 : l[e.toNat]? = some w) : msN u ⟨a, b, c, e⟩ l = (v || w) := by
  unfold msN; dsimp only; rw [if_neg (by omega), if_neg (by omega), if_pos h, getDB h1, getDB h2]
theorem msN_4 {u : Bs} {a c e : Int} {b : Bs} {l : List Bool} {v : Bool} (h1' : a ≠ 1) (h2' : a ≠ 2) (h3' : a ≠ 3) (h1 : l[c.toNat]? = some v) : msN u ⟨a, b, c, e⟩ l = !v := by
  unfold msN; dsimp only; rw [if_neg h1', if_neg h2', if_neg h3', getDB h1]
theorem msV_step {u : Bs} {q : List Sn} {i : Nat} {x : Sn} (h : q.getD i default = x) : msV u q (i + 1) = msV u q i ++ [msN u x (msV u q i)] := by rw [← h]; rfl
theorem snB_rows (l : List Bool) (v : Bool) : rows eB l ++ [[.bool v]] = rows eB (l ++ [v]) := by simp [rows, eB]

theorem mtR_meets : Meets Tryz.prog 40 (Spec.pure mtG) := by
 refine meets_fun (E_refSF.at_ 73) Tryz.func40 rfl rfl rfl ?_
 intro args p r hg hp
 unfold mtG at hg
 split at hg
 rename_i u xs
 simp only [Option.some.injEq, Prod.mk.injEq] at hg
 obtain ⟨rfl, rfl⟩ := hg
 obtain ⟨he, hv, hul⟩ := hp
 generalize dSn xs = q at *
 subst he
 obtain ⟨_, h1, h40, _⟩ := val_mp hv
 have hT : (E_refSF).X = T := rfl
 have hx0 := And.intro @rect_eSn (And.intro @dSn_rows (And.intro @dB_rows (And.intro @dec_t (And.intro @dec_f @Tryz.results40))))
 have hx := hx0
 refine ⟨by rfl, ?_⟩
 intro F W0 hnp hmk
 refine vc_seq_k fun N1 h1 => ?_
 refine u_reg ?_
 try refine lg_mk ?_
 refine u_bx (hq := by exact sq_) ?_
 refine u_mv (hq := by exact sq_) ?_
 refine lg_nil ?_
 refine h1 _ ?_; clear h1; try clear N1
 refine vc_seq_k fun N2 h2 => ?_
 refine u_reg ?_
 try refine lg_mk ?_
 refine u_mv (hq := by exact sq_) ?_
 refine lg_nil ?_
 refine h2 _ ?_; clear h2; try clear N2
 refine vc_seq_k fun N3 h3 => ?_
 refine vc_seq_k fun N4 h4 => ?_
 refine u_reg ?_
 try refine lg_mk ?_
 refine u_mv (hq := by exact sq_) ?_
 refine lg_nil ?_
 refine h4 _ ?_; clear h4; try clear N4
 refine vc_block ?_
 refine vc_loop_mk (σ := Nat) (fun s => (fun i => i ≤ q.length) s)
  (fun s => (fun i => [(0, .d (.str u)), (3, .ptr 0 0 0), (5, .sl 1 0 i), (6, .d (.int .i64 (i : Nat)))]) s)
  (fun s => (fun i => [some (.one 25 [.d (.sl (rows eSn q))]), some (.vec 4 1 (rows eB (msV u q i)))]) s) (fun s => (fun i => q.length - i) s) hnp 0 ?_ [some 0, none] ?_ ?_
 dsimp only
 omega
 dsimp only
 refine ⟨by rfl, ?_, ?_⟩
 refine fin_ ?_
 exact cl_
 refine fin_ ?_
 exact cl_
 rintro i hinv N5 h5
 dsimp only at hinv ⊢
 have i1 := hinv
 refine vc_seq_k fun N6 h6 => ?_
 refine vc_seq_k fun N7 h7 => ?_
 refine u_reg ?_
 try refine lg_mk ?_
 refine u_mv (hq := by exact sq_) ?_
 refine u_pt (hq := by exact sq_) ?_
 refine u_ld (hq := by exact sq_) ?_
 refine u_ln (hq := by exact sq_) ?_
 refine u_bn (hq := by exact sq_) ?_
 refine lg_nil ?_
 refine h7 _ ?_; clear h7; try clear N7
 refine u_cond (fun hb8 => ?_) (fun hb8 => ?_)
 have hiq : i < q.length := by have := hb8; omega
 obtain ⟨x, hxe⟩ := getE (l := q) (i := i) hiq
 have hxd : q.getD i default = x := by rw [List.getD_eq_getElem?_getD, hxe]; rfl
 have hst := msV_step (u := u) hxd
 have hml := msV_len u q i
 have hok := okS_node hv hiq hxd
 have hat := okS_at hv hiq hxd
 obtain ⟨a, b, c, e⟩ := x
 dsimp only at hok hat
 refine vc_skip ?_
 try simp only [k_rules]
 refine h6 _ ?_; clear h6; try clear N6
 refine vc_seq_k fun N9 h9 => ?_
 refine vc_block ?_
 refine vc_seq_k fun N10 h10 => ?_
 have hx := And.intro @hxe (And.intro @eSn.eq_1 hx0)
 refine u_reg ?_
 try refine lg_mk ?_
 refine u_pt (hq := by exact so_) ?_
 refine u_ld (hq := by exact so_) ?_
 refine u_mv (hq := by exact so_) ?_
 refine u_pt (hq := by exact so_) ?_
 refine u_ld (hq := by exact so_) ?_
 refine u_al (hq := by exact so_) ?_
 refine u_st (hq := by exact so_) ?_
 refine lg_nil ?_
 have hx := hx0
 refine h10 _ ?_; clear h10; try clear N10
 refine vc_seq_k fun N11 h11 => ?_
 refine u_reg ?_
 try refine lg_mk ?_
 refine u_mv (hq := by exact sq_) ?_
 refine lg_nil ?_
 refine h11 _ ?_; clear h11; try clear N11
 refine vc_seq_m (σ := Bool) (fun s => (fun v => v = msN u ⟨a, b, c, e⟩ (msV u q i)) s)
  (fun s => (fun v => [(0, .d (.str u)), (3, .ptr 0 0 0), (5, .sl 1 0 i), (6, .d (.int .i64 (i : Nat))), (7, .ptr 2 0 0), (8, .d (.bool v))]) s)
  (fun s => (fun v => [some (.one 25 [.d (.sl (rows eSn q))]), some (.vec 4 1 (rows eB (msV u q i))), some (.one 55 [.d (.int .i64 a), .d (.str b), .d (.int .i64 c), .d (.int .i64 e)])]) s) hnp ?_ ?_
 rintro v hinv
 dsimp only at hinv ⊢
 have hvr := hinv
 refine u_reg ?_
 try refine lg_mk ?_
 iterate 2 refine u_mv (hq := by exact sq_) ?_
 refine u_bs (hq := by exact sq_) ?_
 refine u_ap (hq := by exact sq_) ?_
 refine u_mv (hq := by exact sq_) ?_
 refine lg_nil ?_
 refine h9 _ ?_; clear h9; try clear N9
 refine u_reg ?_
 try refine lg_mk ?_
 refine u_mv (hq := by exact sq_) ?_
 refine u_bn (hq := by exact sq_) ?_
 refine u_mv (hq := by exact sq_) ?_
 refine lg_nil ?_
 refine h5 _ ⟨i + 1, ?_, ?_, [some 0, some 4], ?_⟩
 dsimp only
 omega
 dsimp only
 omega
 dsimp only
 refine ⟨by rfl, ?_, ?_⟩
 refine fin_ ?_
 ·(repeat' apply And.intro) <;> (first | (first | rfl | trivial | omega | (rw [hst, ← hvr, ← snB_rows]; (try rw [List.take_of_length_le (by omega)]); done) | exact Or.inl rfl | exact Or.inl (by simp) | (rw [hst, ← hvr]; simp [rows, eB]; omega)) | exact cl_)
 refine fin_ ?_
 ·(repeat' apply And.intro) <;> (first | (first | rfl | trivial | omega | (rw [hst, ← hvr, ← snB_rows]; (try rw [List.take_of_length_le (by omega)]); done) | exact Or.inl rfl | exact Or.inl (by simp) | (rw [hst, ← hvr]; simp [rows, eB]; omega)) | exact cl_)
 intro N12 h12
 refine vc_seq_k fun N13 h13 => ?_
 refine u_reg ?_
 try refine lg_mk ?_
 refine u_pt (hq := by exact sq_) ?_
 refine u_ld (hq := by exact sq_) ?_
 refine lg_nil ?_
 refine h13 _ ?_; clear h13; try clear N13
 refine vc_block ?_
 refine vc_seq_k fun N14 h14 => ?_
 refine u_reg ?_
 try refine lg_mk ?_
 refine u_bn (hq := by exact sq_) ?_
 refine u_mv (hq := by exact sq_) ?_
 refine lg_nil ?_
 refine h14 _ ?_; clear h14; try clear N14
 refine u_cond (fun hb15 => ?_) (fun hb15 => ?_)
 have hk1 : a = 1 := by have := hb15; (try simp at this); omega
 have hbl := okT_len (hok.2.1 hk1)
 refine u_reg ?_
 try refine lg_mk ?_
 refine u_mv (hq := by (first | ((repeat' apply And.intro) <;> first | rfl | omega) | exact sd_)) ?_
 refine u_pt (hq := by (first | ((repeat' apply And.intro) <;> first | rfl | omega) | exact sd_)) ?_
 refine u_ld (hq := by (first | ((repeat' apply And.intro) <;> first | rfl | omega) | exact sd_)) ?_
 have hc := call_rule (E := (E_refSF.at_ 73)) (f := 36) (sp := Spec.pure conSG) rfl
 have hs := @conSG.eq_1
 refine u_cp (hq := by (first | ((repeat' apply And.intro) <;> first | rfl | omega) | exact sd_)) ?_
 refine u_mv (hq := by (first | ((repeat' apply And.intro) <;> first | rfl | omega) | exact sd_)) ?_
 refine lg_nil ?_
 refine h12 _ ⟨hasSub u b, ?_, [some 0, some 1, some 2], ?_⟩
 dsimp only
 exact (msN_1 (by have := hb15; (try simp at this); omega)).symm
 dsimp only
 refine ⟨by rfl, ?_, ?_⟩
 refine fin_ ?_
 ·(repeat' apply And.intro) <;> (first | (first | rfl | trivial | exact Or.inl rfl) | exact cl_)
 refine fin_ ?_
 ·(repeat' apply And.intro) <;> (first | (first | rfl | trivial | exact Or.inl rfl) | exact cl_)
 have hk1 : ¬a = 1 := by have := hb15; (try simp at this); omega
 obtain ⟨hc0, hci, he0, hei⟩ := hat hk1
 obtain ⟨y1, hv1⟩ := getE (l := msV u q i) (i := c.toNat) (by omega)
 obtain ⟨y2, hv2⟩ := getE (l := msV u q i) (i := e.toNat) (by omega)
 refine vc_seq_k fun N16 h16 => ?_
 refine u_reg ?_
 try refine lg_mk ?_
 refine u_bn (hq := by exact sq_) ?_
 refine u_mv (hq := by exact sq_) ?_
 refine lg_nil ?_
 refine h16 _ ?_; clear h16; try clear N16
 refine u_cond (fun hb17 => ?_) (fun hb17 => ?_)
 cases y1
 skip
 have hx := And.intro @hv1 (And.intro @hv2 (And.intro @eB.eq_1 hx0))
 refine u_reg ?_
 try refine lg_mk ?_
 refine u_mv (hq := by exact sq_) ?_
 refine u_pt (hq := by exact sq_) ?_
 refine u_ld (hq := by exact sq_) ?_
 refine u_pt (hq := by exact sq_) ?_
 refine u_ld (hq := by exact sq_) ?_
 refine u_mv (hq := by exact sq_) ?_
 refine lg_g0 ?_ ?_
 focus (exact gt_)
 refine lg_g0 ?_ ?_
 focus (exact gt_)
 refine lg_g0 ?_ ?_
 focus (exact gt_)
 refine lg_g0 ?_ ?_
 focus (exact gt_)
 refine lg_g0 ?_ ?_
 focus (exact gt_)
 refine u_pk (hq := by exact sq_) ?_
 refine u_mv (hq := by exact sq_) ?_
 refine lg_nil ?_
 have hx := hx0
 refine h12 _ ⟨false, ?_, [some 0, some 1, some 2], ?_⟩
 dsimp only
 exact (msN_2 (by have := hb17; (try simp at this); omega) hv1 hv2).symm
 dsimp only
 refine ⟨by rfl, ?_, ?_⟩
 refine fin_ ?_
 ·(repeat' apply And.intro) <;> (first | (first | rfl | trivial | exact Or.inl rfl) | exact cl_)
 refine fin_ ?_
 ·(repeat' apply And.intro) <;> (first | (first | rfl | trivial | exact Or.inl rfl) | exact cl_)
 skip
 have hx := And.intro @hv1 (And.intro @hv2 (And.intro @eB.eq_1 hx0))
 refine u_reg ?_
 try refine lg_mk ?_
 refine u_mv (hq := by exact sq_) ?_
 refine u_pt (hq := by exact sq_) ?_
 refine u_ld (hq := by exact sq_) ?_
 refine u_pt (hq := by exact sq_) ?_
 refine u_ld (hq := by exact sq_) ?_
 refine u_mv (hq := by exact sq_) ?_
 refine v_mv (hq := by exact sq_) ?_
 refine v_pt (hq := by exact sq_) ?_
 refine v_ld (hq := by exact sq_) ?_
 refine v_pt (hq := by exact sq_) ?_
 refine v_ld (hq := by exact sq_) ?_
 refine u_pk (hq := by exact sq_) ?_
 refine u_mv (hq := by exact sq_) ?_
 refine lg_nil ?_
 have hx := hx0
 refine h12 _ ⟨y2, ?_, [some 0, some 1, some 2], ?_⟩
 dsimp only
 exact (msN_2 (by have := hb17; (try simp at this); omega) hv1 hv2).symm.trans (Bool.true_and _) 
 dsimp only
 refine ⟨by rfl, ?_, ?_⟩
 refine fin_ ?_
 ·(repeat' apply And.intro) <;> (first | (first | rfl | trivial | exact Or.inl rfl) | exact cl_)
 refine fin_ ?_
 ·(repeat' apply And.intro) <;> (first | (first | rfl | trivial | exact Or.inl rfl) | exact cl_)
 have hk2 : ¬a = 2 := by have := hb17; (try simp at this); omega
 refine vc_seq_k fun N18 h18 => ?_
 refine u_reg ?_
 try refine lg_mk ?_
 refine u_bn (hq := by exact sq_) ?_
 refine u_mv (hq := by exact sq_) ?_
 refine lg_nil ?_
 refine h18 _ ?_; clear h18; try clear N18
 refine u_cond (fun hb19 => ?_) (fun hb19 => ?_)
 cases y1
 skip
 have hx := And.intro @hv1 (And.intro @hv2 (And.intro @eB.eq_1 hx0))
 refine u_reg ?_
 try refine lg_mk ?_
 refine u_mv (hq := by exact sq_) ?_
 refine u_pt (hq := by exact sq_) ?_
 refine u_ld (hq := by exact sq_) ?_
 refine u_pt (hq := by exact sq_) ?_
 refine u_ld (hq := by exact sq_) ?_
 refine u_mv (hq := by exact sq_) ?_
 refine v_mv (hq := by exact sq_) ?_
 refine v_pt (hq := by exact sq_) ?_
 refine v_ld (hq := by exact sq_) ?_
 refine v_pt (hq := by exact sq_) ?_
 refine v_ld (hq := by exact sq_) ?_
 refine u_pk (hq := by exact sq_) ?_
 refine u_mv (hq := by exact sq_) ?_
 refine lg_nil ?_
 have hx := hx0
 refine h12 _ ⟨y2, ?_, [some 0, some 1, some 2], ?_⟩
 dsimp only
 exact (msN_3 (by have := hb19; (try simp at this); omega) hv1 hv2).symm
 dsimp only
 refine ⟨by rfl, ?_, ?_⟩
 refine fin_ ?_
 ·(repeat' apply And.intro) <;> (first | (first | rfl | trivial | exact Or.inl rfl) | exact cl_)
 refine fin_ ?_
 ·(repeat' apply And.intro) <;> (first | (first | rfl | trivial | exact Or.inl rfl) | exact cl_)
 skip
 have hx := And.intro @hv1 (And.intro @hv2 (And.intro @eB.eq_1 hx0))
 refine u_reg ?_
 try refine lg_mk ?_
 refine u_mv (hq := by exact sq_) ?_
 refine u_pt (hq := by exact sq_) ?_
 refine u_ld (hq := by exact sq_) ?_
 refine u_pt (hq := by exact sq_) ?_
 refine u_ld (hq := by exact sq_) ?_
 refine u_mv (hq := by exact sq_) ?_
 refine lg_g0 ?_ ?_
 focus (exact gt_)
 refine lg_g0 ?_ ?_
 focus (exact gt_)
 refine lg_g0 ?_ ?_
 focus (exact gt_)
 refine lg_g0 ?_ ?_
 focus (exact gt_)
 refine lg_g0 ?_ ?_
 focus (exact gt_)
 refine u_pk (hq := by exact sq_) ?_
 refine u_mv (hq := by exact sq_) ?_
 refine lg_nil ?_
 have hx := hx0
 refine h12 _ ⟨true, ?_, [some 0, some 1, some 2], ?_⟩
 dsimp only
 exact (msN_3 (by have := hb19; (try simp at this); omega) hv1 hv2).symm
 dsimp only
 refine ⟨by rfl, ?_, ?_⟩
 refine fin_ ?_
 ·(repeat' apply And.intro) <;> (first | (first | rfl | trivial | exact Or.inl rfl) | exact cl_)
 refine fin_ ?_
 ·(repeat' apply And.intro) <;> (first | (first | rfl | trivial | exact Or.inl rfl) | exact cl_)
 have hx := And.intro @hv1 (And.intro @eB.eq_1 hx0)
 refine u_reg ?_
 try refine lg_mk ?_
 refine u_mv (hq := by exact sq_) ?_
 refine u_pt (hq := by exact sq_) ?_
 refine u_ld (hq := by exact sq_) ?_
 refine u_pt (hq := by exact sq_) ?_
 refine u_ld (hq := by exact sq_) ?_
 refine u_un (hq := by exact sq_) ?_
 refine u_mv (hq := by exact sq_) ?_
 refine lg_nil ?_
 have hx := hx0
 refine h12 _ ⟨!y1, ?_, [some 0, some 1, some 2], ?_⟩
 dsimp only
 exact (msN_4 hk1 hk2 (by have := hb19; (try simp at this); omega) hv1).symm
 dsimp only
 refine ⟨by rfl, ?_, ?_⟩
 refine fin_ ?_
 ·(repeat' apply And.intro) <;> (first | (first | rfl | trivial | exact Or.inl rfl) | exact cl_)
 refine fin_ ?_
 ·(repeat' apply And.intro) <;> (first | (first | rfl | trivial | exact Or.inl rfl) | exact cl_)
 obtain rfl : i = q.length := by have := hb8; omega
 have hml := msV_len u q q.length
 obtain ⟨y1, hv1⟩ := getE (l := msV u q q.length) (i := q.length - 1) (by omega)
 have hmq : mtQ u q = y1 := by unfold mtQ; rw [List.getD_eq_getElem?_getD, hv1]; rfl
 have hpm : ((q.length : Int) - 1).toNat = q.length - 1 := by omega
 refine vc_exit ?_
 simp only [k_rules, Nat.reduceEqDiff, reduceIte, eq_self]
 refine h3 _ ?_; clear h3; try clear N3
 refine vc_seq_k fun N20 h20 => ?_
 have hx := And.intro @hpm (And.intro @hv1 (And.intro @eB.eq_1 hx0))
 refine u_reg ?_
 try refine lg_mk ?_
 iterate 2 refine u_mv (hq := by exact sq_) ?_
 refine u_ln (hq := by exact sq_) ?_
 refine u_bn (hq := by exact sq_) ?_
 refine u_pt (hq := by exact sq_) ?_
 refine u_ld (hq := by exact sq_) ?_
 refine u_mv (hq := by exact sq_) ?_
 refine lg_nil ?_
 have hx := hx0
 refine h20 _ ?_; clear h20; try clear N20
 refine vc_ret ?_
 try simp only [k_rules]
 rw [hmq]
 refine fin2_ ?_
 exact cl_
 cases hg

def E_mtR : Env Tryz.prog := E_refSF.add 40 (Spec.pure mtG) mtR_meets (by kernel_rfl)
end Go.Proofs.YtmbjnkgpcbpclaaGreat
