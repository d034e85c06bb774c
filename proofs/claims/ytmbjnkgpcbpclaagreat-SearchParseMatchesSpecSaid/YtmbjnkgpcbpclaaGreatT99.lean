/- Walks, printed by wip/gen/walk.py. -/
import Derived.Test.YtmbjnkgpcbpclaaGreatT98
import Derived.Test.YtmbjnkgpcbpclaaGreatV5
set_option linter.all false
set_option maxRecDepth 100000
set_option maxHeartbeats 4000000
namespace Go.Proofs.YtmbjnkgpcbpclaaGreat
open Go Go.Vc Go.RowKit
def fnX (a : Nat) (R : Except (Int × Int) (Nat × Bs)) : Except (Int × Int) (Nat × Bs) := match R with
  | .ok (e, s) => if okT s = true then .ok (e + 1, s) else .error (3, ((a : Nat) : Int))
  | .error e => .error e
theorem fnX_e (a : Nat) (c k : Int) : fnX a (.error (c, k)) = .error (c, k) := rfl
theorem fnX_o (a e : Nat) (s : Bs) : fnX a (.ok (e, s)) = if okT s = true then .ok (e + 1, s) else .error (3, ((a : Nat) : Int)) := rfl
def quX (t : Bs) (a : Nat) : Except (Int × Int) (Nat × Bs) := fnX a (qdX t (t.length + 1) (a + 1) [])
def oS (r : Except (Int × Int) (Nat × Bs)) : Bs := match r with | .ok z => z.2 | .error _ => []
def oE (r : Except (Int × Int) (Nat × Bs)) : Int := match r with | .ok z => ((z.1 : Nat) : Int) | .error _ => 0
theorem oS_o (e : Nat) (s : Bs) : oS (.ok (e, s)) = s := rfl
theorem oE_o (e : Nat) (s : Bs) : oE (.ok (e, s)) = ((e : Nat) : Int) := rfl
theorem oS_e (c k : Int) : oS (.error (c, k)) = [] := rfl
theorem oE_e (c k : Int) : oE (.error (c, k)) = 0 := rfl
theorem eC_o {α : Type} (x : α) : eC (.ok x : Except (Int × Int) α) = 0 := rfl
theorem eK_o {α : Type} (x : α) : eK (.ok x : Except (Int × Int) α) = 0 := rfl
theorem qtX_qu (t : Bs) (a : Nat) (ns : List Sn) : qtX t a ns = match quX t a with
  | .ok (e, s) => .ok (e, ns ++ [⟨1, s, 0, 0⟩], ns.length)
  | .error e => .error e := by
  unfold qtX quX fnX
  cases qdX t (t.length + 1) (a + 1) [] with
  | error e => rfl
  | ok z =>
    obtain ⟨e, s⟩ := z
    dsimp only
    by_cases h : okT s = true
    · rw [if_pos h, if_pos h]
    · rw [if_neg h, if_neg h]
theorem quX_of {t : Bs} {a : Nat} {R : Except (Int × Int) (Nat × Bs)} (h : qdX t (t.length + 1) (a + 1) [] = R) : quX t a = fnX a R := by unfold quX; rw [h]
theorem str1 {b : Bs} {i : Nat} {c : UInt8} (h : b[i]? = some c) : (b.drop i).take 1 = [c] := by
  rw [List.drop_eq_getElem_cons (List.getElem?_eq_some_iff.1 h).1, (List.getElem?_eq_some_iff.1 h).2]; rfl
theorem nx_cases (t : Bs) (i : Nat) : (t[i + 1]? = none ∧ t.length ≤ i + 1) ∨ (i + 1 < t.length ∧ (t[i + 1]? = some 34 ∨ t[i + 1]? = some 92 ∨ ∃ d, t[i + 1]? = some d ∧ d ≠ 34 ∧ d ≠ 92)) := by
  by_cases hl : i + 1 < t.length
  · refine .inr ⟨hl, ?_⟩
    obtain ⟨d, hd⟩ := getE (l := t) (i := i + 1) hl
    by_cases h3 : d = 34
    · subst h3; exact .inl hd
    · by_cases h9 : d = 92
      · subst h9; exact .inr (.inl hd)
      · exact .inr (.inr ⟨d, hd, h3, h9⟩)
  · exact .inl ⟨List.getElem?_eq_none (by omega), by omega⟩
def rqG : List AV → Option (Prop × AV)
  | [.d (.str t), .d (.int .i64 a)] => some (0 ≤ a ∧ a < t.length ∧ t.length ≤ 300, .tup [.d (.str (oS (quX t a.toNat))), .d (.int .i64 (oE (quX t a.toNat))), .agg [.d (.int .i64 (eC (quX t a.toNat))), .d (.int .i64 (eK (quX t a.toNat)))]])
  | _ => none
theorem no10 {s : Bs} {c : UInt8} (h : (10 : UInt8) ∉ s) (hc : c ≠ 10) : (10 : UInt8) ∉ s ++ [c] := by
  simp only [List.mem_append, List.mem_singleton, not_or]; exact ⟨h, fun e => hc e.symm⟩

theorem rqu_meets : Meets Tryz.prog 45 (Spec.pure rqG) := by
 refine meets_fun (E_qryB.at_ 84) Tryz.func45 rfl rfl rfl ?_
 intro args p r hg hp
 unfold rqG at hg
 split at hg
 rename_i t a
 simp only [Option.some.injEq, Prod.mk.injEq] at hg
 obtain ⟨rfl, rfl⟩ := hg
 obtain ⟨ha0, hal, htl⟩ := hp
 obtain ⟨m, rfl⟩ := Int.eq_ofNat_of_zero_le ha0
 have hml : m < t.length := by omega
 simp only [Int.toNat_natCast]
 generalize hRR : qdX t (t.length + 1) (m + 1) [] = RR at *
 have hT : (E_qryB).X = T := rfl
 have hx0 := And.intro @dec_t (And.intro @dec_f (And.intro @Int.toNat_natCast @Tryz.results45))
 have hx := hx0
 refine ⟨by rfl, ?_⟩
 intro F W0 hnp hmk
 refine vc_seq_k fun N1 h1 => ?_
 refine u_reg ?_
 try refine lg_mk ?_
 iterate 2 refine u_mv (hq := by exact so_) ?_
 refine u_al (hq := by exact so_) ?_
 refine lg_nil ?_
 refine h1 _ ?_; clear h1; try clear N1
 refine vc_seq_k fun N2 h2 => ?_
 refine u_reg ?_
 try refine lg_mk ?_
 refine u_mv (hq := by exact so_) ?_
 refine lg_nil ?_
 refine h2 _ ?_; clear h2; try clear N2
 refine vc_seq_k fun N3 h3 => ?_
 refine vc_seq_k fun N4 h4 => ?_
 refine u_reg ?_
 try refine lg_mk ?_
 refine u_mv (hq := by exact so_) ?_
 refine u_bn (hq := by exact so_) ?_
 refine u_mv (hq := by exact so_) ?_
 refine lg_nil ?_
 refine h4 _ ?_; clear h4; try clear N4
 refine vc_block ?_
 refine vc_loop_mk (σ := Nat × Bs × Nat) (fun s => (fun i s g => qdX t g i s = RR ∧ i ≤ t.length ∧ m + 1 ≤ i ∧ s.length ≤ i ∧ t.length + 1 ≤ g + i ∧ (10 : UInt8) ∉ s) (s.1) (s.2.1) (s.2.2))
  (fun s => (fun i s g => [(0, .d (.str t)), (1, .d (.int .i64 (m : Nat))), (4, .d (.str [])), (5, .d (.int .i64 0)), (6, .ptr 0 0 0), (7, .d (.str s)), (8, .d (.int .i64 (i : Nat)))]) (s.1) (s.2.1) (s.2.2))
  (fun s => (fun i s g => [some (.one 29 [.d (.int .i64 0), .d (.int .i64 0)])]) (s.1) (s.2.1) (s.2.2)) (fun s => (fun i s g => g) (s.1) (s.2.1) (s.2.2)) hnp (m + 1, [], t.length + 1) ?_ [some 0] ?_ ?_
 dsimp only
 exact ⟨hRR, by omega, by omega, Nat.zero_le _, by omega, by simp⟩
 dsimp only
 refine ⟨by rfl, ?_, ?_⟩
 refine fin_ ?_
 exact cl_
 refine fin_ ?_
 exact cl_
 rintro ⟨i, s, g⟩ hinv N5 h5
 dsimp only at hinv ⊢
 obtain ⟨hI, i2, i3, i4, i5, i6⟩ := hinv
 obtain ⟨g0', rfl⟩ : ∃ g0, g = g0 + 1 := ⟨g - 1, by omega⟩
 refine vc_seq_k fun N6 h6 => ?_
 refine vc_seq_k fun N7 h7 => ?_
 refine u_reg ?_
 try refine lg_mk ?_
 iterate 2 refine u_mv (hq := by exact so_) ?_
 refine u_ln (hq := by exact so_) ?_
 refine u_bn (hq := by exact so_) ?_
 refine lg_nil ?_
 refine h7 _ ?_; clear h7; try clear N7
 refine u_cond (fun hb8 => ?_) (fun hb8 => ?_)
 have hil : i < t.length := by have := hb8; (try simp at this); omega
 obtain ⟨c, hc⟩ := getE (l := t) (i := i) hil
 rw [qdX_s hc] at hI
 have hi1 : ((i : Int) + 1).toNat = i + 1 := by omega
 have hs1 : List.take (((i : Int) + 1).toNat - i) (t.drop i) = [c] := by rw [show ((i : Int) + 1).toNat - i = 1 by omega]; exact str1 hc
 refine vc_skip ?_
 try simp only [k_rules]
 refine h6 _ ?_; clear h6; try clear N6
 refine vc_seq_k fun N9 h9 => ?_
 refine vc_block ?_
 refine vc_seq_k fun N10 h10 => ?_
 have hx := And.intro @hc hx0
 refine u_reg ?_
 try refine lg_mk ?_
 iterate 2 refine u_mv (hq := by exact so_) ?_
 refine u_pt (hq := by exact so_) ?_
 refine lg_nil ?_
 have hx := hx0
 refine h10 _ ?_; clear h10; try clear N10
 refine vc_block ?_
 refine vc_seq_k fun N11 h11 => ?_
 refine u_reg ?_
 try refine lg_mk ?_
 refine u_bn (hq := by exact so_) ?_
 refine u_mv (hq := by exact so_) ?_
 refine lg_nil ?_
 refine h11 _ ?_; clear h11; try clear N11
 refine u_cond (fun hb12 => ?_) (fun hb12 => ?_)
 have h34 : c = 34 := by have := hb12; first | exact UInt8.toNat_inj.1 (show c.toNat = 34 by (try simp at this); omega) | (simpa using this)
 rw [if_pos h34] at hI
 refine vc_seq_k fun N13 h13 => ?_
 refine vc_seq_k fun N14 h14 => ?_
 refine u_reg ?_
 try refine lg_mk ?_
 refine u_mv (hq := by exact so_) ?_
 refine u_ln (hq := by exact so_) ?_
 have hc := call_rule (E := (E_qryB.at_ 84)) (f := 35) (sp := Spec.pure inG) rfl
 have hs := @inG.eq_1
 refine u_cp (hq := by exact so_) ?_
 refine u_un (hq := by exact so_) ?_
 refine lg_nil ?_
 refine h14 _ ?_; clear h14; try clear N14
 refine u_cond (fun hb15 => ?_) (fun hb15 => ?_)
 refine vc_seq_k fun N16 h16 => ?_
 refine u_reg ?_
 try refine lg_mk ?_
 refine u_mv (hq := by exact so_) ?_
 have hc := call_rule (E := (E_qryB.at_ 84)) (f := 21) (sp := Spec.pure faultG) rfl
 have hs := @faultG.eq_1
 refine u_cp (hq := by exact so_) ?_
 iterate 2 refine u_mv (hq := by exact so_) ?_
 refine u_st (hq := by exact so_) ?_
 refine lg_nil ?_
 refine h16 _ ?_; clear h16; try clear N16
 refine vc_ret ?_
 try simp only [k_rules]
 subst hI
 have hok : ¬okT s = true := by
  have h32 := hb15
  intro h
  unfold okT at h
  simp only [Bool.and_eq_true, decide_eq_true_eq] at h
  simp at h32
  have := h32 (by omega)
  omega
 have hq : quX t m = .error (3, (m : Nat)) := by rw [quX_of hRR, fnX_o]; exact if_neg hok
 rw [hq]
 try simp only [oS_e, oE_e, eC_e, eK_e]
 refine fin2_ ?_
 exact cl_
 refine vc_skip ?_
 try simp only [k_rules]
 refine h13 _ ?_; clear h13; try clear N13
 refine vc_seq_k fun N17 h17 => ?_
 refine u_reg ?_
 try refine lg_mk ?_
 iterate 2 refine u_mv (hq := by exact so_) ?_
 refine u_bn (hq := by exact so_) ?_
 refine u_bd (hq := by exact so_) ?_
 iterate 2 refine u_mv (hq := by exact so_) ?_
 refine u_st (hq := by exact so_) ?_
 refine lg_nil ?_
 refine h17 _ ?_; clear h17; try clear N17
 refine vc_ret ?_
 try simp only [k_rules]
 subst hI
 have hok : okT s = true := by
  have h32 := hb15
  unfold okT
  simp only [Bool.and_eq_true, decide_eq_true_eq]
  refine ⟨⟨by (try simp at h32); omega, by (try simp at h32); omega⟩, ?_⟩
  rw [decide_eq_false i6]; rfl
 have hq : quX t m = .ok (i + 1, s) := by rw [quX_of hRR, fnX_o]; exact if_pos hok
 rw [hq]
 try simp only [oS_o, oE_o, eC_o, eK_o]
 refine fin2_ ?_
 exact cl_
 have h34 : c ≠ 34 := by intro h; have := hb12; subst h; simp at this
 rw [if_neg h34] at hI
 refine vc_seq_k fun N18 h18 => ?_
 refine u_reg ?_
 try refine lg_mk ?_
 refine u_bn (hq := by exact so_) ?_
 refine u_mv (hq := by exact so_) ?_
 refine lg_nil ?_
 refine h18 _ ?_; clear h18; try clear N18
 refine u_cond (fun hb19 => ?_) (fun hb19 => ?_)
 have h10 : c = 10 := by have := hb19; first | exact UInt8.toNat_inj.1 (show c.toNat = 10 by (try simp at this); omega) | (simpa using this)
 rw [if_pos h10] at hI
 refine vc_seq_k fun N20 h20 => ?_
 refine u_reg ?_
 try refine lg_mk ?_
 refine u_mv (hq := by exact so_) ?_
 have hc := call_rule (E := (E_qryB.at_ 84)) (f := 21) (sp := Spec.pure faultG) rfl
 have hs := @faultG.eq_1
 refine u_cp (hq := by exact so_) ?_
 iterate 2 refine u_mv (hq := by exact so_) ?_
 refine u_st (hq := by exact so_) ?_
 refine lg_nil ?_
 refine h20 _ ?_; clear h20; try clear N20
 refine vc_ret ?_
 try simp only [k_rules]
 subst hI
 have hq : quX t m = .error (1, (i : Nat)) := by rw [quX_of hRR, fnX_e]
 rw [hq]
 try simp only [oS_e, oE_e, eC_e, eK_e, oS_o, oE_o, eC_o, eK_o]
 refine fin2_ ?_
 exact cl_
 have h10 : c ≠ 10 := by intro h; have := hb19; subst h; simp at this
 rw [if_neg h10] at hI
 refine vc_seq_k fun N21 h21 => ?_
 refine u_reg ?_
 try refine lg_mk ?_
 refine u_bn (hq := by exact so_) ?_
 refine u_mv (hq := by exact so_) ?_
 refine lg_nil ?_
 refine h21 _ ?_; clear h21; try clear N21
 refine u_cond (fun hb22 => ?_) (fun hb22 => ?_)
 have h92 : c = 92 := by have := hb22; first | exact UInt8.toNat_inj.1 (show c.toNat = 92 by (try simp at this); omega) | (simpa using this)
 rw [if_pos h92] at hI
 refine vc_seq_k fun N23 h23 => ?_
 refine vc_seq_k fun N24 h24 => ?_
 rcases nx_cases t i with ⟨hd, hil1⟩ | ⟨hil1, hd | hd | ⟨d, hd, n3, n9⟩⟩
 rw [hd] at hI
 dsimp only at hI
 have g0 : ((i : Int) + 1 < (t.length : Int)) = False := eq_false (by omega)
 have g3 := True.intro
 have g9 := True.intro
 have hx := And.intro @hi1 (And.intro @hd (And.intro @g0 (And.intro @g3 (And.intro @g9 hx0))))
 refine u_reg ?_
 try refine lg_mk ?_
 refine u_mv (hq := by exact so_) ?_
 refine u_bn (hq := by exact so_) ?_
 refine u_mv (hq := by exact so_) ?_
 refine u_ln (hq := by exact so_) ?_
 refine u_bn (hq := by exact so_) ?_
 refine u_mv (hq := by exact so_) ?_
 refine lg_g0 ?_ ?_
 focus (exact gt_)
 refine lg_g0 ?_ ?_
 focus (exact gt_)
 refine lg_g0 ?_ ?_
 focus (exact gt_)
 refine lg_g0 ?_ ?_
 focus (exact gt_)
 refine lg_g0 ?_ ?_
 focus (exact gt_)
 refine u_pk (hq := by exact so_) ?_
 refine u_mv (hq := by exact so_) ?_
 refine lg_g0 ?_ ?_
 focus (exact gt_)
 refine lg_g0 ?_ ?_
 focus (exact gt_)
 refine lg_g0 ?_ ?_
 focus (exact gt_)
 refine lg_g0 ?_ ?_
 focus (exact gt_)
 refine lg_g0 ?_ ?_
 focus (exact gt_)
 refine u_pk (hq := by exact so_) ?_
 refine lg_nil ?_
 have hx := hx0
 refine h24 _ ?_; clear h24; try clear N24
 refine u_cond (fun hb25 => ?_) (fun hb25 => ?_)
 ·first | omega | exact absurd trivial hb25 | contradiction | (simp_all; done)
 refine vc_skip ?_
 try simp only [k_rules]
 refine h23 _ ?_; clear h23; try clear N23
 refine vc_seq_k fun N26 h26 => ?_
 refine u_reg ?_
 try refine lg_mk ?_
 refine u_mv (hq := by exact so_) ?_
 refine u_bn (hq := by exact so_) ?_
 refine u_mv (hq := by exact so_) ?_
 refine lg_nil ?_
 refine h26 _ ?_; clear h26; try clear N26
 refine vc_seq_k fun N27 h27 => ?_
 refine vc_seq_k fun N28 h28 => ?_
 refine u_reg ?_
 try refine lg_mk ?_
 iterate 2 refine u_mv (hq := by exact so_) ?_
 refine u_ln (hq := by exact so_) ?_
 refine u_bn (hq := by exact so_) ?_
 refine lg_nil ?_
 refine h28 _ ?_; clear h28; try clear N28
 refine u_cond (fun hb29 => ?_) (fun hb29 => ?_)
 refine vc_seq_k fun N30 h30 => ?_
 refine u_reg ?_
 try refine lg_mk ?_
 refine u_mv (hq := by exact so_) ?_
 have hc := call_rule (E := (E_qryB.at_ 84)) (f := 21) (sp := Spec.pure faultG) rfl
 have hs := @faultG.eq_1
 refine u_cp (hq := by exact so_) ?_
 iterate 2 refine u_mv (hq := by exact so_) ?_
 refine u_st (hq := by exact so_) ?_
 refine lg_nil ?_
 refine h30 _ ?_; clear h30; try clear N30
 refine vc_ret ?_
 try simp only [k_rules]
 subst hI
 have hq : quX t m = .error (1, (t.length : Nat)) := by rw [quX_of hRR, fnX_e]
 rw [hq]
 try simp only [oS_e, oE_e, eC_e, eK_e, oS_o, oE_o, eC_o, eK_o]
 refine fin2_ ?_
 exact cl_
 ·first | omega | exact absurd trivial hb29 | contradiction | (simp_all; done)
 rw [hd] at hI
 dsimp only at hI
 rw [if_pos (by decide)] at hI
 have hn := hI
 have g0 : ((i : Int) + 1 < (t.length : Int)) = True := eq_true (by omega)
 have g3 : ((34 : UInt8).toNat : Int) = 34 := rfl
 have g9 := True.intro
 have hx := And.intro @hi1 (And.intro @hd (And.intro @g0 (And.intro @g3 (And.intro @g9 hx0))))
 refine u_reg ?_
 try refine lg_mk ?_
 refine u_mv (hq := by exact so_) ?_
 refine u_bn (hq := by exact so_) ?_
 refine u_mv (hq := by exact so_) ?_
 refine u_ln (hq := by exact so_) ?_
 refine u_bn (hq := by exact so_) ?_
 refine u_mv (hq := by exact so_) ?_
 iterate 2 refine v_mv (hq := by exact so_) ?_
 refine v_bn (hq := by exact so_) ?_
 refine v_pt (hq := by exact so_) ?_
 refine v_bn (hq := by exact so_) ?_
 refine u_pk (hq := by exact so_) ?_
 refine u_mv (hq := by exact so_) ?_
 refine lg_g0 ?_ ?_
 focus (exact gt_)
 refine lg_g0 ?_ ?_
 focus (exact gt_)
 refine lg_g0 ?_ ?_
 focus (exact gt_)
 refine lg_g0 ?_ ?_
 focus (exact gt_)
 refine lg_g0 ?_ ?_
 focus (exact gt_)
 refine u_pk (hq := by exact so_) ?_
 refine lg_nil ?_
 have hx := hx0
 refine h24 _ ?_; clear h24; try clear N24
 refine u_cond (fun hb31 => ?_) (fun hb31 => ?_)
 ·first | omega | exact absurd trivial hb31 | contradiction | (simp_all; done)
 refine vc_skip ?_
 try simp only [k_rules]
 refine h23 _ ?_; clear h23; try clear N23
 refine vc_seq_k fun N32 h32 => ?_
 refine u_reg ?_
 try refine lg_mk ?_
 refine u_mv (hq := by exact so_) ?_
 refine u_bn (hq := by exact so_) ?_
 refine u_mv (hq := by exact so_) ?_
 refine lg_nil ?_
 refine h32 _ ?_; clear h32; try clear N32
 refine vc_seq_k fun N33 h33 => ?_
 refine vc_seq_k fun N34 h34 => ?_
 refine u_reg ?_
 try refine lg_mk ?_
 iterate 2 refine u_mv (hq := by exact so_) ?_
 refine u_ln (hq := by exact so_) ?_
 refine u_bn (hq := by exact so_) ?_
 refine lg_nil ?_
 refine h34 _ ?_; clear h34; try clear N34
 refine u_cond (fun hb35 => ?_) (fun hb35 => ?_)
 ·first | omega | exact absurd trivial hb35 | contradiction | (simp_all; done)
 refine vc_skip ?_
 try simp only [k_rules]
 refine h33 _ ?_; clear h33; try clear N33
 have hi3 : ((i : Int) + 1 + 1).toNat = i + 2 := by omega
 have hs2 : List.take (i + 2 - (i + 1)) (t.drop (i + 1)) = [34] := by rw [show i + 2 - (i + 1) = 1 by omega]; exact str1 hd
 have hx := And.intro @hi1 (And.intro @hi3 (And.intro @hs2 hx0))
 refine u_reg ?_
 try refine lg_mk ?_
 iterate 4 refine u_mv (hq := by exact so_) ?_
 refine u_bn (hq := by exact so_) ?_
 refine u_sl (hq := by exact so_) ?_
 refine u_bn (hq := by exact so_) ?_
 refine u_mv (hq := by exact so_) ?_
 refine lg_nil ?_
 have hx := hx0
 refine h9 _ ?_; clear h9; try clear N9
 refine u_reg ?_
 try refine lg_mk ?_
 refine u_mv (hq := by exact so_) ?_
 refine u_bn (hq := by exact so_) ?_
 refine u_mv (hq := by exact so_) ?_
 refine lg_nil ?_
 refine h5 _ ⟨(i + 2, s ++ [34], g0'), ?_, ?_, [some 0], ?_⟩
 dsimp only
 exact ⟨hn, by omega, by omega, by simp; omega, by omega, no10 i6 (by decide)⟩
 dsimp only
 omega
 dsimp only
 refine ⟨by rfl, ?_, ?_⟩
 refine fin_ ?_
 exact cl_
 refine fin_ ?_
 exact cl_
 rw [hd] at hI
 dsimp only at hI
 rw [if_pos (by decide)] at hI
 have hn := hI
 have g0 : ((i : Int) + 1 < (t.length : Int)) = True := eq_true (by omega)
 have g3 : ((92 : UInt8).toNat : Int) = 92 := rfl
 have g9 := True.intro
 have hx := And.intro @hi1 (And.intro @hd (And.intro @g0 (And.intro @g3 (And.intro @g9 hx0))))
 refine u_reg ?_
 try refine lg_mk ?_
 refine u_mv (hq := by exact so_) ?_
 refine u_bn (hq := by exact so_) ?_
 refine u_mv (hq := by exact so_) ?_
 refine u_ln (hq := by exact so_) ?_
 refine u_bn (hq := by exact so_) ?_
 refine u_mv (hq := by exact so_) ?_
 iterate 2 refine v_mv (hq := by exact so_) ?_
 refine v_bn (hq := by exact so_) ?_
 refine v_pt (hq := by exact so_) ?_
 refine v_bn (hq := by exact so_) ?_
 refine u_pk (hq := by exact so_) ?_
 refine u_mv (hq := by exact so_) ?_
 iterate 2 refine v_mv (hq := by exact so_) ?_
 refine v_bn (hq := by exact so_) ?_
 refine v_pt (hq := by exact so_) ?_
 refine v_bn (hq := by exact so_) ?_
 refine u_pk (hq := by exact so_) ?_
 refine lg_nil ?_
 have hx := hx0
 refine h24 _ ?_; clear h24; try clear N24
 refine u_cond (fun hb36 => ?_) (fun hb36 => ?_)
 ·first | omega | exact absurd trivial hb36 | contradiction | (simp_all; done)
 refine vc_skip ?_
 try simp only [k_rules]
 refine h23 _ ?_; clear h23; try clear N23
 refine vc_seq_k fun N37 h37 => ?_
 refine u_reg ?_
 try refine lg_mk ?_
 refine u_mv (hq := by exact so_) ?_
 refine u_bn (hq := by exact so_) ?_
 refine u_mv (hq := by exact so_) ?_
 refine lg_nil ?_
 refine h37 _ ?_; clear h37; try clear N37
 refine vc_seq_k fun N38 h38 => ?_
 refine vc_seq_k fun N39 h39 => ?_
 refine u_reg ?_
 try refine lg_mk ?_
 iterate 2 refine u_mv (hq := by exact so_) ?_
 refine u_ln (hq := by exact so_) ?_
 refine u_bn (hq := by exact so_) ?_
 refine lg_nil ?_
 refine h39 _ ?_; clear h39; try clear N39
 refine u_cond (fun hb40 => ?_) (fun hb40 => ?_)
 ·first | omega | exact absurd trivial hb40 | contradiction | (simp_all; done)
 refine vc_skip ?_
 try simp only [k_rules]
 refine h38 _ ?_; clear h38; try clear N38
 have hi3 : ((i : Int) + 1 + 1).toNat = i + 2 := by omega
 have hs2 : List.take (i + 2 - (i + 1)) (t.drop (i + 1)) = [92] := by rw [show i + 2 - (i + 1) = 1 by omega]; exact str1 hd
 have hx := And.intro @hi1 (And.intro @hi3 (And.intro @hs2 hx0))
 refine u_reg ?_
 try refine lg_mk ?_
 iterate 4 refine u_mv (hq := by exact so_) ?_
 refine u_bn (hq := by exact so_) ?_
 refine u_sl (hq := by exact so_) ?_
 refine u_bn (hq := by exact so_) ?_
 refine u_mv (hq := by exact so_) ?_
 refine lg_nil ?_
 have hx := hx0
 refine h9 _ ?_; clear h9; try clear N9
 refine u_reg ?_
 try refine lg_mk ?_
 refine u_mv (hq := by exact so_) ?_
 refine u_bn (hq := by exact so_) ?_
 refine u_mv (hq := by exact so_) ?_
 refine lg_nil ?_
 refine h5 _ ⟨(i + 2, s ++ [92], g0'), ?_, ?_, [some 0], ?_⟩
 dsimp only
 exact ⟨hn, by omega, by omega, by simp; omega, by omega, no10 i6 (by decide)⟩
 dsimp only
 omega
 dsimp only
 refine ⟨by rfl, ?_, ?_⟩
 refine fin_ ?_
 exact cl_
 refine fin_ ?_
 exact cl_
 rw [hd] at hI
 dsimp only at hI
 rw [if_neg (by rintro (h | h); exact n3 h; exact n9 h)] at hI
 have g0 : ((i : Int) + 1 < (t.length : Int)) = True := eq_true (by omega)
 have g3 : ((d.toNat : Int) = 34) = False := eq_false fun h => n3 (u8_eq (d := 34) h)
 have g9 : ((d.toNat : Int) = 92) = False := eq_false fun h => n9 (u8_eq (d := 92) h)
 have hx := And.intro @hi1 (And.intro @hd (And.intro @g0 (And.intro @g3 (And.intro @g9 hx0))))
 refine u_reg ?_
 try refine lg_mk ?_
 refine u_mv (hq := by exact so_) ?_
 refine u_bn (hq := by exact so_) ?_
 refine u_mv (hq := by exact so_) ?_
 refine u_ln (hq := by exact so_) ?_
 refine u_bn (hq := by exact so_) ?_
 refine u_mv (hq := by exact so_) ?_
 iterate 2 refine v_mv (hq := by exact so_) ?_
 refine v_bn (hq := by exact so_) ?_
 refine v_pt (hq := by exact so_) ?_
 refine v_bn (hq := by exact so_) ?_
 refine u_pk (hq := by exact so_) ?_
 refine u_mv (hq := by exact so_) ?_
 iterate 2 refine v_mv (hq := by exact so_) ?_
 refine v_bn (hq := by exact so_) ?_
 refine v_pt (hq := by exact so_) ?_
 refine v_bn (hq := by exact so_) ?_
 refine u_pk (hq := by exact so_) ?_
 refine lg_nil ?_
 have hx := hx0
 refine h24 _ ?_; clear h24; try clear N24
 refine u_cond (fun hb41 => ?_) (fun hb41 => ?_)
 refine vc_seq_k fun N42 h42 => ?_
 refine u_reg ?_
 try refine lg_mk ?_
 refine u_mv (hq := by exact so_) ?_
 have hc := call_rule (E := (E_qryB.at_ 84)) (f := 21) (sp := Spec.pure faultG) rfl
 have hs := @faultG.eq_1
 refine u_cp (hq := by exact so_) ?_
 iterate 2 refine u_mv (hq := by exact so_) ?_
 refine u_st (hq := by exact so_) ?_
 refine lg_nil ?_
 refine h42 _ ?_; clear h42; try clear N42
 refine vc_ret ?_
 try simp only [k_rules]
 subst hI
 have hq : quX t m = .error (1, (i : Nat)) := by rw [quX_of hRR, fnX_e]
 rw [hq]
 try simp only [oS_e, oE_e, eC_e, eK_e, oS_o, oE_o, eC_o, eK_o]
 refine fin2_ ?_
 exact cl_
 ·first | omega | exact absurd trivial hb41 | contradiction | (simp_all; done)
 have h92 : c ≠ 92 := by intro h; have := hb22; subst h; simp at this
 rw [if_neg h92] at hI
 have hx := And.intro @hs1 hx0
 refine u_reg ?_
 try refine lg_mk ?_
 iterate 4 refine u_mv (hq := by exact so_) ?_
 refine u_bn (hq := by exact so_) ?_
 refine u_sl (hq := by exact so_) ?_
 refine u_bn (hq := by exact so_) ?_
 refine u_mv (hq := by exact so_) ?_
 refine lg_nil ?_
 have hx := hx0
 refine h9 _ ?_; clear h9; try clear N9
 refine u_reg ?_
 try refine lg_mk ?_
 refine u_mv (hq := by exact so_) ?_
 refine u_bn (hq := by exact so_) ?_
 refine u_mv (hq := by exact so_) ?_
 refine lg_nil ?_
 refine h5 _ ⟨(i + 1, s ++ [c], g0'), ?_, ?_, [some 0], ?_⟩
 dsimp only
 exact ⟨hI, by omega, by omega, by simp; omega, by omega, no10 i6 h10⟩
 dsimp only
 omega
 dsimp only
 refine ⟨by rfl, ?_, ?_⟩
 refine fin_ ?_
 exact cl_
 refine fin_ ?_
 exact cl_
 have hnn : t[i]? = none := List.getElem?_eq_none (by have := hb8; (try simp at this); omega)
 obtain rfl : i = t.length := by have := hb8; (try simp at this); omega
 rw [qdX_n hnn] at hI
 refine vc_exit ?_
 simp only [k_rules, Nat.reduceEqDiff, reduceIte, eq_self]
 refine h3 _ ?_; clear h3; try clear N3
 refine vc_seq_k fun N43 h43 => ?_
 refine u_reg ?_
 try refine lg_mk ?_
 refine u_mv (hq := by exact so_) ?_
 refine u_ln (hq := by exact so_) ?_
 have hc := call_rule (E := (E_qryB.at_ 84)) (f := 21) (sp := Spec.pure faultG) rfl
 have hs := @faultG.eq_1
 refine u_cp (hq := by exact so_) ?_
 iterate 2 refine u_mv (hq := by exact so_) ?_
 refine u_st (hq := by exact so_) ?_
 refine lg_nil ?_
 refine h43 _ ?_; clear h43; try clear N43
 refine vc_ret ?_
 try simp only [k_rules]
 subst hI
 have hq : quX t m = .error (1, (t.length : Nat)) := by rw [quX_of hRR, fnX_e]
 rw [hq]
 try simp only [oS_e, oE_e, eC_e, eK_e, oS_o, oE_o, eC_o, eK_o]
 refine fin2_ ?_
 exact cl_
 cases hg

def E_rqu : Env Tryz.prog := E_qryB.add 45 (Spec.pure rqG) rqu_meets (by kernel_rfl)

def rdOk (m : Ms) : Prop := m.ops ≠ [] ∧ 1 ≤ sar (lastO m.ops) ∧ sar (lastO m.ops) ≤ m.rs.length ∧ -100 ≤ lastO m.ops ∧ lastO m.ops ≤ 100 ∧ m.ns.length ≤ 1000000 ∧ m.rs.length ≤ 1000000 ∧ m.ops.length ≤ 1000000
def mcB (v1 v2 v3 : List (List D)) : Ms := ⟨dSn v1, dI v2, dI v3⟩
def preR (ty t1 s1 x t2 s2 y t3 s3 z : Nat) (v1 v2 v3 : List (List D)) : Prop := ty = 79 ∧ (t1 = 55 ∧ s1 = 4 ∧ v1 = rows eSn (dSn v1) ∧ x = (dSn v1).length) ∧ (t2 = 3 ∧ s2 = 1 ∧ v2 = rows eI (dI v2) ∧ y = (dI v2).length) ∧ (t3 = 3 ∧ s3 = 1 ∧ v3 = rows eI (dI v3) ∧ z = (dI v3).length)
def nsB (m : Ms) : Option Box := some (.vec 55 4 (rows eSn m.ns))
def ilB (l : List Int) : Option Box := some (.vec 3 1 (rows eI l))
def rgB (nd rt op : AV) : Option Box := some (.one 79 [nd, rt, op])
def redG : GFun
  | [.ptr 0 0 0], [some (.one ty [.sl 1 0 x, .sl 2 0 y, .sl 3 0 z]), some (.vec t1 s1 v1), some (.vec t2 s2 v2), some (.vec t3 s3 v3)] =>
    some (preR ty t1 s1 x t2 s2 y t3 s3 z v1 v2 v3 ∧ rdOk (mcB v1 v2 v3), .tup [], [rgB (.sl 4 0 (rdM (mcB v1 v2 v3)).ns.length) (.sl 5 0 (rdM (mcB v1 v2 v3)).rs.length) (.sl 3 0 (rdM (mcB v1 v2 v3)).ops.length), none, none, ilB (rdM (mcB v1 v2 v3)).ops, nsB (rdM (mcB v1 v2 v3)), ilB (rdM (mcB v1 v2 v3)).rs])
  | _, _ => none
theorem red_gen {ns : List Sn} {rs l : List Int} {k : Int} : rdM ⟨ns, rs, l ++ [k]⟩ = ⟨ns ++ [⟨k, [], rs.getD (rs.length - sar k) 0, if sar k = 2 then rs.getD (rs.length - sar k + 1) 0 else 0⟩], rs.take (rs.length - sar k) ++ [(ns.length : Int)], l⟩ := by
  unfold rdM
  dsimp only
  rw [lastO_snoc, List.dropLast_concat]
theorem snoc_of {l : List Int} (h : l ≠ []) : ∃ l' k, l = l' ++ [k] := ⟨l.dropLast, l.getLast h, (List.dropLast_concat_getLast h).symm⟩
theorem snI_rows (l : List Int) (k : Int) : rows eI l ++ [[.int .i64 k]] = rows eI (l ++ [k]) := by simp [rows, eI]

theorem redr_meets : Meets Tryz.prog 47 (Spec.gen redG) := by
 refine meets_handed (E_rqu.at_ 87) Tryz.func47 rfl rfl rfl ?_
 intro args bl p r bf hg hp
 unfold redG at hg
 split at hg
 rename_i ty x y z t1 s1 v1 t2 s2 v2 t3 s3 v3
 simp only [Option.some.injEq, Prod.mk.injEq] at hg
 obtain ⟨rfl, rfl, rfl⟩ := hg
 unfold preR at hp
 obtain ⟨⟨rfl, ⟨rfl, rfl, h1, rfl⟩, ⟨rfl, rfl, h2, rfl⟩, ⟨rfl, rfl, h3, rfl⟩⟩, hok⟩ := hp
 unfold mcB at hok ⊢
 generalize dSn v1 = ns at *
 generalize dI v2 = rs at *
 generalize dI v3 = ops at *
 subst h1 h2 h3
 obtain ⟨o1, o2, o3, o4, o5, o6, o7, o8⟩ := hok
 dsimp only at o1 o2 o3 o4 o5 o6 o7 o8
 obtain ⟨l, k, rfl⟩ := snoc_of o1
 rw [lastO_snoc] at o2 o3 o4 o5
 have hll : (l ++ [k]).length = l.length + 1 := by simp
 rw [hll] at o8 ⊢
 have hi1 : (((l.length + 1 : Nat) : Int) - 1).toNat = l.length := by omega
 have hk0 : (l ++ [k])[l.length]? = some k := by simp
 have hdl : List.take l.length (l ++ [k]) = l := List.take_left
 have hT : (E_rqu).X = T := rfl
 have hx0 := And.intro @dec_t (And.intro @dec_f (And.intro @dSn_rows (And.intro @dI_rows (And.intro @rect_eSn (And.intro @rgB.eq_1 (And.intro @ilB.eq_1 (And.intro @nsB.eq_1 (And.intro @Int.toNat_natCast @Tryz.results47))))))))
 have hx := hx0
 refine ⟨Nat.le_of_ble_eq_true rfl, ?_⟩
 intro F W0 M0 hnp hmk
 have hnp : Far.np = 4 := hnp
 refine vc_seq_k fun N1 h1 => ?_
 have hx := And.intro @hi1 (And.intro @hk0 (And.intro @eI.eq_1 (And.intro @hll hx0)))
 refine u_reg ?_
 try refine lg_mk ?_
 refine u_mv (hq := by exact so_) ?_
 refine u_nl (hq := by exact so_) ?_
 refine u_pt (hq := by exact so_) ?_
 refine u_ld (hq := by exact so_) ?_
 refine u_mv (hq := by exact so_) ?_
 refine u_nl (hq := by exact so_) ?_
 refine u_pt (hq := by exact so_) ?_
 refine u_ld (hq := by exact so_) ?_
 refine u_ln (hq := by exact so_) ?_
 refine u_bn (hq := by exact so_) ?_
 refine u_pt (hq := by exact so_) ?_
 refine u_ld (hq := by exact so_) ?_
 refine u_mv (hq := by exact so_) ?_
 refine lg_nil ?_
 have hx := hx0
 refine h1 _ ?_; clear h1; try clear N1
 refine vc_seq_k fun N2 h2 => ?_
 have hx := And.intro @hi1 (And.intro @hll hx0)
 refine u_reg ?_
 try refine lg_mk ?_
 iterate 2 refine u_mv (hq := by exact so_) ?_
 refine u_nl (hq := by exact so_) ?_
 refine u_pt (hq := by exact so_) ?_
 refine u_ld (hq := by exact so_) ?_
 refine u_mv (hq := by exact so_) ?_
 refine u_nl (hq := by exact so_) ?_
 refine u_pt (hq := by exact so_) ?_
 refine u_ld (hq := by exact so_) ?_
 refine u_ln (hq := by exact so_) ?_
 refine u_bn (hq := by exact so_) ?_
 refine u_sl (hq := by exact so_) ?_
 refine u_nl (hq := by exact so_) ?_
 refine u_pt (hq := by exact so_) ?_
 refine u_st (hq := by exact so_) ?_
 refine lg_nil ?_
 have hx := hx0
 refine h2 _ ?_; clear h2; try clear N2
 refine vc_seq_k fun N3 h3 => ?_
 refine vc_shortL 3 l.length rfl ?_
 simp only [updL, List.set, rows_take, hdl]
 refine vc_regG [37] hmix (by kernel_rfl) ?_
 try refine lg_mk ?_
 refine u_mv (hq := by exact so_) ?_
 refine u_nl (hq := by exact so_) ?_
 refine u_pt (hq := by exact so_) ?_
 refine u_ld (hq := by exact so_) ?_
 refine u_ln (hq := by exact so_) ?_
 refine u_mv (hq := by exact so_) ?_
 have hc := call_rule (E := (E_rqu.at_ 87)) (f := 37) (sp := Spec.pure sarG) rfl
 have hs := @sarG.eq_1
 refine u_cp (hq := by exact so_) ?_
 refine u_bn (hq := by exact so_) ?_
 refine u_mv (hq := by exact so_) ?_
 refine lg_nil ?_
 refine h3 _ ?_; clear h3; try clear N3
 refine vc_seq_k fun N4 h4 => ?_
 have hra : ((rs.length : Int) - ((sar k : Nat) : Int)).toNat = rs.length - sar k := by omega
 obtain ⟨a, hae⟩ := getE (l := rs) (i := rs.length - sar k) (by omega)
 have hg1 : rs.getD (rs.length - sar k) 0 = a := by rw [List.getD_eq_getElem?_getD, hae]; rfl
 have hx := And.intro @hra (And.intro @hae (And.intro @eI.eq_1 hx0))
 refine u_reg ?_
 try refine lg_mk ?_
 iterate 2 refine u_mv (hq := by exact so_) ?_
 refine u_nl (hq := by exact so_) ?_
 refine u_pt (hq := by exact so_) ?_
 refine u_ld (hq := by exact so_) ?_
 refine u_mv (hq := by exact so_) ?_
 refine u_pt (hq := by exact so_) ?_
 refine u_ld (hq := by exact so_) ?_
 refine u_bd (hq := by exact so_) ?_
 refine u_al (hq := by exact so_) ?_
 refine u_st (hq := by exact so_) ?_
 refine lg_nil ?_
 have hx := hx0
 refine h4 _ ?_; clear h4; try clear N4
 refine vc_seq_k fun N5 h5 => ?_
 refine vc_seq_k fun N6 h6 => ?_
 refine u_reg ?_
 try refine lg_mk ?_
 refine u_mv (hq := by exact so_) ?_
 have hc := call_rule (E := (E_rqu.at_ 87)) (f := 37) (sp := Spec.pure sarG) rfl
 have hs := @sarG.eq_1
 refine u_cp (hq := by exact so_) ?_
 refine u_bn (hq := by exact so_) ?_
 refine lg_nil ?_
 refine h6 _ ?_; clear h6; try clear N6
 refine u_cond (fun hb7 => ?_) (fun hb7 => ?_)
 have ha2 : sar k = 2 := by have := hb7; (try simp at this); omega
 have hra2 : ((rs.length : Int) - ((sar k : Nat) : Int) + 1).toNat = rs.length - sar k + 1 := by omega
 obtain ⟨b, hbe⟩ := getE (l := rs) (i := rs.length - sar k + 1) (by omega)
 have hg2 : rs.getD (rs.length - sar k + 1) 0 = b := by rw [List.getD_eq_getElem?_getD, hbe]; rfl
 have hx := And.intro @hra2 (And.intro @hbe (And.intro @eI.eq_1 hx0))
 refine u_reg ?_
 try refine lg_mk ?_
 refine u_mv (hq := by exact so_) ?_
 refine u_nl (hq := by exact so_) ?_
 refine u_pt (hq := by exact so_) ?_
 refine u_ld (hq := by exact so_) ?_
 refine u_mv (hq := by exact so_) ?_
 refine u_bn (hq := by exact so_) ?_
 refine u_pt (hq := by exact so_) ?_
 refine u_ld (hq := by exact so_) ?_
 refine u_pt (hq := by exact so_) ?_
 refine u_st (hq := by exact so_) ?_
 refine lg_nil ?_
 have hx := hx0
 refine h5 _ ?_; clear h5; try clear N5
 refine vc_seq_k fun N8 h8 => ?_
 refine u_reg ?_
 try refine lg_mk ?_
 iterate 2 refine u_mv (hq := by exact so_) ?_
 refine u_nl (hq := by exact so_) ?_
 refine u_pt (hq := by exact so_) ?_
 iterate 2 refine u_ld (hq := by exact so_) ?_
 refine u_bs (hq := by exact so_) ?_
 refine u_ap (hq := by exact so_) ?_
 refine u_nl (hq := by exact so_) ?_
 refine u_pt (hq := by exact so_) ?_
 refine u_st (hq := by exact so_) ?_
 refine lg_nil ?_
 refine h8 _ ?_; clear h8; try clear N8
 have hx := And.intro @hra hx0
 refine u_reg ?_
 try refine lg_mk ?_
 iterate 2 refine u_mv (hq := by exact so_) ?_
 refine u_nl (hq := by exact so_) ?_
 refine u_pt (hq := by exact so_) ?_
 refine u_ld (hq := by exact so_) ?_
 refine u_mv (hq := by exact so_) ?_
 refine u_sl (hq := by exact so_) ?_
 refine u_mv (hq := by exact so_) ?_
 refine u_nl (hq := by exact so_) ?_
 refine u_pt (hq := by exact so_) ?_
 refine u_ld (hq := by exact so_) ?_
 refine u_ln (hq := by exact so_) ?_
 refine u_bn (hq := by exact so_) ?_
 refine u_bs (hq := by exact so_) ?_
 refine u_ap (hq := by exact so_) ?_
 refine u_nl (hq := by exact so_) ?_
 refine u_pt (hq := by exact so_) ?_
 refine u_st (hq := by exact so_) ?_
 refine lg_nil ?_
 have hx := hx0
 have hr := red_gen (ns := ns) (rs := rs) (l := l) (k := k)
 have h2 := hb7
 (try simp at h2)
 rw [if_pos (by omega)] at hr
 rw [hr]
 rw [hg1, hg2]
 dsimp only [ilB, nsB]
 have hs1 := addS_rows ns k [] a b
 have hs2 := snI_rows (rs.take (rs.length - sar k)) (ns.length : Int)
 have hl1 : (ns ++ [(⟨k, [], a, b⟩ : Sn)]).length = ns.length + 1 := by simp
 have hl2 : (rs.take (rs.length - sar k) ++ [(ns.length : Int)]).length = rs.length - sar k + 1 := by simp
 refine fin_ ?_
 refine ⟨[some 0, some 1, some 2, some 3, some 6, some 8], by rfl, ?_, ?_⟩
 refine fin_ ?_
 ·(repeat' apply And.intro) <;> (first | (first | rfl | trivial | omega | (rw [hs1]; done) | (rw [hs2]; done) | (rw [hl1]; done) | (rw [hl2]; done) | exact Or.inl rfl) | exact cl_)
 refine fin_ ?_
 ·(repeat' apply And.intro) <;> (first | (first | rfl | trivial | omega | (rw [hs1]; done) | (rw [hs2]; done) | (rw [hl1]; done) | (rw [hl2]; done) | exact Or.inl rfl) | exact cl_)
 refine vc_skip ?_
 try simp only [k_rules]
 refine h5 _ ?_; clear h5; try clear N5
 refine vc_seq_k fun N9 h9 => ?_
 refine u_reg ?_
 try refine lg_mk ?_
 iterate 2 refine u_mv (hq := by exact so_) ?_
 refine u_nl (hq := by exact so_) ?_
 refine u_pt (hq := by exact so_) ?_
 iterate 2 refine u_ld (hq := by exact so_) ?_
 refine u_bs (hq := by exact so_) ?_
 refine u_ap (hq := by exact so_) ?_
 refine u_nl (hq := by exact so_) ?_
 refine u_pt (hq := by exact so_) ?_
 refine u_st (hq := by exact so_) ?_
 refine lg_nil ?_
 refine h9 _ ?_; clear h9; try clear N9
 have hx := And.intro @hra hx0
 refine u_reg ?_
 try refine lg_mk ?_
 iterate 2 refine u_mv (hq := by exact so_) ?_
 refine u_nl (hq := by exact so_) ?_
 refine u_pt (hq := by exact so_) ?_
 refine u_ld (hq := by exact so_) ?_
 refine u_mv (hq := by exact so_) ?_
 refine u_sl (hq := by exact so_) ?_
 refine u_mv (hq := by exact so_) ?_
 refine u_nl (hq := by exact so_) ?_
 refine u_pt (hq := by exact so_) ?_
 refine u_ld (hq := by exact so_) ?_
 refine u_ln (hq := by exact so_) ?_
 refine u_bn (hq := by exact so_) ?_
 refine u_bs (hq := by exact so_) ?_
 refine u_ap (hq := by exact so_) ?_
 refine u_nl (hq := by exact so_) ?_
 refine u_pt (hq := by exact so_) ?_
 refine u_st (hq := by exact so_) ?_
 refine lg_nil ?_
 have hx := hx0
 have hr := red_gen (ns := ns) (rs := rs) (l := l) (k := k)
 have h2 := hb7
 (try simp at h2)
 rw [if_neg (by omega)] at hr
 rw [hr]
 rw [hg1]
 dsimp only [ilB, nsB]
 have hs1 := addS_rows ns k [] a 0
 have hs2 := snI_rows (rs.take (rs.length - sar k)) (ns.length : Int)
 have hl1 : (ns ++ [(⟨k, [], a, 0⟩ : Sn)]).length = ns.length + 1 := by simp
 have hl2 : (rs.take (rs.length - sar k) ++ [(ns.length : Int)]).length = rs.length - sar k + 1 := by simp
 refine fin_ ?_
 refine ⟨[some 0, some 1, some 2, some 3, some 6, some 8], by rfl, ?_, ?_⟩
 refine fin_ ?_
 ·(repeat' apply And.intro) <;> (first | (first | rfl | trivial | omega | (rw [hs1]; done) | (rw [hs2]; done) | (rw [hl1]; done) | (rw [hl2]; done) | exact Or.inl rfl) | exact cl_)
 refine fin_ ?_
 ·(repeat' apply And.intro) <;> (first | (first | rfl | trivial | omega | (rw [hs1]; done) | (rw [hs2]; done) | (rw [hl1]; done) | (rw [hl2]; done) | exact Or.inl rfl) | exact cl_)
 cases hg

def E_redr : Env Tryz.prog := E_rqu.add 47 (Spec.gen redG) redr_meets (by kernel_rfl)
end Go.Proofs.YtmbjnkgpcbpclaaGreat
