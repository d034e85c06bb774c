/- Walks, printed by wip/gen/walk.py. -/
import Derived.Test.YtlbjffdaooadoaaDoorT21
import Derived.Test.YtlbjffdaooadoaaDoorV5
set_option linter.all false
set_option maxRecDepth 100000
set_option maxHeartbeats 4000000
namespace Go.Proofs.YtlbjffdaooadoaaDoor
open Go Go.Vc Go.RowKit
def rdB (t : Bs) (p e : Int) (nd : AV) (c : Int) : Option Box := some (.one 85 [.d (.str t), .d (.int .i64 p), .d (.int .i64 e), nd, .d (.int .i64 c)])
theorem runN_le {s : Bs} {lo hi : Int} {n : Nat} (h : n ≤ s.length) : n ≤ runN s lo hi n ∧ runN s lo hi n ≤ s.length := by
  unfold runN
  have h1 : ((s.drop n).takeWhile (inB lo hi)).length ≤ (s.drop n).length := (List.takeWhile_sublist _).length_le
  rw [List.length_drop] at h1
  omega
theorem scnP_le {t : Bs} {e : Nat} (h : e ≤ t.length) : e ≤ scnP t e ∧ scnP t e ≤ t.length := runN_le h
theorem scnE_le {t : Bs} {p : Nat} (h : p ≤ t.length) : p ≤ scnE t p ∧ scnE t p ≤ t.length := by
  have h1 := runN_le (lo := 97) (hi := 122) h
  have h2 := runN_le (lo := 48) (hi := 57) h
  unfold scnE
  split <;> omega
def scanG : GFun
  | [.ptr 0 0 0], [some (.one ty [.d (.str t), .d (.int .i64 p), .d (.int .i64 e), .sl 1 0 n, .d (.int .i64 c)]), some (.vec vt s xs)] => some (ty = 85 ∧ 0 ≤ e ∧ e ≤ t.length ∧ t.length ≤ 1000000, .tup [], [rdB t (scnP t e.toNat : Nat) (scnE t (scnP t e.toNat) : Nat) (.sl 1 0 n) c, some (.vec vt s xs)])
  | _, _ => none
def tokG : GFun
  | [.ptr 0 0 0], [some (.one ty [.d (.str t), .d (.int .i64 p), .d (.int .i64 e), .sl 1 0 n, .d (.int .i64 c)]), some (.vec vt s xs)] => some (ty = 85 ∧ 0 ≤ p ∧ p ≤ e ∧ e ≤ t.length ∧ t.length ≤ 1000000, .d (.str (tokN t p.toNat e.toNat)), [rdB t p e (.sl 1 0 n) c, some (.vec vt s xs)])
  | _, _ => none
def failG : GFun
  | [.ptr 0 0 0, .d (.int .i64 k)], [some (.one ty [.d (.str t), .d (.int .i64 p), .d (.int .i64 e), .sl 1 0 n, .d (.int .i64 c)]), some (.vec vt s xs)] => some (ty = 85, .d (.bool false), [rdB t p e (.sl 1 0 n) (failC c k), some (.vec vt s xs)])
  | _, _ => none
theorem tok_len (t : Bs) (p e : Nat) : (tokN t p e).length ≤ t.length := by unfold tokN; rw [List.length_take, List.length_drop]; omega

theorem scan_meets : Meets Tryd.prog 56 (Spec.gen scanG) := by
 refine meets_handed (E_itoa.at_ 64) Tryd.func56 rfl rfl rfl ?_
 intro args bl p r bf hg hp
 unfold scanG at hg
 split at hg
 rename_i ty t p e n c vt s xs
 simp only [Option.some.injEq, Prod.mk.injEq] at hg
 obtain ⟨rfl, rfl, rfl⟩ := hg
 obtain ⟨rfl, he0, hel, htl⟩ := hp
 obtain ⟨m, rfl⟩ := Int.eq_ofNat_of_zero_le he0
 have hmt : ((m : Nat) : Int).toNat = m := rfl
 rw [hmt]
 have hml : m ≤ t.length := by omega
 obtain ⟨hp1, hp2⟩ := scnP_le hml
 have hr1 := runN_le (lo := 97) (hi := 122) hp2
 have hr2 := runN_le (lo := 48) (hi := 57) hp2
 have hT : (E_itoa).X = T := rfl
 have hx0 := And.intro @dec_t (And.intro @dec_f (And.intro @Int.toNat_natCast @Tryd.results56))
 have hx := hx0
 refine ⟨Nat.le_of_ble_eq_true rfl, ?_⟩
 intro F W0 M0 hnp hmk
 have hnp : Far.np = 2 := hnp
 refine vc_seq_k fun N1 h1 => ?_
 refine vc_regG [76] hmix (by kernel_rfl) ?_
 try refine lg_mk ?_
 iterate 2 refine u_mv (hq := by exact so_) ?_
 refine u_nl (hq := by exact so_) ?_
 refine u_pt (hq := by exact so_) ?_
 refine u_ld (hq := by exact so_) ?_
 refine u_mv (hq := by exact so_) ?_
 refine u_nl (hq := by exact so_) ?_
 refine u_pt (hq := by exact so_) ?_
 refine u_ld (hq := by exact so_) ?_
 have hc := call_rule (E := (E_itoa.at_ 64)) (f := 76) (sp := Spec.pure runG) rfl
 have hs := @runG.eq_1
 refine u_cp (hq := by exact so_) ?_
 refine u_nl (hq := by exact so_) ?_
 refine u_pt (hq := by exact so_) ?_
 refine u_st (hq := by exact so_) ?_
 refine lg_nil ?_
 have hpp : runN t 32 32 m = scnP t m := rfl
 simp only [hpp]
 generalize scnP t m = P at *
 refine h1 _ ?_; clear h1; try clear N1
 refine vc_seq_k fun N2 h2 => ?_
 refine vc_regO [76] [0, 1, 2, 3, 4, 5, 6, 7, 8, 10, 11, 12, 13, 14, 15, 16, 17, 9, 18, 19, 20, 21, 22] hmix (by kernel_rfl) ?_
 simp only [pick_rules, list_rules]
 try refine lg_mk ?_
 iterate 2 refine u_mv (hq := by exact so_) ?_
 refine u_nl (hq := by exact so_) ?_
 refine u_pt (hq := by exact so_) ?_
 refine u_ld (hq := by exact so_) ?_
 refine u_mv (hq := by exact so_) ?_
 refine u_nl (hq := by exact so_) ?_
 refine u_pt (hq := by exact so_) ?_
 refine u_ld (hq := by exact so_) ?_
 refine u_mv (hq := by exact so_) ?_
 refine u_nl (hq := by exact so_) ?_
 refine u_pt (hq := by exact so_) ?_
 refine u_ld (hq := by exact so_) ?_
 refine u_mv (hq := by exact so_) ?_
 refine u_nl (hq := by exact so_) ?_
 refine u_pt (hq := by exact so_) ?_
 refine u_ld (hq := by exact so_) ?_
 have hc := call_rule (E := (E_itoa.at_ 64)) (f := 76) (sp := Spec.pure runG) rfl
 have hs := @runG.eq_1
 refine u_cp (hq := by exact so_) ?_
 have hc := call_rule (E := (E_itoa.at_ 64)) (f := 76) (sp := Spec.pure runG) rfl
 have hs := @runG.eq_1
 refine u_cp (hq := by exact so_) ?_
 refine u_mm (hq := by exact so_) ?_
 refine u_nl (hq := by exact so_) ?_
 refine u_pt (hq := by exact so_) ?_
 refine u_st (hq := by exact so_) ?_
 refine lg_nil ?_
 have hif : max (runN t 97 122 P : Int) (runN t 48 57 P : Int) = ((max (runN t 97 122 P) (runN t 48 57 P) : Nat) : Int) := by omega
 simp only [hif]
 have hsc : scnE t P = if max (runN t 97 122 P) (runN t 48 57 P) = P ∧ P < t.length then P + 1 else max (runN t 97 122 P) (runN t 48 57 P) := rfl
 generalize max (runN t 97 122 P) (runN t 48 57 P) = M at *
 refine h2 _ ?_; clear h2; try clear N2
 refine vc_seq_k fun N3 h3 => ?_
 refine u_reg ?_
 try refine lg_mk ?_
 refine u_mv (hq := by exact so_) ?_
 refine u_nl (hq := by exact so_) ?_
 refine u_pt (hq := by exact so_) ?_
 refine u_ld (hq := by exact so_) ?_
 refine u_mv (hq := by exact so_) ?_
 refine u_nl (hq := by exact so_) ?_
 refine u_pt (hq := by exact so_) ?_
 refine u_ld (hq := by exact so_) ?_
 refine u_bn (hq := by exact so_) ?_
 refine u_mv (hq := by exact so_) ?_
 refine s_mv (hq := by exact si_) ?_
 refine s_nl (hq := by exact si_) ?_
 refine s_pt (hq := by exact si_) ?_
 refine s_ld (hq := by exact si_) ?_
 refine s_mv (hq := by exact si_) ?_
 refine s_nl (hq := by exact si_) ?_
 refine s_pt (hq := by exact si_) ?_
 refine s_ld (hq := by exact si_) ?_
 refine s_ln (hq := by exact si_) ?_
 refine s_bn (hq := by exact si_) ?_
 refine u_pk (hq := by exact so_) ?_
 refine lg_nil ?_
 refine h3 _ ?_; clear h3; try clear N3
 refine u_cond (fun hb4 => ?_) (fun hb4 => ?_)
 refine u_reg ?_
 try refine lg_mk ?_
 refine u_mv (hq := by exact so_) ?_
 refine u_nl (hq := by exact so_) ?_
 refine u_pt (hq := by exact so_) ?_
 refine u_ld (hq := by exact so_) ?_
 refine u_bn (hq := by exact so_) ?_
 refine u_nl (hq := by exact so_) ?_
 refine u_pt (hq := by exact so_) ?_
 refine u_st (hq := by exact so_) ?_
 refine lg_nil ?_
 have hMP : M = P ∧ P < t.length := by have := hb4; (try simp at this); omega
 rw [if_pos hMP] at hsc
 rw [hsc]
 refine fin_ ?_
 refine ⟨[some 0, some 1], by rfl, ?_, ?_⟩
 refine fin_ ?_
 exact cl_
 refine fin_ ?_
 exact cl_
 refine vc_skip ?_
 try simp only [k_rules]
 have hMP : ¬(M = P ∧ P < t.length) := by have := hb4; (try simp at this); omega
 rw [if_neg hMP] at hsc
 rw [hsc]
 refine fin_ ?_
 refine ⟨[some 0, some 1], by rfl, ?_, ?_⟩
 refine fin_ ?_
 exact cl_
 refine fin_ ?_
 exact cl_
 cases hg

def E_scan : Env Tryd.prog := E_itoa.add 56 (Spec.gen scanG) scan_meets (by kernel_rfl)

def psB (t : Bs) (s : PS) (nd : AV) : Option Box := rdB t (s.p : Nat) (s.e : Nat) nd s.c
def psO (p e c : Int) : PS := ⟨p.toNat, e.toNat, [], c⟩
def wfR (t : Bs) (p e : Int) : Prop := 0 ≤ p ∧ p ≤ e ∧ e ≤ t.length ∧ t.length ≤ 1000000
def takeG : GFun
  | [.ptr 0 0 0, .d (.str x)], [some (.one ty [.d (.str t), .d (.int .i64 p), .d (.int .i64 e), .sl 1 0 n, .d (.int .i64 c)]), some (.vec vt s xs)] => some (ty = 85 ∧ wfR t p e, .d (.bool (takeB t (psO p e c) x)), [psB t (takeS t (psO p e c) x) (.sl 1 0 n), some (.vec vt s xs)])
  | _, _ => none
def addG : GFun
  | [.ptr 0 0 0, .agg [.d (.int .i64 f), .d (.int .i64 g), .d (.int .i64 h), .d (.int .i64 i)]], [some (.one ty [.d (.str t), .d (.int .i64 p), .d (.int .i64 e), .sl 1 0 n, .d (.int .i64 c)]), some (.vec vt s xs)] => some (ty = 85 ∧ vt = 39 ∧ s = 4 ∧ xs = rows eN (dN xs) ∧ n = (dN xs).length ∧ (dN xs).length ≤ 1000000, .d (.int .i64 ((dN xs).length : Nat)), [rdB t p e (.sl 2 0 ((dN xs).length + 1)) c, none, some (.vec 39 4 (rows eN (dN xs ++ [⟨f, g, h, i⟩])))])
  | _, _ => none
theorem addN_rows (l : List Nd) (f g h i : Int) : rows eN l ++ [[.int .i64 f, .int .i64 g, .int .i64 h, .int .i64 i]] = rows eN (l ++ [⟨f, g, h, i⟩]) := by simp [rows, eN]

theorem tok_meets : Meets Tryd.prog 78 (Spec.gen tokG) := by
 refine meets_handed (E_scan.at_ 16) Tryd.func78 rfl rfl rfl ?_
 intro args bl p r bf hg hp
 unfold tokG at hg
 split at hg
 rename_i ty t p e n c vt s xs
 simp only [Option.some.injEq, Prod.mk.injEq] at hg
 obtain ⟨rfl, rfl, rfl⟩ := hg
 obtain ⟨rfl, hp0, hpe, hel, htl⟩ := hp
 obtain ⟨m, rfl⟩ := Int.eq_ofNat_of_zero_le hp0
 obtain ⟨m2, rfl⟩ := Int.eq_ofNat_of_zero_le (by omega : 0 ≤ e)
 have hT : (E_scan).X = T := rfl
 have hx0 := And.intro @dec_t (And.intro @dec_f (And.intro @Int.toNat_natCast @Tryd.results78))
 have hx := hx0
 refine ⟨Nat.le_of_ble_eq_true rfl, ?_⟩
 intro F W0 M0 hnp hmk
 have hnp : Far.np = 2 := hnp
 refine vc_seq_k fun N1 h1 => ?_
 refine u_reg ?_
 try refine lg_mk ?_
 refine u_mv (hq := by exact so_) ?_
 refine lg_nil ?_
 refine h1 _ ?_; clear h1; try clear N1
 refine vc_seq_k fun N2 h2 => ?_
 refine u_reg ?_
 try refine lg_mk ?_
 refine u_mv (hq := by exact so_) ?_
 refine u_nl (hq := by exact so_) ?_
 refine u_pt (hq := by exact so_) ?_
 refine u_ld (hq := by exact so_) ?_
 refine u_mv (hq := by exact so_) ?_
 refine u_nl (hq := by exact so_) ?_
 refine u_pt (hq := by exact so_) ?_
 refine u_ld (hq := by exact so_) ?_
 refine u_mv (hq := by exact so_) ?_
 refine u_nl (hq := by exact so_) ?_
 refine u_pt (hq := by exact so_) ?_
 refine u_ld (hq := by exact so_) ?_
 refine u_sl (hq := by exact so_) ?_
 refine u_mv (hq := by exact so_) ?_
 refine lg_nil ?_
 refine h2 _ ?_; clear h2; try clear N2
 refine vc_ret ?_
 try simp only [k_rules]
 refine fin_ ?_
 refine ⟨[some 0, some 1], by rfl, ?_, ?_⟩
 refine fin_ ?_
 exact cl_
 refine fin_ ?_
 exact cl_
 cases hg

def E_tok : Env Tryd.prog := E_scan.add 78 (Spec.gen tokG) tok_meets (by kernel_rfl)

theorem failr_meets : Meets Tryd.prog 58 (Spec.gen failG) := by
 refine meets_handed (E_tok.at_ 14) Tryd.func58 rfl rfl rfl ?_
 intro args bl p r bf hg hp
 unfold failG at hg
 split at hg
 rename_i k ty t p e n c vt s xs
 simp only [Option.some.injEq, Prod.mk.injEq] at hg
 obtain ⟨rfl, rfl, rfl⟩ := hg
 obtain rfl := hp
 have hT : (E_tok).X = T := rfl
 have hx0 := And.intro @dec_t (And.intro @dec_f @Tryd.results58)
 have hx := hx0
 refine ⟨Nat.le_of_ble_eq_true rfl, ?_⟩
 intro F W0 M0 hnp hmk
 have hnp : Far.np = 2 := hnp
 refine vc_seq_k fun N1 h1 => ?_
 refine u_reg ?_
 try refine lg_mk ?_
 refine u_mv ?_
 refine lg_nil ?_
 refine h1 _ ?_; clear h1; try clear N1
 refine vc_seq_k fun N2 h2 => ?_
 refine vc_seq_k fun N3 h3 => ?_
 refine u_reg ?_
 try refine lg_mk ?_
 refine u_mv ?_
 refine u_nl ?_
 refine u_pt ?_
 refine u_ld ?_
 refine u_bn ?_
 refine lg_nil ?_
 refine h3 _ ?_; clear h3; try clear N3
 refine u_cond (fun hb4 => ?_) (fun hb4 => ?_)
 refine u_reg ?_
 try refine lg_mk ?_
 iterate 2 refine u_mv ?_
 refine u_nl ?_
 refine u_pt ?_
 refine u_st ?_
 refine lg_nil ?_
 refine h2 _ ?_; clear h2; try clear N2
 refine vc_seq_k fun N5 h5 => ?_
 refine u_reg ?_
 try refine lg_mk ?_
 refine u_mv ?_
 refine lg_nil ?_
 refine h5 _ ?_; clear h5; try clear N5
 refine vc_ret ?_
 try simp only [k_rules]
 have hc0 : c = 0 := by have := hb4; (try simp at this); omega
 have hf : failC c k = k := by unfold failC; rw [if_pos hc0]
 rw [hf]
 refine fin_ ?_
 refine ⟨[some 0, some 1], by rfl, ?_, ?_⟩
 refine fin_ ?_
 exact cl_
 refine fin_ ?_
 exact cl_
 refine vc_skip ?_
 try simp only [k_rules]
 refine h2 _ ?_; clear h2; try clear N2
 refine vc_seq_k fun N6 h6 => ?_
 refine u_reg ?_
 try refine lg_mk ?_
 refine u_mv ?_
 refine lg_nil ?_
 refine h6 _ ?_; clear h6; try clear N6
 refine vc_ret ?_
 try simp only [k_rules]
 have hc0 : ¬c = 0 := by have := hb4; (try simp at this); omega
 have hf : failC c k = c := by unfold failC; rw [if_neg hc0]
 rw [hf]
 refine fin_ ?_
 refine ⟨[some 0, some 1], by rfl, ?_, ?_⟩
 refine fin_ ?_
 exact cl_
 refine fin_ ?_
 exact cl_
 cases hg

def E_failr : Env Tryd.prog := E_tok.add 58 (Spec.gen failG) failr_meets (by kernel_rfl)

theorem take_meets : Meets Tryd.prog 90 (Spec.gen takeG) := by
 refine meets_handed (E_failr.at_ 17) Tryd.func90 rfl rfl rfl ?_
 intro args bl p r bf hg hp
 unfold takeG at hg
 split at hg
 rename_i x ty t p e n c vt s xs
 simp only [Option.some.injEq, Prod.mk.injEq] at hg
 obtain ⟨rfl, rfl, rfl⟩ := hg
 obtain ⟨rfl, hw⟩ := hp
 obtain ⟨hp0, hpe, hel, htl⟩ := hw
 obtain ⟨m, rfl⟩ := Int.eq_ofNat_of_zero_le hp0
 obtain ⟨m2, rfl⟩ := Int.eq_ofNat_of_zero_le (by omega : 0 ≤ e)
 have hmt : ((m : Nat) : Int).toNat = m := rfl
 have hmt2 : ((m2 : Nat) : Int).toNat = m2 := rfl
 have hT : (E_failr).X = T := rfl
 have hx0 := And.intro @dec_t (And.intro @dec_f (And.intro @Int.toNat_natCast (And.intro @rdB.eq_1 (And.intro @psB.eq_1 @Tryd.results90))))
 have hx := hx0
 refine ⟨Nat.le_of_ble_eq_true rfl, ?_⟩
 intro F W0 M0 hnp hmk
 have hnp : Far.np = 2 := hnp
 refine vc_seq_k fun N1 h1 => ?_
 refine u_reg ?_
 try refine lg_mk ?_
 refine u_mv (hq := by exact so_) ?_
 refine lg_nil ?_
 refine h1 _ ?_; clear h1; try clear N1
 refine vc_seq_k fun N2 h2 => ?_
 refine vc_seq_k fun N3 h3 => ?_
 refine u_reg ?_
 try refine lg_mk ?_
 refine u_mv (hq := by exact so_) ?_
 have hc := call_rule (E := (E_failr.at_ 17)) (f := 78) (sp := Spec.gen tokG) rfl
 have hs := @tokG.eq_1
 refine u_hg (hq := by exact so_) ?_
 refine u_mv (hq := by exact so_) ?_
 refine u_bn (hq := by exact so_) ?_
 refine u_mv (hq := by exact so_) ?_
 refine s_mv (hq := by exact si_) ?_
 refine s_bn (hq := by exact si_) ?_
 refine u_pk (hq := by exact so_) ?_
 refine lg_nil ?_
 refine h3 _ ?_; clear h3; try clear N3
 refine u_cond (fun hb4 => ?_) (fun hb4 => ?_)
 refine vc_seq_k fun N5 h5 => ?_
 refine u_reg ?_
 try refine lg_mk ?_
 refine u_mv (hq := by exact so_) ?_
 have hc := call_rule (E := (E_failr.at_ 17)) (f := 58) (sp := Spec.gen failG) rfl
 have hs := @failG.eq_1
 refine u_hg (hq := by exact so_) ?_
 refine u_mv (hq := by exact so_) ?_
 refine lg_nil ?_
 refine h5 _ ?_; clear h5; try clear N5
 refine vc_ret ?_
 try simp only [k_rules]
 have hb : takeB t (psO m m2 c) x = false := decide_eq_false (fun h => by have := hb4; have h1 := h.1; have h2 := h.2; unfold tokS psO at h1; dsimp only at h1; rw [hmt, hmt2] at h1; simp [h1, h2] at this)
 have hs : takeS t (psO m m2 c) x = failS (psO m m2 c) 1 := by unfold takeS; rw [hb]; rfl
 rw [hb, hs]
 refine fin_ ?_
 refine ⟨[some 0, some 1], by rfl, ?_, ?_⟩
 refine fin_ ?_
 exact cl_
 refine fin_ ?_
 exact cl_
 refine vc_skip ?_
 try simp only [k_rules]
 refine h2 _ ?_; clear h2; try clear N2
 refine vc_seq_k fun N6 h6 => ?_
 refine u_reg ?_
 try refine lg_mk ?_
 refine u_mv (hq := by exact so_) ?_
 have hc := call_rule (E := (E_failr.at_ 17)) (f := 56) (sp := Spec.gen scanG) rfl
 have hs := @scanG.eq_1
 refine u_hg (hq := by exact so_) ?_
 refine lg_nil ?_
 refine h6 _ ?_; clear h6; try clear N6
 refine vc_seq_k fun N7 h7 => ?_
 refine u_reg ?_
 try refine lg_mk ?_
 refine u_mv (hq := by exact so_) ?_
 refine lg_nil ?_
 refine h7 _ ?_; clear h7; try clear N7
 refine vc_ret ?_
 try simp only [k_rules]
 have hb : takeB t (psO m m2 c) x = true := decide_eq_true (by have := hb4; unfold tokS psO; dsimp only; rw [hmt, hmt2]; simpa using this)
 have hs : takeS t (psO m m2 c) x = scanS t (psO m m2 c) := by unfold takeS; rw [hb]; rfl
 rw [hb, hs]
 refine fin_ ?_
 refine ⟨[some 0, some 1], by rfl, ?_, ?_⟩
 refine fin_ ?_
 exact cl_
 refine fin_ ?_
 exact cl_
 cases hg

def E_take : Env Tryd.prog := E_failr.add 90 (Spec.gen takeG) take_meets (by kernel_rfl)

theorem addr_meets : Meets Tryd.prog 79 (Spec.gen addG) := by
 refine meets_handed (E_take.at_ 21) Tryd.func79 rfl rfl rfl ?_
 intro args bl p r bf hg hp
 unfold addG at hg
 split at hg
 rename_i f g h i ty t p e n c vt s xs
 simp only [Option.some.injEq, Prod.mk.injEq] at hg
 obtain ⟨rfl, rfl, rfl⟩ := hg
 obtain ⟨rfl, rfl, rfl, he, rfl, hl⟩ := hp
 generalize dN xs = q at *
 subst he
 have hap := addN_rows q f g h i
 have hT : (E_take).X = T := rfl
 have hx0 := And.intro @dec_t (And.intro @dec_f (And.intro @dN_rows (And.intro @rect_eN @Tryd.results79)))
 have hx := hx0
 refine ⟨Nat.le_of_ble_eq_true rfl, ?_⟩
 intro F W0 M0 hnp hmk
 have hnp : Far.np = 2 := hnp
 refine vc_seq_k fun N1 h1 => ?_
 refine u_reg ?_
 try refine lg_mk ?_
 refine u_bx (hq := by exact so_) ?_
 refine u_mv (hq := by exact so_) ?_
 refine lg_nil ?_
 refine h1 _ ?_; clear h1; try clear N1
 refine vc_seq_k fun N2 h2 => ?_
 refine u_reg ?_
 try refine lg_mk ?_
 iterate 2 refine u_mv (hq := by exact so_) ?_
 refine u_nl (hq := by exact so_) ?_
 refine u_pt (hq := by exact so_) ?_
 iterate 2 refine u_ld (hq := by exact so_) ?_
 refine u_bs (hq := by exact so_) ?_
 refine u_ap (hq := by exact so_) ?_
 refine u_nl (hq := by exact so_) ?_
 refine u_pt (hq := by exact so_) ?_
 refine u_st (hq := by exact so_) ?_
 refine lg_nil ?_
 refine h2 _ ?_; clear h2; try clear N2
 refine vc_seq_k fun N3 h3 => ?_
 refine u_reg ?_
 try refine lg_mk ?_
 refine u_mv (hq := by exact so_) ?_
 refine u_nl (hq := by exact so_) ?_
 refine u_pt (hq := by exact so_) ?_
 refine u_ld (hq := by exact so_) ?_
 refine u_ln (hq := by exact so_) ?_
 refine u_bn (hq := by exact so_) ?_
 refine u_mv (hq := by exact so_) ?_
 refine lg_nil ?_
 refine h3 _ ?_; clear h3; try clear N3
 refine vc_ret ?_
 try simp only [k_rules]
 refine fin_ ?_
 refine ⟨[some 0, some 1, some 4], by rfl, ?_, ?_⟩
 refine fin_ ?_
 ·(repeat' apply And.intro) <;> (first | (first | rfl | (rw [hap]; done) | (rw [List.take_length, hap]; done) | (rw [List.take_of_length_le (Nat.le_refl _), hap]; done) | omega) | exact cl_)
 refine fin_ ?_
 ·(repeat' apply And.intro) <;> (first | (first | rfl | (rw [hap]; done) | (rw [List.take_length, hap]; done) | (rw [List.take_of_length_le (Nat.le_refl _), hap]; done) | omega) | exact cl_)
 cases hg

def E_addr : Env Tryd.prog := E_take.add 79 (Spec.gen addG) addr_meets (by kernel_rfl)
end Go.Proofs.YtlbjffdaooadoaaDoor
