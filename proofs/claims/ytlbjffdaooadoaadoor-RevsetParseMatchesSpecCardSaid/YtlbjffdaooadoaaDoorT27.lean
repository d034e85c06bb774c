/- Walks, printed by wip/gen/walk.py. -/
import Derived.Test.YtlbjffdaooadoaaDoorT26
import Derived.Test.YtlbjffdaooadoaaDoorV5
set_option linter.all false
set_option maxRecDepth 100000
set_option maxHeartbeats 4000000
namespace Go.Proofs.YtlbjffdaooadoaaDoor
open Go Go.Vc Go.RowKit
def lvN (k : Int) : Nat := if k = 14 then 0 else if k = 15 ∨ k = 16 then 1 else 2
def wordN (k : Int) : Bs := wordsL.getD k.toNat []
def signN (k : Int) : Bs := signsL.getD k.toNat []
def shB (rc : Nat → Nat → Option Bs) (n : Nd) : Option Bs :=
  if n.kd = 3 then some ([35] ++ Lib.itoa n.nm)
  else if n.kd = 4 ∨ n.kd = 5 then some (wordN n.kd ++ [40] ++ Lib.itoa n.nm ++ [41])
  else if n.kd = 7 then (rc n.lf.toNat 2).map fun a => [33] ++ a
  else if ar n.kd = 1 then (rc n.lf.toNat 0).map fun a => wordN n.kd ++ [40] ++ a ++ [41]
  else if ar n.kd = 0 then some (wordN n.kd)
  else (rc n.lf.toNat (lvN n.kd)).bind fun a => (rc n.rt.toNat (lvN n.kd + 1)).map fun b => a ++ signN n.kd ++ b
def shQ (q : List Nd) : Nat → Nat → Nat → Option Bs
  | 0, _, _ => none
  | f + 1, i, l => match q[i]? with
    | none => none
    | some n => (shB (shQ q f) n).bind fun s => if s.length ≤ 100000 then some (if lvN n.kd < l then [40] ++ s ++ [41] else s) else none
theorem shQ_step {q : List Nd} {f i l : Nat} {r : Bs} (h : shQ q (f + 1) i l = some r) : ∃ n s, q[i]? = some n ∧ shB (shQ q f) n = some s ∧ s.length ≤ 100000 ∧ r = if lvN n.kd < l then [40] ++ s ++ [41] else s := by
 unfold shQ at h
 split at h
 ·cases h
 ·rename_i n hn
  obtain ⟨s, h1, h2⟩ := Option.bind_eq_some_iff.1 h
  split at h2
  ·exact ⟨n, s, hn, h1, by assumption, (Option.some.inj h2).symm⟩
  ·cases h2
theorem shQ_len {q : List Nd} : ∀ {f i l : Nat} {r : Bs}, shQ q f i l = some r → r.length ≤ 100002
  | 0, _, _, _, h => by cases h
  | f + 1, i, l, r, h => by
    obtain ⟨n, s, _, _, h3, rfl⟩ := shQ_step h
    split
    · simp; omega
    · omega
theorem word_len (k : Int) : (wordN k).length ≤ 8 := by
  unfold wordN
  by_cases h : k.toNat < 17
  · have : ∀ i, i < 17 → (wordsL.getD i []).length ≤ 8 := by decide
    exact this _ h
  · rw [List.getD_eq_getElem?_getD, List.getElem?_eq_none (by show 17 ≤ _; omega)]; exact Nat.zero_le _
theorem sign_len (k : Int) : (signN k).length ≤ 8 := by
  unfold signN
  by_cases h : k.toNat < 17
  · have : ∀ i, i < 17 → (signsL.getD i []).length ≤ 8 := by decide
    exact this _ h
  · rw [List.getD_eq_getElem?_getD, List.getElem?_eq_none (by show 17 ≤ _; omega)]; exact Nat.zero_le _
theorem dec_len : ∀ (k u : Nat), u < 10 ^ (k + 1) → (Lib.decDigits u).length ≤ k + 1
  | 0, u, h => by
    rw [Lib.decDigits, dif_pos (by simpa using h)]; exact Nat.le_refl _
  | k + 1, u, h => by
    rw [Lib.decDigits]
    split
    · simp
    · rw [List.length_append, List.length_singleton]
      have := dec_len k (u / 10) (by rw [Nat.pow_succ] at h; omega)
      omega
theorem itoa_len {n : Int} (h0 : 0 ≤ n) (h : n ≤ 100000) : (Lib.itoa n).length ≤ 6 := by
  unfold Lib.itoa
  rw [if_neg (by omega)]
  exact dec_len 5 _ (by omega)
theorem wordsD_at {k : Int} (h0 : 0 ≤ k) (h : k < 17) : wordsD[k.toNat]? = some (.str (wordN k)) := by
  have : ∀ i, i < 17 → wordsD[i]? = some (.str (wordsL.getD i [])) := by
    intro i h
    iterate 17 (cases i with | zero => rfl | succ i => ?_)
    omega
  exact this _ (by omega)
def signsD : List D := [.str [], .str [], .str [], .str [], .str [], .str [], .str [], .str [], .str [], .str [], .str [], .str [], .str [], .str [], .str [32, 124, 32], .str [32, 38, 32], .str [32, 45, 32]]
theorem gl_signs [Far] (fr : Nat → AV) : evO fr (.global 1) = .d (.ptr signsD) := rfl
theorem sg_len : signsD.length = 17 := rfl
theorem signsD_at {k : Int} (h0 : 0 ≤ k) (h : k < 17) : signsD[k.toNat]? = some (.str (signN k)) := by
  have : ∀ i, i < 17 → signsD[i]? = some (.str (signsL.getD i [])) := by
    intro i h
    iterate 17 (cases i with | zero => rfl | succ i => ?_)
    omega
  exact this _ (by omega)
def okN (q : List Nd) : Prop := q.length ≤ 40 ∧ ∀ n ∈ q, 1 ≤ n.kd ∧ n.kd ≤ 16 ∧ 0 ≤ n.nm ∧ n.nm ≤ 100000 ∧ 0 ≤ n.lf ∧ 0 ≤ n.rt
def levG : List AV → Option (Prop × AV)
  | [.d (.int .i64 k)] => some (True, .d (.int .i64 (lvN k : Nat)))
  | _ => none
def shwG (fu : Nat) : List AV → Option (Prop × AV)
  | [.agg [.d (.sl xs)], .d (.int .i64 i), .d (.int .i64 l)] => some (xs = rows eN (dN xs) ∧ okN (dN xs) ∧ 0 ≤ i ∧ 0 ≤ l ∧ (shQ (dN xs) fu i.toNat l.toNat).isSome = true, .d (.str ((shQ (dN xs) fu i.toNat l.toNat).getD [])))
  | _ => none
theorem getD_bs (a : Bs) : (some a).getD [] = a := rfl
theorem lvN_le (k : Int) : lvN k ≤ 2 := by unfold lvN; split <;> (try split) <;> omega

theorem lev_meets : Meets Tryd.prog 82 (Spec.pure levG) := by
 refine meets_fun (E_pars.at_ 9) Tryd.func82 rfl rfl rfl ?_
 intro args p r hg hp
 unfold levG at hg
 split at hg
 rename_i k
 simp only [Option.some.injEq, Prod.mk.injEq] at hg
 obtain ⟨rfl, rfl⟩ := hg
 have hT : (E_pars).X = T := rfl
 have hx0 := @Tryd.results82
 have hx := hx0
 refine ⟨by rfl, ?_⟩
 intro F W0 hnp hmk
 refine vc_seq_k fun N1 h1 => ?_
 refine u_reg ?_
 try refine lg_mk ?_
 refine u_mv ?_
 refine lg_nil ?_
 refine h1 _ ?_; clear h1; try clear N1
 refine vc_seq_k fun N2 h2 => ?_
 refine vc_seq_k fun N3 h3 => ?_
 refine u_reg ?_
 try refine lg_mk ?_
 refine u_mv ?_
 refine lg_nil ?_
 refine h3 _ ?_; clear h3; try clear N3
 refine vc_block ?_
 refine vc_seq_k fun N4 h4 => ?_
 refine u_reg ?_
 try refine lg_mk ?_
 refine u_bn ?_
 refine u_mv ?_
 refine lg_nil ?_
 refine h4 _ ?_; clear h4; try clear N4
 refine u_cond (fun hb5 => ?_) (fun hb5 => ?_)
 refine vc_seq_k fun N6 h6 => ?_
 refine u_reg ?_
 try refine lg_mk ?_
 refine u_mv ?_
 refine lg_nil ?_
 refine h6 _ ?_; clear h6; try clear N6
 refine vc_ret ?_
 try simp only [k_rules]
 have hr : lvN k = 0 := by unfold lvN; exact if_pos (by have := hb5; (try simp at this); omega)
 rw [hr]
 refine fin2_ ?_
 exact cl_
 refine vc_seq_k fun N7 h7 => ?_
 refine vc_seq_k fun N8 h8 => ?_
 refine u_reg ?_
 try refine lg_mk ?_
 refine u_bn ?_
 refine u_mv ?_
 refine lg_nil ?_
 refine h8 _ ?_; clear h8; try clear N8
 refine u_cond (fun hb9 => ?_) (fun hb9 => ?_)
 refine vc_skip ?_
 try simp only [k_rules]
 refine h7 _ ?_; clear h7; try clear N7
 refine u_cond (fun hb10 => ?_) (fun hb10 => ?_)
 refine vc_seq_k fun N11 h11 => ?_
 refine u_reg ?_
 try refine lg_mk ?_
 refine u_mv ?_
 refine lg_nil ?_
 refine h11 _ ?_; clear h11; try clear N11
 refine vc_ret ?_
 try simp only [k_rules]
 have hr : lvN k = 1 := by unfold lvN; rw [if_neg (by have := hb5; (try simp at this); omega)]; exact if_pos (by have := hb10; (try simp at this); omega)
 rw [hr]
 refine fin2_ ?_
 exact cl_
 ·exfalso; first | omega | contradiction | (simp_all; done) | (simp_all; omega)
 refine u_reg ?_
 try refine lg_mk ?_
 refine u_bn ?_
 refine u_mv ?_
 refine lg_nil ?_
 refine h7 _ ?_; clear h7; try clear N7
 refine u_cond (fun hb12 => ?_) (fun hb12 => ?_)
 refine vc_seq_k fun N13 h13 => ?_
 refine u_reg ?_
 try refine lg_mk ?_
 refine u_mv ?_
 refine lg_nil ?_
 refine h13 _ ?_; clear h13; try clear N13
 refine vc_ret ?_
 try simp only [k_rules]
 have hr : lvN k = 1 := by unfold lvN; rw [if_neg (by have := hb5; (try simp at this); omega)]; exact if_pos (by have := hb12; (try simp at this); omega)
 rw [hr]
 refine fin2_ ?_
 exact cl_
 refine vc_skip ?_
 try simp only [k_rules]
 refine h2 _ ?_; clear h2; try clear N2
 refine vc_seq_k fun N14 h14 => ?_
 refine u_reg ?_
 try refine lg_mk ?_
 refine u_mv ?_
 refine lg_nil ?_
 refine h14 _ ?_; clear h14; try clear N14
 refine vc_ret ?_
 try simp only [k_rules]
 have hr : lvN k = 2 := by unfold lvN; rw [if_neg (by have := hb5; (try simp at this); omega)]; exact if_neg (by have := hb12; (try simp at this); omega)
 rw [hr]
 refine fin2_ ?_
 exact cl_
 cases hg

def E_lev : Env Tryd.prog := E_pars.add 82 (Spec.pure levG) lev_meets (by kernel_rfl)

def E_sh (n : Nat) (ks : Meets Tryd.prog 64 (Spec.pure (shwG n))) : Env Tryd.prog := E_lev.add 64 (Spec.pure (shwG n)) ks (by kernel_rfl)

theorem shw_step (fu : Nat) (ks : Meets Tryd.prog 64 (Spec.pure (shwG fu))) : Meets Tryd.prog 64 (Spec.pure (shwG (fu + 1))) := by
 refine meets_fun ((E_sh fu ks).at_ 105) Tryd.func64 rfl rfl rfl ?_
 intro args p r hg hp
 unfold shwG at hg
 split at hg
 rename_i xs i l
 simp only [Option.some.injEq, Prod.mk.injEq] at hg
 obtain ⟨rfl, rfl⟩ := hg
 obtain ⟨he, hok, hi0, hl0, hsm⟩ := hp
 generalize dN xs = q at *
 subst he
 obtain ⟨i, rfl⟩ := Int.eq_ofNat_of_zero_le hi0
 obtain ⟨l, rfl⟩ := Int.eq_ofNat_of_zero_le hl0
 simp only [Int.toNat_natCast] at hsm ⊢
 obtain ⟨r, hr⟩ := Option.isSome_iff_exists.1 hsm
 rw [hr, Option.getD_some]
 obtain ⟨n, S, hn, hS, hSl, hrS⟩ := shQ_step hr
 have hil : i < q.length := (List.getElem?_eq_some_iff.1 hn).1
 have hq40 := hok.1
 have hon := hok.2 n (mem_at hn)
 have hwl := word_len n.kd
 have hgl := sign_len n.kd
 have hw17 := wordsD_at (k := n.kd) (by omega) (by omega)
 have hs17 := signsD_at (k := n.kd) (by omega) (by omega)
 have hit := itoa_len (n := n.nm) (by omega) (by omega)
 obtain ⟨a, b, c, d⟩ := n
 dsimp only at hon hwl hgl hw17 hs17 hit hrS
 obtain ⟨o1, o2, o3, o4, o5, o6⟩ := hon
 have hinm : inI64 b := ⟨by omega, by omega⟩
 have hlv := lvN_le a
 have hl1 : ((lvN a : Int) + 1).toNat = lvN a + 1 := by omega
 have hT : ((E_sh fu ks)).X = T := rfl
 have hx0 := And.intro @dec_t (And.intro @dec_f (And.intro @rect_eN (And.intro @dN_rows (And.intro @Int.toNat_natCast (And.intro @getD_bs @Tryd.results64)))))
 have hx := hx0
 refine ⟨by rfl, ?_⟩
 intro F W0 hnp hmk
 refine vc_seq_k fun N1 h1 => ?_
 refine u_reg ?_
 try refine lg_mk ?_
 refine u_bx ?_
 refine u_mv ?_
 refine lg_nil ?_
 refine h1 _ ?_; clear h1; try clear N1
 refine vc_seq_k fun N2 h2 => ?_
 have hx := And.intro @hn (And.intro @eN.eq_1 hx0)
 refine u_reg ?_
 try refine lg_mk ?_
 refine u_pt ?_
 refine u_ld ?_
 refine u_mv ?_
 refine u_pt ?_
 refine u_ld ?_
 refine u_al ?_
 refine u_st ?_
 refine lg_nil ?_
 have hx := hx0
 refine h2 _ ?_; clear h2; try clear N2
 refine vc_seq_k fun N3 h3 => ?_
 refine u_reg ?_
 try refine lg_mk ?_
 refine u_mv ?_
 refine lg_nil ?_
 refine h3 _ ?_; clear h3; try clear N3
 refine vc_seq_m (σ := Unit) (fun s => (fun u => True) s)
  (fun s => (fun u => [(2, .d (.int .i64 (l : Nat))), (7, .ptr 1 0 0), (8, .d (.str S))]) s)
  (fun s => (fun u => [some (.one 24 [.d (.sl (rows eN q))]), some (.one 39 [.d (.int .i64 a), .d (.int .i64 b), .d (.int .i64 c), .d (.int .i64 d)])]) s) hnp ?_ ?_
 rintro u hinv
 dsimp only at hinv ⊢
 refine vc_seq_k fun N5 h5 => ?_
 refine vc_seq_k fun N6 h6 => ?_
 refine u_reg ?_
 try refine lg_mk ?_
 refine u_pt ?_
 refine u_ld ?_
 have hc := call_rule (E := ((E_sh fu ks).at_ 105)) (f := 82) (sp := Spec.pure levG) rfl
 have hs := @levG.eq_1
 refine u_cp ?_
 refine u_mv ?_
 refine u_bn ?_
 refine lg_nil ?_
 refine h6 _ ?_; clear h6; try clear N6
 refine u_cond (fun hb7 => ?_) (fun hb7 => ?_)
 refine vc_seq_k fun N8 h8 => ?_
 refine u_reg ?_
 try refine lg_mk ?_
 refine u_mv (hq := by (first | ((simp only [List.length_append, List.length_cons, List.length_nil]; omega)) | exact sd_)) ?_
 refine u_bn (hq := by (first | ((simp only [List.length_append, List.length_cons, List.length_nil]; omega)) | exact sd_)) ?_
 refine u_bn (hq := by (first | ((simp only [List.length_append, List.length_cons, List.length_nil]; omega)) | exact sd_)) ?_
 refine u_mv (hq := by (first | ((simp only [List.length_append, List.length_cons, List.length_nil]; omega)) | exact sd_)) ?_
 refine lg_nil ?_
 refine h8 _ ?_; clear h8; try clear N8
 refine vc_ret ?_
 try simp only [k_rules]
 rw [hrS, if_pos (by have := hb7; (try simp at this); omega)]
 refine fin2_ ?_
 exact cl_
 refine vc_skip ?_
 try simp only [k_rules]
 refine h5 _ ?_; clear h5; try clear N5
 refine vc_seq_k fun N9 h9 => ?_
 refine u_reg ?_
 try refine lg_mk ?_
 iterate 2 refine u_mv ?_
 refine lg_nil ?_
 refine h9 _ ?_; clear h9; try clear N9
 refine vc_ret ?_
 try simp only [k_rules]
 rw [hrS, if_neg (by have := hb7; (try simp at this); omega)]
 refine fin2_ ?_
 exact cl_
 intro N4 h4
 refine vc_block ?_
 refine vc_seq_k fun N10 h10 => ?_
 refine u_reg ?_
 try refine lg_mk ?_
 refine u_pt ?_
 refine u_ld ?_
 refine u_bn ?_
 refine u_mv ?_
 refine lg_nil ?_
 refine h10 _ ?_; clear h10; try clear N10
 refine u_cond (fun hb11 => ?_) (fun hb11 => ?_)
 have hk := hb11
 have hS2 := hS
 unfold shB at hS2
 dsimp only at hS2
 rw [if_pos (by (try simp at hk); omega)] at hS2
 obtain rfl := Option.some.inj hS2
 refine u_reg ?_
 try refine lg_mk ?_
 refine u_pt ?_
 refine u_ld ?_
 have hc := call_rule (E := ((E_sh fu ks).at_ 105)) (f := 81) (sp := Spec.pure itoaG) rfl
 have hs := @itoaG.eq_1
 refine u_cp (hq := by (first | (exact hinm) | exact sd_)) ?_
 refine u_bn (hq := by (first | ((simp only [List.length_cons, List.length_nil]; omega)) | exact sd_)) ?_
 refine u_mv ?_
 refine lg_nil ?_
 refine h4 _ ⟨(), trivial, [some 0, some 1], ?_⟩
 dsimp only
 refine ⟨by rfl, ?_, ?_⟩
 refine fin_ ?_
 exact cl_
 refine fin_ ?_
 exact cl_
 have h35 := hb11
 refine vc_seq_k fun N12 h12 => ?_
 refine u_reg ?_
 try refine lg_mk ?_
 refine u_pt ?_
 refine u_ld ?_
 refine u_bn ?_
 refine u_mv ?_
 refine g_pt ?_
 refine g_ld ?_
 refine g_bn ?_
 refine u_pk ?_
 refine u_mv ?_
 refine lg_nil ?_
 refine h12 _ ?_; clear h12; try clear N12
 refine u_cond (fun hb13 => ?_) (fun hb13 => ?_)
 have hk := hb13
 have hS2 := hS
 unfold shB at hS2
 dsimp only at hS2
 rw [if_neg (by (try simp at h35); omega)] at hS2
 rw [if_pos (by (try simp at hk); omega)] at hS2
 obtain rfl := Option.some.inj hS2
 have hx := And.intro @gl_words (And.intro @hw17 (And.intro @wd_len (And.intro @Nat.mul_one hx0)))
 refine vc_regG [81] hmix (by kernel_rfl) ?_
 try refine lg_mk ?_
 refine u_pt ?_
 refine u_ld ?_
 refine u_pt (hn := by exact ⟨True.intro, True.intro, True.intro⟩) ?_
 refine u_ld ?_
 refine u_bn (hq := by (first | ((simp only [List.length_append, List.length_cons, List.length_nil]; omega)) | exact sd_)) ?_
 refine u_pt ?_
 refine u_ld ?_
 have hc := call_rule (E := ((E_sh fu ks).at_ 105)) (f := 81) (sp := Spec.pure itoaG) rfl
 have hs := @itoaG.eq_1
 refine u_cp (hq := by (first | (exact hinm) | exact sd_)) ?_
 refine u_bn (hq := by (first | ((simp only [List.length_append, List.length_cons, List.length_nil]; omega)) | exact sd_)) ?_
 refine u_bn (hq := by (first | ((simp only [List.length_append, List.length_cons, List.length_nil]; omega)) | exact sd_)) ?_
 refine u_mv ?_
 refine lg_nil ?_
 have hx := hx0
 refine h4 _ ⟨(), trivial, [some 0, some 1], ?_⟩
 dsimp only
 refine ⟨by rfl, ?_, ?_⟩
 refine fin_ ?_
 exact cl_
 refine fin_ ?_
 exact cl_
 have h43 := hb13
 refine vc_seq_k fun N14 h14 => ?_
 refine u_reg ?_
 try refine lg_mk ?_
 refine u_pt ?_
 refine u_ld ?_
 refine u_bn ?_
 refine u_mv ?_
 refine lg_nil ?_
 refine h14 _ ?_; clear h14; try clear N14
 refine u_cond (fun hb15 => ?_) (fun hb15 => ?_)
 have hk := hb15
 have hS2 := hS
 unfold shB at hS2
 dsimp only at hS2
 rw [if_neg (by (try simp at h35); omega)] at hS2
 rw [if_neg (by (try simp at h43); omega)] at hS2
 rw [if_pos (by (try simp at hk); omega)] at hS2
 obtain ⟨A, hA, hA2⟩ := Option.map_eq_some_iff.1 hS2
 subst hA2
 have hAl := shQ_len hA
 have hx := And.intro @hA hx0
 refine u_reg ?_
 try refine lg_mk ?_
 refine u_ld ?_
 refine u_pt ?_
 refine u_ld ?_
 have hc := call_rule (E := ((E_sh fu ks).at_ 105)) (f := 64) (sp := Spec.pure (shwG fu)) rfl
 have hs := @shwG.eq_1
 refine u_cp (hq := by (first | ((repeat' apply And.intro) <;> first | rfl | omega | exact hok.2 | (rw [hA]; rfl) | (rw [hB]; rfl) | (simp [hA]; done)) | exact sd_)) ?_
 refine u_bn (hq := by (first | ((simp only [List.length_append, List.length_cons, List.length_nil]; omega)) | exact sd_)) ?_
 refine u_mv ?_
 refine lg_nil ?_
 have hx := hx0
 refine h4 _ ⟨(), trivial, [some 0, some 1], ?_⟩
 dsimp only
 refine ⟨by rfl, ?_, ?_⟩
 refine fin_ ?_
 exact cl_
 refine fin_ ?_
 exact cl_
 have h62 := hb15
 refine vc_seq_k fun N16 h16 => ?_
 refine u_reg ?_
 try refine lg_mk ?_
 refine u_pt ?_
 refine u_ld ?_
 have hc := call_rule (E := ((E_sh fu ks).at_ 105)) (f := 47) (sp := Spec.pure arG) rfl
 have hs := @arG.eq_1
 refine u_cp ?_
 refine u_bn ?_
 refine u_mv ?_
 refine lg_nil ?_
 refine h16 _ ?_; clear h16; try clear N16
 refine u_cond (fun hb17 => ?_) (fun hb17 => ?_)
 have hk := hb17
 have hS2 := hS
 unfold shB at hS2
 dsimp only at hS2
 rw [if_neg (by (try simp at h35); omega)] at hS2
 rw [if_neg (by (try simp at h43); omega)] at hS2
 rw [if_neg (by (try simp at h62); omega)] at hS2
 rw [if_pos (by (try simp at hk); omega)] at hS2
 obtain ⟨A, hA, hA2⟩ := Option.map_eq_some_iff.1 hS2
 subst hA2
 have hAl := shQ_len hA
 have hx := And.intro @gl_words (And.intro @hw17 (And.intro @wd_len (And.intro @Nat.mul_one (And.intro @hA hx0))))
 refine vc_regG [64] hmix (by kernel_rfl) ?_
 try refine lg_mk ?_
 refine u_pt ?_
 refine u_ld ?_
 refine u_pt (hn := by exact ⟨True.intro, True.intro, True.intro⟩) ?_
 refine u_ld ?_
 refine u_bn (hq := by (first | ((simp only [List.length_append, List.length_cons, List.length_nil]; omega)) | exact sd_)) ?_
 refine u_ld ?_
 refine u_pt ?_
 refine u_ld ?_
 have hc := call_rule (E := ((E_sh fu ks).at_ 105)) (f := 64) (sp := Spec.pure (shwG fu)) rfl
 have hs := @shwG.eq_1
 refine u_cp (hq := by (first | ((repeat' apply And.intro) <;> first | rfl | omega | exact hok.2 | (rw [hA]; rfl) | (rw [hB]; rfl) | (simp [hA]; done)) | exact sd_)) ?_
 refine u_bn (hq := by (first | ((simp only [List.length_append, List.length_cons, List.length_nil]; omega)) | exact sd_)) ?_
 refine u_bn (hq := by (first | ((simp only [List.length_append, List.length_cons, List.length_nil]; omega)) | exact sd_)) ?_
 refine u_mv ?_
 refine lg_nil ?_
 have hx := hx0
 refine h4 _ ⟨(), trivial, [some 0, some 1], ?_⟩
 dsimp only
 refine ⟨by rfl, ?_, ?_⟩
 refine fin_ ?_
 exact cl_
 refine fin_ ?_
 exact cl_
 have h71 := hb17
 refine vc_seq_k fun N18 h18 => ?_
 refine u_reg ?_
 try refine lg_mk ?_
 refine u_pt ?_
 refine u_ld ?_
 have hc := call_rule (E := ((E_sh fu ks).at_ 105)) (f := 47) (sp := Spec.pure arG) rfl
 have hs := @arG.eq_1
 refine u_cp ?_
 refine u_bn ?_
 refine u_mv ?_
 refine lg_nil ?_
 refine h18 _ ?_; clear h18; try clear N18
 refine u_cond (fun hb19 => ?_) (fun hb19 => ?_)
 have hk := hb19
 have hS2 := hS
 unfold shB at hS2
 dsimp only at hS2
 rw [if_neg (by (try simp at h35); omega)] at hS2
 rw [if_neg (by (try simp at h43); omega)] at hS2
 rw [if_neg (by (try simp at h62); omega)] at hS2
 rw [if_neg (by (try simp at h71); omega)] at hS2
 rw [if_pos (by (try simp at hk); omega)] at hS2
 obtain rfl := Option.some.inj hS2
 have hx := And.intro @gl_words (And.intro @hw17 (And.intro @wd_len (And.intro @Nat.mul_one hx0)))
 refine u_reg ?_
 try refine lg_mk ?_
 refine u_pt ?_
 refine u_ld ?_
 refine u_pt (hn := by exact ⟨True.intro, True.intro, True.intro⟩) ?_
 refine u_ld ?_
 refine u_mv ?_
 refine lg_nil ?_
 have hx := hx0
 refine h4 _ ⟨(), trivial, [some 0, some 1], ?_⟩
 dsimp only
 refine ⟨by rfl, ?_, ?_⟩
 refine fin_ ?_
 exact cl_
 refine fin_ ?_
 exact cl_
 have h87 := hb19
 have hk := hb19
 have hS2 := hS
 unfold shB at hS2
 dsimp only at hS2
 rw [if_neg (by (try simp at h35); omega)] at hS2
 rw [if_neg (by (try simp at h43); omega)] at hS2
 rw [if_neg (by (try simp at h62); omega)] at hS2
 rw [if_neg (by (try simp at h71); omega)] at hS2
 rw [if_neg (by (try simp at h87); omega)] at hS2
 obtain ⟨A, hA, hS3⟩ := Option.bind_eq_some_iff.1 hS2
 obtain ⟨B, hB, hB2⟩ := Option.map_eq_some_iff.1 hS3
 subst hB2
 have hAl := shQ_len hA
 have hBl := shQ_len hB
 refine vc_seq_k fun N20 h20 => ?_
 refine u_reg ?_
 try refine lg_mk ?_
 refine u_pt ?_
 refine u_ld ?_
 have hc := call_rule (E := ((E_sh fu ks).at_ 105)) (f := 82) (sp := Spec.pure levG) rfl
 have hs := @levG.eq_1
 refine u_cp ?_
 refine u_mv ?_
 refine lg_nil ?_
 refine h20 _ ?_; clear h20; try clear N20
 have hx := And.intro @gl_signs (And.intro @hs17 (And.intro @sg_len (And.intro @Nat.mul_one (And.intro @hl1 (And.intro @hA (And.intro @hB hx0))))))
 refine vc_regO [64] [0, 1, 2, 3, 5, 6, 7, 8, 10, 11, 12, 13, 14, 4, 9, 15, 16, 17] hmix (by kernel_rfl) ?_
 simp only [pick_rules, list_rules]
 try refine lg_mk ?_
 refine u_ld ?_
 refine u_pt ?_
 refine u_ld ?_
 refine u_mv ?_
 refine u_pt ?_
 refine u_ld ?_
 refine u_pt (hn := by exact ⟨True.intro, True.intro, True.intro⟩) ?_
 iterate 2 refine u_ld ?_
 refine u_pt ?_
 refine u_ld ?_
 refine u_mv ?_
 refine u_bn (hq := by exact so_) ?_
 have hc := call_rule (E := ((E_sh fu ks).at_ 105)) (f := 64) (sp := Spec.pure (shwG fu)) rfl
 have hs := @shwG.eq_1
 refine u_cp (hq := by (first | ((repeat' apply And.intro) <;> first | rfl | omega | exact hok.2 | (rw [hA]; rfl) | (rw [hB]; rfl) | (simp [hA]; done)) | exact sd_)) ?_
 refine u_bn (hq := by (first | ((simp only [List.length_append, List.length_cons, List.length_nil]; omega)) | exact sd_)) ?_
 have hc := call_rule (E := ((E_sh fu ks).at_ 105)) (f := 64) (sp := Spec.pure (shwG fu)) rfl
 have hs := @shwG.eq_1
 refine u_cp (hq := by (first | ((repeat' apply And.intro) <;> first | rfl | omega | exact hok.2 | (rw [hA]; rfl) | (rw [hB]; rfl) | (simp [hA]; done)) | exact sd_)) ?_
 refine u_bn (hq := by (first | ((simp only [List.length_append, List.length_cons, List.length_nil]; omega)) | exact sd_)) ?_
 refine u_mv ?_
 refine lg_nil ?_
 have hx := hx0
 refine h4 _ ⟨(), trivial, [some 0, some 1], ?_⟩
 dsimp only
 refine ⟨by rfl, ?_, ?_⟩
 refine fin_ ?_
 exact cl_
 refine fin_ ?_
 exact cl_
 cases hg
end Go.Proofs.YtlbjffdaooadoaaDoor
