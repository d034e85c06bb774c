/- Walks, printed by wip/gen/walk.py. -/
import Derived.Test.YtlbjffdaooadoaaDoorT22
import Derived.Test.YtlbjffdaooadoaaDoorV5
set_option linter.all false
set_option maxRecDepth 100000
set_option maxHeartbeats 4000000
namespace Go.Proofs.YtlbjffdaooadoaaDoor
open Go Go.Vc Go.RowKit
def kindG : List AV → Option (Prop × AV)
  | [.d (.str s)] => some (s.length ≤ 1000000, .d (.int .i64 (kindN s : Nat)))
  | _ => none
def wordsA : List AV := [.d (.str []), .d (.str [97, 108, 108]), .d (.str [110, 111, 110, 101]), .d (.str []), .d (.str [97, 117, 116, 104, 111, 114]), .d (.str [98, 101, 102, 111, 114, 101]), .d (.str [109, 101, 114, 103, 101, 115]), .d (.str []), .d (.str [97, 110, 99]), .d (.str [100, 101, 115, 99]), .d (.str [112, 97, 114, 101, 110, 116, 115]), .d (.str [99, 104, 105, 108, 100, 114, 101, 110]), .d (.str [104, 101, 97, 100, 115]), .d (.str [114, 111, 111, 116, 115]), .d (.str []), .d (.str []), .d (.str [])]
def wordsD : List D := [.str [], .str [97, 108, 108], .str [110, 111, 110, 101], .str [], .str [97, 117, 116, 104, 111, 114], .str [98, 101, 102, 111, 114, 101], .str [109, 101, 114, 103, 101, 115], .str [], .str [97, 110, 99], .str [100, 101, 115, 99], .str [112, 97, 114, 101, 110, 116, 115], .str [99, 104, 105, 108, 100, 114, 101, 110], .str [104, 101, 97, 100, 115], .str [114, 111, 111, 116, 115], .str [], .str [], .str []]
theorem gl_words [Far] (fr : Nat → AV) : evO fr (.global 0) = .d (.ptr wordsD) := rfl
theorem wd_take : List.map AV.d (List.take 17 wordsD) = wordsA := rfl
theorem wd_len : wordsD.length = 17 := rfl
theorem wordsA_at {i : Nat} (h : i < 17) : wordsA[i]? = some (.d (.str (wordsL.getD i []))) := by
  have : ∀ i, i < 17 → wordsA[i]? = some (.d (.str (wordsL.getD i []))) := by
    intro i h
    iterate 17 (cases i with | zero => rfl | succ i => ?_)
    omega
  exact this i h
theorem find_range {p : Nat → Bool} : ∀ {n i : Nat}, i < n → p i = true → (∀ j, j < i → p j = false) → (List.range n).find? p = some i := by
  intro n i hi hp hn
  rw [List.find?_range_eq_some]
  exact ⟨hp, List.mem_range.2 hi, fun j hj => by simp [hn j hj]⟩
theorem kind_at {s : Bs} {i : Nat} (hi : i < 17) (h : wordsL.getD i [] = s) (h0 : s ≠ []) (hn : ∀ j, j < i → wordsL.getD j [] ≠ s) : kindN s = i := by
  unfold kindN
  rw [if_neg h0, find_range hi (decide_eq_true h) fun j hj => decide_eq_false (hn j hj)]; rfl
theorem kind_no {s : Bs} (h : s = [] ∨ ∀ j, j < 17 → wordsL.getD j [] ≠ s) : kindN s = 0 := by
  unfold kindN
  by_cases h0 : s = []
  · rw [if_pos h0]
  · rw [if_neg h0, List.find?_eq_none.2 fun j hj => by
      have := (h.resolve_left h0) j (List.mem_range.1 hj)
      simp only [decide_eq_true_eq]; exact this]; rfl

theorem kindr_meets : Meets Tryd.prog 88 (Spec.pure kindG) := by
 refine meets_fun (E_addr.at_ 19) Tryd.func88 rfl rfl rfl ?_
 intro args p r hg hp
 unfold kindG at hg
 split at hg
 rename_i z
 simp only [Option.some.injEq, Prod.mk.injEq] at hg
 obtain ⟨rfl, rfl⟩ := hg
 have hzl := hp
 have hT : (E_addr).X = T := rfl
 have hx0 := And.intro @dec_t (And.intro @dec_f (And.intro @gl_words (And.intro @wd_take (And.intro @wd_len @Tryd.results88))))
 have hx := hx0
 refine ⟨by rfl, ?_⟩
 intro F W0 hnp hmk
 refine vc_seq_k fun N1 h1 => ?_
 refine u_reg ?_
 try refine lg_mk ?_
 refine u_mv (hq := by exact so_) ?_
 refine lg_nil ?_
 refine h1 _ ?_; clear h1; try clear N1
 refine vc_seq_k fun N2 h2 => ?_
 refine vc_seq_k fun N3 h3 => ?_
 refine u_reg ?_
 try refine lg_mk ?_
 refine u_ld (hq := by exact so_) (hn := by exact ⟨True.intro, True.intro⟩) ?_
 refine u_mv (hq := by exact so_) ?_
 refine lg_nil ?_
 refine h3 _ ?_; clear h3; try clear N3
 refine vc_block ?_
 refine vc_loop_mk (σ := Nat) (fun s => (fun i => i ≤ 17 ∧ (z = [] ∨ ∀ j, j < i → wordsL.getD j [] ≠ z)) s)
  (fun s => (fun i => [(0, .d (.str z)), (5, .agg wordsA), (6, .d (.int .i64 (i : Nat)))]) s)
  (fun s => (fun i => []) s) (fun s => (fun i => 17 - i) s) hnp 0 ?_ [] ?_ ?_
 dsimp only
 exact ⟨by omega, .inr fun j hj => by omega⟩
 dsimp only
 refine ⟨by rfl, ?_, ?_⟩
 refine fin_ ?_
 exact cl_
 refine fin_ ?_
 exact cl_
 rintro i hinv N4 h4
 dsimp only at hinv ⊢
 obtain ⟨i1, i2⟩ := hinv
 refine vc_seq_k fun N5 h5 => ?_
 refine u_reg ?_
 try refine lg_mk ?_
 refine u_bn (hq := by exact so_) ?_
 refine lg_nil ?_
 refine h5 _ ?_; clear h5; try clear N5
 refine vc_seq_k fun N6 h6 => ?_
 refine u_cond (fun hb7 => ?_) (fun hb7 => ?_)
 have hi17 : i < 17 := by have := hb7; (try simp at this); omega
 have hwa := wordsA_at hi17
 refine vc_skip ?_
 try simp only [k_rules]
 refine h6 _ ?_; clear h6; try clear N6
 refine vc_seq_k fun N8 h8 => ?_
 refine vc_block ?_
 refine vc_seq_k fun N9 h9 => ?_
 have hx := And.intro @hwa (And.intro @Nat.mul_one hx0)
 refine u_reg ?_
 try refine lg_mk ?_
 refine u_mv (hq := by exact so_) ?_
 refine u_pt (hq := by exact so_) ?_
 iterate 2 refine u_mv (hq := by exact so_) ?_
 refine lg_nil ?_
 have hx := hx0
 refine h9 _ ?_; clear h9; try clear N9
 refine vc_seq_k fun N10 h10 => ?_
 refine u_reg ?_
 try refine lg_mk ?_
 iterate 2 refine u_mv (hq := by exact so_) ?_
 refine u_bn (hq := by exact so_) ?_
 refine u_mv (hq := by exact so_) ?_
 refine s_mv (hq := by exact si_) ?_
 refine s_bn (hq := by exact si_) ?_
 refine u_pk (hq := by exact so_) ?_
 refine lg_nil ?_
 refine h10 _ ?_; clear h10; try clear N10
 refine u_cond (fun hb11 => ?_) (fun hb11 => ?_)
 refine vc_seq_k fun N12 h12 => ?_
 refine u_reg ?_
 try refine lg_mk ?_
 iterate 2 refine u_mv (hq := by exact so_) ?_
 refine lg_nil ?_
 refine h12 _ ?_; clear h12; try clear N12
 refine vc_ret ?_
 try simp only [k_rules]
 have h16 := hb11
 have hze : wordsL.getD i [] = z ∧ z ≠ [] := by simpa using h16
 have hk : kindN z = i := kind_at hi17 hze.1 hze.2 (i2.resolve_left hze.2)
 rw [hk]
 refine fin2_ ?_
 exact cl_
 refine vc_skip ?_
 try simp only [k_rules]
 refine h8 _ ?_; clear h8; try clear N8
 refine u_reg ?_
 try refine lg_mk ?_
 refine u_bn (hq := by exact so_) ?_
 refine u_mv (hq := by exact so_) ?_
 refine lg_nil ?_
 refine h4 _ ⟨i + 1, ?_, ?_, [], ?_⟩
 dsimp only
 refine ⟨by omega, ?_⟩
 have h16 := hb11
 rcases i2 with h | h
 exact .inl h
 by_cases hz : z = []
 exact .inl hz
 refine .inr fun j hj => ?_
 rcases Nat.lt_or_ge j i with hji | hji
 exact h j hji
 obtain rfl : j = i := by omega
 intro he; rw [List.getD_eq_getElem?_getD] at he; simp [he, hz] at h16
 dsimp only
 omega
 dsimp only
 refine ⟨by rfl, ?_, ?_⟩
 refine fin_ ?_
 exact cl_
 refine fin_ ?_
 exact cl_
 refine vc_exit ?_
 simp only [k_rules, Nat.reduceEqDiff, reduceIte, eq_self]
 refine h2 _ ?_; clear h2; try clear N2
 refine vc_seq_k fun N13 h13 => ?_
 refine u_reg ?_
 try refine lg_mk ?_
 refine u_mv (hq := by exact so_) ?_
 refine lg_nil ?_
 refine h13 _ ?_; clear h13; try clear N13
 refine vc_ret ?_
 try simp only [k_rules]
 have hk : kindN z = 0 := kind_no (i2.imp id fun h j hj => h j (by have := hb7; (try simp at this); omega))
 rw [hk]
 refine fin2_ ?_
 exact cl_
 cases hg

def E_kindr : Env Tryd.prog := E_addr.add 88 (Spec.pure kindG) kindr_meets (by kernel_rfl)

def numG : GFun
  | [.ptr 0 0 0, .d (.int .i64 k)], [some (.one ty [.d (.str t), .d (.int .i64 p), .d (.int .i64 e), .sl 1 0 n, .d (.int .i64 c)]), some (.vec vt s xs)] => some (ty = 85 ∧ wfR t p e, .tup [.d (.int .i64 (numX t (psO p e c) k)), .d (.bool (numB t (psO p e c) k))], [psB t (numS t (psO p e c) k) (.sl 1 0 n), some (.vec vt s xs)])
  | _, _ => none
theorem sc_ifc (b : Bool) : sc2 (.d (.ifc b)) = true := rfl
theorem atoi_cases (w : Bs) : (atoiB w = false ∧ numV w = none) ∨ ∃ v b, atoiB w = true ∧ atoiV w = v ∧ inI64 v ∧ w[0]? = some b ∧ 0 < w.length ∧ numV w = if w.length ≤ 7 ∧ 48 ≤ b.toNat ∧ b.toNat ≤ 57 ∧ Lib.itoa v = w then some v else none := by
  unfold atoiB atoiV numV
  cases hA : Lib.atoiAll w with
  | ok v =>
    right
    obtain ⟨h1, h2⟩ := Lib.atoiAll_bounds hA
    match w, hA with
    | b :: r, hA => exact ⟨v, b, rfl, rfl, ⟨h1, h2⟩, rfl, Nat.succ_pos _, rfl⟩
  | _ => exact .inl ⟨rfl, rfl⟩

theorem num_meets : Meets Tryd.prog 89 (Spec.gen numG) := by
 refine meets_handed (E_kindr.at_ 50) Tryd.func89 rfl rfl rfl ?_
 intro args bl p r bf hg hp
 unfold numG at hg
 split at hg
 rename_i k ty t p e n c vt s xs
 simp only [Option.some.injEq, Prod.mk.injEq] at hg
 obtain ⟨rfl, rfl, rfl⟩ := hg
 obtain ⟨rfl, hw⟩ := hp
 obtain ⟨hp0, hpe, hel, htl⟩ := hw
 obtain ⟨m, rfl⟩ := Int.eq_ofNat_of_zero_le hp0
 obtain ⟨m2, rfl⟩ := Int.eq_ofNat_of_zero_le (by omega : 0 ≤ e)
 have hmt : ((m : Nat) : Int).toNat = m := rfl
 have hmt2 : ((m2 : Nat) : Int).toNat = m2 := rfl
 have htk := tok_len t m m2
 have hts : tokS t (psO m m2 c) = tokN t m m2 := rfl
 have hT : (E_kindr).X = T := rfl
 have hx0 := And.intro @dec_t (And.intro @dec_f (And.intro @Int.toNat_natCast (And.intro @rdB.eq_1 (And.intro @psB.eq_1 (And.intro @sc_ifc @Tryd.results89)))))
 have hx := hx0
 refine ⟨Nat.le_of_ble_eq_true rfl, ?_⟩
 intro F W0 M0 hnp hmk
 have hnp : Far.np = 2 := hnp
 refine vc_seq_k fun N1 h1 => ?_
 refine u_reg ?_
 try refine lg_mk ?_
 iterate 2 refine u_mv ?_
 refine lg_nil ?_
 refine h1 _ ?_; clear h1; try clear N1
 refine vc_seq_k fun N2 h2 => ?_
 refine u_reg ?_
 try refine lg_mk ?_
 refine u_mv (hq := by exact so_) ?_
 have hc := call_rule (E := (E_kindr.at_ 50)) (f := 78) (sp := Spec.gen tokG) rfl
 have hs := @tokG.eq_1
 refine u_hg (hq := by exact so_) ?_
 refine u_mv (hq := by exact so_) ?_
 refine lg_nil ?_
 generalize tokN t m m2 = w at *
 refine h2 _ ?_; clear h2; try clear N2
 refine vc_seq_k fun N3 h3 => ?_
 refine u_reg ?_
 try refine lg_mk ?_
 refine u_mv (hq := by exact so_) ?_
 have hc := call_rule (E := (E_kindr.at_ 50)) (f := 92) (sp := Spec.pure atoiG) rfl
 have hs := @atoiG.eq_1
 refine u_cp (hq := by exact so_) ?_
 refine u_mv (hq := by exact so_) ?_
 iterate 2 refine u_ex (hq := by exact so_) ?_
 iterate 2 refine u_mv (hq := by exact so_) ?_
 refine lg_nil ?_
 refine h3 _ ?_; clear h3; try clear N3
 refine vc_seq_k fun N4 h4 => ?_
 refine vc_seq_k fun N5 h5 => ?_
 rcases atoi_cases w with ⟨hB, hn⟩ | ⟨v, b, hB, hV, hI, hw0, hwl, hn⟩
 have hV := hB
 have hw0 := hB
 have hx := And.intro @hB (And.intro @hV (And.intro @hw0 hx0))
 refine u_reg ?_
 try refine lg_mk ?_
 refine u_mv ?_
 refine lg_sem (by rfl) (sem_ifcne (by first | (simp only [wB, eq_self, Nat.reduceEqDiff, reduceIte]; done) | (simp only [wB, eq_self, Nat.reduceEqDiff, reduceIte]; rfl)) (by first | trivial | simp only [wB, eq_self, Nat.reduceEqDiff, reduceIte]) (by kernel_rfl) ?_)
 try simp only [wB, eq_self, Nat.reduceEqDiff, reduceIte, wL, Int.toNat_natCast, Int.reduceToNat, Nat.reduceAdd, Nat.reduceMul, Nat.reduceSub, Nat.reduceLeDiff, hx]
 refine u_mv ?_
 refine g_mv ?_
 refine g_ln ?_
 refine g_bn ?_
 refine u_pk ?_
 refine u_mv ?_
 refine g_mv ?_
 refine g_pt ?_
 refine g_bn ?_
 refine u_pk ?_
 refine u_mv ?_
 refine g_mv ?_
 refine g_pt ?_
 refine g_bn ?_
 refine u_pk ?_
 refine u_mv ?_
 refine g_mv ?_
 have hc := call_rule (E := (E_kindr.at_ 50)) (f := 81) (sp := Spec.pure itoaG) rfl
 have hs := @itoaG.eq_1
 refine g_cp ?_
 refine g_mv ?_
 refine g_bn ?_
 refine u_pk ?_
 refine lg_nil ?_
 have hx := hx0
 refine h5 _ ?_; clear h5; try clear N5
 refine u_cond (fun hb6 => ?_) (fun hb6 => ?_)
 refine vc_seq_k fun N7 h7 => ?_
 refine u_reg ?_
 try refine lg_mk ?_
 refine u_mv ?_
 have hc := call_rule (E := (E_kindr.at_ 50)) (f := 58) (sp := Spec.gen failG) rfl
 have hs := @failG.eq_1
 refine u_hg ?_
 iterate 2 refine u_mv ?_
 refine lg_nil ?_
 refine h7 _ ?_; clear h7; try clear N7
 refine vc_ret ?_
 try simp only [k_rules]
 have hnv : numV w = none := hn
 have e1 : numB t (psO m m2 c) k = false := by unfold numB; rw [hts, hnv]
 have e2 : numX t (psO m m2 c) k = 0 := by unfold numX; rw [hts, hnv]
 have e3 : numS t (psO m m2 c) k = failS (psO m m2 c) 1 := by unfold numS; rw [hts, hnv]
 rw [e1, e2, e3]
 refine fin_ ?_
 refine ⟨[some 0, some 1], by rfl, ?_, ?_⟩
 refine fin_ ?_
 exact cl_
 refine fin_ ?_
 exact cl_
 ·first | omega | exact absurd trivial hb6 | contradiction | (simp_all; done)
 have hI' := hI
 have hx := And.intro @hB (And.intro @hV (And.intro @hw0 hx0))
 refine u_reg ?_
 try refine lg_mk ?_
 refine u_mv ?_
 refine lg_sem (by rfl) (sem_ifcne (by first | (simp only [wB, eq_self, Nat.reduceEqDiff, reduceIte]; done) | (simp only [wB, eq_self, Nat.reduceEqDiff, reduceIte]; rfl)) (by first | trivial | simp only [wB, eq_self, Nat.reduceEqDiff, reduceIte]) (by kernel_rfl) ?_)
 try simp only [wB, eq_self, Nat.reduceEqDiff, reduceIte, wL, Int.toNat_natCast, Int.reduceToNat, Nat.reduceAdd, Nat.reduceMul, Nat.reduceSub, Nat.reduceLeDiff, hx]
 refine u_mv ?_
 refine g_mv ?_
 refine g_ln ?_
 refine g_bn ?_
 refine u_pk ?_
 refine u_mv ?_
 refine g_mv ?_
 refine g_pt ?_
 refine g_bn ?_
 refine u_pk ?_
 refine u_mv ?_
 refine g_mv ?_
 refine g_pt ?_
 refine g_bn ?_
 refine u_pk ?_
 refine u_mv ?_
 refine g_mv ?_
 have hc := call_rule (E := (E_kindr.at_ 50)) (f := 81) (sp := Spec.pure itoaG) rfl
 have hs := @itoaG.eq_1
 refine g_cp ?_
 refine g_mv ?_
 refine g_bn ?_
 refine u_pk ?_
 refine lg_nil ?_
 have hx := hx0
 refine h5 _ ?_; clear h5; try clear N5
 refine u_cond (fun hb8 => ?_) (fun hb8 => ?_)
 refine vc_seq_k fun N9 h9 => ?_
 refine u_reg ?_
 try refine lg_mk ?_
 refine u_mv ?_
 have hc := call_rule (E := (E_kindr.at_ 50)) (f := 58) (sp := Spec.gen failG) rfl
 have hs := @failG.eq_1
 refine u_hg ?_
 iterate 2 refine u_mv ?_
 refine lg_nil ?_
 refine h9 _ ?_; clear h9; try clear N9
 refine vc_ret ?_
 try simp only [k_rules]
 have hnv : numV w = none := by rw [hn]; exact if_neg (fun h => by have h38 := hb8; simp [h.1, h.2.2.2] at h38; omega)
 have e1 : numB t (psO m m2 c) k = false := by unfold numB; rw [hts, hnv]
 have e2 : numX t (psO m m2 c) k = 0 := by unfold numX; rw [hts, hnv]
 have e3 : numS t (psO m m2 c) k = failS (psO m m2 c) 1 := by unfold numS; rw [hts, hnv]
 rw [e1, e2, e3]
 refine fin_ ?_
 refine ⟨[some 0, some 1], by rfl, ?_, ?_⟩
 refine fin_ ?_
 exact cl_
 refine fin_ ?_
 exact cl_
 refine vc_skip ?_
 try simp only [k_rules]
 refine h4 _ ?_; clear h4; try clear N4
 refine vc_seq_k fun N10 h10 => ?_
 refine vc_seq_k fun N11 h11 => ?_
 refine u_reg ?_
 try refine lg_mk ?_
 iterate 2 refine u_mv ?_
 have hc := call_rule (E := (E_kindr.at_ 50)) (f := 75) (sp := Spec.pure mostG) rfl
 have hs := @mostG.eq_1
 refine u_cp ?_
 refine u_bn ?_
 refine lg_nil ?_
 refine h11 _ ?_; clear h11; try clear N11
 refine u_cond (fun hb12 => ?_) (fun hb12 => ?_)
 refine vc_seq_k fun N13 h13 => ?_
 refine u_reg ?_
 try refine lg_mk ?_
 refine u_mv ?_
 have hc := call_rule (E := (E_kindr.at_ 50)) (f := 58) (sp := Spec.gen failG) rfl
 have hs := @failG.eq_1
 refine u_hg ?_
 iterate 2 refine u_mv ?_
 refine lg_nil ?_
 refine h13 _ ?_; clear h13; try clear N13
 refine vc_ret ?_
 try simp only [k_rules]
 have h38 := hb8
 have h44 := hb12
 have hnv : numV w = some v := by rw [hn]; exact if_pos ⟨by omega, by omega, by omega, h38.2⟩
 have e1 : numB t (psO m m2 c) k = false := by unfold numB; rw [hts, hnv]; exact decide_eq_false (by omega)
 have e2 : numX t (psO m m2 c) k = 0 := by unfold numX; rw [hts, hnv]; exact if_neg (by omega)
 have e3 : numS t (psO m m2 c) k = failS (psO m m2 c) 3 := by unfold numS; rw [hts, hnv]; exact if_neg (by omega)
 rw [e1, e2, e3]
 refine fin_ ?_
 refine ⟨[some 0, some 1], by rfl, ?_, ?_⟩
 refine fin_ ?_
 exact cl_
 refine fin_ ?_
 exact cl_
 refine vc_skip ?_
 try simp only [k_rules]
 refine h10 _ ?_; clear h10; try clear N10
 refine vc_seq_k fun N14 h14 => ?_
 refine u_reg ?_
 try refine lg_mk ?_
 refine u_mv (hq := by exact so_) ?_
 have hc := call_rule (E := (E_kindr.at_ 50)) (f := 56) (sp := Spec.gen scanG) rfl
 have hs := @scanG.eq_1
 refine u_hg (hq := by exact so_) ?_
 refine lg_nil ?_
 refine h14 _ ?_; clear h14; try clear N14
 refine vc_seq_k fun N15 h15 => ?_
 refine u_reg ?_
 try refine lg_mk ?_
 iterate 3 refine u_mv ?_
 refine lg_nil ?_
 refine h15 _ ?_; clear h15; try clear N15
 refine vc_ret ?_
 try simp only [k_rules]
 have h38 := hb8
 have h44 := hb12
 have hnv : numV w = some v := by rw [hn]; exact if_pos ⟨by omega, by omega, by omega, h38.2⟩
 have e1 : numB t (psO m m2 c) k = true := by unfold numB; rw [hts, hnv]; exact decide_eq_true (by omega)
 have e2 : numX t (psO m m2 c) k = v := by unfold numX; rw [hts, hnv]; exact if_pos (by omega)
 have e3 : numS t (psO m m2 c) k = scanS t (psO m m2 c) := by unfold numS; rw [hts, hnv]; exact if_pos (by omega)
 rw [e1, e2, e3]
 refine fin_ ?_
 refine ⟨[some 0, some 1], by rfl, ?_, ?_⟩
 refine fin_ ?_
 exact cl_
 refine fin_ ?_
 exact cl_
 cases hg

def E_num : Env Tryd.prog := E_kindr.add 89 (Spec.gen numG) num_meets (by kernel_rfl)
end Go.Proofs.YtlbjffdaooadoaaDoor
