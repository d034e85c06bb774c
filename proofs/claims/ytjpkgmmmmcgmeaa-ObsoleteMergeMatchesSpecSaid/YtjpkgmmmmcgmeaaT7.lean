/- Walks, printed by wip/gen/walk.py. -/
import Derived.Test.YtjpkgmmmmcgmeaaT6
import Derived.Test.YtjpkgmmmmcgmeaaV6
import Derived.Test.YtjpkgmmmmcgmeaaV5
set_option linter.all false
set_option maxRecDepth 100000
set_option maxHeartbeats 4000000
namespace Go.Proofs.Ytjpkgmmmmcgmeaa
open Go Go.Vc Go.RowKit
theorem mk_eta (m : Mk) : Mk.mk m.old m.nw = m := rfl
theorem mkF_big {L : List Mk} (h : 40 < L.length) : mkF L = (2, -1) := by unfold mkF; rw [if_pos h]
theorem mkF_at {L : List Mk} {i : Nat} {v : Int} (h0 : ¬40 < L.length) (hi : i < L.length) (hj : ∀ j, j < i → (mkC L j).1 = 0) (hv : mkC L i = (v, (i : Int))) (hv0 : v ≠ 0) : mkF L = (v, (i : Int)) := by
  unfold mkF
  rw [if_neg h0, scanW_hit hi hj (by rw [hv]; exact hv0), hv, if_pos hv0]
theorem mkF_cyc {L : List Mk} (h0 : ¬40 < L.length) (hj : ∀ j, j < L.length → (mkC L j).1 = 0) (hc : cycK L = true) : mkF L = (20, -1) := by
  unfold mkF
  rw [if_neg h0, scanW_none hj, if_neg (by simp), if_pos hc]
theorem mkF_ok {L : List Mk} (h0 : ¬40 < L.length) (hj : ∀ j, j < L.length → (mkC L j).1 = 0) (hc : cycK L = false) : mkF L = (0, 0) := by
  unfold mkF
  rw [if_neg h0, scanW_none hj, if_neg (by simp), if_neg (by simp [hc])]
theorem chkK_cases (m : Mk) : (chkK m = 3 ∧ chkR m = false) ∨ (chkK m = 5 ∧ chkR m = true ∧ incB m.nw = false) ∨ (chkK m = 0 ∧ chkR m = true ∧ incB m.nw = true) := by
  cases h : chkR m with
  | false => exact .inl ⟨chkK_3 h, rfl⟩
  | true =>
    cases h2 : incB m.nw with
    | false => exact .inr (.inl ⟨chkK_5 h h2, rfl, rfl⟩)
    | true => exact .inr (.inr ⟨chkK_0 h h2, rfl, rfl⟩)
theorem mkC_chk {L : List Mk} {i : Nat} {m : Mk} (hm : L[i]? = some m) (h : chkK m ≠ 0) : mkC L i = (chkK m, (i : Int)) := by
  unfold mkC; rw [hm]; dsimp only
  rcases chkK_cases m with ⟨e, h1⟩ | ⟨e, h1, h2⟩ | ⟨e, _, _⟩
  · rw [e, if_pos h1]
  · rw [e, if_neg (by simp [h1]), if_pos h2]
  · exact absurd e h
theorem mkC_prev {L : List Mk} {i : Nat} {m y : Mk} (hm : L[i]? = some m) (h : chkK m = 0) (h0 : 0 < i) (hy : L[i - 1]? = some y) (hc : ¬ cmpK y m < 0) : mkC L i = (5, (i : Int)) := by
  unfold mkC; rw [hm]; dsimp only
  rcases chkK_cases m with ⟨e, h1⟩ | ⟨e, h1, h2⟩ | ⟨e, h1, h2⟩
  · omega
  · omega
  · rw [if_neg (by simp [h1]), if_neg (by simp [h2]), getD_at hy, if_pos ⟨h0, hc⟩]
theorem mkC_ok {L : List Mk} {i : Nat} {m y : Mk} (hm : L[i]? = some m) (h : chkK m = 0) (hy : 0 < i → L[i - 1]? = some y ∧ cmpK y m < 0) : mkC L i = (0, 0) := by
  unfold mkC; rw [hm]; dsimp only
  rcases chkK_cases m with ⟨e, h1⟩ | ⟨e, h1, h2⟩ | ⟨e, h1, h2⟩
  · omega
  · omega
  · rw [if_neg (by simp [h1]), if_neg (by simp [h2]), if_neg]
    rintro ⟨h0, hc⟩
    obtain ⟨h3, h4⟩ := hy h0
    rw [getD_at h3] at hc
    exact hc h4
theorem mkC_rng {L : List Mk} {i : Nat} {m : Mk} (hm : L[i]? = some m) (h : (mkC L i).1 = 0) : chkR m = true := by
  rcases chkK_cases m with ⟨e, h1⟩ | ⟨e, h1, h2⟩ | ⟨e, h1, h2⟩
  · rw [mkC_chk hm (by omega)] at h; simp only at h; omega
  · exact h1
  · exact h1
theorem okM_of {L : List Mk} (h : ∀ j, j < L.length → (mkC L j).1 = 0) : okM L := fun m hm => by
  obtain ⟨i, hi⟩ := List.getElem?_of_mem hm
  exact mkC_rng hi (h i (List.getElem?_eq_some_iff.1 hi).1)
theorem ValM.okM {L : List Mk} (h : ValM L) : okM L := fun m hm => (h.ok m hm).1
def valKG : List AV → Option (Prop × AV)
  | [.d (.sl xs)] => some (xs = rows eM (dM xs) ∧ (dM xs).length ≤ 9223372036854775807 ∧ smallM (dM xs), .agg [.d (.int .i64 (mkF (dM xs)).1), .d (.int .i64 (mkF (dM xs)).2)])
  | _ => none
def sucG : List AV → Option (Prop × AV)
  | [.d (.sl xs), .d (.int .i64 n)] => some (xs = rows eM (dM xs) ∧ (dM xs).length ≤ 9223372036854775807 ∧ smallM (dM xs), .tup [.d (.sl (rows eI (sucR (dM xs) n))), .agg [.d (.int .i64 (sucF (dM xs) n).1), .d (.int .i64 (sucF (dM xs) n).2)]])
  | _ => none
def divG : List AV → Option (Prop × AV)
  | [.d (.sl xs)] => some (xs = rows eM (dM xs) ∧ (dM xs).length ≤ 9223372036854775807 ∧ smallM (dM xs), .tup [.d (.sl (rows eI (divR (dM xs)))), .agg [.d (.int .i64 (mkF (dM xs)).1), .d (.int .i64 (mkF (dM xs)).2)]])
  | _ => none
def sucB (L : List Mk) (n : Int) (k : Nat) : Bool := (rcK L n.toNat k || decide ((k : Int) = n)) && !goneK L k
theorem sucK_is (L : List Mk) (n : Int) : sucK L n = lst 60 (sucB L n) := numK_ext fun i _ => by unfold sucB; rw [Bool.or_comm]
theorem lst_yes {f : Nat → Bool} {i : Nat} (h : f i = true) : lst (i + 1) f = lst i f ++ [(i : Int)] := by rw [lst_succ, if_pos h]
theorem lst_no {f : Nat → Bool} {i : Nat} (h : ¬f i = true) : lst (i + 1) f = lst i f := by rw [lst_succ, if_neg h, List.append_nil]
def rwI (f : Nat → Int) : List AV := (List.range 60).map fun j => .d (.int .i64 (f j))
theorem rwI_len (f : Nat → Int) : (rwI f).length = 60 := by simp [rwI]
theorem rwI_get {f : Nat → Int} {k : Nat} (h : k < 60) : (rwI f)[k]? = some (.d (.int .i64 (f k))) := by simp [rwI, List.getElem?_range h]
theorem rwI_get1 {f : Nat → Int} {k : Nat} (h : k < 60) : (rwI f)[k * 1]? = some (.d (.int .i64 (f k))) := by rw [Nat.mul_one, rwI_get h]
theorem rwI_take (f : Nat → Int) : (rwI f).take 60 = rwI f := List.take_of_length_le (Nat.le_of_eq (rwI_len f))
def setI (f : Nat → Int) (k : Nat) (x : Int) : Nat → Int := fun i => if i = k then x else f i
theorem rwI_set {f : Nat → Int} {k : Nat} {b : Int} (h : k < 60) : splice (rwI f) (k * 1) [.d (.int .i64 b)] = rwI (setI f k b) := by
  rw [Nat.mul_one, spl_set (by rw [rwI_len]; exact h)]
  apply List.ext_getElem?
  intro i
  rw [List.getElem?_set, rwI_len]
  by_cases hi : i < 60
  · rw [rwI_get hi, rwI_get hi]
    by_cases e : k = i
    · subst e; rw [if_pos rfl, if_pos h]; simp [setI]
    · rw [if_neg e]; simp only [setI]; rw [if_neg (fun h => e h.symm)]
  · rw [List.getElem?_eq_none (l := rwI f) (by rw [rwI_len]; omega), List.getElem?_eq_none (l := rwI (setI f k b)) (by rw [rwI_len]; omega), if_neg (by omega)]
theorem rwI_zero : (List.replicate 60 (D.int .i64 0)).map AV.d = rwI fun _ => 0 := by
  apply List.ext_getElem?
  intro i
  by_cases hi : i < 60
  · rw [rwI_get hi, List.getElem?_map, List.getElem?_replicate, if_pos hi]; rfl
  · rw [List.getElem?_eq_none (by simp; omega), List.getElem?_eq_none (by rw [rwI_len]; omega)]
theorem mtL_ints {ρ : Ren} {H : Heap} {l : List Nat} {f g : Nat → Int} : mtL ρ H (l.map fun j => .d (.int .i64 (f j))) (l.map fun j => .d (.int .i64 (g j))) ↔ (l.map fun j => AV.d (.int .i64 (f j))) = l.map fun j => AV.d (.int .i64 (g j)) := by
  induction l with
  | nil => exact ⟨fun _ => rfl, fun _ => trivial⟩
  | cons a l ih =>
    rw [List.map_cons, List.map_cons, List.cons.injEq]
    show (mt1 ρ H _ _ ∧ _) ↔ _
    rw [ih]
    refine and_congr_left fun _ => ?_
    rw [(mt1_rules ρ H).1]
    constructor
    · rintro (h | h)
      · rw [h]
      · have : D.int .i64 (f a) = D.int .i64 (g a) := h
        rw [this]
    · intro h; exact .inl (AV.d.inj h)
theorem mtL_rwI (ρ : Ren) (H : Heap) (f g : Nat → Int) : mtL ρ H (rwI f) (rwI g) = (rwI f = rwI g) := propext mtL_ints
def cntZ (L : List Mk) (j : Nat) : Int := (cntK L (j : Int) : Nat)
theorem cntK_le (L : List Mk) (i : Int) : cntK L i ≤ L.length := by unfold cntK; exact List.length_filter_le _ _
theorem cntK_snoc {L : List Mk} {i : Nat} {m : Mk} (hm : L[i]? = some m) (n : Int) : cntK (L.take (i + 1)) n = cntK (L.take i) n + if m.old = n ∧ m.nw ≠ [] then 1 else 0 := by
  unfold cntK
  rw [List.take_add_one, hm, List.filter_append, List.length_append]
  congr 1
  by_cases h : m.old = n ∧ m.nw ≠ []
  · rw [if_pos h]; simp [h.1, h.2]
  · rw [if_neg h, List.length_eq_zero_iff, List.filter_eq_nil_iff]
    intro a ha hc
    simp only [Option.toList_some, List.mem_singleton] at ha
    subst ha
    simp only [Bool.and_eq_true, decide_eq_true_eq] at hc
    exact h hc
theorem cntZ_set {L : List Mk} {i : Nat} {m : Mk} (hm : L[i]? = some m) (h0 : 0 ≤ m.old) (hn : m.nw ≠ []) : rwI (setI (cntZ (L.take i)) m.old.toNat (cntZ (L.take i) m.old.toNat + 1)) = rwI (cntZ (L.take (i + 1))) := by
  unfold rwI
  refine List.map_congr_left fun j _ => ?_
  unfold setI cntZ
  rw [cntK_snoc hm]
  by_cases h : j = m.old.toNat
  · subst h; rw [if_pos rfl, if_pos ⟨by omega, hn⟩]; congr 2
  · rw [if_neg h, if_neg (fun e => h (by omega))]; rfl
theorem cntZ_same {L : List Mk} {i : Nat} {m : Mk} (hm : L[i]? = some m) (hn : m.nw = []) : rwI (cntZ (L.take i)) = rwI (cntZ (L.take (i + 1))) := by
  unfold rwI
  refine List.map_congr_left fun j _ => ?_
  unfold cntZ
  rw [cntK_snoc hm, if_neg (fun e => e.2 hn)]; rfl
def divB (L : List Mk) (k : Nat) : Bool := decide (2 ≤ cntZ L k)
theorem divK_is (L : List Mk) : divK L = lst 60 (divB L) := numK_ext fun i _ => by unfold divB cntZ; exact decide_eq_decide.2 (by omega)

theorem valK_meets : Meets Try.prog 18 (Spec.pure valKG) := by
 refine meets_fun (E_cyc.at_ 45) Try.func18 rfl rfl rfl ?_
 intro args p r hg hp
 unfold valKG at hg
 split at hg
 ·rename_i xs
  simp only [Option.some.injEq, Prod.mk.injEq] at hg
  obtain ⟨rfl, rfl⟩ := hg
  obtain ⟨he, hl, hsm⟩ := hp
  generalize dM xs = l at *
  subst he
  have hT : (E_cyc).X = T := rfl
  have hx0 := And.intro @mk_eta (And.intro @rect_eM (And.intro @dI_rows (And.intro @dM_rows (And.intro @dec_t (And.intro @dec_f @Try.results18)))))
  have hx := hx0
  refine ⟨by rfl, ?_⟩
  intro F W0 hnp hmk
  refine vc_seq_k fun N1 h1 => ?_
  refine u_reg ?_
  try refine lg_mk ?_
  refine u_al ?_
  refine lg_nil ?_
  refine h1 _ ?_; clear h1; try clear N1
  refine vc_seq_k fun N2 h2 => ?_
  refine vc_seq_k fun N3 h3 => ?_
  refine u_reg ?_
  try refine lg_mk ?_
  refine u_mv ?_
  refine u_ln ?_
  refine u_bn ?_
  refine lg_nil ?_
  refine h3 _ ?_; clear h3; try clear N3
  refine u_cond (fun hb4 => ?_) (fun hb4 => ?_)
  ·refine vc_seq_k fun N5 h5 => ?_
   refine u_reg ?_
   try refine lg_mk ?_
   refine u_bd ?_
   refine u_st ?_
   refine lg_nil ?_
   refine h5 _ ?_; clear h5; try clear N5
   refine vc_ret ?_
   try simp only [k_rules]
   rw [mkF_big (by have := hb4; omega)]
   refine fin2_ ?_
   exact cl_
  ·refine vc_skip ?_
   try simp only [k_rules]
   refine h2 _ ?_; clear h2; try clear N2
   refine vc_seq_k fun N6 h6 => ?_
   refine vc_seq_k fun N7 h7 => ?_
   refine u_reg ?_
   try refine lg_mk ?_
   refine u_mv ?_
   refine u_ln ?_
   refine u_mv ?_
   refine lg_nil ?_
   refine h7 _ ?_; clear h7; try clear N7
   refine vc_block ?_
   refine vc_loop_mk (σ := Nat) (fun s => (fun i => i ≤ l.length ∧ ∀ j, j < i → (mkC l j).1 = 0) s)
    (fun s => (fun i => [(0, .d (.sl (rows eM l))), (2, .ptr 0 0 0), (10, .d (.sl (rows eM l))), (11, .d (.int .i64 (l.length : Nat))), (12, .d (.int .i64 (i : Nat)))]) s)
    (fun s => (fun i => [some (.one 25 [.d (.int .i64 0), .d (.int .i64 0)])]) s) (fun s => (fun i => l.length - i) s) hnp 0 ?_ [some 0] ?_ ?_
   ·dsimp only
    exact ⟨by omega, fun j hj => by omega⟩
   ·dsimp only
    refine ⟨by rfl, ?_, ?_⟩
    ·refine fin_ ?_
     exact cl_
    ·refine fin_ ?_
     exact cl_
   ·rintro i hinv N8 h8
    dsimp only at hinv ⊢
    obtain ⟨i1, i2⟩ := hinv
    refine vc_seq_k fun N9 h9 => ?_
    refine u_reg ?_
    try refine lg_mk ?_
    refine u_bn ?_
    refine lg_nil ?_
    refine h9 _ ?_; clear h9; try clear N9
    refine vc_seq_k fun N10 h10 => ?_
    refine u_cond (fun hb11 => ?_) (fun hb11 => ?_)
    ·obtain ⟨m, hme⟩ := getE (l := l) (i := i) (by omega)
     have hmm := hsm m (mem_at hme)
     refine vc_skip ?_
     try simp only [k_rules]
     refine h10 _ ?_; clear h10; try clear N10
     refine vc_seq_k fun N12 h12 => ?_
     refine vc_block ?_
     refine vc_seq_k fun N13 h13 => ?_
     have hx := And.intro @hme (And.intro @eM.eq_1 hx0)
     refine u_reg ?_
     try refine lg_mk ?_
     refine u_mv ?_
     refine u_pt ?_
     refine u_ld ?_
     refine u_al ?_
     refine u_mv ?_
     refine u_st ?_
     refine lg_nil ?_
     have hx := hx0
     refine h13 _ ?_; clear h13; try clear N13
     refine vc_seq_k fun N14 h14 => ?_
     refine u_reg ?_
     try refine lg_mk ?_
     refine u_ld ?_
     have hc := call_rule (E := (E_cyc.at_ 45)) (f := 43) (sp := Spec.pure chkKG) rfl
     have hs := @chkKG.eq_1
     refine u_cp (hq := by (first | (exact ⟨rfl, hmm⟩) | exact sd_)) ?_
     refine u_mv ?_
     refine lg_nil ?_
     refine h14 _ ?_; clear h14; try clear N14
     refine vc_seq_k fun N15 h15 => ?_
     refine vc_seq_k fun N16 h16 => ?_
     rcases Decidable.em (chkK m = 0) with hc0 | hc0 <;> rcases Nat.eq_zero_or_pos i with hk0 | hk0
     ·have hck : decide (chkK m = 0) = true := decide_eq_true hc0
      have hgt : decide ((0 : Int) < (i : Int)) = false := decide_eq_false (by omega)
      have hye := hme
      have hpm := hme
      have hx := And.intro @hme (And.intro @hye (And.intro @hck (And.intro @hgt (And.intro @hpm (And.intro @eM.eq_1 hx0)))))
      refine u_reg ?_
      try refine lg_mk ?_
      refine u_mv ?_
      refine u_bn ?_
      refine u_mv ?_
      refine g_mv ?_
      refine g_bn ?_
      refine u_pk ?_
      refine u_mv ?_
      refine g_ld ?_
      refine g_mv ?_
      refine g_mv ?_
      refine g_bn ?_
      refine g_pt ?_
      refine g_ld ?_
      have hc := call_rule (E := (E_cyc.at_ 45)) (f := 32) (sp := Spec.pure cmpKG) rfl
      have hs := @cmpKG.eq_1
      refine g_cp ?_
      refine g_bn ?_
      refine u_pk ?_
      refine lg_nil ?_
      have hx := hx0
      refine h16 _ ?_; clear h16; try clear N16
      refine u_cond (fun hb17 => ?_) (fun hb17 => ?_)
      ·first | omega | exact absurd trivial hb17 | contradiction | (simp_all; done)
      ·refine vc_skip ?_
       try simp only [k_rules]
       refine h15 _ ?_; clear h15; try clear N15
       refine vc_seq_k fun N18 h18 => ?_
       refine u_reg ?_
       try refine lg_mk ?_
       refine u_mv ?_
       refine u_bn ?_
       refine lg_nil ?_
       refine h18 _ ?_; clear h18; try clear N18
       refine u_cond (fun hb19 => ?_) (fun hb19 => ?_)
       ·first | omega | exact absurd trivial hb19 | contradiction | (simp_all; done)
       ·refine vc_skip ?_
        try simp only [k_rules]
        refine h12 _ ?_; clear h12; try clear N12
        refine u_reg ?_
        try refine lg_mk ?_
        refine u_bn ?_
        refine u_mv ?_
        refine lg_nil ?_
        refine h8 _ ⟨i + 1, ?_, ?_, [some 0], ?_⟩
        ·dsimp only
         exact ⟨by omega, lt_snoc i2 (by rw [mkC_ok (y := default) hme hc0 (fun h => by omega)])⟩
        ·dsimp only
         omega
        ·dsimp only
         refine ⟨by rfl, ?_, ?_⟩
         ·refine fin_ ?_
          exact cl_
         ·refine fin_ ?_
          exact cl_
     ·have hck : decide (chkK m = 0) = true := decide_eq_true hc0
      obtain ⟨y, hye⟩ := getE (l := l) (i := i - 1) (by omega)
      have hym := hsm y (mem_at hye)
      have hpm : ((i : Int) - 1).toNat = i - 1 := by omega
      have hgt : decide ((0 : Int) < (i : Int)) = true := decide_eq_true (by omega)
      have hx := And.intro @hme (And.intro @hye (And.intro @hck (And.intro @hgt (And.intro @hpm (And.intro @eM.eq_1 hx0)))))
      refine u_reg ?_
      try refine lg_mk ?_
      refine u_mv ?_
      refine u_bn ?_
      refine u_mv ?_
      refine g_mv ?_
      refine g_bn ?_
      refine u_pk ?_
      refine u_mv ?_
      refine g_ld ?_
      refine g_mv ?_
      refine g_mv ?_
      refine g_bn ?_
      refine g_pt ?_
      refine g_ld ?_
      have hc := call_rule (E := (E_cyc.at_ 45)) (f := 32) (sp := Spec.pure cmpKG) rfl
      have hs := @cmpKG.eq_1
      refine g_cp ?_
      refine g_bn ?_
      refine u_pk ?_
      refine lg_nil ?_
      have hx := hx0
      refine h16 _ ?_; clear h16; try clear N16
      refine u_cond (fun hb20 => ?_) (fun hb20 => ?_)
      ·refine u_reg ?_
       try refine lg_mk ?_
       refine u_mv ?_
       refine lg_nil ?_
       refine h15 _ ?_; clear h15; try clear N15
       refine vc_seq_k fun N21 h21 => ?_
       refine u_reg ?_
       try refine lg_mk ?_
       refine u_mv ?_
       refine u_bn ?_
       refine lg_nil ?_
       refine h21 _ ?_; clear h21; try clear N21
       refine u_cond (fun hb22 => ?_) (fun hb22 => ?_)
       ·refine vc_seq_k fun N23 h23 => ?_
        refine u_reg ?_
        try refine lg_mk ?_
        refine u_mv ?_
        refine u_mv ?_
        refine u_bd ?_
        refine u_st ?_
        refine lg_nil ?_
        refine h23 _ ?_; clear h23; try clear N23
        refine vc_ret ?_
        try simp only [k_rules]
        have ht := hb20
        rw [mkF_at (v := 5) (by have := hb4; omega) (by omega) i2 (mkC_prev hme hc0 hk0 hye (by have := cmpK_swap y m; omega)) (by decide)]
        refine fin2_ ?_
        exact cl_
       ·first | omega | exact absurd trivial hb22 | contradiction | (simp_all; done)
      ·refine vc_skip ?_
       try simp only [k_rules]
       refine h15 _ ?_; clear h15; try clear N15
       refine vc_seq_k fun N24 h24 => ?_
       refine u_reg ?_
       try refine lg_mk ?_
       refine u_mv ?_
       refine u_bn ?_
       refine lg_nil ?_
       refine h24 _ ?_; clear h24; try clear N24
       refine u_cond (fun hb25 => ?_) (fun hb25 => ?_)
       ·first | omega | exact absurd trivial hb25 | contradiction | (simp_all; done)
       ·refine vc_skip ?_
        try simp only [k_rules]
        refine h12 _ ?_; clear h12; try clear N12
        refine u_reg ?_
        try refine lg_mk ?_
        refine u_bn ?_
        refine u_mv ?_
        refine lg_nil ?_
        refine h8 _ ⟨i + 1, ?_, ?_, [some 0], ?_⟩
        ·dsimp only
         have ht := hb20
         exact ⟨by omega, lt_snoc i2 (by rw [mkC_ok (y := y) hme hc0 (fun _ => ⟨hye, by have h2 := cmpK_swap y m; omega⟩)])⟩
        ·dsimp only
         omega
        ·dsimp only
         refine ⟨by rfl, ?_, ?_⟩
         ·refine fin_ ?_
          exact cl_
         ·refine fin_ ?_
          exact cl_
     ·have hck : decide (chkK m = 0) = false := decide_eq_false hc0
      have hgt := hme
      have hye := hme
      have hpm := hme
      have hx := And.intro @hme (And.intro @hye (And.intro @hck (And.intro @hgt (And.intro @hpm (And.intro @eM.eq_1 hx0)))))
      refine u_reg ?_
      try refine lg_mk ?_
      refine u_mv ?_
      refine u_bn ?_
      refine u_mv ?_
      refine g_mv ?_
      refine g_bn ?_
      refine u_pk ?_
      refine u_mv ?_
      refine g_ld ?_
      refine g_mv ?_
      refine g_mv ?_
      refine g_bn ?_
      refine g_pt ?_
      refine g_ld ?_
      have hc := call_rule (E := (E_cyc.at_ 45)) (f := 32) (sp := Spec.pure cmpKG) rfl
      have hs := @cmpKG.eq_1
      refine g_cp ?_
      refine g_bn ?_
      refine u_pk ?_
      refine lg_nil ?_
      have hx := hx0
      refine h16 _ ?_; clear h16; try clear N16
      refine u_cond (fun hb26 => ?_) (fun hb26 => ?_)
      ·first | omega | exact absurd trivial hb26 | contradiction | (simp_all; done)
      ·refine vc_skip ?_
       try simp only [k_rules]
       refine h15 _ ?_; clear h15; try clear N15
       refine vc_seq_k fun N27 h27 => ?_
       refine u_reg ?_
       try refine lg_mk ?_
       refine u_mv ?_
       refine u_bn ?_
       refine lg_nil ?_
       refine h27 _ ?_; clear h27; try clear N27
       refine u_cond (fun hb28 => ?_) (fun hb28 => ?_)
       ·refine vc_seq_k fun N29 h29 => ?_
        refine u_reg ?_
        try refine lg_mk ?_
        refine u_mv ?_
        refine u_mv ?_
        refine u_bd ?_
        refine u_st ?_
        refine lg_nil ?_
        refine h29 _ ?_; clear h29; try clear N29
        refine vc_ret ?_
        try simp only [k_rules]
        rw [mkF_at (by have := hb4; omega) (by omega) i2 (mkC_chk hme (by have := hb28; omega)) (by have := hb28; omega)]
        refine fin2_ ?_
        exact cl_
       ·first | omega | exact absurd trivial hb28 | contradiction | (simp_all; done)
     ·have hck : decide (chkK m = 0) = false := decide_eq_false hc0
      have hgt := hme
      have hye := hme
      have hpm := hme
      have hx := And.intro @hme (And.intro @hye (And.intro @hck (And.intro @hgt (And.intro @hpm (And.intro @eM.eq_1 hx0)))))
      refine u_reg ?_
      try refine lg_mk ?_
      refine u_mv ?_
      refine u_bn ?_
      refine u_mv ?_
      refine g_mv ?_
      refine g_bn ?_
      refine u_pk ?_
      refine u_mv ?_
      refine g_ld ?_
      refine g_mv ?_
      refine g_mv ?_
      refine g_bn ?_
      refine g_pt ?_
      refine g_ld ?_
      have hc := call_rule (E := (E_cyc.at_ 45)) (f := 32) (sp := Spec.pure cmpKG) rfl
      have hs := @cmpKG.eq_1
      refine g_cp ?_
      refine g_bn ?_
      refine u_pk ?_
      refine lg_nil ?_
      have hx := hx0
      refine h16 _ ?_; clear h16; try clear N16
      refine u_cond (fun hb30 => ?_) (fun hb30 => ?_)
      ·first | omega | exact absurd trivial hb30 | contradiction | (simp_all; done)
      ·refine vc_skip ?_
       try simp only [k_rules]
       refine h15 _ ?_; clear h15; try clear N15
       refine vc_seq_k fun N31 h31 => ?_
       refine u_reg ?_
       try refine lg_mk ?_
       refine u_mv ?_
       refine u_bn ?_
       refine lg_nil ?_
       refine h31 _ ?_; clear h31; try clear N31
       refine u_cond (fun hb32 => ?_) (fun hb32 => ?_)
       ·refine vc_seq_k fun N33 h33 => ?_
        refine u_reg ?_
        try refine lg_mk ?_
        refine u_mv ?_
        refine u_mv ?_
        refine u_bd ?_
        refine u_st ?_
        refine lg_nil ?_
        refine h33 _ ?_; clear h33; try clear N33
        refine vc_ret ?_
        try simp only [k_rules]
        rw [mkF_at (by have := hb4; omega) (by omega) i2 (mkC_chk hme (by have := hb32; omega)) (by have := hb32; omega)]
        refine fin2_ ?_
        exact cl_
       ·first | omega | exact absurd trivial hb32 | contradiction | (simp_all; done)
    ·refine vc_exit ?_
     simp only [k_rules, Nat.reduceEqDiff, reduceIte, eq_self]
     refine h6 _ ?_; clear h6; try clear N6
     refine vc_seq_k fun N34 h34 => ?_
     refine vc_seq_k fun N35 h35 => ?_
     refine u_reg ?_
     try refine lg_mk ?_
     refine u_mv ?_
     have hc := call_rule (E := (E_cyc.at_ 45)) (f := 35) (sp := Spec.pure cycG) rfl
     have hs := @cycG.eq_1
     refine u_cp (hq := by (first | (exact ⟨hl, hsm, okM_of (fun j hj => i2 j (by omega))⟩) | exact sd_)) ?_
     refine lg_nil ?_
     refine h35 _ ?_; clear h35; try clear N35
     refine u_cond (fun hb36 => ?_) (fun hb36 => ?_)
     ·refine vc_seq_k fun N37 h37 => ?_
      refine u_reg ?_
      try refine lg_mk ?_
      refine u_bd ?_
      refine u_st ?_
      refine lg_nil ?_
      refine h37 _ ?_; clear h37; try clear N37
      refine vc_ret ?_
      try simp only [k_rules]
      rw [mkF_cyc (by have := hb4; omega) (fun j hj => i2 j (by omega)) (by have := hb36; simpa using this)]
      refine fin2_ ?_
      exact cl_
     ·refine vc_skip ?_
      try simp only [k_rules]
      refine h34 _ ?_; clear h34; try clear N34
      refine vc_seq_k fun N38 h38 => ?_
      refine u_reg ?_
      try refine lg_mk ?_
      refine u_bd ?_
      refine u_st ?_
      refine lg_nil ?_
      refine h38 _ ?_; clear h38; try clear N38
      refine vc_ret ?_
      try simp only [k_rules]
      rw [mkF_ok (by have := hb4; omega) (fun j hj => i2 j (by omega)) (by have := hb36; simpa using this)]
      refine fin2_ ?_
      exact cl_
 ·cases hg

def E_valK : Env Try.prog := E_cyc.add 18 (Spec.pure valKG) valK_meets (by kernel_rfl)

theorem suc_meets : Meets Try.prog 16 (Spec.pure sucG) := by
 refine meets_fun (E_valK.at_ 50) Try.func16 rfl rfl rfl ?_
 intro args p r hg hp
 unfold sucG at hg
 split at hg
 ·rename_i xs n
  simp only [Option.some.injEq, Prod.mk.injEq] at hg
  obtain ⟨rfl, rfl⟩ := hg
  obtain ⟨he, hl, hsm⟩ := hp
  generalize dM xs = l at *
  subst he
  have hT : (E_valK).X = T := rfl
  have hx0 := And.intro @mtL_rwA (And.intro @flt_len (And.intro @rect_eM (And.intro @rwA_len (And.intro @rwA_take (And.intro @rwA_spl (And.intro @dM_rows (And.intro @dec_t (And.intro @dec_f @Try.results16))))))))
  have hx := hx0
  refine ⟨by rfl, ?_⟩
  intro F W0 hnp hmk
  refine vc_seq_k fun N1 h1 => ?_
  refine u_reg ?_
  try refine lg_mk ?_
  refine u_mv ?_
  refine u_al ?_
  refine lg_nil ?_
  refine h1 _ ?_; clear h1; try clear N1
  refine vc_seq_k fun N2 h2 => ?_
  refine vc_seq_k fun N3 h3 => ?_
  refine u_reg ?_
  try refine lg_mk ?_
  refine u_mv ?_
  have hc := call_rule (E := (E_valK.at_ 50)) (f := 18) (sp := Spec.pure valKG) rfl
  have hs := @valKG.eq_1
  refine u_cp ?_
  refine u_al ?_
  refine u_st ?_
  refine lg_nil ?_
  refine h3 _ ?_; clear h3; try clear N3
  refine vc_seq_k fun N4 h4 => ?_
  rcases mkF_or l with ⟨hz, hv⟩ | hz
  ·have hz1 : (mkF l).1 = 0 := by rw [hz]
   have hz2 : (mkF l).2 = 0 := by rw [hz]
   have hok := hv.okM
   have hlen40 := hv.len
   refine u_reg ?_
   try refine lg_mk ?_
   refine u_ld ?_
   refine u_bd ?_
   refine u_bn ?_
   refine lg_nil ?_
   refine h4 _ ?_; clear h4; try clear N4
   refine u_cond (fun hb5 => ?_) (fun hb5 => ?_)
   ·exact absurd (And.intro hz1 hz2) (by have := hb5; simpa using this)
   ·refine vc_skip ?_
    try simp only [k_rules]
    refine h2 _ ?_; clear h2; try clear N2
    refine vc_seq_k fun N6 h6 => ?_
    refine vc_seq_k fun N7 h7 => ?_
    refine u_reg ?_
    try refine lg_mk ?_
    refine u_mv ?_
    have hc := call_rule (E := (E_valK.at_ 50)) (f := 40) (sp := Spec.pure rgG) rfl
    have hs := @rgG.eq_1
    refine u_cp ?_
    refine u_un ?_
    refine lg_nil ?_
    refine h7 _ ?_; clear h7; try clear N7
    refine u_cond (fun hb8 => ?_) (fun hb8 => ?_)
    ·refine vc_seq_k fun N9 h9 => ?_
     refine u_reg ?_
     try refine lg_mk ?_
     refine u_bd ?_
     refine u_mv ?_
     refine u_st ?_
     refine lg_nil ?_
     refine h9 _ ?_; clear h9; try clear N9
     refine vc_ret ?_
     try simp only [k_rules]
     have hr : sucF l n = (3, -2) := by unfold sucF; rw [if_neg (by rw [hz1]; simp), if_pos (by have := hb8; simpa using this)]
     have hr2 : sucR l n = [] := by unfold sucR; rw [hr]; rfl
     rw [hr, hr2]
     refine fin2_ ?_
     exact cl_
    ·refine vc_skip ?_
     try simp only [k_rules]
     refine h6 _ ?_; clear h6; try clear N6
     refine vc_seq_k fun N10 h10 => ?_
     refine u_reg ?_
     try refine lg_mk ?_
     refine u_mv ?_
     have hc := call_rule (E := (E_valK.at_ 50)) (f := 41) (sp := Spec.pure goneAG) rfl
     have hs := @goneAG.eq_1
     refine u_cp (hq := by (first | (exact ⟨hl, hok⟩) | exact sd_)) ?_
     refine lg_sem (by rfl) (sem_allocOne (by first | (simp only [wB, eq_self, Nat.reduceEqDiff, reduceIte, env_rules, tys, hT, tiAgg]; done) | (simp only [wB, eq_self, Nat.reduceEqDiff, reduceIte, env_rules, tys, hT, tiAgg]; rfl)) rwA_zero (by simp) (by decide) ?_)
     try simp only [wB, eq_self, Nat.reduceEqDiff, reduceIte, wL, Int.toNat_natCast, Int.reduceToNat, Nat.reduceAdd, Nat.reduceMul, Nat.reduceSub, Nat.reduceLeDiff, hx]
     refine u_st ?_
     refine lg_nil ?_
     refine h10 _ ?_; clear h10; try clear N10
     refine vc_seq_k fun N11 h11 => ?_
     refine u_reg ?_
     try refine lg_mk ?_
     refine u_mv ?_
     refine lg_nil ?_
     refine h11 _ ?_; clear h11; try clear N11
     refine vc_seq_k fun N12 h12 => ?_
     refine vc_seq_k fun N13 h13 => ?_
     have hrn : rgK n = true := by have := hb8; simpa using this
     obtain ⟨hn1, hn2⟩ := rg_of hrn
     have hrw := flt_row (F := rcK l) (i := n.toNat) (by omega)
     have hx := And.intro @hrw hx0
     refine u_reg ?_
     try refine lg_mk ?_
     refine u_mv ?_
     have hc := call_rule (E := (E_valK.at_ 50)) (f := 42) (sp := Spec.pure rchAG) rfl
     have hs := @rchAG.eq_1
     refine u_cp (hq := by (first | (exact ⟨hl, hsm, hok⟩) | exact sd_)) ?_
     refine u_mv ?_
     refine u_pt ?_
     refine u_mv ?_
     refine lg_nil ?_
     have hx := hx0
     refine h13 _ ?_; clear h13; try clear N13
     refine vc_block ?_
     refine vc_loop_mk (σ := Nat) (fun s => (fun i => i ≤ 60) s)
      (fun s => (fun i => [(0, .d (.sl (rows eM l))), (1, .d (.int .i64 n)), (5, .ptr 0 0 0), (7, .ptr 1 0 0), (8, .sl 2 0 (lst i (sucB l n)).length), (26, .agg (rwA (rcK l n.toNat))), (27, .d (.int .i64 (i : Nat)))]) s)
      (fun s => (fun i => [some (.one 25 [.d (.int .i64 0), .d (.int .i64 0)]), some (.one 64 (rwA fun j => goneK l (j : Int))), some (.vec 3 1 (rows eI (lst i (sucB l n))))]) s) (fun s => (fun i => 60 - i) s) hnp 0 ?_ [some 0, some 2, none] ?_ ?_
     ·dsimp only
      omega
     ·dsimp only
      refine ⟨by rfl, ?_, ?_⟩
      ·refine fin_ ?_
       (repeat' apply And.intro) <;> (first | (first | (with_reducible rfl) | exact True.intro | rfl) | exact cl_)
      ·refine fin_ ?_
       (repeat' apply And.intro) <;> (first | (first | (with_reducible rfl) | exact True.intro | rfl) | exact cl_)
     ·rintro i hinv N14 h14
      dsimp only at hinv ⊢
      have i1 := hinv
      refine vc_seq_k fun N15 h15 => ?_
      refine u_reg ?_
      try refine lg_mk ?_
      refine u_bn ?_
      refine lg_nil ?_
      refine h15 _ ?_; clear h15; try clear N15
      refine vc_seq_k fun N16 h16 => ?_
      refine u_cond (fun hb17 => ?_) (fun hb17 => ?_)
      ·have hg1 := rwA_get1 (f := rcK l n.toNat) (k := i) (by omega)
       have hg2 := rwA_get1 (f := fun j => goneK l (j : Int)) (k := i) (by omega)
       have hll := lst_len i (sucB l n)
       refine vc_skip ?_
       try simp only [k_rules]
       refine h16 _ ?_; clear h16; try clear N16
       refine vc_seq_k fun N18 h18 => ?_
       refine vc_block ?_
       refine vc_seq_k fun N19 h19 => ?_
       have hx := And.intro @hg1 hx0
       refine u_reg ?_
       try refine lg_mk ?_
       refine u_mv ?_
       refine u_pt ?_
       refine u_mv ?_
       refine u_mv ?_
       refine lg_nil ?_
       have hx := hx0
       refine h19 _ ?_; clear h19; try clear N19
       refine vc_seq_k fun N20 h20 => ?_
       have hx := And.intro @hg2 hx0
       refine u_reg ?_
       try refine lg_mk ?_
       refine u_mv ?_
       refine u_mv ?_
       refine g_mv ?_
       refine g_mv ?_
       refine g_bn ?_
       refine u_pk ?_
       refine u_mv ?_
       refine g_mv ?_
       refine g_pt ?_
       refine g_ld ?_
       refine g_un ?_
       refine u_pk ?_
       refine lg_nil ?_
       have hx := hx0
       refine h20 _ ?_; clear h20; try clear N20
       refine u_cond (fun hb21 => ?_) (fun hb21 => ?_)
       ·refine u_reg ?_
        try refine lg_mk ?_
        refine u_mv ?_
        refine u_mv ?_
        refine u_bs ?_
        refine u_ap ?_
        refine u_mv ?_
        refine lg_nil ?_
        refine h18 _ ?_; clear h18; try clear N18
        refine u_reg ?_
        try refine lg_mk ?_
        refine u_bn ?_
        refine u_mv ?_
        refine lg_nil ?_
        have hls := lst_yes (f := sucB l n) (i := i) (by have := hb21; unfold sucB; simpa using this)
        refine h14 _ ⟨i + 1, ?_, ?_, [some 0, some 1, some 4], ?_⟩
        ·dsimp only
         omega
        ·dsimp only
         omega
        ·dsimp only
         refine ⟨by rfl, ?_, ?_⟩
         ·refine fin_ ?_
          (repeat' apply And.intro) <;> (first | (first | (with_reducible rfl) | exact True.intro | (rw [hls]; simp [rows, eI]; done)) | exact cl_)
         ·refine fin_ ?_
          (repeat' apply And.intro) <;> (first | (first | (with_reducible rfl) | exact True.intro | (rw [hls]; simp [rows, eI]; done)) | exact cl_)
       ·refine vc_skip ?_
        try simp only [k_rules]
        refine h18 _ ?_; clear h18; try clear N18
        refine u_reg ?_
        try refine lg_mk ?_
        refine u_bn ?_
        refine u_mv ?_
        refine lg_nil ?_
        have hls := lst_no (f := sucB l n) (i := i) (by have := hb21; unfold sucB; simpa using this)
        refine h14 _ ⟨i + 1, ?_, ?_, [some 0, some 1, some 2], ?_⟩
        ·dsimp only
         omega
        ·dsimp only
         omega
        ·dsimp only
         refine ⟨by rfl, ?_, ?_⟩
         ·refine fin_ ?_
          (repeat' apply And.intro) <;> (first | (first | (with_reducible rfl) | exact True.intro | (rw [hls]; done)) | exact cl_)
         ·refine fin_ ?_
          (repeat' apply And.intro) <;> (first | (first | (with_reducible rfl) | exact True.intro | (rw [hls]; done)) | exact cl_)
      ·refine vc_exit ?_
       simp only [k_rules, Nat.reduceEqDiff, reduceIte, eq_self]
       refine h12 _ ?_; clear h12; try clear N12
       refine vc_seq_k fun N22 h22 => ?_
       refine u_reg ?_
       try refine lg_mk ?_
       refine u_mv ?_
       refine u_bd ?_
       refine u_mv ?_
       refine u_st ?_
       refine lg_nil ?_
       refine h22 _ ?_; clear h22; try clear N22
       refine vc_ret ?_
       try simp only [k_rules]
       obtain rfl : i = 60 := by omega
       have hr : sucF l n = (0, 0) := by unfold sucF; rw [if_neg (by rw [hz1]; simp), if_neg (by simp [hrn])]
       have hr2 : sucR l n = lst 60 (sucB l n) := by unfold sucR; rw [hr, if_neg (by simp), sucK_is]
       rw [hr, hr2]
       refine fin2_ ?_
       (repeat' apply And.intro) <;> (first | (first | rfl | exact Or.inl rfl | trivial | (simp; done)) | exact cl_)
  ·have hz1 := hz
   refine u_reg ?_
   try refine lg_mk ?_
   refine u_ld ?_
   refine u_bd ?_
   refine u_bn ?_
   refine lg_nil ?_
   refine h4 _ ?_; clear h4; try clear N4
   refine u_cond (fun hb23 => ?_) (fun hb23 => ?_)
   ·refine vc_seq_k fun N24 h24 => ?_
    refine u_reg ?_
    try refine lg_mk ?_
    refine u_ld ?_
    refine u_mv ?_
    refine u_st ?_
    refine lg_nil ?_
    refine h24 _ ?_; clear h24; try clear N24
    refine vc_ret ?_
    try simp only [k_rules]
    have hr : sucF l n = mkF l := by unfold sucF; rw [if_pos hz1]
    have hr2 : sucR l n = [] := by unfold sucR; rw [hr, if_pos hz1]
    rw [hr, hr2]
    refine fin2_ ?_
    exact cl_
   ·exact absurd (show (mkF l).1 = 0 by have := hb23; first | exact this.1 | exact (Classical.not_not.1 this).1 | (simp at this; exact this.1)) hz1
 ·cases hg

def E_suc : Env Try.prog := E_valK.add 16 (Spec.pure sucG) suc_meets (by kernel_rfl)
end Go.Proofs.Ytjpkgmmmmcgmeaa
