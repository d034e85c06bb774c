/- Walks, printed by wip/gen/walk.py. -/
import Derived.Test.YtjpkgmmmmcgmeaaT5
import Derived.Test.YtjpkgmmmmcgmeaaV6
import Derived.Test.YtjpkgmmmmcgmeaaV5
set_option linter.all false
set_option maxRecDepth 100000
set_option maxHeartbeats 4000000
namespace Go.Proofs.Ytjpkgmmmmcgmeaa
open Go Go.Vc Go.RowKit
theorem chk_t {a : Int} {l : List Int} (h : rgK a = true) (h2 : (l.any fun n => !rgK n) = true) : chkR ⟨a, l⟩ = false := by
  have := chk_any a l; rw [h, h2] at this; simpa using this.symm
theorem chk_f {a : Int} {l : List Int} (h : rgK a = true) (h2 : (l.any fun n => !rgK n) = false) : chkR ⟨a, l⟩ = true := by
  have := chk_any a l; rw [h, h2] at this; simpa using this.symm
theorem chkK_3 {m : Mk} (h : chkR m = false) : chkK m = 3 := by unfold chkK; rw [if_pos h]
theorem chkK_5 {m : Mk} (h : chkR m = true) (h2 : incB m.nw = false) : chkK m = 5 := by unfold chkK; rw [if_neg (by simp [h]), if_pos h2]
theorem chkK_0 {m : Mk} (h : chkR m = true) (h2 : incB m.nw = true) : chkK m = 0 := by unfold chkK; rw [if_neg (by simp [h]), if_neg (by simp [h2])]
theorem lt_succ3 {l : List Int} {i : Nat} (h : ∀ j, j < i → 0 < j → l.getD (j - 1) 0 < l.getD j 0) (hi : 0 < i → l.getD (i - 1) 0 < l.getD i 0) : ∀ j, j < i + 1 → 0 < j → l.getD (j - 1) 0 < l.getD j 0 := fun j hj h0 => by
  by_cases e : j = i
  · subst e; exact hi h0
  · exact h j (by omega) h0
def rwA (f : Nat → Bool) : List AV := (List.range 60).map fun j => .d (.bool (f j))
theorem rwA_len (f : Nat → Bool) : (rwA f).length = 60 := by simp [rwA]
theorem rwA_get {f : Nat → Bool} {k : Nat} (h : k < 60) : (rwA f)[k]? = some (.d (.bool (f k))) := by simp [rwA, List.getElem?_range h]
theorem rwA_get1 {f : Nat → Bool} {k : Nat} (h : k < 60) : (rwA f)[k * 1]? = some (.d (.bool (f k))) := by rw [Nat.mul_one, rwA_get h]
theorem rwA_take (f : Nat → Bool) : (rwA f).take 60 = rwA f := List.take_of_length_le (Nat.le_of_eq (rwA_len f))
theorem rwA_spl (f g : Nat → Bool) : splice (rwA f) 0 (rwA g) = rwA g := by
  unfold splice; rw [rwA_len, List.take_zero, List.nil_append, Nat.zero_add, List.drop_of_length_le (Nat.le_of_eq (rwA_len f)), List.append_nil]
theorem spl_set {α : Type} {l : List α} {k : Nat} {x : α} (h : k < l.length) : splice l k [x] = l.set k x := by
  unfold splice
  rw [List.set_eq_take_append_cons_drop, if_pos h]; simp
theorem rwA_set {f : Nat → Bool} {k : Nat} {b : Bool} (h : k < 60) : splice (rwA f) (k * 1) [.d (.bool b)] = rwA (setB f k b) := by
  rw [Nat.mul_one]
  rw [spl_set (by rw [rwA_len]; exact h)]
  apply List.ext_getElem?
  intro i
  rw [List.getElem?_set, rwA_len]
  by_cases hi : i < 60
  · rw [rwA_get hi, rwA_get hi]
    by_cases e : k = i
    · subst e; rw [if_pos rfl, if_pos h]; simp [setB]
    · rw [if_neg e]; simp only [setB]; rw [if_neg (fun h => e h.symm)]
  · rw [List.getElem?_eq_none (l := rwA f) (by rw [rwA_len]; omega), List.getElem?_eq_none (l := rwA (setB f k b)) (by rw [rwA_len]; omega), if_neg (by omega)]
theorem rwA_zero : (List.replicate 60 (D.bool false)).map AV.d = rwA fun _ => false := by
  apply List.ext_getElem?
  intro i
  by_cases hi : i < 60
  · rw [rwA_get hi, List.getElem?_map, List.getElem?_replicate, if_pos hi]; rfl
  · rw [List.getElem?_eq_none (by simp; omega), List.getElem?_eq_none (by rw [rwA_len]; omega)]
def flt (F : Nat → Nat → Bool) : List AV := (List.range 3600).map fun n => .d (.bool (F (n / 60) (n % 60)))
theorem flt_len (F : Nat → Nat → Bool) : (flt F).length = 3600 := by unfold flt; rw [List.length_map, List.length_range]
theorem flt_at {F : Nat → Nat → Bool} {n : Nat} (h : n < 3600) : (flt F)[n]? = some (.d (.bool (F (n / 60) (n % 60)))) := by
  unfold flt; rw [List.getElem?_map, List.getElem?_range h]; rfl
theorem flt_get {F : Nat → Nat → Bool} {i j : Nat} (hi : i < 60) (hj : j < 60) : (flt F)[i * 60 + j * 1]? = some (.d (.bool (F i j))) := by
  rw [Nat.mul_one]
  rw [flt_at (by omega), show (i * 60 + j) / 60 = i by omega, show (i * 60 + j) % 60 = j by omega]
theorem flt_take (F : Nat → Nat → Bool) : (flt F).take 3600 = flt F := List.take_of_length_le (Nat.le_of_eq (flt_len F))
theorem flt_spl (F G : Nat → Nat → Bool) : splice (flt F) 0 (flt G) = flt G := by
  unfold splice; rw [flt_len, List.take_zero, List.nil_append, Nat.zero_add, List.drop_of_length_le (Nat.le_of_eq (flt_len F)), List.append_nil]
theorem flt_set {F : Nat → Nat → Bool} {i j : Nat} {b : Bool} (hi : i < 60) (hj : j < 60) : splice (flt F) (i * 60 + j * 1) [.d (.bool b)] = flt (setM F i j b) := by
  rw [Nat.mul_one]
  rw [spl_set (by rw [flt_len]; omega)]
  apply List.ext_getElem?
  intro n
  rw [List.getElem?_set, flt_len]
  by_cases hn : n < 3600
  · rw [flt_at hn, flt_at hn]
    by_cases e : i * 60 + j = n
    · subst e
      rw [if_pos rfl, if_pos (by omega), show (i * 60 + j) / 60 = i by omega, show (i * 60 + j) % 60 = j by omega]; simp [setM]
    · rw [if_neg e]; unfold setM; rw [if_neg (by omega)]
  · rw [List.getElem?_eq_none (l := flt F) (by rw [flt_len]; omega), List.getElem?_eq_none (l := flt (setM F i j b)) (by rw [flt_len]; omega), if_neg (by omega)]
theorem flt_zero : (List.replicate 3600 (D.bool false)).map AV.d = flt fun _ _ => false := by
  apply List.ext_getElem?
  intro i
  by_cases hi : i < 3600
  · rw [flt_at hi, List.getElem?_map, List.getElem?_replicate, if_pos hi]; rfl
  · rw [List.getElem?_eq_none (by rw [List.length_map, List.length_replicate]; omega), List.getElem?_eq_none (by rw [flt_len]; omega)]
theorem flt_row {F : Nat → Nat → Bool} {i : Nat} (h : i < 60) : ((flt F).drop (i * 60)).take 60 = rwA (F i) := by
  apply List.ext_getElem?
  intro j
  by_cases hj : j < 60
  · rw [List.getElem?_take_of_lt hj, List.getElem?_drop]
    have := flt_get (F := F) h hj
    rw [Nat.mul_one] at this
    rw [this, rwA_get hj]
  · rw [List.getElem?_eq_none (by rw [List.length_take]; omega), List.getElem?_eq_none (by rw [rwA_len]; omega)]
theorem mtL_bools {ρ : Ren} {H : Heap} {l : List Nat} {f g : Nat → Bool} : mtL ρ H (l.map fun j => .d (.bool (f j))) (l.map fun j => .d (.bool (g j))) ↔ (l.map fun j => AV.d (.bool (f j))) = l.map fun j => AV.d (.bool (g j)) := by
  induction l with
  | nil => exact ⟨fun _ => rfl, fun _ => trivial⟩
  | cons a l ih =>
    rw [List.map_cons, List.map_cons, List.cons.injEq]
    show (mt1 ρ H _ _ ∧ _) ↔ _
    rw [ih]
    refine and_congr_left fun _ => ?_
    rw [(mt1_rules ρ H).1]
    constructor
    · rintro (h | h)
      · rw [h]
      · have : D.bool (f a) = D.bool (g a) := h
        rw [this]
    · intro h; exact .inl (AV.d.inj h)
theorem mtL_rwA (ρ : Ren) (H : Heap) (f g : Nat → Bool) : mtL ρ H (rwA f) (rwA g) = (rwA f = rwA g) := propext mtL_bools
theorem mtL_flt (ρ : Ren) (H : Heap) (F G : Nat → Nat → Bool) : mtL ρ H (flt F) (flt G) = (flt F = flt G) := propext mtL_bools
theorem flt_ext {F G : Nat → Nat → Bool} (h : ∀ i j, i < 60 → j < 60 → F i j = G i j) : flt F = flt G := List.map_congr_left fun n hn => by
  have := List.mem_range.1 hn
  rw [h _ _ (by omega) (by omega)]
theorem mat_flt {F G : Nat → Nat → Bool} (h : matB F 60 = matB G 60) : flt F = flt G := flt_ext fun i j hi hj => by
  have h1 : (matB F 60)[i]? = (matB G 60)[i]? := by rw [h]
  rw [matB_get hi, matB_get hi] at h1
  have h2 : (vec 60 (F i))[j]? = (vec 60 (G i))[j]? := by rw [Option.some.inj h1]
  rw [vec_get hj, vec_get hj] at h2
  exact Option.some.inj h2
def okM (L : List Mk) : Prop := ∀ m ∈ L, chkR m = true
theorem rg_of {n : Int} (h : rgK n = true) : 0 ≤ n ∧ n ≤ 59 := by
  unfold rgK at h
  simpa using h
theorem okM.old {L : List Mk} (h : okM L) {m : Mk} (hm : m ∈ L) : 0 ≤ m.old ∧ m.old ≤ 59 := by
  have := h m hm
  unfold chkR at this
  rw [Bool.and_eq_true] at this
  exact rg_of this.1
theorem okM.nw {L : List Mk} (h : okM L) {m : Mk} (hm : m ∈ L) {x : Int} (hx : x ∈ m.nw) : 0 ≤ x ∧ x ≤ 59 := by
  have := h m hm
  unfold chkR at this
  rw [Bool.and_eq_true] at this
  exact rg_of (List.all_eq_true.1 this.2 x hx)
def goneAG : List AV → Option (Prop × AV)
  | [.d (.sl xs)] => some (xs = rows eM (dM xs) ∧ (dM xs).length ≤ 9223372036854775807 ∧ okM (dM xs), .agg (rwA fun j => goneK (dM xs) (j : Int)))
  | _ => none
def rchAG : List AV → Option (Prop × AV)
  | [.d (.sl xs)] => some (xs = rows eM (dM xs) ∧ (dM xs).length ≤ 9223372036854775807 ∧ smallM (dM xs) ∧ okM (dM xs), .agg (flt (rcK (dM xs))))
  | _ => none
def cycG : List AV → Option (Prop × AV)
  | [.d (.sl xs)] => some (xs = rows eM (dM xs) ∧ (dM xs).length ≤ 9223372036854775807 ∧ smallM (dM xs) ∧ okM (dM xs), .d (.bool (cycK (dM xs))))
  | _ => none
theorem gone_step {L : List Mk} {i : Nat} {m : Mk} (hm : L[i]? = some m) (h0 : 0 ≤ m.old) : rwA (setB (fun j => goneK (L.take i) (j : Int)) m.old.toNat true) = rwA fun j => goneK (L.take (i + 1)) (j : Int) := by
  unfold rwA
  refine List.map_congr_left fun j _ => ?_
  unfold setB goneK
  dsimp only
  rw [List.take_add_one, hm, List.any_append]
  by_cases h : j = m.old.toNat
  · rw [if_pos h]; simp [show m.old = (j : Int) by omega]
  · rw [if_neg h]; simp [show ¬ m.old = (j : Int) by omega]
theorem cyc_at {L : List Mk} {i : Nat} (hi : i < 60) (h : rcK L i i = true) : cycK L = true := by
  unfold cycK; rw [List.any_eq_true]; exact ⟨i, List.mem_range.2 hi, h⟩
theorem cyc_no {L : List Mk} (h : ∀ i, i < 60 → rcK L i i = false) : cycK L = false := by
  unfold cycK; rw [List.any_eq_false]; intro i hi; rw [h i (List.mem_range.1 hi)]; simp
theorem gone_no {L : List Mk} {n : Int} (h : ∀ m ∈ L, m.old ≠ n) : goneK L n = false := by
  unfold goneK; rw [List.any_eq_false]; intro m hm; simp [h m hm]

theorem chkK_meets : Meets Try.prog 43 (Spec.pure chkKG) := by
 refine meets_fun (E_conK.at_ 35) Try.func43 rfl rfl rfl ?_
 intro args p r hg hp
 unfold chkKG at hg
 split at hg
 ·rename_i a xs
  simp only [Option.some.injEq, Prod.mk.injEq] at hg
  obtain ⟨rfl, rfl⟩ := hg
  obtain ⟨he, hl⟩ := hp
  generalize dI xs = l at *
  subst he
  have hT : (E_conK).X = T := rfl
  have hx0 := And.intro @dec_t (And.intro @dec_f (And.intro @dI_rows @Try.results43))
  have hx := hx0
  refine ⟨by rfl, ?_⟩
  intro F W0 hnp hmk
  refine vc_seq_k fun N1 h1 => ?_
  refine u_reg ?_
  try refine lg_mk ?_
  refine u_bx ?_
  refine u_mv ?_
  refine lg_nil ?_
  refine h1 _ ?_; clear h1; try clear N1
  refine vc_seq_k fun N2 h2 => ?_
  refine vc_seq_k fun N3 h3 => ?_
  cases hrg : rgK a
  ·have hrg1 := hrg
   have hx := And.intro @hrg hx0
   refine u_reg ?_
   try refine lg_mk ?_
   refine u_pt ?_
   refine u_ld ?_
   have hc := call_rule (E := (E_conK.at_ 35)) (f := 40) (sp := Spec.pure rgG) rfl
   have hs := @rgG.eq_1
   refine u_cp ?_
   refine u_un ?_
   refine u_mv ?_
   refine g_pt ?_
   refine g_ld ?_
   have hc := call_rule (E := (E_conK.at_ 35)) (f := 56) (sp := Spec.pure conKG) rfl
   have hs := @conKG.eq_1
   refine g_cp ?_
   refine u_pk ?_
   refine lg_nil ?_
   have hx := hx0
   refine h3 _ ?_; clear h3; try clear N3
   refine u_cond (fun hb4 => ?_) (fun hb4 => ?_)
   ·refine vc_seq_k fun N5 h5 => ?_
    refine u_reg ?_
    try refine lg_mk ?_
    refine u_mv ?_
    refine lg_nil ?_
    refine h5 _ ?_; clear h5; try clear N5
    refine vc_ret ?_
    try simp only [k_rules]
    rw [chkK_3 (m := ⟨a, l⟩) (by unfold chkR; rw [hrg]; rfl)]
    refine fin2_ ?_
    exact cl_
   ·first | omega | exact absurd trivial hb4 | contradiction | (simp_all; done)
  ·have hrg1 := hrg
   have hx := And.intro @hrg hx0
   refine u_reg ?_
   try refine lg_mk ?_
   refine u_pt ?_
   refine u_ld ?_
   have hc := call_rule (E := (E_conK.at_ 35)) (f := 40) (sp := Spec.pure rgG) rfl
   have hs := @rgG.eq_1
   refine u_cp ?_
   refine u_un ?_
   refine u_mv ?_
   refine g_pt ?_
   refine g_ld ?_
   have hc := call_rule (E := (E_conK.at_ 35)) (f := 56) (sp := Spec.pure conKG) rfl
   have hs := @conKG.eq_1
   refine g_cp ?_
   refine u_pk ?_
   refine lg_nil ?_
   have hx := hx0
   refine h3 _ ?_; clear h3; try clear N3
   refine u_cond (fun hb6 => ?_) (fun hb6 => ?_)
   ·refine vc_seq_k fun N7 h7 => ?_
    refine u_reg ?_
    try refine lg_mk ?_
    refine u_mv ?_
    refine lg_nil ?_
    refine h7 _ ?_; clear h7; try clear N7
    refine vc_ret ?_
    try simp only [k_rules]
    rw [chkK_3 (m := ⟨a, l⟩) (chk_t hrg (by have := hb6; simpa using this))]
    refine fin2_ ?_
    exact cl_
   ·have hok := chk_f hrg (by have := hb6; simpa using this)
    refine vc_skip ?_
    try simp only [k_rules]
    refine h2 _ ?_; clear h2; try clear N2
    refine vc_seq_k fun N8 h8 => ?_
    refine vc_seq_k fun N9 h9 => ?_
    refine u_reg ?_
    try refine lg_mk ?_
    refine u_pt ?_
    refine u_ld ?_
    refine u_ln ?_
    refine u_mv ?_
    refine lg_nil ?_
    refine h9 _ ?_; clear h9; try clear N9
    refine vc_block ?_
    refine vc_loop_mk (σ := Nat) (fun s => (fun k => k ≤ l.length ∧ ∀ j, j < k → 0 < j → l.getD (j - 1) 0 < l.getD j 0) s)
     (fun s => (fun k => [(1, .ptr 0 0 0), (15, .d (.sl (rows eI l))), (16, .d (.int .i64 (l.length : Nat))), (17, .d (.int .i64 (k : Nat)))]) s)
     (fun s => (fun k => [some (.one 52 [.d (.int .i64 a), .d (.sl (rows eI l))])]) s) (fun s => (fun k => l.length - k) s) hnp 0 ?_ [some 0] ?_ ?_
    ·dsimp only
     exact ⟨by omega, fun j hj => by omega⟩
    ·dsimp only
     refine ⟨by rfl, ?_, ?_⟩
     ·refine fin_ ?_
      exact cl_
     ·refine fin_ ?_
      exact cl_
    ·rintro k hinv N10 h10
     dsimp only at hinv ⊢
     obtain ⟨k1, k2⟩ := hinv
     refine vc_seq_k fun N11 h11 => ?_
     refine u_reg ?_
     try refine lg_mk ?_
     refine u_bn ?_
     refine lg_nil ?_
     refine h11 _ ?_; clear h11; try clear N11
     refine vc_seq_k fun N12 h12 => ?_
     refine u_cond (fun hb13 => ?_) (fun hb13 => ?_)
     ·obtain ⟨x, hxe⟩ := getE (l := l) (i := k) (by omega)
      have hxd : l.getD k 0 = x := getD_at hxe
      refine vc_skip ?_
      try simp only [k_rules]
      refine h12 _ ?_; clear h12; try clear N12
      refine vc_seq_k fun N14 h14 => ?_
      refine vc_block ?_
      refine vc_seq_k fun N15 h15 => ?_
      have hx := And.intro @hxe (And.intro @eI.eq_1 hx0)
      refine u_reg ?_
      try refine lg_mk ?_
      refine u_mv ?_
      refine u_pt ?_
      refine u_ld ?_
      refine u_mv ?_
      refine u_mv ?_
      refine lg_nil ?_
      have hx := hx0
      refine h15 _ ?_; clear h15; try clear N15
      refine vc_seq_k fun N16 h16 => ?_
      rcases Nat.eq_zero_or_pos k with hk0 | hk0
      ·have hye := hxe
       have hgt : decide ((0 : Int) < (k : Int)) = false := decide_eq_false (by omega)
       have hpm := hxe
       have hx := And.intro @hxe (And.intro @hye (And.intro @hgt (And.intro @hpm (And.intro @eI.eq_1 hx0))))
       refine u_reg ?_
       try refine lg_mk ?_
       refine u_mv ?_
       refine u_bn ?_
       refine u_mv ?_
       refine g_mv ?_
       refine g_pt ?_
       refine g_ld ?_
       refine g_mv ?_
       refine g_bn ?_
       refine g_pt ?_
       refine g_ld ?_
       refine g_bn ?_
       refine u_pk ?_
       refine lg_nil ?_
       have hx := hx0
       refine h16 _ ?_; clear h16; try clear N16
       refine u_cond (fun hb17 => ?_) (fun hb17 => ?_)
       ·first | omega | exact absurd trivial hb17 | contradiction | (simp_all; done)
       ·refine vc_skip ?_
        try simp only [k_rules]
        refine h14 _ ?_; clear h14; try clear N14
        refine u_reg ?_
        try refine lg_mk ?_
        refine u_bn ?_
        refine u_mv ?_
        refine lg_nil ?_
        refine h10 _ ⟨k + 1, ?_, ?_, [some 0], ?_⟩
        ·dsimp only
         exact ⟨by omega, lt_succ3 k2 (fun h => by omega)⟩
        ·dsimp only
         omega
        ·dsimp only
         refine ⟨by rfl, ?_, ?_⟩
         ·refine fin_ ?_
          exact cl_
         ·refine fin_ ?_
          exact cl_
      ·obtain ⟨y, hye⟩ := getE (l := l) (i := k - 1) (by omega)
       have hpm : ((k : Int) - 1).toNat = k - 1 := by omega
       have hgt : decide ((0 : Int) < (k : Int)) = true := decide_eq_true (by omega)
       have hx := And.intro @hxe (And.intro @hye (And.intro @hgt (And.intro @hpm (And.intro @eI.eq_1 hx0))))
       refine u_reg ?_
       try refine lg_mk ?_
       refine u_mv ?_
       refine u_bn ?_
       refine u_mv ?_
       refine g_mv ?_
       refine g_pt ?_
       refine g_ld ?_
       refine g_mv ?_
       refine g_bn ?_
       refine g_pt ?_
       refine g_ld ?_
       refine g_bn ?_
       refine u_pk ?_
       refine lg_nil ?_
       have hx := hx0
       refine h16 _ ?_; clear h16; try clear N16
       refine u_cond (fun hb18 => ?_) (fun hb18 => ?_)
       ·refine vc_seq_k fun N19 h19 => ?_
        refine u_reg ?_
        try refine lg_mk ?_
        refine u_mv ?_
        refine lg_nil ?_
        refine h19 _ ?_; clear h19; try clear N19
        refine vc_ret ?_
        try simp only [k_rules]
        rw [chkK_5 (m := ⟨a, l⟩) hok (incB_no (l := l) (i := k) hk0 (by omega) (by rw [hxd, getD_at hye]; have := hb18; omega))]
        refine fin2_ ?_
        exact cl_
       ·refine vc_skip ?_
        try simp only [k_rules]
        refine h14 _ ?_; clear h14; try clear N14
        refine u_reg ?_
        try refine lg_mk ?_
        refine u_bn ?_
        refine u_mv ?_
        refine lg_nil ?_
        refine h10 _ ⟨k + 1, ?_, ?_, [some 0], ?_⟩
        ·dsimp only
         exact ⟨by omega, lt_succ3 k2 (fun h => by rw [hxd, getD_at hye]; have := hb18; omega)⟩
        ·dsimp only
         omega
        ·dsimp only
         refine ⟨by rfl, ?_, ?_⟩
         ·refine fin_ ?_
          exact cl_
         ·refine fin_ ?_
          exact cl_
     ·refine vc_exit ?_
      simp only [k_rules, Nat.reduceEqDiff, reduceIte, eq_self]
      refine h8 _ ?_; clear h8; try clear N8
      refine vc_seq_k fun N20 h20 => ?_
      refine u_reg ?_
      try refine lg_mk ?_
      refine u_mv ?_
      refine lg_nil ?_
      refine h20 _ ?_; clear h20; try clear N20
      refine vc_ret ?_
      try simp only [k_rules]
      rw [chkK_0 (m := ⟨a, l⟩) hok (incB_yes (l := l) (fun j hj h0 => k2 j (by omega) h0))]
      refine fin2_ ?_
      exact cl_
 ·cases hg

def E_chkK : Env Try.prog := E_conK.add 43 (Spec.pure chkKG) chkK_meets (by kernel_rfl)

theorem lessK_meets : Meets Try.prog 38 (Spec.pure lessKG) := by
 refine meets_fun (E_chkK.at_ 59) Try.func38 rfl rfl rfl ?_
 intro args p r hg hp
 unfold lessKG at hg
 split at hg
 ·rename_i a xs b ys
  simp only [Option.some.injEq, Prod.mk.injEq] at hg
  obtain ⟨rfl, rfl⟩ := hg
  obtain ⟨he, hl, he2, hm⟩ := hp
  generalize dI xs = l at *
  generalize dI ys = m at *
  subst he he2
  have hT : (E_chkK).X = T := rfl
  have hx0 := @Try.results38
  have hx := hx0
  refine ⟨by rfl, ?_⟩
  intro F W0 hnp hmk
  refine vc_seq_k fun N1 h1 => ?_
  refine u_reg ?_
  try refine lg_mk ?_
  refine u_bx ?_
  refine u_bx ?_
  refine u_mv ?_
  refine lg_nil ?_
  refine h1 _ ?_; clear h1; try clear N1
  refine vc_seq_k fun N2 h2 => ?_
  refine vc_seq_k fun N3 h3 => ?_
  refine u_reg ?_
  try refine lg_mk ?_
  refine u_pt ?_
  refine u_ld ?_
  refine u_pt ?_
  refine u_ld ?_
  refine u_bn ?_
  refine lg_nil ?_
  refine h3 _ ?_; clear h3; try clear N3
  refine u_cond (fun hb4 => ?_) (fun hb4 => ?_)
  ·refine vc_seq_k fun N5 h5 => ?_
   refine u_reg ?_
   try refine lg_mk ?_
   refine u_pt ?_
   refine u_ld ?_
   refine u_pt ?_
   refine u_ld ?_
   refine u_bn ?_
   refine u_mv ?_
   refine lg_nil ?_
   refine h5 _ ?_; clear h5; try clear N5
   refine vc_ret ?_
   try simp only [k_rules]
   have hne : a ≠ b := by have := hb4; omega
   have hr : decide (cmpK ⟨a, l⟩ ⟨b, m⟩ < 0) = decide (a < b) := by
    refine decide_eq_decide.2 ?_
    unfold cmpK
    rcases cmpI_or a b with ⟨h, e⟩ | ⟨h, e⟩ | ⟨h, e⟩
    ·rw [e, if_pos (by decide)]; omega
    ·exact absurd h hne
    ·rw [e, if_pos (by decide)]; omega
   rw [hr]
   refine fin2_ ?_
   exact cl_
  ·refine vc_skip ?_
   try simp only [k_rules]
   refine h2 _ ?_; clear h2; try clear N2
   refine vc_seq_k fun N6 h6 => ?_
   refine vc_seq_k fun N7 h7 => ?_
   refine u_reg ?_
   try refine lg_mk ?_
   refine u_mv ?_
   refine lg_nil ?_
   refine h7 _ ?_; clear h7; try clear N7
   refine vc_block ?_
   refine vc_loop_mk (σ := Nat) (fun s => (fun k => k ≤ l.length ∧ k ≤ m.length ∧ cmpL l m = cmpL (l.drop k) (m.drop k)) s)
    (fun s => (fun k => [(2, .ptr 0 0 0), (3, .ptr 1 0 0), (5, .d (.int .i64 (k : Nat)))]) s)
    (fun s => (fun k => [some (.one 52 [.d (.int .i64 a), .d (.sl (rows eI l))]), some (.one 52 [.d (.int .i64 b), .d (.sl (rows eI m))])]) s) (fun s => (fun k => l.length - k) s) hnp 0 ?_ [some 0, some 1] ?_ ?_
   ·dsimp only
    exact ⟨by omega, by omega, rfl⟩
   ·dsimp only
    refine ⟨by rfl, ?_, ?_⟩
    ·refine fin_ ?_
     exact cl_
    ·refine fin_ ?_
     exact cl_
   ·rintro k hinv N8 h8
    dsimp only at hinv ⊢
    obtain ⟨k1, k2, k3⟩ := hinv
    refine vc_seq_k fun N9 h9 => ?_
    refine vc_seq_k fun N10 h10 => ?_
    refine u_reg ?_
    try refine lg_mk ?_
    refine u_mv ?_
    refine u_pt ?_
    refine u_ld ?_
    refine u_ln ?_
    refine u_bn ?_
    refine u_mv ?_
    refine g_mv ?_
    refine g_pt ?_
    refine g_ld ?_
    refine g_ln ?_
    refine g_bn ?_
    refine u_pk ?_
    refine lg_nil ?_
    refine h10 _ ?_; clear h10; try clear N10
    refine u_cond (fun hb11 => ?_) (fun hb11 => ?_)
    ·have h27 := hb11
     try simp only [Bool.and_eq_true, decide_eq_true_eq] at h27
     obtain ⟨x, hxe⟩ := getE (l := l) (i := k) (by omega)
     obtain ⟨y, hye⟩ := getE (l := m) (i := k) (by omega)
     refine vc_skip ?_
     try simp only [k_rules]
     refine h9 _ ?_; clear h9; try clear N9
     refine vc_seq_k fun N12 h12 => ?_
     refine vc_block ?_
     refine vc_seq_k fun N13 h13 => ?_
     have hx := And.intro @hxe (And.intro @hye (And.intro @eI.eq_1 hx0))
     refine u_reg ?_
     try refine lg_mk ?_
     refine u_pt ?_
     refine u_ld ?_
     refine u_mv ?_
     refine u_pt ?_
     refine u_ld ?_
     refine u_pt ?_
     refine u_ld ?_
     refine u_mv ?_
     refine u_pt ?_
     refine u_ld ?_
     refine u_bn ?_
     refine lg_nil ?_
     have hx := hx0
     refine h13 _ ?_; clear h13; try clear N13
     refine u_cond (fun hb14 => ?_) (fun hb14 => ?_)
     ·refine vc_seq_k fun N15 h15 => ?_
      have hx := And.intro @hxe (And.intro @hye (And.intro @eI.eq_1 hx0))
      refine u_reg ?_
      try refine lg_mk ?_
      refine u_pt ?_
      refine u_ld ?_
      refine u_mv ?_
      refine u_pt ?_
      refine u_ld ?_
      refine u_pt ?_
      refine u_ld ?_
      refine u_mv ?_
      refine u_pt ?_
      refine u_ld ?_
      refine u_bn ?_
      refine u_mv ?_
      refine lg_nil ?_
      have hx := hx0
      refine h15 _ ?_; clear h15; try clear N15
      refine vc_ret ?_
      try simp only [k_rules]
      have hab : a = b := by have := hb4; omega
      have hne : x ≠ y := by have := hb14; omega
      have hr : decide (cmpK ⟨a, l⟩ ⟨b, m⟩ < 0) = decide (x < y) := by
       refine decide_eq_decide.2 ?_
       unfold cmpK
       rw [hab, cmpI_self, if_neg (by decide), k3, cmpL_at hxe hye]
       rcases cmpI_or x y with ⟨h, e⟩ | ⟨h, e⟩ | ⟨h, e⟩
       ·rw [e, if_pos (by decide)]; omega
       ·exact absurd h hne
       ·rw [e, if_pos (by decide)]; omega
      rw [hr]
      refine fin2_ ?_
      exact cl_
     ·refine vc_skip ?_
      try simp only [k_rules]
      refine h12 _ ?_; clear h12; try clear N12
      refine u_reg ?_
      try refine lg_mk ?_
      refine u_mv ?_
      refine u_bn ?_
      refine u_mv ?_
      refine lg_nil ?_
      refine h8 _ ⟨k + 1, ?_, ?_, [some 0, some 1], ?_⟩
      ·dsimp only
       exact ⟨by omega, by omega, by rw [k3, cmpL_at hxe hye, if_neg (by rw [Ne, cmpI_zero]; have := hb14; omega)]⟩
      ·dsimp only
       omega
      ·dsimp only
       refine ⟨by rfl, ?_, ?_⟩
       ·refine fin_ ?_
        exact cl_
       ·refine fin_ ?_
        exact cl_
    ·refine vc_exit ?_
     simp only [k_rules, Nat.reduceEqDiff, reduceIte, eq_self]
     refine h6 _ ?_; clear h6; try clear N6
     refine vc_seq_k fun N16 h16 => ?_
     refine u_reg ?_
     try refine lg_mk ?_
     refine u_pt ?_
     refine u_ld ?_
     refine u_ln ?_
     refine u_pt ?_
     refine u_ld ?_
     refine u_ln ?_
     refine u_bn ?_
     refine u_mv ?_
     refine lg_nil ?_
     refine h16 _ ?_; clear h16; try clear N16
     refine vc_ret ?_
     try simp only [k_rules]
     have hab : a = b := by have := hb4; omega
     have h27 := hb11
     have hr : decide (cmpK ⟨a, l⟩ ⟨b, m⟩ < 0) = decide ((l.length : Int) < (m.length : Int)) := by
      refine decide_eq_decide.2 ?_
      unfold cmpK
      rw [hab, cmpI_self, if_neg (by decide), k3]
      by_cases h1 : k < l.length
      ·rw [cmpL_gt h1 (by omega)]; omega
      ·by_cases h2 : k < m.length
       ·rw [cmpL_lt (by omega) h2]; omega
       ·rw [cmpL_eq (by omega) (by omega)]; omega
     rw [hr]
     refine fin2_ ?_
     exact cl_
 ·cases hg

def E_lessK : Env Try.prog := E_chkK.add 38 (Spec.pure lessKG) lessK_meets (by kernel_rfl)

theorem goneK_meets : Meets Try.prog 26 (Spec.pure goneG) := by
 refine meets_fun (E_lessK.at_ 19) Try.func26 rfl rfl rfl ?_
 intro args p r hg hp
 unfold goneG at hg
 split at hg
 ·rename_i xs n
  simp only [Option.some.injEq, Prod.mk.injEq] at hg
  obtain ⟨rfl, rfl⟩ := hg
  obtain ⟨he, hl⟩ := hp
  generalize dM xs = l at *
  subst he
  have hT : (E_lessK).X = T := rfl
  have hx0 := And.intro @rect_eM @Try.results26
  have hx := hx0
  refine ⟨by rfl, ?_⟩
  intro F W0 hnp hmk
  refine vc_seq_k fun N1 h1 => ?_
  refine u_reg ?_
  try refine lg_mk ?_
  refine u_mv ?_
  refine lg_nil ?_
  refine h1 _ ?_; clear h1; try clear N1
  refine vc_seq_k fun N2 h2 => ?_
  refine vc_seq_k fun N3 h3 => ?_
  refine u_reg ?_
  try refine lg_mk ?_
  refine u_mv ?_
  refine lg_nil ?_
  refine h3 _ ?_; clear h3; try clear N3
  refine vc_block ?_
  refine vc_loop_mk (σ := Nat) (fun s => (fun k => k ≤ l.length ∧ ∀ m ∈ l.take k, m.old ≠ n) s)
   (fun s => (fun k => [(0, .d (.sl (rows eM l))), (1, .d (.int .i64 n)), (5, .d (.int .i64 (k : Nat)))]) s)
   (fun s => (fun k => []) s) (fun s => (fun k => l.length - k) s) hnp 0 ?_ [] ?_ ?_
  ·dsimp only
   simp
  ·dsimp only
   refine ⟨by rfl, ?_, ?_⟩
   ·refine fin_ ?_
    exact cl_
   ·refine fin_ ?_
    exact cl_
  ·rintro k hinv N4 h4
   dsimp only at hinv ⊢
   obtain ⟨k1, k2⟩ := hinv
   refine vc_seq_k fun N5 h5 => ?_
   refine vc_seq_k fun N6 h6 => ?_
   refine u_reg ?_
   try refine lg_mk ?_
   refine u_mv ?_
   refine u_mv ?_
   refine u_ln ?_
   refine u_bn ?_
   refine lg_nil ?_
   refine h6 _ ?_; clear h6; try clear N6
   refine u_cond (fun hb7 => ?_) (fun hb7 => ?_)
   ·obtain ⟨m, hme⟩ := getE (l := l) (i := k) (by omega)
    refine vc_skip ?_
    try simp only [k_rules]
    refine h5 _ ?_; clear h5; try clear N5
    refine vc_seq_k fun N8 h8 => ?_
    refine vc_block ?_
    refine vc_seq_k fun N9 h9 => ?_
    have hx := And.intro @hme (And.intro @eM.eq_1 hx0)
    refine u_reg ?_
    try refine lg_mk ?_
    refine u_mv ?_
    refine u_mv ?_
    refine u_pt ?_
    refine u_pt ?_
    refine u_ld ?_
    refine u_mv ?_
    refine u_bn ?_
    refine lg_nil ?_
    have hx := hx0
    refine h9 _ ?_; clear h9; try clear N9
    refine u_cond (fun hb10 => ?_) (fun hb10 => ?_)
    ·refine vc_seq_k fun N11 h11 => ?_
     refine u_reg ?_
     try refine lg_mk ?_
     refine u_mv ?_
     refine lg_nil ?_
     refine h11 _ ?_; clear h11; try clear N11
     refine vc_ret ?_
     try simp only [k_rules]
     have hr : goneK l n = true := goneK_mem.2 ⟨m, mem_at hme, by have := hb10; omega⟩
     rw [hr]
     refine fin2_ ?_
     exact cl_
    ·refine vc_skip ?_
     try simp only [k_rules]
     refine h8 _ ?_; clear h8; try clear N8
     refine u_reg ?_
     try refine lg_mk ?_
     refine u_mv ?_
     refine u_bn ?_
     refine u_mv ?_
     refine lg_nil ?_
     refine h4 _ ⟨k + 1, ?_, ?_, [], ?_⟩
     ·dsimp only
      refine ⟨by omega, fun y hy => ?_⟩
      rw [List.take_add_one, hme] at hy
      rcases List.mem_append.1 hy with hy | hy
      ·exact k2 y hy
      ·simp only [Option.toList_some, List.mem_singleton] at hy; rw [hy]; have := hb10; omega
     ·dsimp only
      omega
     ·dsimp only
      refine ⟨by rfl, ?_, ?_⟩
      ·refine fin_ ?_
       exact cl_
      ·refine fin_ ?_
       exact cl_
   ·refine vc_exit ?_
    simp only [k_rules, Nat.reduceEqDiff, reduceIte, eq_self]
    refine h2 _ ?_; clear h2; try clear N2
    refine vc_seq_k fun N12 h12 => ?_
    refine u_reg ?_
    try refine lg_mk ?_
    refine u_mv ?_
    refine lg_nil ?_
    refine h12 _ ?_; clear h12; try clear N12
    refine vc_ret ?_
    try simp only [k_rules]
    have hr : goneK l n = false := gone_no (by rw [List.take_of_length_le (by omega)] at k2; exact k2)
    rw [hr]
    refine fin2_ ?_
    exact cl_
 ·cases hg

def E_goneK : Env Try.prog := E_lessK.add 26 (Spec.pure goneG) goneK_meets (by kernel_rfl)

theorem goneA_meets : Meets Try.prog 41 (Spec.pure goneAG) := by
 refine meets_fun (E_goneK.at_ 17) Try.func41 rfl rfl rfl ?_
 intro args p r hg hp
 unfold goneAG at hg
 split at hg
 ·rename_i xs
  simp only [Option.some.injEq, Prod.mk.injEq] at hg
  obtain ⟨rfl, rfl⟩ := hg
  obtain ⟨he, hl, hok⟩ := hp
  generalize dM xs = l at *
  subst he
  have hT : (E_goneK).X = T := rfl
  have hx0 := And.intro @mtL_rwA (And.intro @rect_eM (And.intro @rwA_len (And.intro @rwA_take (And.intro @rwA_spl @Try.results41))))
  have hx := hx0
  refine ⟨by rfl, ?_⟩
  intro F W0 hnp hmk
  refine vc_seq_k fun N1 h1 => ?_
  refine u_reg ?_
  try refine lg_mk ?_
  refine lg_sem (by rfl) (sem_allocOne (by first | (simp only [wB, eq_self, Nat.reduceEqDiff, reduceIte, env_rules, tys, hT, tiAgg]; done) | (simp only [wB, eq_self, Nat.reduceEqDiff, reduceIte, env_rules, tys, hT, tiAgg]; rfl)) rwA_zero (by simp) (by decide) ?_)
  try simp only [wB, eq_self, Nat.reduceEqDiff, reduceIte, wL, Int.toNat_natCast, Int.reduceToNat, Nat.reduceAdd, Nat.reduceMul, Nat.reduceSub, Nat.reduceLeDiff, hx]
  refine lg_nil ?_
  refine h1 _ ?_; clear h1; try clear N1
  refine vc_seq_k fun N2 h2 => ?_
  refine u_reg ?_
  try refine lg_mk ?_
  refine lg_sem (by rfl) (sem_allocOne (by first | (simp only [wB, eq_self, Nat.reduceEqDiff, reduceIte, env_rules, tys, hT, tiAgg]; done) | (simp only [wB, eq_self, Nat.reduceEqDiff, reduceIte, env_rules, tys, hT, tiAgg]; rfl)) rwA_zero (by simp) (by decide) ?_)
  try simp only [wB, eq_self, Nat.reduceEqDiff, reduceIte, wL, Int.toNat_natCast, Int.reduceToNat, Nat.reduceAdd, Nat.reduceMul, Nat.reduceSub, Nat.reduceLeDiff, hx]
  refine lg_nil ?_
  refine h2 _ ?_; clear h2; try clear N2
  refine vc_seq_k fun N3 h3 => ?_
  refine vc_seq_k fun N4 h4 => ?_
  refine u_reg ?_
  try refine lg_mk ?_
  refine u_mv ?_
  refine u_ln ?_
  refine u_mv ?_
  refine lg_nil ?_
  refine h4 _ ?_; clear h4; try clear N4
  refine vc_block ?_
  refine vc_loop_mk (σ := Nat) (fun s => (fun i => i ≤ l.length) s)
   (fun s => (fun i => [(2, .ptr 0 0 0), (3, .ptr 1 0 0), (6, .d (.sl (rows eM l))), (7, .d (.int .i64 (l.length : Nat))), (8, .d (.int .i64 (i : Nat)))]) s)
   (fun s => (fun i => [some (.one 64 (rwA fun _ => false)), some (.one 64 (rwA fun j => goneK (l.take i) (j : Int)))]) s) (fun s => (fun i => l.length - i) s) hnp 0 ?_ [some 0, some 1] ?_ ?_
  ·dsimp only
   omega
  ·dsimp only
   refine ⟨by rfl, ?_, ?_⟩
   ·refine fin_ ?_
    exact cl_
   ·refine fin_ ?_
    exact cl_
  ·rintro i hinv N5 h5
   dsimp only at hinv ⊢
   have i1 := hinv
   refine vc_seq_k fun N6 h6 => ?_
   refine u_reg ?_
   try refine lg_mk ?_
   refine u_bn ?_
   refine lg_nil ?_
   refine h6 _ ?_; clear h6; try clear N6
   refine vc_seq_k fun N7 h7 => ?_
   refine u_cond (fun hb8 => ?_) (fun hb8 => ?_)
   ·obtain ⟨m, hme⟩ := getE (l := l) (i := i) (by omega)
    obtain ⟨ho1, ho2⟩ := hok.old (mem_at hme)
    have hst := fun f b => rwA_set (f := f) (b := b) (k := m.old.toNat) (by omega)
    refine vc_skip ?_
    try simp only [k_rules]
    refine h7 _ ?_; clear h7; try clear N7
    refine vc_seq_k fun N9 h9 => ?_
    refine vc_block ?_
    refine vc_seq_k fun N10 h10 => ?_
    have hx := And.intro @hme (And.intro @eM.eq_1 hx0)
    refine u_reg ?_
    try refine lg_mk ?_
    refine u_pt ?_
    refine u_ld ?_
    refine u_al ?_
    refine u_st ?_
    refine lg_nil ?_
    have hx := hx0
    refine h10 _ ?_; clear h10; try clear N10
    have hx := And.intro @hst hx0
    refine u_reg ?_
    try refine lg_mk ?_
    refine u_pt ?_
    refine u_ld ?_
    refine u_pt ?_
    refine u_st ?_
    refine lg_nil ?_
    have hx := hx0
    refine h9 _ ?_; clear h9; try clear N9
    refine u_reg ?_
    try refine lg_mk ?_
    refine u_bn ?_
    refine u_mv ?_
    refine lg_nil ?_
    refine h5 _ ⟨i + 1, ?_, ?_, [some 0, some 1], ?_⟩
    ·dsimp only
     omega
    ·dsimp only
     omega
    ·dsimp only
     refine ⟨by rfl, ?_, ?_⟩
     ·refine fin_ ?_
      (repeat' apply And.intro) <;> (first | (first | (with_reducible rfl) | exact True.intro | (rw [gone_step hme ho1]; done)) | exact cl_)
     ·refine fin_ ?_
      (repeat' apply And.intro) <;> (first | (first | (with_reducible rfl) | exact True.intro | (rw [gone_step hme ho1]; done)) | exact cl_)
   ·refine vc_exit ?_
    simp only [k_rules, Nat.reduceEqDiff, reduceIte, eq_self]
    refine h3 _ ?_; clear h3; try clear N3
    refine vc_seq_k fun N11 h11 => ?_
    refine u_reg ?_
    try refine lg_mk ?_
    refine u_ld ?_
    refine u_st ?_
    refine lg_nil ?_
    refine h11 _ ?_; clear h11; try clear N11
    refine vc_ret ?_
    try simp only [k_rules]
    obtain rfl : i = l.length := by omega
    rw [List.take_length]
    refine fin2_ ?_
    exact cl_
 ·cases hg

def E_goneA : Env Try.prog := E_goneK.add 41 (Spec.pure goneAG) goneA_meets (by kernel_rfl)

theorem rchA_meets : Meets Try.prog 42 (Spec.pure rchAG) := by
 refine meets_fun (E_goneA.at_ 67) Try.func42 rfl rfl rfl ?_
 intro args p r hg hp
 unfold rchAG at hg
 split at hg
 ·rename_i xs
  simp only [Option.some.injEq, Prod.mk.injEq] at hg
  obtain ⟨rfl, rfl⟩ := hg
  obtain ⟨he, hl, hsm, hok⟩ := hp
  generalize dM xs = l at *
  subst he
  have hT : (E_goneA).X = T := rfl
  have hx0 := And.intro @mtL_flt (And.intro @rect_eM (And.intro @flt_len (And.intro @flt_take (And.intro @flt_spl (And.intro @dec_t (And.intro @dec_f @Try.results42))))))
  have hx := hx0
  refine ⟨by rfl, ?_⟩
  intro F W0 hnp hmk
  refine vc_seq_k fun N1 h1 => ?_
  refine u_reg ?_
  try refine lg_mk ?_
  refine lg_sem (by rfl) (sem_allocOne (by first | (simp only [wB, eq_self, Nat.reduceEqDiff, reduceIte, env_rules, tys, hT, tiAgg]; done) | (simp only [wB, eq_self, Nat.reduceEqDiff, reduceIte, env_rules, tys, hT, tiAgg]; rfl)) flt_zero (by simp) (by decide) ?_)
  try simp only [wB, eq_self, Nat.reduceEqDiff, reduceIte, wL, Int.toNat_natCast, Int.reduceToNat, Nat.reduceAdd, Nat.reduceMul, Nat.reduceSub, Nat.reduceLeDiff, hx]
  refine lg_nil ?_
  refine h1 _ ?_; clear h1; try clear N1
  refine vc_seq_k fun N2 h2 => ?_
  refine u_reg ?_
  try refine lg_mk ?_
  refine lg_sem (by rfl) (sem_allocOne (by first | (simp only [wB, eq_self, Nat.reduceEqDiff, reduceIte, env_rules, tys, hT, tiAgg]; done) | (simp only [wB, eq_self, Nat.reduceEqDiff, reduceIte, env_rules, tys, hT, tiAgg]; rfl)) flt_zero (by simp) (by decide) ?_)
  try simp only [wB, eq_self, Nat.reduceEqDiff, reduceIte, wL, Int.toNat_natCast, Int.reduceToNat, Nat.reduceAdd, Nat.reduceMul, Nat.reduceSub, Nat.reduceLeDiff, hx]
  refine lg_nil ?_
  refine h2 _ ?_; clear h2; try clear N2
  refine vc_seq_k fun N3 h3 => ?_
  refine vc_seq_k fun N4 h4 => ?_
  refine u_reg ?_
  try refine lg_mk ?_
  refine u_mv ?_
  refine u_ln ?_
  refine u_mv ?_
  refine lg_nil ?_
  refine h4 _ ?_; clear h4; try clear N4
  refine vc_block ?_
  refine vc_loop_mk (σ := Nat) (fun s => (fun i => i ≤ l.length) s)
   (fun s => (fun i => [(0, .d (.sl (rows eM l))), (2, .ptr 0 0 0), (3, .ptr 1 0 0), (11, .d (.sl (rows eM l))), (12, .d (.int .i64 (l.length : Nat))), (13, .d (.int .i64 (i : Nat)))]) s)
   (fun s => (fun i => [some (.one 66 (flt (fun _ _ => false))), some (.one 66 (flt (m0P l i 0)))]) s) (fun s => (fun i => l.length - i) s) hnp 0 ?_ [some 0, some 1] ?_ ?_
  ·dsimp only
   omega
  ·dsimp only
   refine ⟨by rfl, ?_, ?_⟩
   ·refine fin_ ?_
    (repeat' apply And.intro) <;> (first | (first | (with_reducible rfl) | exact True.intro | (rw [m0P_start]; done)) | exact cl_)
   ·refine fin_ ?_
    (repeat' apply And.intro) <;> (first | (first | (with_reducible rfl) | exact True.intro | (rw [m0P_start]; done)) | exact cl_)
  ·rintro i hinv N5 h5
   dsimp only at hinv ⊢
   have i1 := hinv
   refine vc_seq_k fun N6 h6 => ?_
   refine u_reg ?_
   try refine lg_mk ?_
   refine u_bn ?_
   refine lg_nil ?_
   refine h6 _ ?_; clear h6; try clear N6
   refine vc_seq_k fun N7 h7 => ?_
   refine u_cond (fun hb8 => ?_) (fun hb8 => ?_)
   ·obtain ⟨m, hme⟩ := getE (l := l) (i := i) (by omega)
    obtain ⟨ho1, ho2⟩ := hok.old (mem_at hme)
    have hml := hsm m (mem_at hme)
    refine vc_skip ?_
    try simp only [k_rules]
    refine h7 _ ?_; clear h7; try clear N7
    refine vc_seq_k fun N9 h9 => ?_
    refine vc_block ?_
    refine vc_seq_k fun N10 h10 => ?_
    have hx := And.intro @hme (And.intro @eM.eq_1 hx0)
    refine u_reg ?_
    try refine lg_mk ?_
    refine u_pt ?_
    refine u_ld ?_
    refine u_al ?_
    refine u_st ?_
    refine lg_nil ?_
    have hx := hx0
    refine h10 _ ?_; clear h10; try clear N10
    refine vc_seq_k fun N11 h11 => ?_
    refine u_reg ?_
    try refine lg_mk ?_
    refine u_pt ?_
    refine u_ld ?_
    refine u_ln ?_
    refine u_mv ?_
    refine lg_nil ?_
    refine h11 _ ?_; clear h11; try clear N11
    refine vc_block ?_
    refine vc_loop_mk (σ := Nat) (fun s => (fun k => k ≤ m.nw.length) s)
     (fun s => (fun k => [(0, .d (.sl (rows eM l))), (2, .ptr 0 0 0), (3, .ptr 1 0 0), (5, .ptr 2 0 0), (11, .d (.sl (rows eM l))), (12, .d (.int .i64 (l.length : Nat))), (13, .d (.int .i64 (i : Nat))), (18, .d (.sl (rows eI m.nw))), (19, .d (.int .i64 (m.nw.length : Nat))), (20, .d (.int .i64 (k : Nat)))]) s)
     (fun s => (fun k => [some (.one 66 (flt (fun _ _ => false))), some (.one 66 (flt (m0P l i k))), some (.one 52 [.d (.int .i64 m.old), .d (.sl (rows eI m.nw))])]) s) (fun s => (fun k => m.nw.length - k) s) hnp 0 ?_ [some 0, some 1, some 2] ?_ ?_
    ·dsimp only
     omega
    ·dsimp only
     refine ⟨by rfl, ?_, ?_⟩
     ·refine fin_ ?_
      exact cl_
     ·refine fin_ ?_
      exact cl_
    ·rintro k hinv N12 h12
     dsimp only at hinv ⊢
     have k1 := hinv
     refine vc_seq_k fun N13 h13 => ?_
     refine u_reg ?_
     try refine lg_mk ?_
     refine u_bn ?_
     refine lg_nil ?_
     refine h13 _ ?_; clear h13; try clear N13
     refine vc_seq_k fun N14 h14 => ?_
     refine u_cond (fun hb15 => ?_) (fun hb15 => ?_)
     ·obtain ⟨x, hxe⟩ := getE (l := m.nw) (i := k) (by omega)
      obtain ⟨hx1, hx2⟩ := hok.nw (mem_at hme) (mem_at hxe)
      have hst := fun F b => flt_set (F := F) (b := b) (i := m.old.toNat) (j := x.toNat) (by omega) (by omega)
      refine vc_skip ?_
      try simp only [k_rules]
      refine h14 _ ?_; clear h14; try clear N14
      refine vc_seq_k fun N16 h16 => ?_
      refine vc_block ?_
      refine vc_seq_k fun N17 h17 => ?_
      have hx := And.intro @hxe (And.intro @eI.eq_1 hx0)
      refine u_reg ?_
      try refine lg_mk ?_
      refine u_pt ?_
      refine u_ld ?_
      refine u_mv ?_
      refine lg_nil ?_
      have hx := hx0
      refine h17 _ ?_; clear h17; try clear N17
      have hx := And.intro @hst hx0
      refine u_reg ?_
      try refine lg_mk ?_
      refine u_pt ?_
      refine u_ld ?_
      refine u_mv ?_
      refine u_pt ?_
      refine u_pt ?_
      refine u_st ?_
      refine lg_nil ?_
      have hx := hx0
      refine h16 _ ?_; clear h16; try clear N16
      refine u_reg ?_
      try refine lg_mk ?_
      refine u_bn ?_
      refine u_mv ?_
      refine lg_nil ?_
      refine h12 _ ⟨k + 1, ?_, ?_, [some 0, some 1, some 2], ?_⟩
      ·dsimp only
       omega
      ·dsimp only
       omega
      ·dsimp only
       refine ⟨by rfl, ?_, ?_⟩
       ·refine fin_ ?_
        (repeat' apply And.intro) <;> (first | (first | (with_reducible rfl) | exact True.intro | (rw [m0P_set hme hxe ho1 hx1]; done)) | exact cl_)
       ·refine fin_ ?_
        (repeat' apply And.intro) <;> (first | (first | (with_reducible rfl) | exact True.intro | (rw [m0P_set hme hxe ho1 hx1]; done)) | exact cl_)
     ·refine vc_exit ?_
      simp only [k_rules, Nat.reduceEqDiff, reduceIte, eq_self]
      refine h9 _ ?_; clear h9; try clear N9
      refine u_reg ?_
      try refine lg_mk ?_
      refine u_bn ?_
      refine u_mv ?_
      refine lg_nil ?_
      obtain rfl : k = m.nw.length := by omega
      refine h5 _ ⟨i + 1, ?_, ?_, [some 0, some 1], ?_⟩
      ·dsimp only
       omega
      ·dsimp only
       omega
      ·dsimp only
       refine ⟨by rfl, ?_, ?_⟩
       ·refine fin_ ?_
        (repeat' apply And.intro) <;> (first | (first | (with_reducible rfl) | exact True.intro | (rw [m0P_next hme]; done)) | exact cl_)
       ·refine fin_ ?_
        (repeat' apply And.intro) <;> (first | (first | (with_reducible rfl) | exact True.intro | (rw [m0P_next hme]; done)) | exact cl_)
   ·refine vc_exit ?_
    simp only [k_rules, Nat.reduceEqDiff, reduceIte, eq_self]
    refine h3 _ ?_; clear h3; try clear N3
    refine vc_seq_k fun N18 h18 => ?_
    refine vc_seq_k fun N19 h19 => ?_
    refine u_reg ?_
    try refine lg_mk ?_
    refine u_mv ?_
    refine lg_nil ?_
    refine h19 _ ?_; clear h19; try clear N19
    refine vc_block ?_
    obtain rfl : i = l.length := by omega
    refine vc_loop_mk (σ := Nat) (fun s => (fun k => k ≤ 60) s)
     (fun s => (fun k => [(0, .d (.sl (rows eM l))), (2, .ptr 0 0 0), (3, .ptr 1 0 0), (31, .d (.int .i64 (k : Nat)))]) s)
     (fun s => (fun k => [some (.one 66 (flt (fun _ _ => false))), some (.one 66 (flt (fwk (m0 l) k)))]) s) (fun s => (fun k => 60 - k) s) hnp 0 ?_ [some 0, some 1] ?_ ?_
    ·dsimp only
     omega
    ·dsimp only
     refine ⟨by rfl, ?_, ?_⟩
     ·refine fin_ ?_
      (repeat' apply And.intro) <;> (first | (first | (with_reducible rfl) | exact True.intro | (rw [m0P_all]; rfl)) | exact cl_)
     ·refine fin_ ?_
      (repeat' apply And.intro) <;> (first | (first | (with_reducible rfl) | exact True.intro | (rw [m0P_all]; rfl)) | exact cl_)
    ·rintro k hinv N20 h20
     dsimp only at hinv ⊢
     have k1 := hinv
     refine vc_seq_k fun N21 h21 => ?_
     refine u_reg ?_
     try refine lg_mk ?_
     refine u_bn ?_
     refine lg_nil ?_
     refine h21 _ ?_; clear h21; try clear N21
     refine vc_seq_k fun N22 h22 => ?_
     refine u_cond (fun hb23 => ?_) (fun hb23 => ?_)
     ·refine vc_skip ?_
      try simp only [k_rules]
      refine h22 _ ?_; clear h22; try clear N22
      refine vc_seq_k fun N24 h24 => ?_
      refine vc_block ?_
      refine vc_seq_k fun N25 h25 => ?_
      refine u_reg ?_
      try refine lg_mk ?_
      refine u_mv ?_
      refine u_mv ?_
      refine lg_nil ?_
      refine h25 _ ?_; clear h25; try clear N25
      refine vc_seq_k fun N26 h26 => ?_
      refine u_reg ?_
      try refine lg_mk ?_
      refine u_mv ?_
      refine lg_nil ?_
      refine h26 _ ?_; clear h26; try clear N26
      refine vc_block ?_
      refine vc_loop_mk (σ := Nat) (fun s => (fun i => i ≤ 60) s)
       (fun s => (fun i => [(0, .d (.sl (rows eM l))), (2, .ptr 0 0 0), (3, .ptr 1 0 0), (8, .d (.int .i64 (k : Nat))), (31, .d (.int .i64 (k : Nat))), (34, .d (.int .i64 (i : Nat)))]) s)
       (fun s => (fun i => [some (.one 66 (flt (fun _ _ => false))), some (.one 66 (flt (fwP (fwk (m0 l) k) k i 0)))]) s) (fun s => (fun i => 60 - i) s) hnp 0 ?_ [some 0, some 1] ?_ ?_
      ·dsimp only
       omega
      ·dsimp only
       refine ⟨by rfl, ?_, ?_⟩
       ·refine fin_ ?_
        (repeat' apply And.intro) <;> (first | (first | (with_reducible rfl) | exact True.intro | (rw [fwP_zero]; done)) | exact cl_)
       ·refine fin_ ?_
        (repeat' apply And.intro) <;> (first | (first | (with_reducible rfl) | exact True.intro | (rw [fwP_zero]; done)) | exact cl_)
      ·rintro i hinv N27 h27
       dsimp only at hinv ⊢
       have i1 := hinv
       refine vc_seq_k fun N28 h28 => ?_
       refine u_reg ?_
       try refine lg_mk ?_
       refine u_bn ?_
       refine lg_nil ?_
       refine h28 _ ?_; clear h28; try clear N28
       refine vc_seq_k fun N29 h29 => ?_
       refine u_cond (fun hb30 => ?_) (fun hb30 => ?_)
       ·refine vc_skip ?_
        try simp only [k_rules]
        refine h29 _ ?_; clear h29; try clear N29
        refine vc_seq_k fun N31 h31 => ?_
        refine vc_block ?_
        refine vc_seq_k fun N32 h32 => ?_
        refine u_reg ?_
        try refine lg_mk ?_
        refine u_mv ?_
        refine u_mv ?_
        refine lg_nil ?_
        refine h32 _ ?_; clear h32; try clear N32
        refine vc_seq_k fun N33 h33 => ?_
        refine u_reg ?_
        try refine lg_mk ?_
        refine u_mv ?_
        refine lg_nil ?_
        refine h33 _ ?_; clear h33; try clear N33
        refine vc_block ?_
        refine vc_loop_mk (σ := Nat) (fun s => (fun j => j ≤ 60) s)
         (fun s => (fun j => [(0, .d (.sl (rows eM l))), (2, .ptr 0 0 0), (3, .ptr 1 0 0), (8, .d (.int .i64 (k : Nat))), (9, .d (.int .i64 (i : Nat))), (31, .d (.int .i64 (k : Nat))), (34, .d (.int .i64 (i : Nat))), (37, .d (.int .i64 (j : Nat)))]) s)
         (fun s => (fun j => [some (.one 66 (flt (fun _ _ => false))), some (.one 66 (flt (fwP (fwk (m0 l) k) k i j)))]) s) (fun s => (fun j => 60 - j) s) hnp 0 ?_ [some 0, some 1] ?_ ?_
        ·dsimp only
         omega
        ·dsimp only
         refine ⟨by rfl, ?_, ?_⟩
         ·refine fin_ ?_
          exact cl_
         ·refine fin_ ?_
          exact cl_
        ·rintro j hinv N34 h34
         dsimp only at hinv ⊢
         have j1 := hinv
         refine vc_seq_k fun N35 h35 => ?_
         refine u_reg ?_
         try refine lg_mk ?_
         refine u_bn ?_
         refine lg_nil ?_
         refine h35 _ ?_; clear h35; try clear N35
         refine vc_seq_k fun N36 h36 => ?_
         refine u_cond (fun hb37 => ?_) (fun hb37 => ?_)
         ·have hg1 := flt_get (F := fwP (fwk (m0 l) k) k i j) (i := i) (j := j) (by omega) (by omega)
          rw [fwP_at] at hg1
          have hg2 := flt_get (F := fwP (fwk (m0 l) k) k i j) (i := i) (j := k) (by omega) (by omega)
          rw [fwP_col] at hg2
          have hg3 := flt_get (F := fwP (fwk (m0 l) k) k i j) (i := k) (j := j) (by omega) (by omega)
          rw [fwP_row] at hg3
          have hst := fun F b => flt_set (F := F) (b := b) (i := i) (j := j) (by omega) (by omega)
          refine vc_skip ?_
          try simp only [k_rules]
          refine h36 _ ?_; clear h36; try clear N36
          refine vc_seq_k fun N38 h38 => ?_
          refine vc_block ?_
          refine vc_seq_k fun N39 h39 => ?_
          refine u_reg ?_
          try refine lg_mk ?_
          refine u_mv ?_
          refine u_mv ?_
          refine lg_nil ?_
          refine h39 _ ?_; clear h39; try clear N39
          rcases hb1 : fwk (m0 l) k i j with _ | _ <;> rcases hb2 : fwk (m0 l) k i k with _ | _
          ·have hv : (fwk (m0 l) k i j || (fwk (m0 l) k i k && fwk (m0 l) k k j)) = false := by rw [hb1, hb2]; rfl
           have hx := And.intro @hg1 (And.intro @hg2 (And.intro @hg3 (And.intro @hb1 (And.intro @hb2 (And.intro @hst hx0)))))
           refine u_reg ?_
           try refine lg_mk ?_
           refine u_mv ?_
           refine u_mv ?_
           refine u_mv ?_
           refine u_mv ?_
           refine u_pt ?_
           refine u_pt ?_
           refine u_ld ?_
           refine u_mv ?_
           refine g_mv ?_
           refine g_mv ?_
           refine g_pt ?_
           refine g_pt ?_
           refine g_ld ?_
           refine g_mv ?_
           refine g_mv ?_
           refine g_mv ?_
           refine g_pt ?_
           refine g_pt ?_
           refine g_ld ?_
           refine g_pk ?_
           refine u_pk ?_
           refine u_pt ?_
           refine u_pt ?_
           refine u_st ?_
           refine lg_nil ?_
           have hx := hx0
           refine h38 _ ?_; clear h38; try clear N38
           refine u_reg ?_
           try refine lg_mk ?_
           refine u_bn ?_
           refine u_mv ?_
           refine lg_nil ?_
           refine h34 _ ⟨j + 1, ?_, ?_, [some 0, some 1], ?_⟩
           ·dsimp only
            omega
           ·dsimp only
            omega
           ·dsimp only
            refine ⟨by rfl, ?_, ?_⟩
            ·refine fin_ ?_
             (repeat' apply And.intro) <;> (first | (first | (with_reducible rfl) | exact True.intro | (rw [← fwP_set, hv]; done)) | exact cl_)
            ·refine fin_ ?_
             (repeat' apply And.intro) <;> (first | (first | (with_reducible rfl) | exact True.intro | (rw [← fwP_set, hv]; done)) | exact cl_)
          ·have hv : (fwk (m0 l) k i j || (fwk (m0 l) k i k && fwk (m0 l) k k j)) = fwk (m0 l) k k j := by rw [hb1, hb2]; simp
           have hx := And.intro @hg1 (And.intro @hg2 (And.intro @hg3 (And.intro @hb1 (And.intro @hb2 (And.intro @hst hx0)))))
           refine u_reg ?_
           try refine lg_mk ?_
           refine u_mv ?_
           refine u_mv ?_
           refine u_mv ?_
           refine u_mv ?_
           refine u_pt ?_
           refine u_pt ?_
           refine u_ld ?_
           refine u_mv ?_
           refine g_mv ?_
           refine g_mv ?_
           refine g_pt ?_
           refine g_pt ?_
           refine g_ld ?_
           refine g_mv ?_
           refine g_mv ?_
           refine g_mv ?_
           refine g_pt ?_
           refine g_pt ?_
           refine g_ld ?_
           refine g_pk ?_
           refine u_pk ?_
           refine u_pt ?_
           refine u_pt ?_
           refine u_st ?_
           refine lg_nil ?_
           have hx := hx0
           refine h38 _ ?_; clear h38; try clear N38
           refine u_reg ?_
           try refine lg_mk ?_
           refine u_bn ?_
           refine u_mv ?_
           refine lg_nil ?_
           refine h34 _ ⟨j + 1, ?_, ?_, [some 0, some 1], ?_⟩
           ·dsimp only
            omega
           ·dsimp only
            omega
           ·dsimp only
            refine ⟨by rfl, ?_, ?_⟩
            ·refine fin_ ?_
             (repeat' apply And.intro) <;> (first | (first | (with_reducible rfl) | exact True.intro | (rw [← fwP_set, hv]; done)) | exact cl_)
            ·refine fin_ ?_
             (repeat' apply And.intro) <;> (first | (first | (with_reducible rfl) | exact True.intro | (rw [← fwP_set, hv]; done)) | exact cl_)
          ·have hv : (fwk (m0 l) k i j || (fwk (m0 l) k i k && fwk (m0 l) k k j)) = true := by rw [hb1]; rfl
           have hx := And.intro @hg1 (And.intro @hg2 (And.intro @hg3 (And.intro @hb1 (And.intro @hb2 (And.intro @hst hx0)))))
           refine u_reg ?_
           try refine lg_mk ?_
           refine u_mv ?_
           refine u_mv ?_
           refine u_mv ?_
           refine u_mv ?_
           refine u_pt ?_
           refine u_pt ?_
           refine u_ld ?_
           refine u_mv ?_
           refine g_mv ?_
           refine g_mv ?_
           refine g_pt ?_
           refine g_pt ?_
           refine g_ld ?_
           refine g_mv ?_
           refine g_mv ?_
           refine g_mv ?_
           refine g_pt ?_
           refine g_pt ?_
           refine g_ld ?_
           refine g_pk ?_
           refine u_pk ?_
           refine u_pt ?_
           refine u_pt ?_
           refine u_st ?_
           refine lg_nil ?_
           have hx := hx0
           refine h38 _ ?_; clear h38; try clear N38
           refine u_reg ?_
           try refine lg_mk ?_
           refine u_bn ?_
           refine u_mv ?_
           refine lg_nil ?_
           refine h34 _ ⟨j + 1, ?_, ?_, [some 0, some 1], ?_⟩
           ·dsimp only
            omega
           ·dsimp only
            omega
           ·dsimp only
            refine ⟨by rfl, ?_, ?_⟩
            ·refine fin_ ?_
             (repeat' apply And.intro) <;> (first | (first | (with_reducible rfl) | exact True.intro | (rw [← fwP_set, hv]; done)) | exact cl_)
            ·refine fin_ ?_
             (repeat' apply And.intro) <;> (first | (first | (with_reducible rfl) | exact True.intro | (rw [← fwP_set, hv]; done)) | exact cl_)
          ·have hv : (fwk (m0 l) k i j || (fwk (m0 l) k i k && fwk (m0 l) k k j)) = true := by rw [hb1]; rfl
           have hx := And.intro @hg1 (And.intro @hg2 (And.intro @hg3 (And.intro @hb1 (And.intro @hb2 (And.intro @hst hx0)))))
           refine u_reg ?_
           try refine lg_mk ?_
           refine u_mv ?_
           refine u_mv ?_
           refine u_mv ?_
           refine u_mv ?_
           refine u_pt ?_
           refine u_pt ?_
           refine u_ld ?_
           refine u_mv ?_
           refine g_mv ?_
           refine g_mv ?_
           refine g_pt ?_
           refine g_pt ?_
           refine g_ld ?_
           refine g_mv ?_
           refine g_mv ?_
           refine g_mv ?_
           refine g_pt ?_
           refine g_pt ?_
           refine g_ld ?_
           refine g_pk ?_
           refine u_pk ?_
           refine u_pt ?_
           refine u_pt ?_
           refine u_st ?_
           refine lg_nil ?_
           have hx := hx0
           refine h38 _ ?_; clear h38; try clear N38
           refine u_reg ?_
           try refine lg_mk ?_
           refine u_bn ?_
           refine u_mv ?_
           refine lg_nil ?_
           refine h34 _ ⟨j + 1, ?_, ?_, [some 0, some 1], ?_⟩
           ·dsimp only
            omega
           ·dsimp only
            omega
           ·dsimp only
            refine ⟨by rfl, ?_, ?_⟩
            ·refine fin_ ?_
             (repeat' apply And.intro) <;> (first | (first | (with_reducible rfl) | exact True.intro | (rw [← fwP_set, hv]; done)) | exact cl_)
            ·refine fin_ ?_
             (repeat' apply And.intro) <;> (first | (first | (with_reducible rfl) | exact True.intro | (rw [← fwP_set, hv]; done)) | exact cl_)
         ·refine vc_exit ?_
          simp only [k_rules, Nat.reduceEqDiff, reduceIte, eq_self]
          refine h31 _ ?_; clear h31; try clear N31
          refine u_reg ?_
          try refine lg_mk ?_
          refine u_bn ?_
          refine u_mv ?_
          refine lg_nil ?_
          obtain rfl : j = 60 := by omega
          refine h27 _ ⟨i + 1, ?_, ?_, [some 0, some 1], ?_⟩
          ·dsimp only
           omega
          ·dsimp only
           omega
          ·dsimp only
           refine ⟨by rfl, ?_, ?_⟩
           ·refine fin_ ?_
            (repeat' apply And.intro) <;> (first | (first | (with_reducible rfl) | exact True.intro | (rw [mat_flt fwP_next]; done)) | exact cl_)
           ·refine fin_ ?_
            (repeat' apply And.intro) <;> (first | (first | (with_reducible rfl) | exact True.intro | (rw [mat_flt fwP_next]; done)) | exact cl_)
       ·refine vc_exit ?_
        simp only [k_rules, Nat.reduceEqDiff, reduceIte, eq_self]
        refine h24 _ ?_; clear h24; try clear N24
        refine u_reg ?_
        try refine lg_mk ?_
        refine u_bn ?_
        refine u_mv ?_
        refine lg_nil ?_
        obtain rfl : i = 60 := by omega
        refine h20 _ ⟨k + 1, ?_, ?_, [some 0, some 1], ?_⟩
        ·dsimp only
         omega
        ·dsimp only
         omega
        ·dsimp only
         refine ⟨by rfl, ?_, ?_⟩
         ·refine fin_ ?_
          (repeat' apply And.intro) <;> (first | (first | (with_reducible rfl) | exact True.intro | (rw [mat_flt fwP_all]; rfl)) | exact cl_)
         ·refine fin_ ?_
          (repeat' apply And.intro) <;> (first | (first | (with_reducible rfl) | exact True.intro | (rw [mat_flt fwP_all]; rfl)) | exact cl_)
     ·refine vc_exit ?_
      simp only [k_rules, Nat.reduceEqDiff, reduceIte, eq_self]
      refine h18 _ ?_; clear h18; try clear N18
      refine vc_seq_k fun N40 h40 => ?_
      refine u_reg ?_
      try refine lg_mk ?_
      refine u_ld ?_
      refine u_st ?_
      refine lg_nil ?_
      refine h40 _ ?_; clear h40; try clear N40
      refine vc_ret ?_
      try simp only [k_rules]
      obtain rfl : k = 60 := by omega
      refine fin2_ ?_
      exact cl_
 ·cases hg

def E_rchA : Env Try.prog := E_goneA.add 42 (Spec.pure rchAG) rchA_meets (by kernel_rfl)

theorem cyc_meets : Meets Try.prog 35 (Spec.pure cycG) := by
 refine meets_fun (E_rchA.at_ 15) Try.func35 rfl rfl rfl ?_
 intro args p r hg hp
 unfold cycG at hg
 split at hg
 ·rename_i xs
  simp only [Option.some.injEq, Prod.mk.injEq] at hg
  obtain ⟨rfl, rfl⟩ := hg
  obtain ⟨he, hl, hsm, hok⟩ := hp
  generalize dM xs = l at *
  subst he
  have hT : (E_rchA).X = T := rfl
  have hx0 := And.intro @mtL_flt (And.intro @rect_eM (And.intro @flt_len (And.intro @rwA_len (And.intro @rwA_take (And.intro @rwA_spl @Try.results35)))))
  have hx := hx0
  refine ⟨by rfl, ?_⟩
  intro F W0 hnp hmk
  refine vc_seq_k fun N1 h1 => ?_
  refine u_reg ?_
  try refine lg_mk ?_
  refine u_mv ?_
  refine lg_nil ?_
  refine h1 _ ?_; clear h1; try clear N1
  refine vc_seq_k fun N2 h2 => ?_
  refine vc_seq_k fun N3 h3 => ?_
  have hx := And.intro @dM_rows hx0
  refine u_reg ?_
  try refine lg_mk ?_
  refine u_mv ?_
  have hc := call_rule (E := (E_rchA.at_ 15)) (f := 42) (sp := Spec.pure rchAG) rfl
  have hs := @rchAG.eq_1
  refine u_cp (hq := by (first | (exact ⟨hl, hsm, hok⟩) | exact sd_)) ?_
  refine u_mv ?_
  refine lg_nil ?_
  have hx := hx0
  refine h3 _ ?_; clear h3; try clear N3
  refine vc_block ?_
  refine vc_loop_mk (σ := Nat) (fun s => (fun i => i ≤ 60 ∧ ∀ j, j < i → rcK l j j = false) s)
   (fun s => (fun i => [(6, .agg (flt (rcK l))), (7, .d (.int .i64 (i : Nat)))]) s)
   (fun s => (fun i => []) s) (fun s => (fun i => 60 - i) s) hnp 0 ?_ [] ?_ ?_
  ·dsimp only
   exact ⟨by omega, fun j hj => by omega⟩
  ·dsimp only
   refine ⟨by rfl, ?_, ?_⟩
   ·refine fin_ ?_
    exact cl_
   ·refine fin_ ?_
    exact cl_
  ·rintro i hinv N4 h4
   dsimp only at hinv ⊢
   obtain ⟨i1, i2⟩ := hinv
   refine vc_seq_k fun N5 h5 => ?_
   refine u_reg ?_
   try refine lg_mk ?_
   refine u_bn ?_
   refine lg_nil ?_
   refine h5 _ ?_; clear h5; try clear N5
   refine vc_seq_k fun N6 h6 => ?_
   refine u_cond (fun hb7 => ?_) (fun hb7 => ?_)
   ·have hrw := flt_row (F := rcK l) (i := i) (by omega)
    have hgt := rwA_get1 (f := rcK l i) (k := i) (by omega)
    refine vc_skip ?_
    try simp only [k_rules]
    refine h6 _ ?_; clear h6; try clear N6
    refine vc_seq_k fun N8 h8 => ?_
    refine vc_block ?_
    refine vc_seq_k fun N9 h9 => ?_
    have hx := And.intro @hrw hx0
    refine u_reg ?_
    try refine lg_mk ?_
    refine u_mv ?_
    refine u_pt ?_
    refine lg_sem (by rfl) (sem_allocOne (by first | (simp only [wB, eq_self, Nat.reduceEqDiff, reduceIte, env_rules, tys, hT, tiAgg]; done) | (simp only [wB, eq_self, Nat.reduceEqDiff, reduceIte, env_rules, tys, hT, tiAgg]; rfl)) rwA_zero (by simp) (by decide) ?_)
    try simp only [wB, eq_self, Nat.reduceEqDiff, reduceIte, wL, Int.toNat_natCast, Int.reduceToNat, Nat.reduceAdd, Nat.reduceMul, Nat.reduceSub, Nat.reduceLeDiff, hx]
    refine u_mv ?_
    refine u_st ?_
    refine lg_nil ?_
    have hx := hx0
    refine h9 _ ?_; clear h9; try clear N9
    refine vc_seq_k fun N10 h10 => ?_
    have hx := And.intro @hgt hx0
    refine u_reg ?_
    try refine lg_mk ?_
    refine u_mv ?_
    refine u_pt ?_
    refine u_ld ?_
    refine lg_nil ?_
    have hx := hx0
    refine h10 _ ?_; clear h10; try clear N10
    refine u_cond (fun hb11 => ?_) (fun hb11 => ?_)
    ·refine vc_seq_k fun N12 h12 => ?_
     refine u_reg ?_
     try refine lg_mk ?_
     refine u_mv ?_
     refine lg_nil ?_
     refine h12 _ ?_; clear h12; try clear N12
     refine vc_ret ?_
     try simp only [k_rules]
     rw [cyc_at (L := l) (i := i) (by omega) (by have := hb11; simpa using this)]
     refine fin2_ ?_
     exact cl_
    ·refine vc_skip ?_
     try simp only [k_rules]
     refine h8 _ ?_; clear h8; try clear N8
     refine u_reg ?_
     try refine lg_mk ?_
     refine u_bn ?_
     refine u_mv ?_
     refine lg_nil ?_
     refine h4 _ ⟨i + 1, ?_, ?_, [], ?_⟩
     ·dsimp only
      refine ⟨by omega, fun j hj => ?_⟩
      by_cases e : j = i
      ·subst e; have := hb11; simpa using this
      ·exact i2 j (by omega)
     ·dsimp only
      omega
     ·dsimp only
      refine ⟨by rfl, ?_, ?_⟩
      ·refine fin_ ?_
       exact cl_
      ·refine fin_ ?_
       exact cl_
   ·refine vc_exit ?_
    simp only [k_rules, Nat.reduceEqDiff, reduceIte, eq_self]
    refine h2 _ ?_; clear h2; try clear N2
    refine vc_seq_k fun N13 h13 => ?_
    refine u_reg ?_
    try refine lg_mk ?_
    refine u_mv ?_
    refine lg_nil ?_
    refine h13 _ ?_; clear h13; try clear N13
    refine vc_ret ?_
    try simp only [k_rules]
    rw [cyc_no (L := l) (fun j hj => i2 j (by omega))]
    refine fin2_ ?_
    exact cl_
 ·cases hg

def E_cyc : Env Try.prog := E_rchA.add 35 (Spec.pure cycG) cyc_meets (by kernel_rfl)
end Go.Proofs.Ytjpkgmmmmcgmeaa
