/- Walks, printed by wip/gen/walk.py. -/
import Derived.Test.YtcjipciiljjfhaaGreatDoorT36
import Derived.Test.YtcjipciiljjfhaaGreatDoorV5
set_option linter.all false
set_option maxRecDepth 100000
set_option maxHeartbeats 4000000
namespace Go.Proofs.YtcjipciiljjfhaaGreatDoor
open Go Go.Vc Go.RowKit
theorem names60 {l : List Rf} {i : Nat} (h : ∀ j, j < i → rfC l j = 0) : ∀ r ∈ l.take i, r.nm.length ≤ 60 := fun r hr => by
  obtain ⟨j, hj⟩ := List.getElem?_of_mem hr
  rw [List.getElem?_take] at hj
  split at hj
  · rename_i hlt; exact name_len (rfC_name hj (h j hlt))
  · cases hj
theorem any_at {l : List Rf} {i j : Nat} {x : Rf} {P : Rf → Bool} (hx : l[j]? = some x) (hj : j < i) (hp : P x = true) : (l.take i).any P = true := by
  rw [List.any_eq_true]
  exact ⟨x, List.mem_of_getElem? (i := j) (by rw [List.getElem?_take, if_pos hj]; exact hx), hp⟩
theorem any_no {l : List Rf} {i j : Nat} {P : Rf → Bool} (h : ∀ y ∈ l.take j, P y = false) (hij : i ≤ j) : (l.take i).any P = false := by
  rw [List.any_eq_false]
  intro x hx
  have : x ∈ l.take j := by
    obtain ⟨k, hk⟩ := List.getElem?_of_mem hx
    rw [List.getElem?_take] at hk
    split at hk
    · exact List.mem_of_getElem? (i := k) (by rw [List.getElem?_take, if_pos (by omega)]; exact hk)
    · cases hk
  rw [h x this]; simp
/-- A part, byte by byte. -/
def bOk (x : List UInt8) (k : Nat) : Bool := okB (x.getD k 0) && !(decide (0 < k) && decide ((x.getD k 0).toNat = 46) && decide ((x.getD (k - 1) 0).toNat = 46))
theorem cp_no {x : List UInt8} {k : Nat} (hk : k < x.length) (h : bOk x k = false) : cpOk x = false := by
  obtain ⟨b, hb⟩ : ∃ b, x[k]? = some b := ⟨_, List.getElem?_eq_getElem hk⟩
  unfold bOk at h
  rw [getD_at hb, Bool.and_eq_false_iff] at h
  rcases h with h | h
  · have : x.all okB = false := by rw [List.all_eq_false]; exact ⟨b, List.mem_of_getElem? hb, by simp [h]⟩
    unfold cpOk; rw [this]; simp
  · simp only [Bool.not_eq_false', Bool.and_eq_true, decide_eq_true_eq] at h
    obtain ⟨⟨h0, h1⟩, h2⟩ := h
    obtain ⟨c, hc⟩ : ∃ c, x[k - 1]? = some c := ⟨_, List.getElem?_eq_getElem (by omega)⟩
    rw [getD_at hc] at h2
    have e1 : b = 46 := UInt8.toNat_inj.1 h1
    have e2 : c = 46 := UInt8.toNat_inj.1 h2
    have : dots x = true := (dots_iff x).2 ⟨k - 1, by rw [hc, e2], by rw [show k - 1 + 1 = k by omega, hb, e1]⟩
    unfold cpOk; rw [this]; simp
theorem cp_yes {x : List UInt8} (h : ∀ j, j < x.length → bOk x j = true) : dots x = false ∧ x.all okB = true := by
  constructor
  · rw [← Bool.not_eq_true]
    intro hd
    obtain ⟨j, h1, h2⟩ := (dots_iff x).1 hd
    have := h (j + 1) (List.getElem?_eq_some_iff.1 h2).1
    unfold bOk at this
    rw [getD_at h2, show j + 1 - 1 = j by omega, getD_at h1] at this
    simp at this
  · rw [List.all_eq_true]
    intro b hb
    obtain ⟨j, hj⟩ := List.getElem?_of_mem hb
    have := h j (List.getElem?_eq_some_iff.1 hj).1
    unfold bOk at this
    rw [getD_at hj, Bool.and_eq_true] at this
    exact this.1
theorem bOk_succ {x : List UInt8} {k : Nat} (h : ∀ j, j < k → bOk x j = true) (hk : bOk x k = true) : ∀ j, j < k + 1 → bOk x j = true := fun j hj => by
  rcases Nat.lt_or_ge j k with h' | h'
  · exact h j h'
  · obtain rfl : j = k := by omega
    exact hk
theorem lock_iff (x : List UInt8) : lockS.isSuffixOf x = (decide (5 ≤ x.length) && decide (x.drop (x.length - 5) = lockS)) := by
  rw [Bool.eq_iff_iff, Bool.and_eq_true, decide_eq_true_eq, decide_eq_true_eq, List.isSuffixOf_iff_suffix]
  constructor
  · rintro ⟨t, rfl⟩
    refine ⟨by simp [lockS], ?_⟩
    rw [List.length_append, show lockS.length = 5 from rfl, Nat.add_sub_cancel, List.drop_left' rfl]
  · rintro ⟨h1, h2⟩
    exact ⟨x.take (x.length - 5), by rw [← h2, List.take_append_drop]⟩
theorem cp_cases2 (x : List UInt8) : (x = [] ∧ cpOk x = false) ∨ (∃ a, x ≠ [] ∧ x[0]? = some a ∧ ((a.toNat = 46 ∧ cpOk x = false) ∨ (a.toNat ≠ 46 ∧
    ((5 ≤ x.length ∧ x.drop (x.length - 5) = lockS ∧ cpOk x = false) ∨ (5 ≤ x.length ∧ x.drop (x.length - 5) ≠ lockS ∧ cpOk x = (!dots x && x.all okB)) ∨ (x.length < 5 ∧ cpOk x = (!dots x && x.all okB)))))) := by
  cases x with
  | nil => exact .inl ⟨rfl, rfl⟩
  | cons a t =>
    refine .inr ⟨a, by simp, rfl, ?_⟩
    by_cases ha : a.toNat = 46
    · have ha' : a = 46 := UInt8.toNat_inj.1 ha
      exact .inl ⟨ha, by unfold cpOk; simp [ha']⟩
    · have ha' : a ≠ 46 := fun e => ha (by rw [e]; rfl)
      refine .inr ⟨ha, ?_⟩
      by_cases h5 : 5 ≤ (a :: t).length
      · by_cases hl : (a :: t).drop ((a :: t).length - 5) = lockS
        · refine .inl ⟨h5, hl, ?_⟩
          unfold cpOk; rw [lock_iff, decide_eq_true h5, decide_eq_true hl]; simp
        · refine .inr (.inl ⟨h5, hl, ?_⟩)
          unfold cpOk; rw [lock_iff, decide_eq_true h5, decide_eq_false hl]; simp [ha']
      · refine .inr (.inr ⟨by omega, ?_⟩)
        unfold cpOk; rw [lock_iff, decide_eq_false h5]; simp [ha']
theorem name_all {s : List UInt8} (h : s.length ≤ 60) (ha : ∀ x ∈ cps s, cpOk x = true) : nameB s = true := by
  unfold nameB; rw [decide_eq_true h, List.all_eq_true.2 ha]; rfl

theorem nameR_meets : Meets Tryz.prog 42 (Spec.pure nameG) := by
 refine meets_fun (E_isDR.at_ 94) Tryz.func42 rfl rfl rfl ?_
 intro args p r hg hp
 unfold nameG at hg
 split at hg
 ·rename_i u
  simp only [Option.some.injEq, Prod.mk.injEq] at hg
  obtain ⟨rfl, rfl⟩ := hg
  have hl := hp
  have hT : (E_isDR).X = T := rfl
  have hx0 := And.intro @dec_t (And.intro @dec_f (And.intro @rect_eS @Tryz.results42))
  have hx := hx0
  refine ⟨by rfl, ?_⟩
  intro F W0 hnp hmk
  refine vc_seq_k fun N1 h1 => ?_
  refine u_reg ?_
  try refine lg_mk ?_
  refine u_mv ?_
  refine lg_nil ?_
  refine h1 _ ?_; clear h1; try clear N1
  refine vc_seq_k fun N2 h2 => ?_
  refine vc_seq_k fun N3 h3 => ?_
  refine u_reg ?_
  try refine lg_mk ?_
  refine u_mv ?_
  refine u_ln ?_
  refine u_bn ?_
  refine lg_nil ?_
  refine h3 _ ?_; clear h3; try clear N3
  refine u_cond (fun hb4 => ?_) (fun hb4 => ?_)
  ·have h60 : ¬ u.length ≤ 60 := by have := hb4; omega
   refine vc_seq_k fun N5 h5 => ?_
   refine u_reg ?_
   try refine lg_mk ?_
   refine u_mv ?_
   refine lg_nil ?_
   refine h5 _ ?_; clear h5; try clear N5
   refine vc_ret ?_
   try simp only [k_rules]
   have hr : nameB u = false := by unfold nameB; rw [decide_eq_false h60]; rfl
   rw [hr]
   refine fin2_ ?_
   exact cl_
  ·have h60 : u.length ≤ 60 := by have := hb4; omega
   have hcf := cps_few u
   refine vc_skip ?_
   try simp only [k_rules]
   refine h2 _ ?_; clear h2; try clear N2
   refine vc_seq_k fun N6 h6 => ?_
   refine u_reg ?_
   try refine lg_mk ?_
   refine u_mv ?_
   have hc := call_rule (E := (E_isDR.at_ 94)) (f := 60) (sp := Spec.pure cpsG) rfl
   have hs := @cpsG.eq_1
   refine u_hp (hq := by (first | (omega) | exact sd_)) ?_
   refine u_mv ?_
   refine lg_nil ?_
   refine h6 _ ?_; clear h6; try clear N6
   refine vc_seq_k fun N7 h7 => ?_
   refine vc_seq_k fun N8 h8 => ?_
   refine u_reg ?_
   try refine lg_mk ?_
   refine u_mv ?_
   refine lg_nil ?_
   refine h8 _ ?_; clear h8; try clear N8
   refine vc_block ?_
   refine vc_loop_mk (σ := Nat) (fun s => (fun i => i ≤ (cps u).length ∧ ∀ y ∈ (cps u).take i, cpOk y = true) s)
    (fun s => (fun i => [(3, .d (.sl (rows eS (cps u)))), (4, .d (.int .i64 (i : Nat)))]) s)
    (fun s => (fun i => []) s) (fun s => (fun i => (cps u).length - i) s) hnp 0 ?_ [] ?_ ?_
   ·dsimp only
    simp
   ·dsimp only
    refine ⟨by rfl, ?_, ?_⟩
    ·refine fin_ ?_
     exact cl_
    ·refine fin_ ?_
     exact cl_
   ·rintro i hinv N9 h9
    dsimp only at hinv ⊢
    obtain ⟨i1, i2⟩ := hinv
    refine vc_seq_k fun N10 h10 => ?_
    refine vc_seq_k fun N11 h11 => ?_
    refine u_reg ?_
    try refine lg_mk ?_
    refine u_mv ?_
    refine u_mv ?_
    refine u_ln ?_
    refine u_bn ?_
    refine lg_nil ?_
    refine h11 _ ?_; clear h11; try clear N11
    refine u_cond (fun hb12 => ?_) (fun hb12 => ?_)
    ·obtain ⟨x, hxe⟩ := getE (l := cps u) (i := i) (by omega)
     have hxl : x.length ≤ 60 := Nat.le_trans (cps_le (mem_at hxe)) h60
     refine vc_skip ?_
     try simp only [k_rules]
     refine h10 _ ?_; clear h10; try clear N10
     refine vc_seq_k fun N13 h13 => ?_
     refine vc_block ?_
     refine vc_seq_k fun N14 h14 => ?_
     have hx := And.intro @hxe (And.intro @eS.eq_1 hx0)
     refine u_reg ?_
     try refine lg_mk ?_
     refine u_mv ?_
     refine u_mv ?_
     refine u_pt ?_
     refine u_ld ?_
     refine u_mv ?_
     refine lg_nil ?_
     have hx := hx0
     refine h14 _ ?_; clear h14; try clear N14
     refine vc_seq_m (σ := Unit) (fun s => (fun v9 => cpOk x = (!dots x && x.all okB)) s)
      (fun s => (fun v9 => [(3, .d (.sl (rows eS (cps u)))), (4, .d (.int .i64 (i : Nat))), (5, .d (.str x))]) s)
      (fun s => (fun v9 => []) s) hnp ?_ ?_
     ·rintro v9 hinv
      dsimp only at hinv ⊢
      have hr := hinv
      refine vc_seq_k fun N16 h16 => ?_
      refine u_reg ?_
      try refine lg_mk ?_
      refine u_mv ?_
      refine lg_nil ?_
      refine h16 _ ?_; clear h16; try clear N16
      refine vc_block ?_
      refine vc_loop_mk (σ := Nat) (fun s => (fun k => k ≤ x.length ∧ ∀ j, j < k → bOk x j = true) s)
       (fun s => (fun k => [(3, .d (.sl (rows eS (cps u)))), (4, .d (.int .i64 (i : Nat))), (5, .d (.str x)), (6, .d (.int .i64 (k : Nat)))]) s)
       (fun s => (fun k => []) s) (fun s => (fun k => x.length - k) s) hnp 0 ?_ [] ?_ ?_
      ·dsimp only
       exact ⟨Nat.zero_le _, fun j hj => by omega⟩
      ·dsimp only
       refine ⟨by rfl, ?_, ?_⟩
       ·refine fin_ ?_
        exact cl_
       ·refine fin_ ?_
        exact cl_
      ·rintro k hinv N17 h17
       dsimp only at hinv ⊢
       obtain ⟨k1, k2⟩ := hinv
       refine vc_seq_k fun N18 h18 => ?_
       refine vc_seq_k fun N19 h19 => ?_
       refine u_reg ?_
       try refine lg_mk ?_
       refine u_mv ?_
       refine u_mv ?_
       refine u_ln ?_
       refine u_bn ?_
       refine lg_nil ?_
       refine h19 _ ?_; clear h19; try clear N19
       refine u_cond (fun hb20 => ?_) (fun hb20 => ?_)
       ·obtain ⟨c, hce⟩ := getE (l := x) (i := k) (by omega)
        have hcd : x.getD k 0 = c := getD_at hce
        refine vc_skip ?_
        try simp only [k_rules]
        refine h18 _ ?_; clear h18; try clear N18
        refine vc_seq_k fun N21 h21 => ?_
        refine vc_block ?_
        refine vc_seq_k fun N22 h22 => ?_
        have hx := And.intro @hce hx0
        refine u_reg ?_
        try refine lg_mk ?_
        refine u_mv ?_
        refine u_mv ?_
        refine u_pt ?_
        refine u_mv ?_
        refine lg_nil ?_
        have hx := hx0
        refine h22 _ ?_; clear h22; try clear N22
        refine vc_seq_k fun N23 h23 => ?_
        rcases Nat.eq_zero_or_pos k with hk0 | hk0
        ·have hgt : decide ((0 : Int) < (k : Int)) = false := decide_eq_false (by omega)
         have hpe : x[0]? = some c := by rw [← hk0]; exact hce
         have hpm : ((k : Int) - 1).toNat = 0 := by omega
         have hpd := hcd
         have hx := And.intro @hgt (And.intro @hpe (And.intro @hpm hx0))
         refine u_reg ?_
         try refine lg_mk ?_
         refine u_mv ?_
         refine u_bn ?_
         refine u_mv ?_
         refine g_mv ?_
         refine g_bn ?_
         refine u_pk ?_
         refine u_mv ?_
         refine g_mv ?_
         refine g_bn ?_
         refine g_mv ?_
         refine g_mv ?_
         refine g_bn ?_
         refine g_pk ?_
         refine u_pk ?_
         refine u_mv ?_
         refine g_mv ?_
         refine g_bn ?_
         refine u_pk ?_
         refine u_mv ?_
         refine g_mv ?_
         refine g_bn ?_
         refine u_pk ?_
         refine u_mv ?_
         refine g_mv ?_
         refine g_bn ?_
         refine u_pk ?_
         refine u_un ?_
         refine u_mv ?_
         refine g_mv ?_
         refine g_bn ?_
         refine g_mv ?_
         refine g_mv ?_
         refine g_bn ?_
         refine g_pk ?_
         refine g_mv ?_
         refine g_mv ?_
         refine g_mv ?_
         refine g_bn ?_
         refine s_pt (hq := by (intro hg; (try simp only [b_rules, bif_and, bif_or] at hg); (first | (first | omega | (simp at hg; done) | exact hg.elim | exact hg.2.elim) | exact sd_))) ?_
         refine g_bn ?_
         refine g_pk ?_
         refine u_pk ?_
         refine lg_nil ?_
         have hx := hx0
         refine h23 _ ?_; clear h23; try clear N23
         refine u_cond (fun hb24 => ?_) (fun hb24 => ?_)
         ·have hbk : bOk x k = false := by
           rw [← Bool.not_eq_true]; intro h
           unfold bOk okB at h; rw [hcd] at h; (try rw [hpd] at h); (try simp only [Bool.and_eq_true, Bool.not_eq_true', Bool.not_eq_false', Bool.and_eq_false_iff, decide_eq_true_eq, decide_eq_false_iff_not] at h); have h9 := hb24; (try simp at h9); omega
          refine vc_seq_k fun N25 h25 => ?_
          refine u_reg ?_
          try refine lg_mk ?_
          refine u_mv ?_
          refine lg_nil ?_
          refine h25 _ ?_; clear h25; try clear N25
          refine vc_ret ?_
          try simp only [k_rules]
          have hr2 := name_no hxe (cp_no (by omega) hbk)
          rw [hr2]
          refine fin2_ ?_
          exact cl_
         ·have hbk : bOk x k = true := by
           rw [← Bool.not_eq_false]; intro h
           unfold bOk okB at h; rw [hcd] at h; (try rw [hpd] at h); (try simp only [Bool.and_eq_true, Bool.not_eq_true', Bool.not_eq_false', Bool.and_eq_false_iff, decide_eq_true_eq, decide_eq_false_iff_not] at h); have h9 := hb24; (try simp at h9); omega
          refine vc_skip ?_
          try simp only [k_rules]
          refine h21 _ ?_; clear h21; try clear N21
          refine u_reg ?_
          try refine lg_mk ?_
          refine u_mv ?_
          refine u_bn ?_
          refine u_mv ?_
          refine lg_nil ?_
          refine h17 _ ⟨k + 1, ?_, ?_, [], ?_⟩
          ·dsimp only
           exact ⟨by omega, bOk_succ k2 hbk⟩
          ·dsimp only
           omega
          ·dsimp only
           refine ⟨by rfl, ?_, ?_⟩
           ·refine fin_ ?_
            exact cl_
           ·refine fin_ ?_
            exact cl_
        ·obtain ⟨pb, hpe⟩ := getE (l := x) (i := k - 1) (by omega)
         have hpd : x.getD (k - 1) 0 = pb := getD_at hpe
         have hgt : decide ((0 : Int) < (k : Int)) = true := decide_eq_true (by omega)
         have hpm : ((k : Int) - 1).toNat = k - 1 := by omega
         have hx := And.intro @hgt (And.intro @hpe (And.intro @hpm hx0))
         refine u_reg ?_
         try refine lg_mk ?_
         refine u_mv ?_
         refine u_bn ?_
         refine u_mv ?_
         refine g_mv ?_
         refine g_bn ?_
         refine u_pk ?_
         refine u_mv ?_
         refine g_mv ?_
         refine g_bn ?_
         refine g_mv ?_
         refine g_mv ?_
         refine g_bn ?_
         refine g_pk ?_
         refine u_pk ?_
         refine u_mv ?_
         refine g_mv ?_
         refine g_bn ?_
         refine u_pk ?_
         refine u_mv ?_
         refine g_mv ?_
         refine g_bn ?_
         refine u_pk ?_
         refine u_mv ?_
         refine g_mv ?_
         refine g_bn ?_
         refine u_pk ?_
         refine u_un ?_
         refine u_mv ?_
         refine g_mv ?_
         refine g_bn ?_
         refine g_mv ?_
         refine g_mv ?_
         refine g_bn ?_
         refine g_pk ?_
         refine g_mv ?_
         refine g_mv ?_
         refine g_mv ?_
         refine g_bn ?_
         refine s_pt (hq := by (intro hg; (try simp only [b_rules, bif_and, bif_or] at hg); (first | (first | omega | (simp at hg; done) | exact hg.elim | exact hg.2.elim) | exact sd_))) ?_
         refine g_bn ?_
         refine g_pk ?_
         refine u_pk ?_
         refine lg_nil ?_
         have hx := hx0
         refine h23 _ ?_; clear h23; try clear N23
         refine u_cond (fun hb26 => ?_) (fun hb26 => ?_)
         ·have hbk : bOk x k = false := by
           rw [← Bool.not_eq_true]; intro h
           unfold bOk okB at h; rw [hcd] at h; (try rw [hpd] at h); (try simp only [Bool.and_eq_true, Bool.not_eq_true', Bool.not_eq_false', Bool.and_eq_false_iff, decide_eq_true_eq, decide_eq_false_iff_not] at h); have h9 := hb26; (try simp at h9); omega
          refine vc_seq_k fun N27 h27 => ?_
          refine u_reg ?_
          try refine lg_mk ?_
          refine u_mv ?_
          refine lg_nil ?_
          refine h27 _ ?_; clear h27; try clear N27
          refine vc_ret ?_
          try simp only [k_rules]
          have hr2 := name_no hxe (cp_no (by omega) hbk)
          rw [hr2]
          refine fin2_ ?_
          exact cl_
         ·have hbk : bOk x k = true := by
           rw [← Bool.not_eq_false]; intro h
           unfold bOk okB at h; rw [hcd] at h; (try rw [hpd] at h); (try simp only [Bool.and_eq_true, Bool.not_eq_true', Bool.not_eq_false', Bool.and_eq_false_iff, decide_eq_true_eq, decide_eq_false_iff_not] at h); have h9 := hb26; (try simp at h9); omega
          refine vc_skip ?_
          try simp only [k_rules]
          refine h21 _ ?_; clear h21; try clear N21
          refine u_reg ?_
          try refine lg_mk ?_
          refine u_mv ?_
          refine u_bn ?_
          refine u_mv ?_
          refine lg_nil ?_
          refine h17 _ ⟨k + 1, ?_, ?_, [], ?_⟩
          ·dsimp only
           exact ⟨by omega, bOk_succ k2 hbk⟩
          ·dsimp only
           omega
          ·dsimp only
           refine ⟨by rfl, ?_, ?_⟩
           ·refine fin_ ?_
            exact cl_
           ·refine fin_ ?_
            exact cl_
       ·have hby := cp_yes (fun j hj => k2 j (by omega))
        rw [hby.1, hby.2] at hr
        refine vc_exit ?_
        simp only [k_rules, Nat.reduceEqDiff, reduceIte, eq_self]
        refine h13 _ ?_; clear h13; try clear N13
        refine u_reg ?_
        try refine lg_mk ?_
        refine u_mv ?_
        refine u_bn ?_
        refine u_mv ?_
        refine lg_nil ?_
        refine h9 _ ⟨i + 1, ?_, ?_, [], ?_⟩
        ·dsimp only
         exact ⟨by omega, fun y hy => by
          rw [take_snoc hxe] at hy
          rcases List.mem_append.1 hy with hy | hy
          ·exact i2 y hy
          ·rw [List.mem_singleton.1 hy]; exact hr⟩
        ·dsimp only
         omega
        ·dsimp only
         refine ⟨by rfl, ?_, ?_⟩
         ·refine fin_ ?_
          exact cl_
         ·refine fin_ ?_
          exact cl_
     ·intro N15 h15
      refine vc_seq_k fun N28 h28 => ?_
      rcases cp_cases2 x with ⟨rfl, hr⟩ | ⟨a, hx0', q1, ⟨ha, hr⟩ | ⟨ha, ⟨h5, hlk, hr⟩ | ⟨h5, hlk, hr⟩ | ⟨h5, hr⟩⟩⟩
      ·have q0 : decide (([] : List UInt8) = []) = true := rfl
       have q1 : True := trivial
       have q2 := q1
       have q5 := q1
       have q6 := q1
       have hin := q1
       have htx := q1
       have hx := And.intro @q0 (And.intro @q1 (And.intro @q2 (And.intro @q5 (And.intro @hin (And.intro @htx (And.intro @q6 hx0))))))
       refine u_reg ?_
       try refine lg_mk ?_
       refine u_mv ?_
       refine u_bn ?_
       refine u_mv ?_
       refine g_mv ?_
       refine g_pt ?_
       refine g_bn ?_
       refine u_pk ?_
       refine u_mv ?_
       refine g_mv ?_
       refine g_ln ?_
       refine g_bn ?_
       refine g_mv ?_
       refine g_mv ?_
       refine g_mv ?_
       refine g_ln ?_
       refine g_bn ?_
       refine g_sl ?_
       refine g_bn ?_
       refine g_pk ?_
       refine u_pk ?_
       refine lg_nil ?_
       have hx := hx0
       refine h28 _ ?_; clear h28; try clear N28
       refine u_cond (fun hb29 => ?_) (fun hb29 => ?_)
       ·refine vc_seq_k fun N30 h30 => ?_
        refine u_reg ?_
        try refine lg_mk ?_
        refine u_mv ?_
        refine lg_nil ?_
        refine h30 _ ?_; clear h30; try clear N30
        refine vc_ret ?_
        try simp only [k_rules]
        have hr2 := name_no hxe hr
        rw [hr2]
        refine fin2_ ?_
        exact cl_
       ·first | omega | exact absurd trivial hb29 | contradiction | (simp_all; done)
      ·have q0 : decide (x = []) = false := decide_eq_false hx0'
       have q2 : decide ((a.toNat : Int) = 46) = true := decide_eq_true (by omega)
       have q5 := q2
       have q6 := q2
       have hin := q2
       have htx := q2
       have hx := And.intro @q0 (And.intro @q1 (And.intro @q2 (And.intro @q5 (And.intro @hin (And.intro @htx (And.intro @q6 hx0))))))
       refine u_reg ?_
       try refine lg_mk ?_
       refine u_mv ?_
       refine u_bn ?_
       refine u_mv ?_
       refine g_mv ?_
       refine g_pt ?_
       refine g_bn ?_
       refine u_pk ?_
       refine u_mv ?_
       refine g_mv ?_
       refine g_ln ?_
       refine g_bn ?_
       refine g_mv ?_
       refine g_mv ?_
       refine g_mv ?_
       refine g_ln ?_
       refine g_bn ?_
       refine g_sl ?_
       refine g_bn ?_
       refine g_pk ?_
       refine u_pk ?_
       refine lg_nil ?_
       have hx := hx0
       refine h28 _ ?_; clear h28; try clear N28
       refine u_cond (fun hb31 => ?_) (fun hb31 => ?_)
       ·refine vc_seq_k fun N32 h32 => ?_
        refine u_reg ?_
        try refine lg_mk ?_
        refine u_mv ?_
        refine lg_nil ?_
        refine h32 _ ?_; clear h32; try clear N32
        refine vc_ret ?_
        try simp only [k_rules]
        have hr2 := name_no hxe hr
        rw [hr2]
        refine fin2_ ?_
        exact cl_
       ·first | omega | exact absurd trivial hb31 | contradiction | (simp_all; done)
      ·have q0 : decide (x = []) = false := decide_eq_false hx0'
       have q2 : decide ((a.toNat : Int) = 46) = false := decide_eq_false (by omega)
       have hin : ((x.length : Int) - 5).toNat = x.length - 5 := by omega
       have htx : (x.drop (x.length - 5)).take (x.length - (x.length - 5)) = x.drop (x.length - 5) := List.take_of_length_le (by simp)
       have q5 : decide ((5 : Int) ≤ (x.length : Int)) = true := decide_eq_true (by omega)
       have q6 : decide (x.drop (x.length - 5) = [46, 108, 111, 99, 107]) = true := decide_eq_true hlk
       have hx := And.intro @q0 (And.intro @q1 (And.intro @q2 (And.intro @q5 (And.intro @hin (And.intro @htx (And.intro @q6 hx0))))))
       refine u_reg ?_
       try refine lg_mk ?_
       refine u_mv ?_
       refine u_bn ?_
       refine u_mv ?_
       refine g_mv ?_
       refine g_pt ?_
       refine g_bn ?_
       refine u_pk ?_
       refine u_mv ?_
       refine g_mv ?_
       refine g_ln ?_
       refine g_bn ?_
       refine g_mv ?_
       refine g_mv ?_
       refine g_mv ?_
       refine g_ln ?_
       refine g_bn ?_
       refine g_sl ?_
       refine g_bn ?_
       refine g_pk ?_
       refine u_pk ?_
       refine lg_nil ?_
       have hx := hx0
       refine h28 _ ?_; clear h28; try clear N28
       refine u_cond (fun hb33 => ?_) (fun hb33 => ?_)
       ·refine vc_seq_k fun N34 h34 => ?_
        refine u_reg ?_
        try refine lg_mk ?_
        refine u_mv ?_
        refine lg_nil ?_
        refine h34 _ ?_; clear h34; try clear N34
        refine vc_ret ?_
        try simp only [k_rules]
        have hr2 := name_no hxe hr
        rw [hr2]
        refine fin2_ ?_
        exact cl_
       ·first | omega | exact absurd trivial hb33 | contradiction | (simp_all; done)
      ·have q0 : decide (x = []) = false := decide_eq_false hx0'
       have q2 : decide ((a.toNat : Int) = 46) = false := decide_eq_false (by omega)
       have hin : ((x.length : Int) - 5).toNat = x.length - 5 := by omega
       have htx : (x.drop (x.length - 5)).take (x.length - (x.length - 5)) = x.drop (x.length - 5) := List.take_of_length_le (by simp)
       have q5 : decide ((5 : Int) ≤ (x.length : Int)) = true := decide_eq_true (by omega)
       have q6 : decide (x.drop (x.length - 5) = [46, 108, 111, 99, 107]) = false := decide_eq_false hlk
       have hx := And.intro @q0 (And.intro @q1 (And.intro @q2 (And.intro @q5 (And.intro @hin (And.intro @htx (And.intro @q6 hx0))))))
       refine u_reg ?_
       try refine lg_mk ?_
       refine u_mv ?_
       refine u_bn ?_
       refine u_mv ?_
       refine g_mv ?_
       refine g_pt ?_
       refine g_bn ?_
       refine u_pk ?_
       refine u_mv ?_
       refine g_mv ?_
       refine g_ln ?_
       refine g_bn ?_
       refine g_mv ?_
       refine g_mv ?_
       refine g_mv ?_
       refine g_ln ?_
       refine g_bn ?_
       refine g_sl ?_
       refine g_bn ?_
       refine g_pk ?_
       refine u_pk ?_
       refine lg_nil ?_
       have hx := hx0
       refine h28 _ ?_; clear h28; try clear N28
       refine u_cond (fun hb35 => ?_) (fun hb35 => ?_)
       ·first | omega | exact absurd trivial hb35 | contradiction | (simp_all; done)
       ·refine vc_skip ?_
        try simp only [k_rules]
        refine h15 _ ⟨(), ?_, [], ?_⟩
        ·dsimp only
         exact hr
        ·dsimp only
         refine ⟨by rfl, ?_, ?_⟩
         ·refine fin_ ?_
          exact cl_
         ·refine fin_ ?_
          exact cl_
      ·have q0 : decide (x = []) = false := decide_eq_false hx0'
       have q2 : decide ((a.toNat : Int) = 46) = false := decide_eq_false (by omega)
       have hin : ((x.length : Int) - 5).toNat = x.length - 5 := by omega
       have htx : (x.drop (x.length - 5)).take (x.length - (x.length - 5)) = x.drop (x.length - 5) := List.take_of_length_le (by simp)
       have q5 : decide ((5 : Int) ≤ (x.length : Int)) = false := decide_eq_false (by omega)
       have q6 := q5
       have hx := And.intro @q0 (And.intro @q1 (And.intro @q2 (And.intro @q5 (And.intro @hin (And.intro @htx (And.intro @q6 hx0))))))
       refine u_reg ?_
       try refine lg_mk ?_
       refine u_mv ?_
       refine u_bn ?_
       refine u_mv ?_
       refine g_mv ?_
       refine g_pt ?_
       refine g_bn ?_
       refine u_pk ?_
       refine u_mv ?_
       refine g_mv ?_
       refine g_ln ?_
       refine g_bn ?_
       refine g_mv ?_
       refine g_mv ?_
       refine g_mv ?_
       refine g_ln ?_
       refine g_bn ?_
       refine g_sl ?_
       refine g_bn ?_
       refine g_pk ?_
       refine u_pk ?_
       refine lg_nil ?_
       have hx := hx0
       refine h28 _ ?_; clear h28; try clear N28
       refine u_cond (fun hb36 => ?_) (fun hb36 => ?_)
       ·first | omega | exact absurd trivial hb36 | contradiction | (simp_all; done)
       ·refine vc_skip ?_
        try simp only [k_rules]
        refine h15 _ ⟨(), ?_, [], ?_⟩
        ·dsimp only
         exact hr
        ·dsimp only
         refine ⟨by rfl, ?_, ?_⟩
         ·refine fin_ ?_
          exact cl_
         ·refine fin_ ?_
          exact cl_
    ·refine vc_exit ?_
     simp only [k_rules, Nat.reduceEqDiff, reduceIte, eq_self]
     refine h7 _ ?_; clear h7; try clear N7
     refine vc_seq_k fun N37 h37 => ?_
     refine u_reg ?_
     try refine lg_mk ?_
     refine u_mv ?_
     refine lg_nil ?_
     refine h37 _ ?_; clear h37; try clear N37
     refine vc_ret ?_
     try simp only [k_rules]
     have hr2 := name_all h60 (fun y hy => i2 y (by rw [List.take_of_length_le (by omega)]; exact hy))
     rw [hr2]
     refine fin2_ ?_
     exact cl_
 ·cases hg

def E_nameR : Env Tryz.prog := E_isDR.add 42 (Spec.pure nameG) nameR_meets (by kernel_rfl)
end Go.Proofs.YtcjipciiljjfhaaGreatDoor
