/- Walks, printed by wip/gen/walk.py. -/
import Derived.Test.YtaoifpmifpmhmaaT6
import Derived.Test.YtaoifpmifpmhmaaV4
set_option linter.all false
set_option maxRecDepth 100000
set_option maxHeartbeats 4000000
namespace Go.Proofs.Ytaoifpmifpmhmaa
open Go Go.Vc Go.RowKit
def headAt (n : Nat) (x : Int) : Int := if 0 ≤ x ∧ x < n then 0 else 6
/-- The fault of a cut. -/
def cutF (l : List Cm) (hs : List Int) (d : Int) : Int × Int :=
  if (histF l).1 ≠ 0 then histF l else if 60 < hs.length then (2, -1) else if (scanW (fun i => (headAt l.length (hs.getD i 0), (i : Int))) hs.length).1 ≠ 0 then scanW (fun i => (headAt l.length (hs.getD i 0), (i : Int))) hs.length
  else if 0 ≤ d ∧ d ≤ 60 then (0, 0) else (3, -2)
def cutR (l : List Cm) (hs : List Int) (d : Int) : List Int := if (cutF l hs d).1 ≠ 0 then [] else if d = 0 then [] else lst l.length (stepN l (d - 1).toNat (mark hs))
def selAt (n : Nat) (ns : List Int) (i : Nat) : Int := if ¬(0 ≤ ns.getD i 0 ∧ ns.getD i 0 < n) then 6 else if 0 < i ∧ ns.getD i 0 ≤ ns.getD (i - 1) 0 then 5 else 0
/-- The fault of a history and a selection. -/
def selF (l : List Cm) (ns : List Int) : Int × Int := if (histF l).1 ≠ 0 then histF l else scanW (fun i => (selAt l.length ns i, (i : Int))) ns.length
def delF (l : List Cm) (ns : List Int) (d : Int) : Int × Int := if (selF l ns).1 ≠ 0 then selF l ns else if 0 ≤ d ∧ d ≤ 60 then (0, 0) else (3, -2)
def delR (l : List Cm) (ns : List Int) (d : Int) : List Int := if (delF l ns d).1 ≠ 0 then [] else lst l.length (stepN l d.toNat (mark ns))
def cutG : List AV → Option (Prop × AV)
  | [.d (.sl xs), .d (.sl hs), .d (.int .i64 d)] => some (xs = rows eC (dC xs) ∧ hs = rows eI (dI hs) ∧ (dC xs).length ≤ 9223372036854775807 ∧ smallC (dC xs) ∧ (dI hs).length ≤ 9223372036854775807 ∧ inI64 d,
      .tup [.d (.sl (rows eI (cutR (dC xs) (dI hs) d))), .agg [.d (.int .i64 (cutF (dC xs) (dI hs) d).1), .d (.int .i64 (cutF (dC xs) (dI hs) d).2)]])
  | _ => none
def selG : List AV → Option (Prop × AV)
  | [.d (.sl xs), .d (.sl hs)] => some (xs = rows eC (dC xs) ∧ hs = rows eI (dI hs) ∧ (dC xs).length ≤ 9223372036854775807 ∧ smallC (dC xs) ∧ (dI hs).length ≤ 9223372036854775807,
      .agg [.d (.int .i64 (selF (dC xs) (dI hs)).1), .d (.int .i64 (selF (dC xs) (dI hs)).2)])
  | _ => none
def delG : List AV → Option (Prop × AV)
  | [.d (.sl xs), .d (.sl hs), .d (.int .i64 d)] => some (xs = rows eC (dC xs) ∧ hs = rows eI (dI hs) ∧ (dC xs).length ≤ 9223372036854775807 ∧ smallC (dC xs) ∧ (dI hs).length ≤ 9223372036854775807 ∧ inI64 d,
      .tup [.d (.sl (rows eI (delR (dC xs) (dI hs) d))), .agg [.d (.int .i64 (delF (dC xs) (dI hs) d).1), .d (.int .i64 (delF (dC xs) (dI hs) d).2)]])
  | _ => none
theorem head_0 {n : Nat} {x : Int} (h0 : 0 ≤ x) (h1 : x < n) : headAt n x = 0 := if_pos ⟨h0, h1⟩
theorem head_inR {n : Nat} {hs : List Int} (h : ∀ j, j < hs.length → headAt n (hs.getD j 0) = 0) : InR n hs := by
  intro x hx
  obtain ⟨k, hk, hkx⟩ := List.getElem_of_mem hx
  have h2 : hs[k]? = some x := by rw [List.getElem?_eq_getElem hk, hkx]
  have := h k hk
  rw [getD_of h2] at this
  unfold headAt at this
  split at this
  · assumption
  · cases this
theorem cut_hist {l : List Cm} {hs : List Int} {d : Int} (h : (histF l).1 ≠ 0) : cutF l hs d = histF l ∧ cutR l hs d = [] := by
  have e : cutF l hs d = histF l := if_pos h
  exact ⟨e, by unfold cutR; rw [e, if_pos h]⟩
theorem cut_many {l : List Cm} {hs : List Int} {d : Int} (h : (histF l).1 = 0) (h1 : 60 < hs.length) : cutF l hs d = (2, -1) ∧ cutR l hs d = [] := by
  have e : cutF l hs d = (2, -1) := by unfold cutF; rw [if_neg (by simp [h]), if_pos h1]
  exact ⟨e, by unfold cutR; rw [e]; rfl⟩
theorem cut_head {l : List Cm} {hs : List Int} {d : Int} {i : Nat} {x : Int} (h : (histF l).1 = 0) (h1 : ¬60 < hs.length) (hx : hs[i]? = some x) (hj : ∀ j, j < i → headAt l.length (hs.getD j 0) = 0) (hb : ¬(0 ≤ x ∧ x < l.length)) : cutF l hs d = (6, (i : Int)) ∧ cutR l hs d = [] := by
  have e : cutF l hs d = (6, (i : Int)) := by
    have hh : headAt l.length (hs.getD i 0) = 6 := by rw [getD_of hx]; exact if_neg hb
    have hs' : scanW (fun i => (headAt l.length (hs.getD i 0), (i : Int))) hs.length = (6, (i : Int)) := by
      rw [scanW_hit (List.getElem?_eq_some_iff.1 hx).1 hj (by simp only [hh]; omega)]; simp only [hh]
    unfold cutF; rw [if_neg (by simp [h]), if_neg h1, hs', if_pos (by simp)]
  exact ⟨e, by unfold cutR; rw [e]; rfl⟩
theorem cut_rest {l : List Cm} {hs : List Int} {d : Int} (h : (histF l).1 = 0) (h1 : ¬60 < hs.length) (hj : ∀ j, j < hs.length → headAt l.length (hs.getD j 0) = 0) : cutF l hs d = if 0 ≤ d ∧ d ≤ 60 then (0, 0) else (3, -2) := by
  unfold cutF; rw [if_neg (by simp [h]), if_neg h1, scanW_none hj, if_neg (by simp)]
theorem cut_bad {l : List Cm} {hs : List Int} {d : Int} (h : (histF l).1 = 0) (h1 : ¬60 < hs.length) (hj : ∀ j, j < hs.length → headAt l.length (hs.getD j 0) = 0) (hd : ¬(0 ≤ d ∧ d ≤ 60)) : cutF l hs d = (3, -2) ∧ cutR l hs d = [] := by
  have e := cut_rest (d := d) h h1 hj
  rw [if_neg hd] at e
  exact ⟨e, by unfold cutR; rw [e]; rfl⟩
theorem cut_ok {l : List Cm} {hs : List Int} {d : Int} (h : (histF l).1 = 0) (h1 : ¬60 < hs.length) (hj : ∀ j, j < hs.length → headAt l.length (hs.getD j 0) = 0) (hd : 0 ≤ d ∧ d ≤ 60) : cutF l hs d = (0, 0) ∧ cutR l hs d = if d = 0 then [] else lst l.length (stepN l (d - 1).toNat (mark hs)) := by
  have e := cut_rest (d := d) h h1 hj
  rw [if_pos hd] at e
  exact ⟨e, by unfold cutR; rw [e]; rfl⟩
theorem sel_0 {n : Nat} {ns : List Int} {i : Nat} {x q : Int} (hx : ns[i]? = some x) (hq : ns[((i : Int) - 1).toNat]? = some q) (h0 : 0 ≤ x) (h1 : x < n) (h : 0 < i → q < x) : selAt n ns i = 0 := by
  have e : ((i : Int) - 1).toNat = i - 1 := by omega
  rw [e] at hq
  unfold selAt; rw [getD_of hx, getD_of hq, if_neg (by omega), if_neg (by rintro ⟨h3, h4⟩; have := h h3; omega)]
theorem sel_6 {n : Nat} {ns : List Int} {i : Nat} {x : Int} (hx : ns[i]? = some x) (hb : ¬(0 ≤ x ∧ x < n)) : selAt n ns i = 6 := by
  unfold selAt; rw [getD_of hx, if_pos hb]
theorem sel_5 {n : Nat} {ns : List Int} {i : Nat} {x q : Int} (hx : ns[i]? = some x) (hq : ns[((i : Int) - 1).toNat]? = some q) (h0 : 0 ≤ x) (h1 : x < n) (hi : 0 < i) (h : x ≤ q) : selAt n ns i = 5 := by
  have e : ((i : Int) - 1).toNat = i - 1 := by omega
  rw [e] at hq
  unfold selAt; rw [getD_of hx, getD_of hq, if_neg (by omega), if_pos ⟨hi, h⟩]
theorem sel_hist {l : List Cm} {ns : List Int} (h : (histF l).1 ≠ 0) : selF l ns = histF l := if_pos h
theorem sel_at {l : List Cm} {ns : List Int} {i : Nat} {x : Int} (h : (histF l).1 = 0) (hx : ns[i]? = some x) (hj : ∀ j, j < i → selAt l.length ns j = 0) {v : Int} (hv : selAt l.length ns i = v) (hv0 : v ≠ 0) : selF l ns = (v, (i : Int)) := by
  unfold selF; rw [if_neg (by simp [h]), scanW_hit (List.getElem?_eq_some_iff.1 hx).1 hj (by simp only [hv]; exact hv0)]; simp only [hv]
theorem sel_ok {l : List Cm} {ns : List Int} (h : (histF l).1 = 0) (hj : ∀ j, j < ns.length → selAt l.length ns j = 0) : selF l ns = (0, 0) := by
  unfold selF; rw [if_neg (by simp [h]), scanW_none hj]
/-- A selection: sorted numbers of a valid history. -/
structure Sel (l : List Cm) (ns : List Int) : Prop where
  val : Valid l
  inr : InR l.length ns
  inc : ns.Pairwise (· < ·)
theorem inc_pairwise : ∀ {l : List Int}, (∀ k p q, l[k]? = some p → l[k + 1]? = some q → p < q) → l.Pairwise (· < ·)
  | [], _ => List.Pairwise.nil
  | [a], _ => List.pairwise_singleton _ _
  | a :: b :: r, h => by
    have ih := inc_pairwise (l := b :: r) fun k p q hp hq => h (k + 1) p q (by simpa using hp) (by simpa using hq)
    have hab := h 0 a b rfl rfl
    refine List.pairwise_cons.2 ⟨fun x hx => ?_, ih⟩
    rcases List.mem_cons.1 hx with rfl | hx
    · exact hab
    · have := (List.pairwise_cons.1 ih).1 x hx; omega
theorem sel_of {l : List Cm} {ns : List Int} (h : (selF l ns).1 = 0) : Sel l ns := by
  unfold selF at h
  split at h
  · rename_i h'; exact absurd h h'
  · rename_i h'
    have hz := scanW_zero h
    have key : ∀ {i : Nat} {x : Int}, ns[i]? = some x → (0 ≤ x ∧ x < l.length) ∧ ∀ q, 0 < i → ns[i - 1]? = some q → q < x := fun {i x} hx => by
      have h1 := hz i (List.getElem?_eq_some_iff.1 hx).1
      simp only [selAt] at h1
      rw [getD_of hx] at h1
      split at h1
      · cases h1
      · rename_i h2
        refine ⟨Decidable.not_not.1 h2, fun q hi hq => ?_⟩
        rw [getD_of hq] at h1
        split at h1
        · cases h1
        · omega
    refine ⟨valid_of (by simpa using h'), fun x hx => ?_, inc_pairwise fun k p q hp hq => (key hq).2 p (by omega) (by simpa using hp)⟩
    obtain ⟨k, hk, hkx⟩ := List.getElem_of_mem hx
    exact (key (by rw [List.getElem?_eq_getElem hk, hkx])).1
theorem selF_zero {l : List Cm} {ns : List Int} (h : (selF l ns).1 = 0) : selF l ns = (0, 0) := by
  unfold selF at *
  split at h
  · rename_i h'; exact absurd h h'
  · rename_i h'; rw [if_neg h']; exact scanW_fst h
theorem del_sel {l : List Cm} {ns : List Int} {d : Int} (h : (selF l ns).1 ≠ 0) : delF l ns d = selF l ns ∧ delR l ns d = [] := by
  have e : delF l ns d = selF l ns := if_pos h
  exact ⟨e, by unfold delR; rw [e, if_pos h]⟩
theorem del_bad {l : List Cm} {ns : List Int} {d : Int} (h : (selF l ns).1 = 0) (hd : ¬(0 ≤ d ∧ d ≤ 60)) : delF l ns d = (3, -2) ∧ delR l ns d = [] := by
  have e : delF l ns d = (3, -2) := by unfold delF; rw [if_neg (by simp [h]), if_neg hd]
  exact ⟨e, by unfold delR; rw [e]; rfl⟩
theorem del_ok {l : List Cm} {ns : List Int} {d : Int} (h : (selF l ns).1 = 0) (hd : 0 ≤ d ∧ d ≤ 60) : delF l ns d = (0, 0) ∧ delR l ns d = lst l.length (stepN l d.toNat (mark ns)) := by
  have e : delF l ns d = (0, 0) := by unfold delF; rw [if_neg (by simp [h]), if_pos hd]
  exact ⟨e, by unfold delR; rw [e]; rfl⟩

theorem selCheck_meets : Meets Try.prog 45 (Spec.pure selG) := by
 refine meets_fun (E_steps.at_ 42) Try.func45 rfl rfl rfl ?_
 intro args p r hg hp
 unfold selG at hg
 split at hg
 ·rename_i xs ys
  simp only [Option.some.injEq, Prod.mk.injEq] at hg
  obtain ⟨rfl, rfl⟩ := hg
  obtain ⟨he, hf, hl, hs, hn⟩ := hp
  generalize dC xs = l at *
  generalize dI ys = ns at *
  subst he hf
  have hT : (E_steps).X = T := rfl
  have hx0 := And.intro @rect_eC (And.intro @dC_rows (And.intro @dI_rows @Try.results45))
  have hx := hx0
  refine ⟨by rfl, ?_⟩
  intro F W0 hnp hmk
  refine vc_seq_k fun N1 h1 => ?_
  refine u_reg ?_
  try refine lg_mk ?_
  refine u_al ?_
  refine lg_nil ?_
  refine h1 _ ?_; clear h1; try clear N1
  refine vc_seq_k fun N2 h2 => ?_
  refine vc_seq_k fun N3 h3 => ?_
  by_cases h0 : (histF l).1 = 0
  ·have hz := histF_zero h0
   have hv := valid_of h0
   have hl60 := hv.len
   have hx := And.intro @hz hx0
   refine u_reg ?_
   try refine lg_mk ?_
   refine u_mv ?_
   have hc := call_rule (E := (E_steps.at_ 42)) (f := 40) (sp := Spec.pure histG) rfl
   have hs := @histG.eq_1
   refine u_cp (hq := by (first | (rw [dC_rows]; exact ⟨rfl, hl, hs⟩) | (first | trivial | omega | assumption | (unfold inI64; omega) | ((repeat' apply And.intro) <;> first | rfl | trivial | omega | assumption | (unfold inI64; omega)) | (simp; done) | (simp; omega)))) ?_
   refine u_al ?_
   refine u_st ?_
   refine lg_nil ?_
   have hx := hx0
   refine h3 _ ?_; clear h3; try clear N3
   refine vc_seq_k fun N4 h4 => ?_
   refine u_reg ?_
   try refine lg_mk ?_
   refine u_ld ?_
   refine u_bd ?_
   refine u_bn ?_
   refine lg_nil ?_
   refine h4 _ ?_; clear h4; try clear N4
   refine u_cond (fun hb5 => ?_) (fun hb5 => ?_)
   ·first | omega | exact absurd trivial hb5 | contradiction | (simp_all; done)
   ·refine vc_skip ?_
    try simp only [k_rules]
    refine h2 _ ?_; clear h2; try clear N2
    refine vc_seq_k fun N6 h6 => ?_
    refine vc_seq_k fun N7 h7 => ?_
    refine u_reg ?_
    try refine lg_mk ?_
    refine u_mv ?_
    refine u_ln ?_
    refine u_mv ?_
    refine lg_nil ?_
    refine h7 _ ?_; clear h7; try clear N7
    refine vc_block ?_
    refine vc_loop_mk (σ := Nat) (fun s => (fun i => i ≤ ns.length ∧ ∀ j, j < i → selAt l.length ns j = 0) s)
     (fun s => (fun i => [(0, .d (.sl (rows eC l))), (1, .d (.sl (rows eI ns))), (4, .ptr 0 0 0), (14, .d (.sl (rows eI ns))), (15, .d (.int .i64 (ns.length : Nat))), (16, .d (.int .i64 (i : Nat)))]) s)
     (fun s => (fun i => [some (.one 27 [.d (.int .i64 0), .d (.int .i64 0)])]) s) (fun s => (fun i => ns.length - i) s) hnp 0 ?_ [some 0] ?_ ?_
    ·dsimp only
     simp
    ·dsimp only
     refine ⟨by rfl, ?_, ?_⟩
     ·refine fin_ ?_
      exact cl_
     ·refine fin_ ?_
      exact cl_
    ·rintro i hinv N8 h8
     dsimp only at hinv ⊢
     obtain ⟨i1, i2⟩ := hinv
     refine vc_seq_k fun N9 h9 => ?_
     refine u_reg ?_
     try refine lg_mk ?_
     refine u_bn ?_
     refine lg_nil ?_
     refine h9 _ ?_; clear h9; try clear N9
     refine vc_seq_k fun N10 h10 => ?_
     refine u_cond (fun hb11 => ?_) (fun hb11 => ?_)
     ·obtain ⟨x, hxe⟩ := getE (l := ns) (i := i) (by omega)
      obtain ⟨q, hqe⟩ := getE (l := ns) (i := ((i : Int) - 1).toNat) (by omega)
      refine vc_skip ?_
      try simp only [k_rules]
      refine h10 _ ?_; clear h10; try clear N10
      refine vc_seq_k fun N12 h12 => ?_
      refine vc_block ?_
      refine vc_seq_k fun N13 h13 => ?_
      have hx := And.intro @hxe (And.intro @eI.eq_1 hx0)
      refine u_reg ?_
      try refine lg_mk ?_
      refine u_mv ?_
      refine u_pt ?_
      refine u_ld ?_
      refine u_mv ?_
      refine u_mv ?_
      refine lg_nil ?_
      have hx := hx0
      refine h13 _ ?_; clear h13; try clear N13
      refine vc_seq_k fun N14 h14 => ?_
      refine vc_seq_k fun N15 h15 => ?_
      refine u_reg ?_
      try refine lg_mk ?_
      refine u_mv ?_
      refine u_mv ?_
      have hc := call_rule (E := (E_steps.at_ 42)) (f := 41) (sp := Spec.pure isG) rfl
      have hs := @isG.eq_1
      refine u_cp ?_
      refine u_un ?_
      refine lg_nil ?_
      refine h15 _ ?_; clear h15; try clear N15
      refine u_cond (fun hb16 => ?_) (fun hb16 => ?_)
      ·refine vc_seq_k fun N17 h17 => ?_
       refine u_reg ?_
       try refine lg_mk ?_
       refine u_mv ?_
       refine u_bd ?_
       refine u_st ?_
       refine lg_nil ?_
       refine h17 _ ?_; clear h17; try clear N17
       refine vc_ret ?_
       try simp only [k_rules]
       rw [sel_at h0 hxe i2 (sel_6 hxe (by omega)) (by omega)]
       refine fin2_ ?_
       exact cl_
      ·refine vc_skip ?_
       try simp only [k_rules]
       refine h14 _ ?_; clear h14; try clear N14
       refine vc_seq_k fun N18 h18 => ?_
       have hx := And.intro @hqe (And.intro @eI.eq_1 hx0)
       refine u_reg ?_
       try refine lg_mk ?_
       refine u_mv ?_
       refine u_bn ?_
       refine u_mv ?_
       refine g_mv ?_
       refine g_mv ?_
       refine g_mv ?_
       refine g_bn ?_
       refine g_pt ?_
       refine g_ld ?_
       refine g_bn ?_
       refine u_pk ?_
       refine lg_nil ?_
       have hx := hx0
       refine h18 _ ?_; clear h18; try clear N18
       refine u_cond (fun hb19 => ?_) (fun hb19 => ?_)
       ·refine vc_seq_k fun N20 h20 => ?_
        refine u_reg ?_
        try refine lg_mk ?_
        refine u_mv ?_
        refine u_bd ?_
        refine u_st ?_
        refine lg_nil ?_
        refine h20 _ ?_; clear h20; try clear N20
        refine vc_ret ?_
        try simp only [k_rules]
        rw [sel_at h0 hxe i2 (sel_5 hxe hqe (by omega) (by omega) (by omega) (by omega)) (by omega)]
        refine fin2_ ?_
        exact cl_
       ·refine vc_skip ?_
        try simp only [k_rules]
        refine h12 _ ?_; clear h12; try clear N12
        refine u_reg ?_
        try refine lg_mk ?_
        refine u_bn ?_
        refine u_mv ?_
        refine lg_nil ?_
        refine h8 _ ⟨i + 1, ?_, ?_, [some 0], ?_⟩
        ·dsimp only
         exact ⟨by omega, lt_snoc i2 (sel_0 hxe hqe (by omega) (by omega) (fun h => by omega))⟩
        ·dsimp only
         omega
        ·dsimp only
         refine ⟨by rfl, ?_, ?_⟩
         ·refine fin_ ?_
          exact cl_
         ·refine fin_ ?_
          exact cl_
     ·refine vc_exit ?_
      simp only [k_rules, Nat.reduceEqDiff, reduceIte, eq_self]
      refine h6 _ ?_; clear h6; try clear N6
      refine vc_seq_k fun N21 h21 => ?_
      refine u_reg ?_
      try refine lg_mk ?_
      refine u_bd ?_
      refine u_st ?_
      refine lg_nil ?_
      refine h21 _ ?_; clear h21; try clear N21
      refine vc_ret ?_
      try simp only [k_rules]
      rw [sel_ok h0 (fun j hj => i2 j (by omega))]
      refine fin2_ ?_
      exact cl_
  ·have hz : True := trivial
   have hx := And.intro @hz hx0
   refine u_reg ?_
   try refine lg_mk ?_
   refine u_mv ?_
   have hc := call_rule (E := (E_steps.at_ 42)) (f := 40) (sp := Spec.pure histG) rfl
   have hs := @histG.eq_1
   refine u_cp (hq := by (first | (rw [dC_rows]; exact ⟨rfl, hl, hs⟩) | (first | trivial | omega | assumption | (unfold inI64; omega) | ((repeat' apply And.intro) <;> first | rfl | trivial | omega | assumption | (unfold inI64; omega)) | (simp; done) | (simp; omega)))) ?_
   refine u_al ?_
   refine u_st ?_
   refine lg_nil ?_
   have hx := hx0
   refine h3 _ ?_; clear h3; try clear N3
   refine vc_seq_k fun N22 h22 => ?_
   refine u_reg ?_
   try refine lg_mk ?_
   refine u_ld ?_
   refine u_bd ?_
   refine u_bn ?_
   refine lg_nil ?_
   refine h22 _ ?_; clear h22; try clear N22
   refine u_cond (fun hb23 => ?_) (fun hb23 => ?_)
   ·refine vc_seq_k fun N24 h24 => ?_
    refine u_reg ?_
    try refine lg_mk ?_
    refine u_ld ?_
    refine u_st ?_
    refine lg_nil ?_
    refine h24 _ ?_; clear h24; try clear N24
    refine vc_ret ?_
    try simp only [k_rules]
    rw [sel_hist h0]
    refine fin2_ ?_
    exact cl_
   ·first | omega | exact absurd trivial hb23 | contradiction | (simp_all; done)
 ·cases hg

def E_selCheck : Env Try.prog := E_steps.add 45 (Spec.pure selG) selCheck_meets (by kernel_rfl)

theorem selFault_meets : Meets Try.prog 30 (Spec.pure selG) := by
 refine meets_fun (E_selCheck.at_ 47) Try.func30 rfl rfl rfl ?_
 intro args p r hg hp
 unfold selG at hg
 split at hg
 ·rename_i xs ys
  simp only [Option.some.injEq, Prod.mk.injEq] at hg
  obtain ⟨rfl, rfl⟩ := hg
  obtain ⟨he, hf, hl, hs, hn⟩ := hp
  generalize dC xs = l at *
  generalize dI ys = ns at *
  subst he hf
  have hT : (E_selCheck).X = T := rfl
  have hx0 := And.intro @rect_eC (And.intro @dC_rows (And.intro @dI_rows @Try.results30))
  have hx := hx0
  refine ⟨by rfl, ?_⟩
  intro F W0 hnp hmk
  refine vc_seq_k fun N1 h1 => ?_
  refine u_reg ?_
  try refine lg_mk ?_
  refine u_al ?_
  refine lg_nil ?_
  refine h1 _ ?_; clear h1; try clear N1
  refine vc_seq_k fun N2 h2 => ?_
  refine vc_seq_k fun N3 h3 => ?_
  by_cases h0 : (histF l).1 = 0
  ·have hz := histF_zero h0
   have hv := valid_of h0
   have hl60 := hv.len
   have hx := And.intro @hz hx0
   refine u_reg ?_
   try refine lg_mk ?_
   refine u_mv ?_
   have hc := call_rule (E := (E_selCheck.at_ 47)) (f := 24) (sp := Spec.pure histG) rfl
   have hs := @histG.eq_1
   refine u_cp (hq := by (first | (rw [dC_rows]; exact ⟨rfl, hl, hs⟩) | (first | trivial | omega | assumption | (unfold inI64; omega) | ((repeat' apply And.intro) <;> first | rfl | trivial | omega | assumption | (unfold inI64; omega)) | (simp; done) | (simp; omega)))) ?_
   refine u_al ?_
   refine u_st ?_
   refine lg_nil ?_
   have hx := hx0
   refine h3 _ ?_; clear h3; try clear N3
   refine vc_seq_k fun N4 h4 => ?_
   refine u_reg ?_
   try refine lg_mk ?_
   refine u_pt ?_
   refine u_ld ?_
   refine u_bn ?_
   refine lg_nil ?_
   refine h4 _ ?_; clear h4; try clear N4
   refine u_cond (fun hb5 => ?_) (fun hb5 => ?_)
   ·first | omega | exact absurd trivial hb5 | contradiction | (simp_all; done)
   ·refine vc_skip ?_
    try simp only [k_rules]
    refine h2 _ ?_; clear h2; try clear N2
    refine vc_seq_k fun N6 h6 => ?_
    refine vc_seq_k fun N7 h7 => ?_
    refine u_reg ?_
    try refine lg_mk ?_
    refine u_mv ?_
    refine lg_nil ?_
    refine h7 _ ?_; clear h7; try clear N7
    refine vc_block ?_
    refine vc_loop_mk (σ := Nat) (fun s => (fun i => i ≤ ns.length ∧ ∀ j, j < i → selAt l.length ns j = 0) s)
     (fun s => (fun i => [(0, .d (.sl (rows eC l))), (1, .d (.sl (rows eI ns))), (4, .ptr 0 0 0), (6, .d (.int .i64 (i : Nat)))]) s)
     (fun s => (fun i => [some (.one 27 [.d (.int .i64 0), .d (.int .i64 0)])]) s) (fun s => (fun i => ns.length - i) s) hnp 0 ?_ [some 0] ?_ ?_
    ·dsimp only
     simp
    ·dsimp only
     refine ⟨by rfl, ?_, ?_⟩
     ·refine fin_ ?_
      exact cl_
     ·refine fin_ ?_
      exact cl_
    ·rintro i hinv N8 h8
     dsimp only at hinv ⊢
     obtain ⟨i1, i2⟩ := hinv
     refine vc_seq_k fun N9 h9 => ?_
     refine vc_seq_k fun N10 h10 => ?_
     refine u_reg ?_
     try refine lg_mk ?_
     refine u_mv ?_
     refine u_mv ?_
     refine u_ln ?_
     refine u_bn ?_
     refine lg_nil ?_
     refine h10 _ ?_; clear h10; try clear N10
     refine u_cond (fun hb11 => ?_) (fun hb11 => ?_)
     ·obtain ⟨x, hxe⟩ := getE (l := ns) (i := i) (by omega)
      obtain ⟨q, hqe⟩ := getE (l := ns) (i := ((i : Int) - 1).toNat) (by omega)
      refine vc_skip ?_
      try simp only [k_rules]
      refine h9 _ ?_; clear h9; try clear N9
      refine vc_seq_k fun N12 h12 => ?_
      refine vc_block ?_
      refine vc_seq_k fun N13 h13 => ?_
      refine vc_seq_k fun N14 h14 => ?_
      have hx := And.intro @hxe (And.intro @eI.eq_1 hx0)
      refine u_reg ?_
      try refine lg_mk ?_
      refine u_mv ?_
      refine u_mv ?_
      refine u_pt ?_
      refine u_ld ?_
      refine u_mv ?_
      refine u_ln ?_
      refine u_bn ?_
      have hc := call_rule (E := (E_selCheck.at_ 47)) (f := 19) (sp := Spec.pure inG) rfl
      have hs := @inG.eq_1
      refine u_cp ?_
      refine u_un ?_
      refine lg_nil ?_
      have hx := hx0
      refine h14 _ ?_; clear h14; try clear N14
      refine u_cond (fun hb15 => ?_) (fun hb15 => ?_)
      ·refine vc_seq_k fun N16 h16 => ?_
       refine u_reg ?_
       try refine lg_mk ?_
       refine u_mv ?_
       have hc := call_rule (E := (E_selCheck.at_ 47)) (f := 25) (sp := Spec.pure faultG) rfl
       have hs := @faultG.eq_1
       refine u_cp ?_
       refine u_st ?_
       refine lg_nil ?_
       refine h16 _ ?_; clear h16; try clear N16
       refine vc_ret ?_
       try simp only [k_rules]
       rw [sel_at h0 hxe i2 (sel_6 hxe (by omega)) (by omega)]
       refine fin2_ ?_
       exact cl_
      ·refine vc_skip ?_
       try simp only [k_rules]
       refine h13 _ ?_; clear h13; try clear N13
       refine vc_seq_k fun N17 h17 => ?_
       have hx := And.intro @hxe (And.intro @hqe (And.intro @eI.eq_1 hx0))
       refine u_reg ?_
       try refine lg_mk ?_
       refine u_mv ?_
       refine u_bn ?_
       refine u_mv ?_
       refine g_mv ?_
       refine g_mv ?_
       refine g_bn ?_
       refine g_pt ?_
       refine g_ld ?_
       refine g_mv ?_
       refine g_mv ?_
       refine g_pt ?_
       refine g_ld ?_
       refine g_bn ?_
       refine u_pk ?_
       refine lg_nil ?_
       have hx := hx0
       refine h17 _ ?_; clear h17; try clear N17
       refine u_cond (fun hb18 => ?_) (fun hb18 => ?_)
       ·refine vc_seq_k fun N19 h19 => ?_
        refine u_reg ?_
        try refine lg_mk ?_
        refine u_mv ?_
        have hc := call_rule (E := (E_selCheck.at_ 47)) (f := 25) (sp := Spec.pure faultG) rfl
        have hs := @faultG.eq_1
        refine u_cp ?_
        refine u_st ?_
        refine lg_nil ?_
        refine h19 _ ?_; clear h19; try clear N19
        refine vc_ret ?_
        try simp only [k_rules]
        rw [sel_at h0 hxe i2 (sel_5 hxe hqe (by omega) (by omega) (by omega) (by omega)) (by omega)]
        refine fin2_ ?_
        exact cl_
       ·refine vc_skip ?_
        try simp only [k_rules]
        refine h12 _ ?_; clear h12; try clear N12
        refine u_reg ?_
        try refine lg_mk ?_
        refine u_mv ?_
        refine u_bn ?_
        refine u_mv ?_
        refine lg_nil ?_
        refine h8 _ ⟨i + 1, ?_, ?_, [some 0], ?_⟩
        ·dsimp only
         exact ⟨by omega, lt_snoc i2 (sel_0 hxe hqe (by omega) (by omega) (fun h => by omega))⟩
        ·dsimp only
         omega
        ·dsimp only
         refine ⟨by rfl, ?_, ?_⟩
         ·refine fin_ ?_
          exact cl_
         ·refine fin_ ?_
          exact cl_
     ·refine vc_exit ?_
      simp only [k_rules, Nat.reduceEqDiff, reduceIte, eq_self]
      refine h6 _ ?_; clear h6; try clear N6
      refine vc_seq_k fun N20 h20 => ?_
      refine u_reg ?_
      try refine lg_mk ?_
      refine u_bd ?_
      refine u_st ?_
      refine lg_nil ?_
      refine h20 _ ?_; clear h20; try clear N20
      refine vc_ret ?_
      try simp only [k_rules]
      rw [sel_ok h0 (fun j hj => i2 j (by omega))]
      refine fin2_ ?_
      exact cl_
  ·have hz : True := trivial
   have hx := And.intro @hz hx0
   refine u_reg ?_
   try refine lg_mk ?_
   refine u_mv ?_
   have hc := call_rule (E := (E_selCheck.at_ 47)) (f := 24) (sp := Spec.pure histG) rfl
   have hs := @histG.eq_1
   refine u_cp (hq := by (first | (rw [dC_rows]; exact ⟨rfl, hl, hs⟩) | (first | trivial | omega | assumption | (unfold inI64; omega) | ((repeat' apply And.intro) <;> first | rfl | trivial | omega | assumption | (unfold inI64; omega)) | (simp; done) | (simp; omega)))) ?_
   refine u_al ?_
   refine u_st ?_
   refine lg_nil ?_
   have hx := hx0
   refine h3 _ ?_; clear h3; try clear N3
   refine vc_seq_k fun N21 h21 => ?_
   refine u_reg ?_
   try refine lg_mk ?_
   refine u_pt ?_
   refine u_ld ?_
   refine u_bn ?_
   refine lg_nil ?_
   refine h21 _ ?_; clear h21; try clear N21
   refine u_cond (fun hb22 => ?_) (fun hb22 => ?_)
   ·refine vc_seq_k fun N23 h23 => ?_
    refine u_reg ?_
    try refine lg_mk ?_
    refine u_ld ?_
    refine u_st ?_
    refine lg_nil ?_
    refine h23 _ ?_; clear h23; try clear N23
    refine vc_ret ?_
    try simp only [k_rules]
    rw [sel_hist h0]
    refine fin2_ ?_
    exact cl_
   ·first | omega | exact absurd trivial hb22 | contradiction | (simp_all; done)
 ·cases hg

def E_selFault : Env Try.prog := E_selCheck.add 30 (Spec.pure selG) selFault_meets (by kernel_rfl)

theorem cut_meets : Meets Try.prog 23 (Spec.pure cutG) := by
 refine meets_fun (E_selFault.at_ 51) Try.func23 rfl rfl rfl ?_
 intro args p r hg hp
 unfold cutG at hg
 split at hg
 ·rename_i xs ys d
  simp only [Option.some.injEq, Prod.mk.injEq] at hg
  obtain ⟨rfl, rfl⟩ := hg
  obtain ⟨he, hf, hl, hs, hn, hd⟩ := hp
  generalize dC xs = l at *
  generalize dI ys = ns at *
  subst he hf
  have hT : (E_selFault).X = T := rfl
  have hx0 := And.intro @rect_eC (And.intro @dC_rows (And.intro @dI_rows @Try.results23))
  have hx := hx0
  refine ⟨by rfl, ?_⟩
  intro F W0 hnp hmk
  refine vc_seq_k fun N1 h1 => ?_
  refine u_reg ?_
  try refine lg_mk ?_
  refine u_mv ?_
  refine u_al ?_
  refine lg_nil ?_
  refine h1 _ ?_; clear h1; try clear N1
  refine vc_seq_k fun N2 h2 => ?_
  refine vc_seq_k fun N3 h3 => ?_
  by_cases h0 : (histF l).1 = 0
  ·have hz := histF_zero h0
   have hv := valid_of h0
   have hl60 := hv.len
   have hx := And.intro @hz hx0
   refine u_reg ?_
   try refine lg_mk ?_
   refine u_mv ?_
   have hc := call_rule (E := (E_selFault.at_ 51)) (f := 40) (sp := Spec.pure histG) rfl
   have hs := @histG.eq_1
   refine u_cp (hq := by (first | (rw [dC_rows]; exact ⟨rfl, hl, hs⟩) | (first | trivial | omega | assumption | (unfold inI64; omega) | ((repeat' apply And.intro) <;> first | rfl | trivial | omega | assumption | (unfold inI64; omega)) | (simp; done) | (simp; omega)))) ?_
   refine u_al ?_
   refine u_st ?_
   refine lg_nil ?_
   have hx := hx0
   refine h3 _ ?_; clear h3; try clear N3
   refine vc_seq_k fun N4 h4 => ?_
   refine u_reg ?_
   try refine lg_mk ?_
   refine u_ld ?_
   refine u_bd ?_
   refine u_bn ?_
   refine lg_nil ?_
   refine h4 _ ?_; clear h4; try clear N4
   refine u_cond (fun hb5 => ?_) (fun hb5 => ?_)
   ·first | omega | exact absurd trivial hb5 | contradiction | (simp_all; done)
   ·refine vc_skip ?_
    try simp only [k_rules]
    refine h2 _ ?_; clear h2; try clear N2
    refine vc_seq_k fun N6 h6 => ?_
    refine vc_seq_k fun N7 h7 => ?_
    refine u_reg ?_
    try refine lg_mk ?_
    refine u_mv ?_
    refine u_ln ?_
    refine u_bn ?_
    refine lg_nil ?_
    refine h7 _ ?_; clear h7; try clear N7
    refine u_cond (fun hb8 => ?_) (fun hb8 => ?_)
    ·refine vc_seq_k fun N9 h9 => ?_
     refine u_reg ?_
     try refine lg_mk ?_
     refine u_bd ?_
     refine u_mv ?_
     refine u_st ?_
     refine lg_nil ?_
     refine h9 _ ?_; clear h9; try clear N9
     refine vc_ret ?_
     try simp only [k_rules]
     have hr := cut_many (hs := ns) (d := d) h0 (by omega)
     rw [hr.1, hr.2]
     refine fin2_ ?_
     exact cl_
    ·refine vc_skip ?_
     try simp only [k_rules]
     refine h6 _ ?_; clear h6; try clear N6
     refine vc_seq_k fun N10 h10 => ?_
     refine vc_seq_k fun N11 h11 => ?_
     refine u_reg ?_
     try refine lg_mk ?_
     refine u_mv ?_
     refine u_ln ?_
     refine u_mv ?_
     refine lg_nil ?_
     refine h11 _ ?_; clear h11; try clear N11
     refine vc_block ?_
     refine vc_loop_mk (σ := Nat) (fun s => (fun i => i ≤ ns.length ∧ ∀ j, j < i → headAt l.length (ns.getD j 0) = 0) s)
      (fun s => (fun i => [(0, .d (.sl (rows eC l))), (1, .d (.sl (rows eI ns))), (2, .d (.int .i64 d)), (7, .ptr 0 0 0), (21, .d (.sl (rows eI ns))), (22, .d (.int .i64 (ns.length : Nat))), (23, .d (.int .i64 (i : Nat)))]) s)
      (fun s => (fun i => [some (.one 27 [.d (.int .i64 0), .d (.int .i64 0)])]) s) (fun s => (fun i => ns.length - i) s) hnp 0 ?_ [some 0] ?_ ?_
     ·dsimp only
      simp
     ·dsimp only
      refine ⟨by rfl, ?_, ?_⟩
      ·refine fin_ ?_
       exact cl_
      ·refine fin_ ?_
       exact cl_
     ·rintro i hinv N12 h12
      dsimp only at hinv ⊢
      obtain ⟨i1, i2⟩ := hinv
      refine vc_seq_k fun N13 h13 => ?_
      refine u_reg ?_
      try refine lg_mk ?_
      refine u_bn ?_
      refine lg_nil ?_
      refine h13 _ ?_; clear h13; try clear N13
      refine vc_seq_k fun N14 h14 => ?_
      refine u_cond (fun hb15 => ?_) (fun hb15 => ?_)
      ·obtain ⟨x, hxe⟩ := getE (l := ns) (i := i) (by omega)
       refine vc_skip ?_
       try simp only [k_rules]
       refine h14 _ ?_; clear h14; try clear N14
       refine vc_seq_k fun N16 h16 => ?_
       refine vc_block ?_
       refine vc_seq_k fun N17 h17 => ?_
       have hx := And.intro @hxe (And.intro @eI.eq_1 hx0)
       refine u_reg ?_
       try refine lg_mk ?_
       refine u_mv ?_
       refine u_pt ?_
       refine u_ld ?_
       refine u_mv ?_
       refine u_mv ?_
       refine lg_nil ?_
       have hx := hx0
       refine h17 _ ?_; clear h17; try clear N17
       refine vc_seq_k fun N18 h18 => ?_
       refine u_reg ?_
       try refine lg_mk ?_
       refine u_mv ?_
       refine u_mv ?_
       have hc := call_rule (E := (E_selFault.at_ 51)) (f := 41) (sp := Spec.pure isG) rfl
       have hs := @isG.eq_1
       refine u_cp ?_
       refine u_un ?_
       refine lg_nil ?_
       refine h18 _ ?_; clear h18; try clear N18
       refine u_cond (fun hb19 => ?_) (fun hb19 => ?_)
       ·refine vc_seq_k fun N20 h20 => ?_
        refine u_reg ?_
        try refine lg_mk ?_
        refine u_mv ?_
        refine u_bd ?_
        refine u_mv ?_
        refine u_st ?_
        refine lg_nil ?_
        refine h20 _ ?_; clear h20; try clear N20
        refine vc_ret ?_
        try simp only [k_rules]
        have hr := cut_head (d := d) h0 (by omega) hxe i2 (by omega)
        rw [hr.1, hr.2]
        refine fin2_ ?_
        exact cl_
       ·refine vc_skip ?_
        try simp only [k_rules]
        refine h16 _ ?_; clear h16; try clear N16
        refine u_reg ?_
        try refine lg_mk ?_
        refine u_bn ?_
        refine u_mv ?_
        refine lg_nil ?_
        refine h12 _ ⟨i + 1, ?_, ?_, [some 0], ?_⟩
        ·dsimp only
         exact ⟨by omega, lt_snoc i2 (by rw [getD_of hxe]; exact head_0 (by omega) (by omega))⟩
        ·dsimp only
         omega
        ·dsimp only
         refine ⟨by rfl, ?_, ?_⟩
         ·refine fin_ ?_
          exact cl_
         ·refine fin_ ?_
          exact cl_
      ·refine vc_exit ?_
       simp only [k_rules, Nat.reduceEqDiff, reduceIte, eq_self]
       refine h10 _ ?_; clear h10; try clear N10
       refine vc_seq_k fun N21 h21 => ?_
       refine vc_seq_k fun N22 h22 => ?_
       refine u_reg ?_
       try refine lg_mk ?_
       refine u_mv ?_
       refine u_bn ?_
       refine u_mv ?_
       refine g_mv ?_
       refine g_bn ?_
       refine u_pk ?_
       refine lg_nil ?_
       refine h22 _ ?_; clear h22; try clear N22
       refine u_cond (fun hb23 => ?_) (fun hb23 => ?_)
       ·refine vc_seq_k fun N24 h24 => ?_
        refine u_reg ?_
        try refine lg_mk ?_
        refine u_bd ?_
        refine u_mv ?_
        refine u_st ?_
        refine lg_nil ?_
        refine h24 _ ?_; clear h24; try clear N24
        refine vc_ret ?_
        try simp only [k_rules]
        have hr := cut_bad (hs := ns) (d := d) h0 (by omega) (fun j hj => i2 j (by omega)) (by omega)
        rw [hr.1, hr.2]
        refine fin2_ ?_
        exact cl_
       ·refine vc_skip ?_
        try simp only [k_rules]
        refine h21 _ ?_; clear h21; try clear N21
        refine vc_seq_k fun N25 h25 => ?_
        refine vc_seq_k fun N26 h26 => ?_
        refine u_reg ?_
        try refine lg_mk ?_
        refine u_mv ?_
        refine u_bn ?_
        refine lg_nil ?_
        refine h26 _ ?_; clear h26; try clear N26
        refine u_cond (fun hb27 => ?_) (fun hb27 => ?_)
        ·refine vc_seq_k fun N28 h28 => ?_
         refine u_reg ?_
         try refine lg_mk ?_
         refine u_bd ?_
         refine u_mv ?_
         refine u_st ?_
         refine lg_nil ?_
         refine h28 _ ?_; clear h28; try clear N28
         refine vc_ret ?_
         try simp only [k_rules]
         have hr := cut_ok (hs := ns) (d := d) h0 (by omega) (fun j hj => i2 j (by omega)) (by omega)
         rw [hr.1, hr.2]
         rw [if_pos hb27]
         refine fin2_ ?_
         exact cl_
        ·refine vc_skip ?_
         try simp only [k_rules]
         refine h25 _ ?_; clear h25; try clear N25
         refine vc_seq_k fun N29 h29 => ?_
         refine u_reg ?_
         try refine lg_mk ?_
         refine u_mv ?_
         refine u_mv ?_
         refine u_mv ?_
         refine u_bn ?_
         have hc := call_rule (E := (E_selFault.at_ 51)) (f := 42) (sp := Spec.pure reachG) rfl
         have hs := @reachG.eq_1
         refine u_hp (hq := by (first | (exact ⟨hv, head_inR (fun j hj => i2 j (by omega)), by omega, by omega, by omega⟩) | (first | trivial | omega | assumption | (unfold inI64; omega) | ((repeat' apply And.intro) <;> first | rfl | trivial | omega | assumption | (unfold inI64; omega)) | (simp; done) | (simp; omega)))) ?_
         refine u_bd ?_
         refine u_mv ?_
         refine u_st ?_
         refine lg_nil ?_
         refine h29 _ ?_; clear h29; try clear N29
         refine vc_ret ?_
         try simp only [k_rules]
         have hr := cut_ok (hs := ns) (d := d) h0 (by omega) (fun j hj => i2 j (by omega)) (by omega)
         rw [hr.1, hr.2]
         rw [if_neg hb27]
         refine fin2_ ?_
         exact cl_
  ·have hz : True := trivial
   have hx := And.intro @hz hx0
   refine u_reg ?_
   try refine lg_mk ?_
   refine u_mv ?_
   have hc := call_rule (E := (E_selFault.at_ 51)) (f := 40) (sp := Spec.pure histG) rfl
   have hs := @histG.eq_1
   refine u_cp (hq := by (first | (rw [dC_rows]; exact ⟨rfl, hl, hs⟩) | (first | trivial | omega | assumption | (unfold inI64; omega) | ((repeat' apply And.intro) <;> first | rfl | trivial | omega | assumption | (unfold inI64; omega)) | (simp; done) | (simp; omega)))) ?_
   refine u_al ?_
   refine u_st ?_
   refine lg_nil ?_
   have hx := hx0
   refine h3 _ ?_; clear h3; try clear N3
   refine vc_seq_k fun N30 h30 => ?_
   refine u_reg ?_
   try refine lg_mk ?_
   refine u_ld ?_
   refine u_bd ?_
   refine u_bn ?_
   refine lg_nil ?_
   refine h30 _ ?_; clear h30; try clear N30
   refine u_cond (fun hb31 => ?_) (fun hb31 => ?_)
   ·refine vc_seq_k fun N32 h32 => ?_
    refine u_reg ?_
    try refine lg_mk ?_
    refine u_ld ?_
    refine u_mv ?_
    refine u_st ?_
    refine lg_nil ?_
    refine h32 _ ?_; clear h32; try clear N32
    refine vc_ret ?_
    try simp only [k_rules]
    have hr := cut_hist (hs := ns) (d := d) h0
    rw [hr.1, hr.2]
    refine fin2_ ?_
    exact cl_
   ·first | omega | exact absurd trivial hb31 | contradiction | (simp_all; done)
 ·cases hg

def E_cut : Env Try.prog := E_selFault.add 23 (Spec.pure cutG) cut_meets (by kernel_rfl)

theorem deepen_meets : Meets Try.prog 28 (Spec.pure delG) := by
 refine meets_fun (E_cut.at_ 28) Try.func28 rfl rfl rfl ?_
 intro args p r hg hp
 unfold delG at hg
 split at hg
 ·rename_i xs ys d
  simp only [Option.some.injEq, Prod.mk.injEq] at hg
  obtain ⟨rfl, rfl⟩ := hg
  obtain ⟨he, hf, hl, hs, hn, hd⟩ := hp
  generalize dC xs = l at *
  generalize dI ys = ns at *
  subst he hf
  have hT : (E_cut).X = T := rfl
  have hx0 := And.intro @rect_eC (And.intro @dC_rows (And.intro @dI_rows @Try.results28))
  have hx := hx0
  refine ⟨by rfl, ?_⟩
  intro F W0 hnp hmk
  refine vc_seq_k fun N1 h1 => ?_
  refine u_reg ?_
  try refine lg_mk ?_
  refine u_mv ?_
  refine u_al ?_
  refine lg_nil ?_
  refine h1 _ ?_; clear h1; try clear N1
  refine vc_seq_k fun N2 h2 => ?_
  refine vc_seq_k fun N3 h3 => ?_
  by_cases h0 : (selF l ns).1 = 0
  ·have hz := selF_zero h0
   have hsel := sel_of h0
   have hl60 := hsel.val.len
   have hx := And.intro @hz hx0
   refine u_reg ?_
   try refine lg_mk ?_
   refine u_mv ?_
   refine u_mv ?_
   have hc := call_rule (E := (E_cut.at_ 28)) (f := 45) (sp := Spec.pure selG) rfl
   have hs := @selG.eq_1
   refine u_cp (hq := by (first | (rw [dC_rows, dI_rows]; exact ⟨rfl, rfl, hl, hs, hn⟩) | (first | trivial | omega | assumption | (unfold inI64; omega) | ((repeat' apply And.intro) <;> first | rfl | trivial | omega | assumption | (unfold inI64; omega)) | (simp; done) | (simp; omega)))) ?_
   refine u_al ?_
   refine u_st ?_
   refine lg_nil ?_
   have hx := hx0
   refine h3 _ ?_; clear h3; try clear N3
   refine vc_seq_k fun N4 h4 => ?_
   refine u_reg ?_
   try refine lg_mk ?_
   refine u_ld ?_
   refine u_bd ?_
   refine u_bn ?_
   refine lg_nil ?_
   refine h4 _ ?_; clear h4; try clear N4
   refine u_cond (fun hb5 => ?_) (fun hb5 => ?_)
   ·first | omega | exact absurd trivial hb5 | contradiction | (simp_all; done)
   ·refine vc_skip ?_
    try simp only [k_rules]
    refine h2 _ ?_; clear h2; try clear N2
    refine vc_seq_k fun N6 h6 => ?_
    refine vc_seq_k fun N7 h7 => ?_
    refine u_reg ?_
    try refine lg_mk ?_
    refine u_mv ?_
    refine u_bn ?_
    refine u_mv ?_
    refine g_mv ?_
    refine g_bn ?_
    refine u_pk ?_
    refine lg_nil ?_
    refine h7 _ ?_; clear h7; try clear N7
    refine u_cond (fun hb8 => ?_) (fun hb8 => ?_)
    ·refine vc_seq_k fun N9 h9 => ?_
     refine u_reg ?_
     try refine lg_mk ?_
     refine u_bd ?_
     refine u_mv ?_
     refine u_st ?_
     refine lg_nil ?_
     refine h9 _ ?_; clear h9; try clear N9
     refine vc_ret ?_
     try simp only [k_rules]
     have hr := del_bad (d := d) h0 (by omega)
     rw [hr.1, hr.2]
     refine fin2_ ?_
     exact cl_
    ·refine vc_skip ?_
     try simp only [k_rules]
     refine h6 _ ?_; clear h6; try clear N6
     refine vc_seq_k fun N10 h10 => ?_
     refine u_reg ?_
     try refine lg_mk ?_
     refine u_mv ?_
     refine u_mv ?_
     refine u_mv ?_
     have hc := call_rule (E := (E_cut.at_ 28)) (f := 42) (sp := Spec.pure reachG) rfl
     have hs := @reachG.eq_1
     refine u_hp (hq := by (first | (exact ⟨hsel.val, hsel.inr, by omega, by omega, by omega⟩) | (first | trivial | omega | assumption | (unfold inI64; omega) | ((repeat' apply And.intro) <;> first | rfl | trivial | omega | assumption | (unfold inI64; omega)) | (simp; done) | (simp; omega)))) ?_
     refine u_bd ?_
     refine u_mv ?_
     refine u_st ?_
     refine lg_nil ?_
     refine h10 _ ?_; clear h10; try clear N10
     refine vc_ret ?_
     try simp only [k_rules]
     have hr := del_ok (d := d) h0 (by omega)
     rw [hr.1, hr.2]
     refine fin2_ ?_
     exact cl_
  ·have hz : True := trivial
   have hx := And.intro @hz hx0
   refine u_reg ?_
   try refine lg_mk ?_
   refine u_mv ?_
   refine u_mv ?_
   have hc := call_rule (E := (E_cut.at_ 28)) (f := 45) (sp := Spec.pure selG) rfl
   have hs := @selG.eq_1
   refine u_cp (hq := by (first | (rw [dC_rows, dI_rows]; exact ⟨rfl, rfl, hl, hs, hn⟩) | (first | trivial | omega | assumption | (unfold inI64; omega) | ((repeat' apply And.intro) <;> first | rfl | trivial | omega | assumption | (unfold inI64; omega)) | (simp; done) | (simp; omega)))) ?_
   refine u_al ?_
   refine u_st ?_
   refine lg_nil ?_
   have hx := hx0
   refine h3 _ ?_; clear h3; try clear N3
   refine vc_seq_k fun N11 h11 => ?_
   refine u_reg ?_
   try refine lg_mk ?_
   refine u_ld ?_
   refine u_bd ?_
   refine u_bn ?_
   refine lg_nil ?_
   refine h11 _ ?_; clear h11; try clear N11
   refine u_cond (fun hb12 => ?_) (fun hb12 => ?_)
   ·refine vc_seq_k fun N13 h13 => ?_
    refine u_reg ?_
    try refine lg_mk ?_
    refine u_ld ?_
    refine u_mv ?_
    refine u_st ?_
    refine lg_nil ?_
    refine h13 _ ?_; clear h13; try clear N13
    refine vc_ret ?_
    try simp only [k_rules]
    have hr := del_sel (d := d) h0
    rw [hr.1, hr.2]
    refine fin2_ ?_
    exact cl_
   ·first | omega | exact absurd trivial hb12 | contradiction | (simp_all; done)
 ·cases hg

def E_deepen : Env Try.prog := E_cut.add 28 (Spec.pure delG) deepen_meets (by kernel_rfl)
end Go.Proofs.Ytaoifpmifpmhmaa
