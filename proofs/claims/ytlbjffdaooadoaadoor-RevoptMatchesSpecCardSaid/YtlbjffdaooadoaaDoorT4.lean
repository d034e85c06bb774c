/- Walks, printed by wip/gen/walk.py. -/
import Derived.Test.YtlbjffdaooadoaaDoorT3
import Derived.Test.YtlbjffdaooadoaaDoorV5
set_option linter.all false
set_option maxRecDepth 100000
set_option maxHeartbeats 4000000
namespace Go.Proofs.YtlbjffdaooadoaaDoor
open Go Go.Vc Go.RowKit
def arQ (q : List Nd) (i : Nat) : List Nat := (q.take i).map fun n => ar n.kd
theorem arQ_len {q : List Nd} {i : Nat} (h : i ≤ q.length) : (arQ q i).length = i := by unfold arQ; rw [List.length_map, List.length_take]; omega
theorem arQ_snoc {q : List Nd} {i : Nat} {x : Nd} (h : q[i]? = some x) : arQ q (i + 1) = arQ q i ++ [ar x.kd] := by unfold arQ; rw [List.take_add_one, h]; simp
theorem arQ_two {q : List Nd} {i : Nat} : ∀ a ∈ arQ q i, a ≤ 2 := by
  intro a ha
  obtain ⟨n, _, rfl⟩ := List.mem_map.1 ha
  rcases ar_or n.kd with ⟨_, h⟩ | ⟨_, _, h⟩ | ⟨_, h⟩ <;> omega
theorem arQ_at {q : List Nd} {i j : Nat} (hi : i ≤ q.length) (h : j < i) : (arQ q i).getD j 0 = ar (q.getD j default).kd := by
  obtain ⟨x, hx⟩ : ∃ x, q[j]? = some x := ⟨_, List.getElem?_eq_getElem (by omega)⟩
  unfold arQ
  rw [List.getD_eq_getElem?_getD, List.getD_eq_getElem?_getD, List.getElem?_map, List.getElem?_take, if_pos h, hx]; rfl
theorem szA_q {q : List Nd} {i : Nat} (hi : i ≤ q.length) : ∀ {j : Nat}, j ≤ i → szA (arQ q i) j = szl q j
  | 0, _ => rfl
  | j + 1, h => by
    show szA (arQ q i) j ++ [szN (szA (arQ q i) j) ((arQ q i).getD j 0)] = szl q j ++ [szN (szl q j) (ar (q.getD j default).kd)]
    rw [szA_q hi (by omega), arQ_at hi (by omega)]
theorem ref_sz {q : List Nd} {i : Nat} (h : refC q i = 0) : szB (szl q i) (ar (q.getD i default).kd) = false := by
  unfold refC at h
  split at h
  · cases h
  · split at h
    · cases h
    · split at h
      · cases h
      · rename_i h3; simpa using h3
theorem ok_q {q : List Nd} {i m : Nat} (hm : m ≤ i) (hi : i ≤ q.length) (h : ∀ j, j < m → refC q j = 0) : okA (arQ q i) m := by
  intro j hj
  rw [szA_q hi (by omega), arQ_at hi (by omega)]
  exact ref_sz (h j hj)
theorem bad_q {q : List Nd} {i : Nat} (hi : i + 1 ≤ q.length) : badA (arQ q (i + 1)) = szB (szl q i) (ar (q.getD i default).kd) := by
  have hl := arQ_len hi
  unfold badA
  rw [hl, Nat.add_sub_cancel, szA_q hi (by omega), arQ_at hi (by omega)]
  have : decide (arQ q (i + 1) ≠ []) = true := decide_eq_true (fun h => by rw [h] at hl; cases hl)
  rw [this, Bool.true_and]
theorem szl_le {q : List Nd} {i : Nat} (hi : i ≤ q.length) (h : ∀ j, j < i → refC q j = 0) : ∀ p, p < i → (szl q i).getD p 0 ≤ p + 1 := by
  intro p hp
  have := szA_le (az := arQ q i) arQ_two (ok_q (Nat.le_refl _) hi h) p hp
  rwa [szA_q hi (Nat.le_refl _)] at this
theorem szl_get {q : List Nd} {i p : Nat} (h : p < i) : (szl q (i + 1)).getD p 0 = (szl q i).getD p 0 := by
  show (szl q i ++ [_]).getD p 0 = (szl q i).getD p 0
  simp only [List.getD_eq_getElem?_getD]
  rw [List.getElem?_append_left (by rw [szl_len]; exact h)]
theorem refQ_at {q : List Nd} {i : Nat} {c : Int} (h1 : 1 ≤ q.length) (h2 : q.length ≤ 40) (hi : i < q.length) (h : ∀ j, j < i → refC q j = 0) (hc : refC q i = c) (h0 : c ≠ 0) : refQ q = (c, (i : Int)) := by
  have hf := firstF_at (f := refC q) (g := iI) (i := i) (by rw [hc]; exact h0) h hi
  unfold refQ
  rw [if_neg (by rw [Bool.and_eq_false_iff, decide_eq_false_iff_not, decide_eq_false_iff_not]; omega), hf, hc, if_pos h0]; rfl
theorem refQ_end {q : List Nd} (h1 : 1 ≤ q.length) (h2 : q.length ≤ 40) (h : ∀ j, j < q.length → refC q j = 0) : refQ q = if (szl q q.length).getD (q.length - 1) 0 ≠ q.length then (5, -1) else (0, 0) := by
  unfold refQ
  rw [if_neg (by rw [Bool.and_eq_false_iff, decide_eq_false_iff_not, decide_eq_false_iff_not]; omega), firstF_none h, if_neg (by simp)]
def refQG : List AV → Option (Prop × AV)
  | [.agg [.d (.sl xs)]] => some (xs = rows eN (dN xs) ∧ (dN xs).length ≤ 9223372036854775807, .agg [.d (.int .i64 (refQ (dN xs)).1), .d (.int .i64 (refQ (dN xs)).2)])
  | _ => none

theorem sz_ok {q : List Nd} {i : Nat} (hi : i ≤ q.length) (hb : badA (arQ q i) = false) : szX (arQ q i) = -1 ∧ szO (arQ q i) = szl q i := by
  refine ⟨by unfold szX; rw [if_neg (by rw [hb]; simp)], ?_⟩
  unfold szO
  rw [if_neg (by rw [hb]; simp), arQ_len hi, szA_q hi (Nat.le_refl _)]
theorem sz_bad {q : List Nd} {i : Nat} (hi : i + 1 ≤ q.length) (hb : badA (arQ q (i + 1)) = true) : szX (arQ q (i + 1)) = (i : Int) := by
  unfold szX
  rw [if_pos hb, arQ_len hi]; omega
theorem bad_all {q : List Nd} (h1 : 1 ≤ q.length) (h : ∀ j, j < q.length → refC q j = 0) : badA (arQ q q.length) = false := by
  obtain ⟨n, hn⟩ : ∃ n, q.length = n + 1 := ⟨q.length - 1, by omega⟩
  rw [hn, bad_q (by omega)]
  exact ref_sz (h n (by omega))
theorem op_is {q : List Nd} {i a : Nat} (h40 : q.length ≤ 40) (hi : i + 1 ≤ q.length) (h : ∀ j, j < i → refC q j = 0) (ha : a ≤ 2) (hb : szB (szl q i) a = false) :
    (((a : Nat) : Int) = 2 → 1 ≤ (i : Int) ∧ (szl q (i + 1)).getD (((i : Nat) : Int).toNat - 1) 0 ≤ 1000) ∧
    (if ((a : Nat) : Int) = 1 then (i : Int) - 1 else if ((a : Nat) : Int) = 2 then (i : Int) - 1 - ((szl q (i + 1)).getD (((i : Nat) : Int).toNat - 1) 0 : Nat) else 0) = opL (szl q i) a ∧
    (if ((a : Nat) : Int) = 2 then (i : Int) - 1 else 0) = opR (szl q i) a := by
  have hl := szl_len q i
  have hg := szB_get hb
  rw [hl] at hg
  have hit : ((i : Nat) : Int).toNat - 1 = i - 1 := by omega
  rw [hit]
  unfold opL opR
  rw [hl]
  match a, ha with
  | 0, _ => exact ⟨fun h => by omega, by simp, by simp⟩
  | 1, _ => exact ⟨fun h => by omega, by simp, by simp⟩
  | 2, _ =>
    have h1 := hg.1 (by omega)
    have hle := szl_le (q := q) (i := i) (by omega) h (i - 1) (by omega)
    rw [szl_get (by omega)]
    exact ⟨fun _ => ⟨by omega, by omega⟩, by simp, by simp⟩

theorem revF_meets : Meets Tryd.prog 17 (Spec.pure refQG) := by
 refine meets_fun (E_siz.at_ 97) Tryd.func17 rfl rfl rfl ?_
 intro args p r hg hp
 unfold refQG at hg
 split at hg
 ·rename_i xs
  simp only [Option.some.injEq, Prod.mk.injEq] at hg
  obtain ⟨rfl, rfl⟩ := hg
  obtain ⟨he, hl⟩ := hp
  generalize dN xs = q at *
  subst he
  have hT : (E_siz).X = T := rfl
  have hx0 := And.intro @rect_eN (And.intro @dN_rows (And.intro @dZ_rows (And.intro @zI_len (And.intro @dec_t (And.intro @dec_f @Tryd.results17)))))
  have hx := hx0
  refine ⟨by rfl, ?_⟩
  intro F W0 hnp hmk
  refine vc_seq_k fun N1 h1 => ?_
  refine u_reg ?_
  try refine lg_mk ?_
  refine u_bx ?_
  refine u_al ?_
  refine lg_nil ?_
  refine h1 _ ?_; clear h1; try clear N1
  refine vc_seq_k fun N2 h2 => ?_
  refine vc_seq_k fun N3 h3 => ?_
  refine u_reg ?_
  try refine lg_mk ?_
  refine u_pt ?_
  refine u_ld ?_
  refine u_ln ?_
  have hc := call_rule (E := (E_siz.at_ 97)) (f := 38) (sp := Spec.pure inG) rfl
  have hs := @inG.eq_1
  refine u_cp ?_
  refine u_un ?_
  refine lg_nil ?_
  refine h3 _ ?_; clear h3; try clear N3
  refine u_cond (fun hb4 => ?_) (fun hb4 => ?_)
  ·refine vc_seq_k fun N5 h5 => ?_
   refine u_reg ?_
   try refine lg_mk ?_
   have hc := call_rule (E := (E_siz.at_ 97)) (f := 26) (sp := Spec.pure faultG) rfl
   have hs := @faultG.eq_1
   refine u_cp ?_
   refine u_st ?_
   refine lg_nil ?_
   refine h5 _ ?_; clear h5; try clear N5
   refine vc_ret ?_
   try simp only [k_rules]
   have hr : refQ q = (9, -1) := by unfold refQ; rw [if_pos (by have := hb4; simpa using this)]
   rw [hr]
   refine fin2_ ?_
   exact cl_
  ·have h1 : 1 ≤ q.length := by have := hb4; (try simp at this); omega
   have h40 : q.length ≤ 40 := by have := hb4; (try simp at this); omega
   refine vc_skip ?_
   try simp only [k_rules]
   refine h2 _ ?_; clear h2; try clear N2
   refine vc_seq_k fun N6 h6 => ?_
   refine u_reg ?_
   try refine lg_mk ?_
   refine u_mv ?_
   refine lg_nil ?_
   refine h6 _ ?_; clear h6; try clear N6
   refine vc_seq_k fun N7 h7 => ?_
   refine vc_seq_k fun N8 h8 => ?_
   refine u_reg ?_
   try refine lg_mk ?_
   refine u_mv ?_
   refine lg_nil ?_
   refine h8 _ ?_; clear h8; try clear N8
   refine vc_block ?_
   refine vc_loop_mk (σ := Nat) (fun s => (fun i => i ≤ q.length ∧ ∀ j, j < i → refC q j = 0) s)
    (fun s => (fun i => [(1, .ptr 0 0 0), (2, .ptr 1 0 0), (3, .sl 2 0 i), (4, .d (.int .i64 (i : Nat)))]) s)
    (fun s => (fun i => [some (.one 24 [.d (.sl (rows eN q))]), some (.one 27 [.d (.int .i64 0), .d (.int .i64 0)]), some (.vec 3 1 (rows eI (zI (arQ q i))))]) s) (fun s => (fun i => q.length - i) s) hnp 0 ?_ [some 0, some 1, none] ?_ ?_
   ·dsimp only
    exact ⟨by omega, fun j hj => by omega⟩
   ·dsimp only
    refine ⟨by rfl, ?_, ?_⟩
    ·refine fin_ ?_
     exact cl_
    ·refine fin_ ?_
     exact cl_
   ·rintro i hinv N9 h9
    dsimp only at hinv ⊢
    obtain ⟨i1, i2⟩ := hinv
    refine vc_seq_k fun N10 h10 => ?_
    refine vc_seq_k fun N11 h11 => ?_
    refine u_reg ?_
    try refine lg_mk ?_
    refine u_mv ?_
    refine u_pt ?_
    refine u_ld ?_
    refine u_ln ?_
    refine u_bn ?_
    refine lg_nil ?_
    refine h11 _ ?_; clear h11; try clear N11
    refine u_cond (fun hb12 => ?_) (fun hb12 => ?_)
    ·have hiq : i < q.length := by have := hb12; omega
     obtain ⟨x, hxe⟩ := getE (l := q) (i := i) hiq
     have hxd : q.getD i default = x := by rw [List.getD_eq_getElem?_getD, hxe]; rfl
     have hal := arQ_len (q := q) (i := i) (by omega)
     have hal1 := arQ_len (q := q) (i := i + 1) (by omega)
     have has := arQ_snoc hxe
     have hzs := zI_snoc (arQ q i) (ar x.kd)
     have hzt := zI_take (arQ q i)
     rw [hal] at hzt
     have har : ar x.kd ≤ 2 := by rcases ar_or x.kd with ⟨_, h⟩ | ⟨_, _, h⟩ | ⟨_, h⟩ <;> omega
     have hbq := bad_q (q := q) (i := i) (by omega)
     rw [hxd] at hbq
     have hokA : okA (arQ q (i + 1)) ((arQ q (i + 1)).length - 1) := by rw [hal1]; exact ok_q (by omega) (by omega) i2
     have hsl := szl_len q (i + 1)
     obtain ⟨a, b, c, d⟩ := x
     dsimp only at has hzs har hbq
     have hsx : rows eI (List.take i (zI (arQ q i))) ++ [[D.int IntKind.i64 ((ar a : Nat) : Int)]] = rows eI (zI (arQ q (i + 1))) := by rw [hzt, hzs, ← has]
     refine vc_skip ?_
     try simp only [k_rules]
     refine h10 _ ?_; clear h10; try clear N10
     refine vc_seq_k fun N13 h13 => ?_
     refine vc_block ?_
     refine vc_seq_k fun N14 h14 => ?_
     have hx := And.intro @hxe (And.intro @eN.eq_1 hx0)
     refine u_reg ?_
     try refine lg_mk ?_
     refine u_pt ?_
     refine u_ld ?_
     refine u_mv ?_
     refine u_pt ?_
     refine u_ld ?_
     refine u_al ?_
     refine u_st ?_
     refine lg_nil ?_
     have hx := hx0
     refine h14 _ ?_; clear h14; try clear N14
     refine vc_seq_k fun N15 h15 => ?_
     refine vc_seq_k fun N16 h16 => ?_
     refine u_reg ?_
     try refine lg_mk ?_
     refine u_pt ?_
     refine u_ld ?_
     have hc := call_rule (E := (E_siz.at_ 97)) (f := 38) (sp := Spec.pure inG) rfl
     have hs := @inG.eq_1
     refine u_cp ?_
     refine u_un ?_
     refine lg_nil ?_
     refine h16 _ ?_; clear h16; try clear N16
     refine u_cond (fun hb17 => ?_) (fun hb17 => ?_)
     ·have g1 : (decide (1 ≤ a) && decide (a ≤ 16)) = false := by have := hb17; simpa using this
      refine vc_seq_k fun N18 h18 => ?_
      refine u_reg ?_
      try refine lg_mk ?_
      refine u_mv ?_
      have hc := call_rule (E := (E_siz.at_ 97)) (f := 26) (sp := Spec.pure faultG) rfl
      have hs := @faultG.eq_1
      refine u_cp ?_
      refine u_st ?_
      refine lg_nil ?_
      refine h18 _ ?_; clear h18; try clear N18
      refine vc_ret ?_
      try simp only [k_rules]
      have hrc : refC q i = 4 := by
       unfold refC; rw [hxd]; dsimp only; rw [if_pos g1]
      have hr := refQ_at h1 h40 hiq i2 hrc (by decide)
      rw [hr]
      refine fin2_ ?_
      exact cl_
     ·have g1 : ¬((decide (1 ≤ a) && decide (a ≤ 16)) = false) := by have := hb17; simpa using this
      refine vc_skip ?_
      try simp only [k_rules]
      refine h15 _ ?_; clear h15; try clear N15
      refine vc_seq_k fun N19 h19 => ?_
      refine vc_seq_k fun N20 h20 => ?_
      refine vc_regG [39, 38] hmix (by kernel_rfl) ?_
      try refine lg_mk ?_
      refine u_pt ?_
      refine u_ld ?_
      refine u_pt ?_
      refine u_ld ?_
      have hc := call_rule (E := (E_siz.at_ 97)) (f := 39) (sp := Spec.pure mostG) rfl
      have hs := @mostG.eq_1
      refine u_cp ?_
      have hc := call_rule (E := (E_siz.at_ 97)) (f := 38) (sp := Spec.pure inG) rfl
      have hs := @inG.eq_1
      refine u_cp ?_
      refine u_un ?_
      refine lg_nil ?_
      refine h20 _ ?_; clear h20; try clear N20
      refine u_cond (fun hb21 => ?_) (fun hb21 => ?_)
      ·have g2 : (decide (0 ≤ b) && decide (b ≤ mostN a)) = false := by have := hb21; simpa using this
       refine vc_seq_k fun N22 h22 => ?_
       refine u_reg ?_
       try refine lg_mk ?_
       refine u_mv ?_
       have hc := call_rule (E := (E_siz.at_ 97)) (f := 26) (sp := Spec.pure faultG) rfl
       have hs := @faultG.eq_1
       refine u_cp ?_
       refine u_st ?_
       refine lg_nil ?_
       refine h22 _ ?_; clear h22; try clear N22
       refine vc_ret ?_
       try simp only [k_rules]
       have hrc : refC q i = 3 := by
        unfold refC; rw [hxd]; dsimp only; rw [if_neg g1, if_pos g2]
       have hr := refQ_at h1 h40 hiq i2 hrc (by decide)
       rw [hr]
       refine fin2_ ?_
       exact cl_
      ·have g2 : ¬((decide (0 ≤ b) && decide (b ≤ mostN a)) = false) := by have := hb21; simpa using this
       refine vc_skip ?_
       try simp only [k_rules]
       refine h19 _ ?_; clear h19; try clear N19
       refine vc_seq_k fun N23 h23 => ?_
       refine u_reg ?_
       try refine lg_mk ?_
       refine u_mv ?_
       refine u_pt ?_
       refine u_ld ?_
       have hc := call_rule (E := (E_siz.at_ 97)) (f := 40) (sp := Spec.pure arG) rfl
       have hs := @arG.eq_1
       refine u_cp ?_
       refine u_bs ?_
       refine u_ap ?_
       refine u_mv ?_
       refine lg_nil ?_
       refine h23 _ ?_; clear h23; try clear N23
       refine vc_seq_k fun N24 h24 => ?_
       rcases (show badA (arQ q (i + 1)) = false ∨ badA (arQ q (i + 1)) = true by cases badA (arQ q (i + 1)) <;> simp) with hb | hb
       ·obtain ⟨hsX, hsO⟩ := sz_ok (q := q) (i := i + 1) (by omega) hb
        have hsb := hbq.symm.trans hb
        obtain ⟨ho1, ho2, ho3⟩ := op_is (q := q) (i := i) h40 (by omega) i2 har hsb
        have hx := And.intro @hsx (And.intro @hsX (And.intro @hsO hx0))
        refine u_reg ?_
        try refine lg_mk ?_
        refine u_mv ?_
        have hc := call_rule (E := (E_siz.at_ 97)) (f := 41) (sp := Spec.gen sizG) rfl
        have hs := @sizG.eq_1
        refine u_hg (hq := by (first | ((repeat' apply And.intro) <;> first | rfl | omega | exact arQ_two | exact hokA) | exact sd_)) ?_
        refine u_mv ?_
        refine u_ex ?_
        refine u_ex ?_
        refine u_mv ?_
        refine u_mv ?_
        refine lg_nil ?_
        have hx := hx0
        refine h24 _ ?_; clear h24; try clear N24
        refine vc_seq_k fun N25 h25 => ?_
        refine vc_seq_k fun N26 h26 => ?_
        refine u_reg ?_
        try refine lg_mk ?_
        refine u_mv ?_
        refine u_bn ?_
        refine lg_nil ?_
        refine h26 _ ?_; clear h26; try clear N26
        refine u_cond (fun hb27 => ?_) (fun hb27 => ?_)
        ·first | omega | exact absurd trivial hb27 | contradiction | (simp_all; done)
        ·refine vc_skip ?_
         try simp only [k_rules]
         refine h25 _ ?_; clear h25; try clear N25
         refine vc_seq_k fun N28 h28 => ?_
         have hx := And.intro @ho2 (And.intro @ho3 hx0)
         refine u_reg ?_
         try refine lg_mk ?_
         refine u_pt ?_
         refine u_ld ?_
         have hc := call_rule (E := (E_siz.at_ 97)) (f := 40) (sp := Spec.pure arG) rfl
         have hs := @arG.eq_1
         refine u_cp ?_
         refine u_mv ?_
         refine u_mv ?_
         have hc := call_rule (E := (E_siz.at_ 97)) (f := 42) (sp := Spec.pure opdG) rfl
         have hs := @opdG.eq_1
         refine u_cp (hq := by (first | ((repeat' apply And.intro) <;> first | rfl | omega | exact ho1) | exact sd_)) ?_
         refine u_mv ?_
         refine u_ex ?_
         refine u_ex ?_
         refine u_mv ?_
         refine u_mv ?_
         refine lg_nil ?_
         have hx := hx0
         refine h28 _ ?_; clear h28; try clear N28
         refine vc_seq_k fun N29 h29 => ?_
         rcases (show (c = opL (szl q i) (ar a) ∧ d = opR (szl q i) (ar a)) ∨ (c = opL (szl q i) (ar a) ∧ d ≠ opR (szl q i) (ar a)) ∨ c ≠ opL (szl q i) (ar a) by by_cases h : c = opL (szl q i) (ar a) <;> by_cases h' : d = opR (szl q i) (ar a) <;> simp [h, h']) with ⟨e1, e2⟩ | ⟨e1, e2⟩ | e1
         ·have f1 : (c = opL (szl q i) (ar a)) = True := eq_true e1
          have f2 : (d = opR (szl q i) (ar a)) = True := eq_true e2
          have hx := And.intro @f1 (And.intro @f2 hx0)
          refine u_reg ?_
          try refine lg_mk ?_
          refine u_pt ?_
          refine u_ld ?_
          refine u_mv ?_
          refine u_bn ?_
          refine u_mv ?_
          refine g_pt ?_
          refine g_ld ?_
          refine g_mv ?_
          refine g_bn ?_
          refine u_pk ?_
          refine lg_nil ?_
          have hx := hx0
          refine h29 _ ?_; clear h29; try clear N29
          refine u_cond (fun hb30 => ?_) (fun hb30 => ?_)
          ·first | omega | exact absurd trivial hb30 | contradiction | (simp_all; done)
          ·refine vc_skip ?_
           try simp only [k_rules]
           refine h13 _ ?_; clear h13; try clear N13
           refine u_reg ?_
           try refine lg_mk ?_
           refine u_mv ?_
           refine u_bn ?_
           refine u_mv ?_
           refine lg_nil ?_
           have hrc : refC q i = 0 := by
            unfold refC; rw [hxd]; dsimp only; rw [if_neg g1, if_neg g2, if_neg (by rw [hsb]; simp), if_pos ⟨e1, e2⟩]
           refine h9 _ ⟨i + 1, ?_, ?_, [some 0, some 1, some 5], ?_⟩
           ·dsimp only
            exact ⟨by omega, lt_succF i2 hrc⟩
           ·dsimp only
            omega
           ·dsimp only
            refine ⟨by rfl, ?_, ?_⟩
            ·refine fin_ ?_
             (repeat' apply And.intro) <;> (first | (first | rfl | trivial | omega | (rw [hsx]; done) | exact Or.inl rfl) | exact cl_)
            ·refine fin_ ?_
             (repeat' apply And.intro) <;> (first | (first | rfl | trivial | omega | (rw [hsx]; done) | exact Or.inl rfl) | exact cl_)
         ·have f1 : (c = opL (szl q i) (ar a)) = True := eq_true e1
          have f2 : (d = opR (szl q i) (ar a)) = False := eq_false e2
          have hx := And.intro @f1 (And.intro @f2 hx0)
          refine u_reg ?_
          try refine lg_mk ?_
          refine u_pt ?_
          refine u_ld ?_
          refine u_mv ?_
          refine u_bn ?_
          refine u_mv ?_
          refine g_pt ?_
          refine g_ld ?_
          refine g_mv ?_
          refine g_bn ?_
          refine u_pk ?_
          refine lg_nil ?_
          have hx := hx0
          refine h29 _ ?_; clear h29; try clear N29
          refine u_cond (fun hb31 => ?_) (fun hb31 => ?_)
          ·refine vc_seq_k fun N32 h32 => ?_
           refine u_reg ?_
           try refine lg_mk ?_
           refine u_mv ?_
           have hc := call_rule (E := (E_siz.at_ 97)) (f := 26) (sp := Spec.pure faultG) rfl
           have hs := @faultG.eq_1
           refine u_cp ?_
           refine u_st ?_
           refine lg_nil ?_
           refine h32 _ ?_; clear h32; try clear N32
           refine vc_ret ?_
           try simp only [k_rules]
           have hrc : refC q i = 5 := by
            unfold refC; rw [hxd]; dsimp only; rw [if_neg g1, if_neg g2, if_neg (by rw [hsb]; simp), if_neg (fun h => e2 h.2)]
           have hr := refQ_at h1 h40 hiq i2 hrc (by decide)
           rw [hr]
           refine fin2_ ?_
           exact cl_
          ·first | omega | exact absurd trivial hb31 | contradiction | (simp_all; done)
         ·have f1 : (c = opL (szl q i) (ar a)) = False := eq_false e1
          have f2 : True := trivial
          have hx := And.intro @f1 (And.intro @f2 hx0)
          refine u_reg ?_
          try refine lg_mk ?_
          refine u_pt ?_
          refine u_ld ?_
          refine u_mv ?_
          refine u_bn ?_
          refine u_mv ?_
          refine g_pt ?_
          refine g_ld ?_
          refine g_mv ?_
          refine g_bn ?_
          refine u_pk ?_
          refine lg_nil ?_
          have hx := hx0
          refine h29 _ ?_; clear h29; try clear N29
          refine u_cond (fun hb33 => ?_) (fun hb33 => ?_)
          ·refine vc_seq_k fun N34 h34 => ?_
           refine u_reg ?_
           try refine lg_mk ?_
           refine u_mv ?_
           have hc := call_rule (E := (E_siz.at_ 97)) (f := 26) (sp := Spec.pure faultG) rfl
           have hs := @faultG.eq_1
           refine u_cp ?_
           refine u_st ?_
           refine lg_nil ?_
           refine h34 _ ?_; clear h34; try clear N34
           refine vc_ret ?_
           try simp only [k_rules]
           have hrc : refC q i = 5 := by
            unfold refC; rw [hxd]; dsimp only; rw [if_neg g1, if_neg g2, if_neg (by rw [hsb]; simp), if_neg (fun h => e1 h.1)]
           have hr := refQ_at h1 h40 hiq i2 hrc (by decide)
           rw [hr]
           refine fin2_ ?_
           exact cl_
          ·first | omega | exact absurd trivial hb33 | contradiction | (simp_all; done)
       ·have hsX := sz_bad (q := q) (i := i) (by omega) hb
        have hsO : True := trivial
        have hsb := hbq.symm.trans hb
        have hx := And.intro @hsx (And.intro @hsX (And.intro @hsO hx0))
        refine u_reg ?_
        try refine lg_mk ?_
        refine u_mv ?_
        have hc := call_rule (E := (E_siz.at_ 97)) (f := 41) (sp := Spec.gen sizG) rfl
        have hs := @sizG.eq_1
        refine u_hg (hq := by (first | ((repeat' apply And.intro) <;> first | rfl | omega | exact arQ_two | exact hokA) | exact sd_)) ?_
        refine u_mv ?_
        refine u_ex ?_
        refine u_ex ?_
        refine u_mv ?_
        refine u_mv ?_
        refine lg_nil ?_
        have hx := hx0
        refine h24 _ ?_; clear h24; try clear N24
        refine vc_seq_k fun N35 h35 => ?_
        refine vc_seq_k fun N36 h36 => ?_
        refine u_reg ?_
        try refine lg_mk ?_
        refine u_mv ?_
        refine u_bn ?_
        refine lg_nil ?_
        refine h36 _ ?_; clear h36; try clear N36
        refine u_cond (fun hb37 => ?_) (fun hb37 => ?_)
        ·refine vc_seq_k fun N38 h38 => ?_
         refine u_reg ?_
         try refine lg_mk ?_
         refine u_mv ?_
         have hc := call_rule (E := (E_siz.at_ 97)) (f := 26) (sp := Spec.pure faultG) rfl
         have hs := @faultG.eq_1
         refine u_cp ?_
         refine u_st ?_
         refine lg_nil ?_
         refine h38 _ ?_; clear h38; try clear N38
         refine vc_ret ?_
         try simp only [k_rules]
         have hrc : refC q i = 5 := by
          unfold refC; rw [hxd]; dsimp only; rw [if_neg g1, if_neg g2, if_pos hsb]
         have hr := refQ_at h1 h40 hiq i2 hrc (by decide)
         rw [hr]
         refine fin2_ ?_
         exact cl_
        ·first | omega | exact absurd trivial hb37 | contradiction | (simp_all; done)
    ·obtain rfl : i = q.length := by have := hb12; omega
     have hba := bad_all h1 i2
     obtain ⟨hsX, hsO⟩ := sz_ok (Nat.le_refl q.length) hba
     have hal := arQ_len (Nat.le_refl q.length)
     have hokA : okA (arQ q q.length) ((arQ q q.length).length - 1) := by rw [hal]; exact ok_q (by omega) (Nat.le_refl _) (fun j hj => i2 j (by omega))
     have hsl := szl_len q q.length
     obtain ⟨y, hye⟩ := getE (l := szl q q.length) (i := q.length - 1) (by omega)
     have hyd : (szl q q.length).getD (q.length - 1) 0 = y := getD_at hye
     have hzy := zI_at hye
     have hpm : ((q.length : Int) - 1).toNat = q.length - 1 := by omega
     have hre := refQ_end h1 h40 i2
     rw [hyd] at hre
     refine vc_exit ?_
     simp only [k_rules, Nat.reduceEqDiff, reduceIte, eq_self]
     refine h7 _ ?_; clear h7; try clear N7
     refine vc_seq_k fun N39 h39 => ?_
     have hx := And.intro @hsX (And.intro @hsO hx0)
     refine u_reg ?_
     try refine lg_mk ?_
     refine u_mv ?_
     have hc := call_rule (E := (E_siz.at_ 97)) (f := 41) (sp := Spec.gen sizG) rfl
     have hs := @sizG.eq_1
     refine u_hg (hq := by (first | ((repeat' apply And.intro) <;> first | rfl | omega | exact arQ_two | exact hokA) | exact sd_)) ?_
     refine u_mv ?_
     refine u_ex ?_
     refine u_ex ?_
     refine u_mv ?_
     refine u_mv ?_
     refine lg_nil ?_
     have hx := hx0
     refine h39 _ ?_; clear h39; try clear N39
     refine vc_seq_k fun N40 h40 => ?_
     refine vc_seq_k fun N41 h41 => ?_
     have hx := And.intro @hsl (And.intro @hpm (And.intro @hzy (And.intro @eI.eq_1 hx0)))
     refine u_reg ?_
     try refine lg_mk ?_
     refine u_mv ?_
     refine u_mv ?_
     refine u_ln ?_
     refine u_bn ?_
     refine u_pt ?_
     refine u_ld ?_
     refine u_mv ?_
     refine u_ln ?_
     refine u_bn ?_
     refine lg_nil ?_
     have hx := hx0
     refine h41 _ ?_; clear h41; try clear N41
     refine u_cond (fun hb42 => ?_) (fun hb42 => ?_)
     ·refine vc_seq_k fun N43 h43 => ?_
      refine u_reg ?_
      try refine lg_mk ?_
      have hc := call_rule (E := (E_siz.at_ 97)) (f := 26) (sp := Spec.pure faultG) rfl
      have hs := @faultG.eq_1
      refine u_cp ?_
      refine u_st ?_
      refine lg_nil ?_
      refine h43 _ ?_; clear h43; try clear N43
      refine vc_ret ?_
      try simp only [k_rules]
      rw [if_pos (by have := hb42; (try simp at this); omega)] at hre
      rw [hre]
      refine fin2_ ?_
      exact cl_
     ·refine vc_skip ?_
      try simp only [k_rules]
      refine h40 _ ?_; clear h40; try clear N40
      refine vc_seq_k fun N44 h44 => ?_
      refine u_reg ?_
      try refine lg_mk ?_
      refine u_bd ?_
      refine u_st ?_
      refine lg_nil ?_
      refine h44 _ ?_; clear h44; try clear N44
      refine vc_ret ?_
      try simp only [k_rules]
      rw [if_neg (by have := hb42; (try simp at this); omega)] at hre
      rw [hre]
      refine fin2_ ?_
      exact cl_
 ·cases hg

def E_revF : Env Tryd.prog := E_siz.add 17 (Spec.pure refQG) revF_meets (by kernel_rfl)
end Go.Proofs.YtlbjffdaooadoaaDoor
