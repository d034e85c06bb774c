/- Walks, printed by wip/gen/walk.py. -/
import Derived.Test.YtlbjffdaooadoaaDoorT41
import Derived.Test.YtlbjffdaooadoaaDoorV5
set_option linter.all false
set_option maxRecDepth 100000
set_option maxHeartbeats 4000000
namespace Go.Proofs.YtlbjffdaooadoaaDoor
open Go Go.Vc Go.RowKit
theorem rfold_at {l : List Cm} {kd : Int} {a : List Bool} {n : Nat} {r0 : Bool} {k : Nat} {r w : Bool} (hr : rfold l kd a n r0 k = r) (ha : a[k]? = some true) (hw : rstep l kd k n r = w) : rfold l kd a n r0 (k + 1) = w := by
  show (if a.getD k false = true then rstep l kd k n (rfold l kd a n r0 k) else rfold l kd a n r0 k) = w
  rw [getD_of ha, if_pos rfl, hr, hw]
theorem rfold_skip {l : List Cm} {kd : Int} {a : List Bool} {n : Nat} {r0 : Bool} {k : Nat} (ha : a[k]? = some false) : rfold l kd a n r0 (k + 1) = rfold l kd a n r0 k := by
  show (if a.getD k false = true then rstep l kd k n (rfold l kd a n r0 k) else rfold l kd a n r0 k) = _
  rw [getD_of ha, if_neg (by simp)]
theorem row_put {n k : Nat} {g : Nat → Bool} {v w : Bool} : (rows eB (vec n (setB g k v))).set k [.bool w] = rows eB (vec n (setB g k w)) := by
  have : (vec n (setB g k v)).set k w = vec n (setB g k w) := by rw [vec_set, setB_set]
  rw [← this]; simp [rows, eB]
theorem row_put0 {n k : Nat} {g : Nat → Bool} {w : Bool} : (rows eB (vec n g)).set k [.bool w] = rows eB (vec n (setB g k w)) := by
  rw [← vec_set]; simp [rows, eB]
theorem row_get {n k : Nat} {g : Nat → Bool} {v : Bool} (h : k < n) : (vec n (setB g k v))[k]? = some v := by rw [vec_get h, setB_at]
theorem anc_rows {l : List Cm} {k : Nat} (h : k < l.length) : (ancR l l.length)[k]? = some (vec l.length (ancB l k)) := ancR_get h
theorem sets_row {l : List Cm} {q : List Nd} {i j : Nat} (hq : okQ q) (hi : i ≤ q.length) (h : j < i) : ∃ s : List Bool, (setsQ l q i)[j]? = some s ∧ s.length = l.length := by
  obtain ⟨s, hs⟩ := getE (l := setsQ l q i) (i := j) (by rw [setsQ_len]; exact h)
  exact ⟨s, hs, setsQ_all hq hi s (mem_at hs)⟩
theorem node_ops {q : List Nd} (h : okQ q) {i : Nat} (hi : i < q.length) {x : Nd} (hx : q[i]? = some x) (ha : ar x.kd ≠ 0) : ∃ c d : Nat, x.lf = (c : Int) ∧ x.rt = (d : Int) ∧ c < i ∧ d < i := by
  obtain ⟨_, _, _, _, _, h6, h7⟩ := ok_node h hi (getD_nd hx)
  rcases ar_or x.kd with ⟨_, a⟩ | ⟨_, _, a⟩ | ⟨_, a⟩
  · exact absurd a ha
  · obtain ⟨g1, g2, g3, _⟩ := h6 a
    exact ⟨i - 1, 0, g2, by rw [g3]; rfl, by omega, by omega⟩
  · obtain ⟨g1, g2, g3, _⟩ := h7 a
    exact ⟨i - 1 - szI q (i - 1), i - 1, g2, g3, by omega, by omega⟩
theorem rows_snoc {l : List Cm} {q : List Nd} (hv : Valid l) (hq : okQ q) {i : Nat} {x : Nd} (hi : i < q.length) (hx : q[i]? = some x) : setsQ l q (i + 1) = setsQ l q i ++ [vec l.length (refF l (setsQ l q i) x l.length)] := by
  obtain ⟨h1, h2, _, _, _, h6, _⟩ := ok_node hq hi (getD_nd hx)
  rw [refN_is hv ⟨h1, h2⟩ (fun a => ?_)]
  · show setsQ l q i ++ [nodeV l (setsQ l q i) (q.getD i default)] = _
    rw [getD_nd hx]
  · obtain ⟨g1, g2, _⟩ := h6 a
    obtain ⟨s, hs, hl⟩ := sets_row (l := l) hq (Nat.le_of_lt hi) (j := i - 1) (by omega)
    rw [g2, Int.toNat_natCast, getD_of hs]; exact hl

theorem refN_0 (l : List Cm) (S : List (List Bool)) {x : Nd} (n : Nat) (h : ar x.kd = 0) : refN l S x n = leafV x (l.getD n default) n := by unfold refN; rw [if_pos h]
theorem refN_1 (l : List Cm) {S : List (List Bool)} {x : Nd} {c d : Nat} (n : Nat) {s t : List Bool} (h : ar x.kd ≠ 0) (hc : x.lf = (c : Int)) (hd : x.rt = (d : Int)) (h1 : S[c]? = some s) (h2 : S[d]? = some t) : refN l S x n = rfold l x.kd s n (rbase x.kd (s.getD n false) (t.getD n false)) l.length := by
  unfold refN
  rw [if_neg h, hc, hd, Int.toNat_natCast, Int.toNat_natCast, getD_of h1, getD_of h2]
theorem and_3 (r : Bool) (k n : Nat) : r = false ∨ (r = true ∧ ((k : Int) = (n : Int)) = True) ∨ (r = true ∧ ((k : Int) = (n : Int)) = False) := by
  by_cases h : (k : Int) = (n : Int) <;> cases r <;> simp [h]

theorem e5s {p : Prop} (h : p := by first | (with_reducible rfl) | exact True.intro | omega | (rw [rfold_skip hya])) : p := h
theorem e5h {p : Prop} (h : p := by first | (with_reducible rfl) | exact True.intro | omega | (rw [hsame, hr])) : p := h
theorem e5w {p : Prop} (h : p := by first | (with_reducible rfl) | exact True.intro | omega | (rw [hw, row_put])) : p := h
theorem e5b {p : Prop} (h : p := by first | (with_reducible rfl) | exact True.intro | omega | (rw [hb7]; first | rw [row_put0] | rw [hrs])) : p := h

theorem evr_meets : Meets Tryd.prog 28 (Spec.pure evRG) := by
 refine meets_fun (E_sel2.at_ 271) Tryd.func28 rfl rfl rfl ?_
 intro args p r hg hp
 unfold evRG at hg
 split at hg
 ·rename_i xs ys
  simp only [Option.some.injEq, Prod.mk.injEq] at hg
  obtain ⟨rfl, rfl⟩ := hg
  obtain ⟨he, hv, hsm, he2, hok⟩ := hp
  generalize dC xs = l at *
  generalize dN ys = q at *
  subst he he2
  have hl60 := hv.len
  have h1q := hok.1
  have h40 := hok.2.1
  have hT : (E_sel2).X = T := rfl
  have hx0 := And.intro @rect_eC (And.intro @rect_eN (And.intro @dC_rows (And.intro @dN_rows (And.intro @dI_rows (And.intro @dB_rows (And.intro @vec_len (And.intro @ancR_len (And.intro @setsQ_len (And.intro @dec_t (And.intro @dec_f @Tryd.results28))))))))))
  have hx := hx0
  refine ⟨by rfl, ?_⟩
  intro F W0 hnp hmk
  refine vc_seq_k fun N1 h1 => ?_
  refine u_reg ?_
  try refine lg_mk ?_
  refine u_bx ?_
  refine u_mv ?_
  refine lg_nil ?_
  refine h1 _ ?_; clear h1; try clear N1
  refine vc_seq_k fun N2 h2 => ?_
  refine u_reg ?_
  try refine lg_mk ?_
  refine u_mv ?_
  have hc := call_rule (E := (E_sel2.at_ 271)) (f := 53) (sp := Spec.pure reachRG) rfl
  have hs := @reachRG.eq_1
  refine u_hp ?_
  refine u_mv ?_
  refine lg_nil ?_
  refine h2 _ ?_; clear h2; try clear N2
  refine vc_seq_k fun N3 h3 => ?_
  refine u_reg ?_
  try refine lg_mk ?_
  refine u_mv ?_
  refine lg_nil ?_
  refine h3 _ ?_; clear h3; try clear N3
  refine vc_seq_k fun N4 h4 => ?_
  refine vc_seq_k fun N5 h5 => ?_
  refine u_reg ?_
  try refine lg_mk ?_
  refine u_mv ?_
  refine lg_nil ?_
  refine h5 _ ?_; clear h5; try clear N5
  refine vc_block ?_
  refine vc_loop_mk (σ := Nat) (fun s => (fun i => i ≤ q.length) s)
   (fun s => (fun i => [(0, .d (.sl (rows eC l))), (3, .ptr 0 0 0), (5, .d (.sl (rows (eL eB) (ancR l l.length)))), (6, .sl 1 0 i), (7, .d (.int .i64 (i : Nat)))]) s)
   (fun s => (fun i => [some (.one 24 [.d (.sl (rows eN q))]), some (.vec 41 1 (rows (eL eB) (setsQ l q i)))]) s) (fun s => (fun i => q.length - i) s) hnp 0 ?_ [some 0, none] ?_ ?_
  ·dsimp only
   omega
  ·dsimp only
   refine ⟨by rfl, ?_, ?_⟩
   ·refine fin_ ?_
    exact cl_
   ·refine fin_ ?_
    exact cl_
  ·rintro i hinv N6 h6
   dsimp only at hinv ⊢
   have i1 := hinv
   refine vc_seq_k fun N7 h7 => ?_
   refine vc_seq_k fun N8 h8 => ?_
   refine u_reg ?_
   try refine lg_mk ?_
   refine u_mv ?_
   refine u_pt ?_
   refine u_ld ?_
   refine u_ln ?_
   refine u_bn ?_
   refine lg_nil ?_
   refine h8 _ ?_; clear h8; try clear N8
   refine u_cond (fun hb9 => ?_) (fun hb9 => ?_)
   ·have hiq : i < q.length := by have := hb9; (try simp at this); omega
    obtain ⟨x, hxe⟩ := getE (l := q) (i := i) hiq
    have hxd := getD_nd hxe
    obtain ⟨o1, o2, o3, o4, o5, o6, o7⟩ := ok_node hok hiq hxd
    have hsn := rows_snoc hv hok hiq hxe
    have hops := node_ops hok hiq hxe
    have hN0 := fun n => refN_0 l (setsQ l q i) (x := x) n
    have hN1 := fun (n c d : Nat) (s t : List Bool) => refN_1 l (S := setsQ l q i) (x := x) (c := c) (d := d) (s := s) (t := t) n
    have hSl := setsQ_len l q i
    have htk : List.take i (setsQ l q i) = setsQ l q i := List.take_of_length_le (by omega)
    obtain ⟨a, b, c, d⟩ := x
    dsimp only at o1 o2 o3 o4 o5 o6 o7 hops hN0 hN1
    refine vc_skip ?_
    try simp only [k_rules]
    refine h7 _ ?_; clear h7; try clear N7
    refine vc_seq_k fun N10 h10 => ?_
    refine vc_block ?_
    refine vc_seq_k fun N11 h11 => ?_
    have hx := And.intro @hxe (And.intro @eN.eq_1 hx0)
    refine u_reg ?_
    try refine lg_mk ?_
    refine u_pt ?_
    refine u_ld ?_
    refine u_mv ?_
    refine u_pt ?_
    refine u_ld ?_
    refine u_al ?_
    refine u_st ?_
    refine lg_nil ?_
    have hx := hx0
    refine h11 _ ?_; clear h11; try clear N11
    refine vc_seq_k fun N12 h12 => ?_
    refine u_reg ?_
    try refine lg_mk ?_
    refine u_mv ?_
    refine u_ln ?_
    refine u_ms ?_
    refine u_mv ?_
    refine lg_nil ?_
    refine h12 _ ?_; clear h12; try clear N12
    refine vc_seq_k fun N13 h13 => ?_
    refine vc_seq_k fun N14 h14 => ?_
    refine u_reg ?_
    try refine lg_mk ?_
    refine u_mv ?_
    refine lg_nil ?_
    refine h14 _ ?_; clear h14; try clear N14
    refine vc_block ?_
    refine vc_loop_mk (σ := Nat) (fun s => (fun n => n ≤ l.length) s)
     (fun s => (fun n => [(0, .d (.sl (rows eC l))), (3, .ptr 0 0 0), (5, .d (.sl (rows (eL eB) (ancR l l.length)))), (6, .sl 1 0 i), (7, .d (.int .i64 (i : Nat))), (8, .ptr 2 0 0), (9, .sl 3 0 l.length), (10, .d (.int .i64 (n : Nat)))]) s)
     (fun s => (fun n => [some (.one 24 [.d (.sl (rows eN q))]), some (.vec 41 1 (rows (eL eB) (setsQ l q i))), some (.one 39 [.d (.int .i64 a), .d (.int .i64 b), .d (.int .i64 c), .d (.int .i64 d)]), some (.vec 4 1 (rows eB (vec l.length (refF l (setsQ l q i) ⟨a, b, c, d⟩ n))))]) s) (fun s => (fun n => l.length - n) s) hnp 0 ?_ [some 0, some 1, some 2, some 3] ?_ ?_
    ·dsimp only
     omega
    ·dsimp only
     refine ⟨by rfl, ?_, ?_⟩
     ·refine fin_ ?_
      (repeat' apply And.intro) <;> (first | (first | rfl | trivial | omega | (rw [refF_zero]; simp [rows, eB]; done)) | exact cl_)
     ·refine fin_ ?_
      (repeat' apply And.intro) <;> (first | (first | rfl | trivial | omega | (rw [refF_zero]; simp [rows, eB]; done)) | exact cl_)
    ·rintro n hinv N15 h15
     dsimp only at hinv ⊢
     have n1 := hinv
     refine vc_seq_k fun N16 h16 => ?_
     refine vc_seq_k fun N17 h17 => ?_
     refine u_reg ?_
     try refine lg_mk ?_
     refine u_mv ?_
     refine u_mv ?_
     refine u_ln ?_
     refine u_bn ?_
     refine lg_nil ?_
     refine h17 _ ?_; clear h17; try clear N17
     refine u_cond (fun hb18 => ?_) (fun hb18 => ?_)
     ·have hnl : n < l.length := by have := hb18; (try simp at this); omega
      obtain ⟨cn, hcn⟩ := getE (l := l) (i := n) hnl
      have hcnd := getD_of (d := default) hcn
      have hc3 := hsm cn (mem_at hcn)
      have hrf := refF_next l (setsQ l q i) ⟨a, b, c, d⟩ n
      have hrs := refF_self l (setsQ l q i) ⟨a, b, c, d⟩ n
      have hg0 := vec_get (f := refF l (setsQ l q i) ⟨a, b, c, d⟩ n) hnl
      refine vc_skip ?_
      try simp only [k_rules]
      refine h16 _ ?_; clear h16; try clear N16
      refine vc_seq_k fun N19 h19 => ?_
      refine vc_block ?_
      refine vc_seq_k fun N20 h20 => ?_
      refine vc_seq_k fun N21 h21 => ?_
      refine u_reg ?_
      try refine lg_mk ?_
      refine u_pt ?_
      refine u_ld ?_
      have hc := call_rule (E := (E_sel2.at_ 271)) (f := 40) (sp := Spec.pure arG) rfl
      have hs := @arG.eq_1
      refine u_cp ?_
      refine u_bn ?_
      refine lg_nil ?_
      refine h21 _ ?_; clear h21; try clear N21
      refine u_cond (fun hb22 => ?_) (fun hb22 => ?_)
      ·have ha0 : ar a = 0 := by have := hb22; (try simp at this); omega
       have hN := hN0 n ha0
       refine vc_seq_k fun N23 h23 => ?_
       have hx := And.intro @hxe (And.intro (getD_nd hxe) (And.intro @hcnd (And.intro @hg0 (And.intro @eB.eq_1 (And.intro @Int.toNat_natCast hx0)))))
       refine u_reg ?_
       try refine lg_mk ?_
       refine u_mv (hq := by (first | ((repeat' apply And.intro) <;> first | rfl | omega | exact hsm) | exact sd_)) ?_
       refine u_mv (hq := by (first | ((repeat' apply And.intro) <;> first | rfl | omega | exact hsm) | exact sd_)) ?_
       refine u_mv (hq := by (first | ((repeat' apply And.intro) <;> first | rfl | omega | exact hsm) | exact sd_)) ?_
       refine u_mv (hq := by (first | ((repeat' apply And.intro) <;> first | rfl | omega | exact hsm) | exact sd_)) ?_
       refine u_ld (hq := by (first | ((repeat' apply And.intro) <;> first | rfl | omega | exact hsm) | exact sd_)) ?_
       refine u_mv (hq := by (first | ((repeat' apply And.intro) <;> first | rfl | omega | exact hsm) | exact sd_)) ?_
       refine u_mv (hq := by (first | ((repeat' apply And.intro) <;> first | rfl | omega | exact hsm) | exact sd_)) ?_
       have hc := call_rule (E := (E_sel2.at_ 271)) (f := 54) (sp := Spec.pure selG2) rfl
       have hs := @selG2.eq_1
       refine u_cp (hq := by (first | ((repeat' apply And.intro) <;> first | rfl | omega | exact hsm) | exact sd_)) ?_
       refine u_pt (hq := by (first | ((repeat' apply And.intro) <;> first | rfl | omega | exact hsm) | exact sd_)) ?_
       refine u_st (hq := by (first | ((repeat' apply And.intro) <;> first | rfl | omega | exact hsm) | exact sd_)) ?_
       refine lg_nil ?_
       have hx := hx0
       refine h23 _ ?_; clear h23; try clear N23
       refine vc_exit ?_
       simp only [k_rules, Nat.reduceEqDiff, reduceIte, eq_self]
       refine h19 _ ?_; clear h19; try clear N19
       refine u_reg ?_
       try refine lg_mk ?_
       refine u_mv ?_
       refine u_bn ?_
       refine u_mv ?_
       refine lg_nil ?_
       refine h15 _ ⟨n + 1, ?_, ?_, [some 0, some 1, some 2, some 3], ?_⟩
       ·dsimp only
        omega
       ·dsimp only
        omega
       ·dsimp only
        refine ⟨by rfl, ?_, ?_⟩
        ·refine fin_ ?_
         (repeat' apply And.intro) <;> (first | (first | (with_reducible rfl) | exact True.intro | rfl | trivial | omega | (rw [← hrf, hN, hcnd, row_put0]; done)) | exact cl_)
        ·refine fin_ ?_
         (repeat' apply And.intro) <;> (first | (first | (with_reducible rfl) | exact True.intro | rfl | trivial | omega | (rw [← hrf, hN, hcnd, row_put0]; done)) | exact cl_)
      ·have ha0 : ar a ≠ 0 := by have := hb22; (try simp at this); omega
       obtain ⟨c', d', hc', hd', hci, hdi⟩ := hops ha0
       obtain ⟨sa, hsa, hsal⟩ := sets_row (l := l) hok (Nat.le_of_lt hiq) hci
       obtain ⟨sb, hsb, hsbl⟩ := sets_row (l := l) hok (Nat.le_of_lt hiq) hdi
       have hN := hN1 n c' d' sa sb ha0 hc' hd' hsa hsb
       obtain ⟨u, hue⟩ := getE (l := sa) (i := n) (by omega)
       obtain ⟨z, hze⟩ := getE (l := sb) (i := n) (by omega)
       rw [getD_of hue, getD_of hze] at hN
       have han := anc_rows (l := l) hnl
       refine vc_skip ?_
       try simp only [k_rules]
       refine h20 _ ?_; clear h20; try clear N20
       refine vc_seq_k fun N24 h24 => ?_
       have hx := And.intro @hc' (And.intro @hsa (And.intro @eL.eq_1 (And.intro @Int.toNat_natCast hx0)))
       refine u_reg ?_
       try refine lg_mk ?_
       refine u_mv ?_
       refine u_pt ?_
       refine u_ld ?_
       refine u_pt ?_
       refine u_ld ?_
       refine u_mv ?_
       refine lg_nil ?_
       have hx := hx0
       refine h24 _ ?_; clear h24; try clear N24
       refine vc_seq_k fun N25 h25 => ?_
       have hx := And.intro @hd' (And.intro @hsb (And.intro @eL.eq_1 (And.intro @Int.toNat_natCast hx0)))
       refine u_reg ?_
       try refine lg_mk ?_
       refine u_mv ?_
       refine u_pt ?_
       refine u_ld ?_
       refine u_pt ?_
       refine u_ld ?_
       refine u_mv ?_
       refine lg_nil ?_
       have hx := hx0
       refine h25 _ ?_; clear h25; try clear N25
       refine vc_seq_m (σ := Unit) (fun s => (fun v9 => True) s)
        (fun s => (fun v9 => [(0, .d (.sl (rows eC l))), (3, .ptr 0 0 0), (5, .d (.sl (rows (eL eB) (ancR l l.length)))), (6, .sl 1 0 i), (7, .d (.int .i64 (i : Nat))), (8, .ptr 2 0 0), (9, .sl 3 0 l.length), (10, .d (.int .i64 (n : Nat))), (11, .d (.sl (rows eB sa))), (12, .d (.sl (rows eB sb)))]) s)
        (fun s => (fun v9 => [some (.one 24 [.d (.sl (rows eN q))]), some (.vec 41 1 (rows (eL eB) (setsQ l q i))), some (.one 39 [.d (.int .i64 a), .d (.int .i64 b), .d (.int .i64 c), .d (.int .i64 d)]), some (.vec 4 1 (rows eB (vec l.length (setB (refF l (setsQ l q i) ⟨a, b, c, d⟩ n) n (rbase a u z)))))]) s) hnp ?_ ?_
       ·rintro v9 hinv
        dsimp only at hinv ⊢
        refine vc_seq_k fun N27 h27 => ?_
        refine u_reg ?_
        try refine lg_mk ?_
        refine u_mv ?_
        refine lg_nil ?_
        refine h27 _ ?_; clear h27; try clear N27
        refine vc_block ?_
        refine vc_loop_mk (σ := Nat) (fun s => (fun k => k ≤ l.length) s)
         (fun s => (fun k => [(0, .d (.sl (rows eC l))), (3, .ptr 0 0 0), (5, .d (.sl (rows (eL eB) (ancR l l.length)))), (6, .sl 1 0 i), (7, .d (.int .i64 (i : Nat))), (8, .ptr 2 0 0), (9, .sl 3 0 l.length), (10, .d (.int .i64 (n : Nat))), (11, .d (.sl (rows eB sa))), (12, .d (.sl (rows eB sb))), (13, .d (.int .i64 (k : Nat)))]) s)
         (fun s => (fun k => [some (.one 24 [.d (.sl (rows eN q))]), some (.vec 41 1 (rows (eL eB) (setsQ l q i))), some (.one 39 [.d (.int .i64 a), .d (.int .i64 b), .d (.int .i64 c), .d (.int .i64 d)]), some (.vec 4 1 (rows eB (vec l.length (setB (refF l (setsQ l q i) ⟨a, b, c, d⟩ n) n (rfold l a sa n (rbase a u z) k)))))]) s) (fun s => (fun k => l.length - k) s) hnp 0 ?_ [some 0, some 1, some 2, some 3] ?_ ?_
        ·dsimp only
         omega
        ·dsimp only
         refine ⟨by rfl, ?_, ?_⟩
         ·refine fin_ ?_
          exact cl_
         ·refine fin_ ?_
          exact cl_
        ·rintro k hinv N28 h28
         dsimp only at hinv ⊢
         have k1 := hinv
         refine vc_seq_k fun N29 h29 => ?_
         refine vc_seq_k fun N30 h30 => ?_
         refine u_reg ?_
         try refine lg_mk ?_
         refine u_mv ?_
         refine u_mv ?_
         refine u_ln ?_
         refine u_bn ?_
         refine lg_nil ?_
         refine h30 _ ?_; clear h30; try clear N30
         refine u_cond (fun hb31 => ?_) (fun hb31 => ?_)
         ·have hkl : k < l.length := by have := hb31; (try simp at this); omega
          obtain ⟨ck, hck⟩ := getE (l := l) (i := k) hkl
          have hckd := getD_of (d := default) hck
          have hc4 := hsm ck (mem_at hck)
          obtain ⟨y, hye⟩ := getE (l := sa) (i := k) (by omega)
          obtain ⟨r, hr⟩ : ∃ r, rfold l a sa n (rbase a u z) k = r := ⟨_, rfl⟩
          have hgr : (vec l.length (setB (refF l (setsQ l q i) ⟨a, b, c, d⟩ n) n (rfold l a sa n (rbase a u z) k)))[n]? = some r := by rw [row_get hnl, hr]
          have hak := anc_rows (l := l) hkl
          have hakn := vec_get (f := ancB l k) hnl
          have hank := vec_get (f := ancB l n) hkl
          obtain ⟨kp, ka, kt, kr, ks⟩ := ck
          obtain ⟨np, na, nt, nr, ns⟩ := cn
          dsimp only at hc3 hc4
          refine vc_skip ?_
          try simp only [k_rules]
          refine h29 _ ?_; clear h29; try clear N29
          refine vc_seq_k fun N32 h32 => ?_
          refine vc_block ?_
          refine vc_seq_k fun N33 h33 => ?_
          refine vc_seq_k fun N34 h34 => ?_
          have hx := And.intro @hye (And.intro @eB.eq_1 hx0)
          refine u_reg ?_
          try refine lg_mk ?_
          refine u_mv ?_
          refine u_mv ?_
          refine u_pt ?_
          refine u_ld ?_
          refine u_un ?_
          refine lg_nil ?_
          have hx := hx0
          refine h34 _ ?_; clear h34; try clear N34
          refine u_cond (fun hb35 => ?_) (fun hb35 => ?_)
          ·have hya : sa[k]? = some false := by have := hb35; (try simp at this); rw [hye, this]
           refine vc_exit ?_
           simp only [k_rules, Nat.reduceEqDiff, reduceIte, eq_self]
           refine h32 _ ?_; clear h32; try clear N32
           refine u_reg ?_
           try refine lg_mk ?_
           refine u_mv ?_
           refine u_bn ?_
           refine u_mv ?_
           refine lg_nil ?_
           refine h28 _ ⟨k + 1, ?_, ?_, [some 0, some 1, some 2, some 3], ?_⟩
           ·dsimp only
            omega
           ·dsimp only
            omega
           ·dsimp only
            refine ⟨by rfl, ?_, ?_⟩
            ·refine fin_ ?_
             (repeat' apply And.intro) <;> (first | (exact e5s) | exact cl_)
            ·refine fin_ ?_
             (repeat' apply And.intro) <;> (first | (exact e5s) | exact cl_)
          ·have hya : sa[k]? = some true := by have := hb35; (try simp at this); rw [hye, this]
           refine vc_skip ?_
           try simp only [k_rules]
           refine h33 _ ?_; clear h33; try clear N33
           refine vc_seq_k fun N36 h36 => ?_
           refine u_reg ?_
           try refine lg_mk ?_
           refine u_pt ?_
           refine u_ld ?_
           refine lg_nil ?_
           refine h36 _ ?_; clear h36; try clear N36
           refine vc_block ?_
           refine vc_seq_k fun N37 h37 => ?_
           refine u_reg ?_
           try refine lg_mk ?_
           refine u_bn ?_
           refine u_mv ?_
           refine lg_nil ?_
           refine h37 _ ?_; clear h37; try clear N37
           refine u_cond (fun hb38 => ?_) (fun hb38 => ?_)
           ·have hq8 : a = 8 := by have := hb38; (try simp at this); omega
            rcases r with _ | _
            ·have hw := rfold_at hr hya (w := ancB l k n) (by subst hq8; simp [rstep, hck, hcn])
             have hx := And.intro @hgr (And.intro @hak (And.intro @hakn (And.intro @eB.eq_1 (And.intro @eL.eq_1 hx0))))
             refine u_reg ?_
             try refine lg_mk ?_
             refine u_mv ?_
             refine u_mv ?_
             refine u_mv ?_
             refine u_mv ?_
             refine u_pt ?_
             refine u_ld ?_
             refine u_mv ?_
             refine g_mv ?_
             refine g_mv ?_
             refine g_pt ?_
             refine g_ld ?_
             refine g_mv ?_
             refine g_pt ?_
             refine g_ld ?_
             refine u_pk ?_
             refine u_pt ?_
             refine u_st ?_
             refine lg_nil ?_
             have hx := hx0
             refine h32 _ ?_; clear h32; try clear N32
             refine u_reg ?_
             try refine lg_mk ?_
             refine u_mv ?_
             refine u_bn ?_
             refine u_mv ?_
             refine lg_nil ?_
             refine h28 _ ⟨k + 1, ?_, ?_, [some 0, some 1, some 2, some 3], ?_⟩
             ·dsimp only
              omega
             ·dsimp only
              omega
             ·dsimp only
              refine ⟨by rfl, ?_, ?_⟩
              ·refine fin_ ?_
               (repeat' apply And.intro) <;> (first | (exact e5w) | exact cl_)
              ·refine fin_ ?_
               (repeat' apply And.intro) <;> (first | (exact e5w) | exact cl_)
            ·have hw := rfold_at hr hya (w := true) (by subst hq8; simp [rstep])
             have hx := And.intro @hgr (And.intro @hak (And.intro @hakn (And.intro @eB.eq_1 (And.intro @eL.eq_1 hx0))))
             refine u_reg ?_
             try refine lg_mk ?_
             refine u_mv ?_
             refine u_mv ?_
             refine u_mv ?_
             refine u_mv ?_
             refine u_pt ?_
             refine u_ld ?_
             refine u_mv ?_
             refine g_mv ?_
             refine g_mv ?_
             refine g_pt ?_
             refine g_ld ?_
             refine g_mv ?_
             refine g_pt ?_
             refine g_ld ?_
             refine u_pk ?_
             refine u_pt ?_
             refine u_st ?_
             refine lg_nil ?_
             have hx := hx0
             refine h32 _ ?_; clear h32; try clear N32
             refine u_reg ?_
             try refine lg_mk ?_
             refine u_mv ?_
             refine u_bn ?_
             refine u_mv ?_
             refine lg_nil ?_
             refine h28 _ ⟨k + 1, ?_, ?_, [some 0, some 1, some 2, some 3], ?_⟩
             ·dsimp only
              omega
             ·dsimp only
              omega
             ·dsimp only
              refine ⟨by rfl, ?_, ?_⟩
              ·refine fin_ ?_
               (repeat' apply And.intro) <;> (first | (exact e5w) | exact cl_)
              ·refine fin_ ?_
               (repeat' apply And.intro) <;> (first | (exact e5w) | exact cl_)
           ·have hq8 : a ≠ 8 := by have := hb38; (try simp at this); omega
            refine vc_seq_k fun N39 h39 => ?_
            refine u_reg ?_
            try refine lg_mk ?_
            refine u_bn ?_
            refine u_mv ?_
            refine lg_nil ?_
            refine h39 _ ?_; clear h39; try clear N39
            refine u_cond (fun hb40 => ?_) (fun hb40 => ?_)
            ·have hq9 : a = 9 := by have := hb40; (try simp at this); omega
             rcases r with _ | _
             ·have hw := rfold_at hr hya (w := ancB l n k) (by subst hq9; simp [rstep, hck, hcn])
              have hx := And.intro @hgr (And.intro @han (And.intro @hank (And.intro @eB.eq_1 (And.intro @eL.eq_1 hx0))))
              refine u_reg ?_
              try refine lg_mk ?_
              refine u_mv ?_
              refine u_mv ?_
              refine u_mv ?_
              refine u_mv ?_
              refine u_pt ?_
              refine u_ld ?_
              refine u_mv ?_
              refine g_mv ?_
              refine g_mv ?_
              refine g_pt ?_
              refine g_ld ?_
              refine g_mv ?_
              refine g_pt ?_
              refine g_ld ?_
              refine u_pk ?_
              refine u_pt ?_
              refine u_st ?_
              refine lg_nil ?_
              have hx := hx0
              refine h32 _ ?_; clear h32; try clear N32
              refine u_reg ?_
              try refine lg_mk ?_
              refine u_mv ?_
              refine u_bn ?_
              refine u_mv ?_
              refine lg_nil ?_
              refine h28 _ ⟨k + 1, ?_, ?_, [some 0, some 1, some 2, some 3], ?_⟩
              ·dsimp only
               omega
              ·dsimp only
               omega
              ·dsimp only
               refine ⟨by rfl, ?_, ?_⟩
               ·refine fin_ ?_
                (repeat' apply And.intro) <;> (first | (exact e5w) | exact cl_)
               ·refine fin_ ?_
                (repeat' apply And.intro) <;> (first | (exact e5w) | exact cl_)
             ·have hw := rfold_at hr hya (w := true) (by subst hq9; simp [rstep])
              have hx := And.intro @hgr (And.intro @han (And.intro @hank (And.intro @eB.eq_1 (And.intro @eL.eq_1 hx0))))
              refine u_reg ?_
              try refine lg_mk ?_
              refine u_mv ?_
              refine u_mv ?_
              refine u_mv ?_
              refine u_mv ?_
              refine u_pt ?_
              refine u_ld ?_
              refine u_mv ?_
              refine g_mv ?_
              refine g_mv ?_
              refine g_pt ?_
              refine g_ld ?_
              refine g_mv ?_
              refine g_pt ?_
              refine g_ld ?_
              refine u_pk ?_
              refine u_pt ?_
              refine u_st ?_
              refine lg_nil ?_
              have hx := hx0
              refine h32 _ ?_; clear h32; try clear N32
              refine u_reg ?_
              try refine lg_mk ?_
              refine u_mv ?_
              refine u_bn ?_
              refine u_mv ?_
              refine lg_nil ?_
              refine h28 _ ⟨k + 1, ?_, ?_, [some 0, some 1, some 2, some 3], ?_⟩
              ·dsimp only
               omega
              ·dsimp only
               omega
              ·dsimp only
               refine ⟨by rfl, ?_, ?_⟩
               ·refine fin_ ?_
                (repeat' apply And.intro) <;> (first | (exact e5w) | exact cl_)
               ·refine fin_ ?_
                (repeat' apply And.intro) <;> (first | (exact e5w) | exact cl_)
            ·have hq9 : a ≠ 9 := by have := hb40; (try simp at this); omega
             refine vc_seq_k fun N41 h41 => ?_
             refine u_reg ?_
             try refine lg_mk ?_
             refine u_bn ?_
             refine u_mv ?_
             refine lg_nil ?_
             refine h41 _ ?_; clear h41; try clear N41
             refine u_cond (fun hb42 => ?_) (fun hb42 => ?_)
             ·have hq10 : a = 10 := by have := hb42; (try simp at this); omega
              rcases r with _ | _
              ·have hw := rfold_at hr hya (w := decide ((n : Int) ∈ kp)) (by subst hq10; simp [rstep, hck, hcn])
               have hx := And.intro @hgr (And.intro @hck (And.intro @eB.eq_1 (And.intro @eC.eq_1 hx0)))
               refine u_reg ?_
               try refine lg_mk ?_
               refine u_mv ?_
               refine u_mv ?_
               refine u_mv ?_
               refine u_mv ?_
               refine u_pt ?_
               refine u_ld ?_
               refine u_mv ?_
               refine g_mv ?_
               refine g_mv ?_
               refine g_pt ?_
               refine g_pt ?_
               refine g_ld ?_
               refine g_mv ?_
               have hc := call_rule (E := (E_sel2.at_ 271)) (f := 55) (sp := Spec.pure hasG) rfl
               have hs := @hasG.eq_1
               refine g_cp ?_
               refine u_pk ?_
               refine u_pt ?_
               refine u_st ?_
               refine lg_nil ?_
               have hx := hx0
               refine h32 _ ?_; clear h32; try clear N32
               refine u_reg ?_
               try refine lg_mk ?_
               refine u_mv ?_
               refine u_bn ?_
               refine u_mv ?_
               refine lg_nil ?_
               refine h28 _ ⟨k + 1, ?_, ?_, [some 0, some 1, some 2, some 3], ?_⟩
               ·dsimp only
                omega
               ·dsimp only
                omega
               ·dsimp only
                refine ⟨by rfl, ?_, ?_⟩
                ·refine fin_ ?_
                 (repeat' apply And.intro) <;> (first | (exact e5w) | exact cl_)
                ·refine fin_ ?_
                 (repeat' apply And.intro) <;> (first | (exact e5w) | exact cl_)
              ·have hw := rfold_at hr hya (w := true) (by subst hq10; simp [rstep])
               have hx := And.intro @hgr (And.intro @hck (And.intro @eB.eq_1 (And.intro @eC.eq_1 hx0)))
               refine u_reg ?_
               try refine lg_mk ?_
               refine u_mv ?_
               refine u_mv ?_
               refine u_mv ?_
               refine u_mv ?_
               refine u_pt ?_
               refine u_ld ?_
               refine u_mv ?_
               refine g_mv ?_
               refine g_mv ?_
               refine g_pt ?_
               refine g_pt ?_
               refine g_ld ?_
               refine g_mv ?_
               have hc := call_rule (E := (E_sel2.at_ 271)) (f := 55) (sp := Spec.pure hasG) rfl
               have hs := @hasG.eq_1
               refine g_cp ?_
               refine u_pk ?_
               refine u_pt ?_
               refine u_st ?_
               refine lg_nil ?_
               have hx := hx0
               refine h32 _ ?_; clear h32; try clear N32
               refine u_reg ?_
               try refine lg_mk ?_
               refine u_mv ?_
               refine u_bn ?_
               refine u_mv ?_
               refine lg_nil ?_
               refine h28 _ ⟨k + 1, ?_, ?_, [some 0, some 1, some 2, some 3], ?_⟩
               ·dsimp only
                omega
               ·dsimp only
                omega
               ·dsimp only
                refine ⟨by rfl, ?_, ?_⟩
                ·refine fin_ ?_
                 (repeat' apply And.intro) <;> (first | (exact e5w) | exact cl_)
                ·refine fin_ ?_
                 (repeat' apply And.intro) <;> (first | (exact e5w) | exact cl_)
             ·have hq10 : a ≠ 10 := by have := hb42; (try simp at this); omega
              refine vc_seq_k fun N43 h43 => ?_
              refine u_reg ?_
              try refine lg_mk ?_
              refine u_bn ?_
              refine u_mv ?_
              refine lg_nil ?_
              refine h43 _ ?_; clear h43; try clear N43
              refine u_cond (fun hb44 => ?_) (fun hb44 => ?_)
              ·have hq11 : a = 11 := by have := hb44; (try simp at this); omega
               rcases r with _ | _
               ·have hw := rfold_at hr hya (w := decide ((k : Int) ∈ np)) (by subst hq11; simp [rstep, hck, hcn])
                have hx := And.intro @hgr (And.intro @hcn (And.intro @eB.eq_1 (And.intro @eC.eq_1 hx0)))
                refine u_reg ?_
                try refine lg_mk ?_
                refine u_mv ?_
                refine u_mv ?_
                refine u_mv ?_
                refine u_mv ?_
                refine u_pt ?_
                refine u_ld ?_
                refine u_mv ?_
                refine g_mv ?_
                refine g_mv ?_
                refine g_pt ?_
                refine g_pt ?_
                refine g_ld ?_
                refine g_mv ?_
                have hc := call_rule (E := (E_sel2.at_ 271)) (f := 55) (sp := Spec.pure hasG) rfl
                have hs := @hasG.eq_1
                refine g_cp ?_
                refine u_pk ?_
                refine u_pt ?_
                refine u_st ?_
                refine lg_nil ?_
                have hx := hx0
                refine h32 _ ?_; clear h32; try clear N32
                refine u_reg ?_
                try refine lg_mk ?_
                refine u_mv ?_
                refine u_bn ?_
                refine u_mv ?_
                refine lg_nil ?_
                refine h28 _ ⟨k + 1, ?_, ?_, [some 0, some 1, some 2, some 3], ?_⟩
                ·dsimp only
                 omega
                ·dsimp only
                 omega
                ·dsimp only
                 refine ⟨by rfl, ?_, ?_⟩
                 ·refine fin_ ?_
                  (repeat' apply And.intro) <;> (first | (exact e5w) | exact cl_)
                 ·refine fin_ ?_
                  (repeat' apply And.intro) <;> (first | (exact e5w) | exact cl_)
               ·have hw := rfold_at hr hya (w := true) (by subst hq11; simp [rstep])
                have hx := And.intro @hgr (And.intro @hcn (And.intro @eB.eq_1 (And.intro @eC.eq_1 hx0)))
                refine u_reg ?_
                try refine lg_mk ?_
                refine u_mv ?_
                refine u_mv ?_
                refine u_mv ?_
                refine u_mv ?_
                refine u_pt ?_
                refine u_ld ?_
                refine u_mv ?_
                refine g_mv ?_
                refine g_mv ?_
                refine g_pt ?_
                refine g_pt ?_
                refine g_ld ?_
                refine g_mv ?_
                have hc := call_rule (E := (E_sel2.at_ 271)) (f := 55) (sp := Spec.pure hasG) rfl
                have hs := @hasG.eq_1
                refine g_cp ?_
                refine u_pk ?_
                refine u_pt ?_
                refine u_st ?_
                refine lg_nil ?_
                have hx := hx0
                refine h32 _ ?_; clear h32; try clear N32
                refine u_reg ?_
                try refine lg_mk ?_
                refine u_mv ?_
                refine u_bn ?_
                refine u_mv ?_
                refine lg_nil ?_
                refine h28 _ ⟨k + 1, ?_, ?_, [some 0, some 1, some 2, some 3], ?_⟩
                ·dsimp only
                 omega
                ·dsimp only
                 omega
                ·dsimp only
                 refine ⟨by rfl, ?_, ?_⟩
                 ·refine fin_ ?_
                  (repeat' apply And.intro) <;> (first | (exact e5w) | exact cl_)
                 ·refine fin_ ?_
                  (repeat' apply And.intro) <;> (first | (exact e5w) | exact cl_)
              ·have hq11 : a ≠ 11 := by have := hb44; (try simp at this); omega
               refine vc_seq_k fun N45 h45 => ?_
               refine u_reg ?_
               try refine lg_mk ?_
               refine u_bn ?_
               refine u_mv ?_
               refine lg_nil ?_
               refine h45 _ ?_; clear h45; try clear N45
               refine u_cond (fun hb46 => ?_) (fun hb46 => ?_)
               ·have hq12 : a = 12 := by have := hb46; (try simp at this); omega
                rcases and_3 r k n with rfl | ⟨rfl, c1⟩ | ⟨rfl, c1⟩
                ·have hw := rfold_at hr hya (w := false) (by subst hq12; simp [rstep])
                 have c1 := True.intro
                 have hx := And.intro @hgr (And.intro @hak (And.intro @hakn (And.intro @eB.eq_1 (And.intro @eL.eq_1 (And.intro @c1 hx0)))))
                 refine u_reg ?_
                 try refine lg_mk ?_
                 refine u_mv ?_
                 refine u_mv ?_
                 refine u_mv ?_
                 refine u_mv ?_
                 refine u_pt ?_
                 refine u_ld ?_
                 refine u_mv ?_
                 refine g_mv ?_
                 refine g_mv ?_
                 refine g_bn ?_
                 refine g_mv ?_
                 refine g_mv ?_
                 refine g_mv ?_
                 refine g_pt ?_
                 refine g_ld ?_
                 refine g_mv ?_
                 refine g_pt ?_
                 refine g_ld ?_
                 refine g_un ?_
                 refine g_pk ?_
                 refine u_pk ?_
                 refine u_pt ?_
                 refine u_st ?_
                 refine lg_nil ?_
                 have hx := hx0
                 refine h32 _ ?_; clear h32; try clear N32
                 refine u_reg ?_
                 try refine lg_mk ?_
                 refine u_mv ?_
                 refine u_bn ?_
                 refine u_mv ?_
                 refine lg_nil ?_
                 refine h28 _ ⟨k + 1, ?_, ?_, [some 0, some 1, some 2, some 3], ?_⟩
                 ·dsimp only
                  omega
                 ·dsimp only
                  omega
                 ·dsimp only
                  refine ⟨by rfl, ?_, ?_⟩
                  ·refine fin_ ?_
                   (repeat' apply And.intro) <;> (first | (exact e5w) | exact cl_)
                  ·refine fin_ ?_
                   (repeat' apply And.intro) <;> (first | (exact e5w) | exact cl_)
                ·have hw := rfold_at hr hya (w := true) (by have hkn : k = n := (by have := of_eq_true c1; omega); subst hq12; simp [rstep, hkn])
                 have hx := And.intro @hgr (And.intro @hak (And.intro @hakn (And.intro @eB.eq_1 (And.intro @eL.eq_1 (And.intro @c1 hx0)))))
                 refine u_reg ?_
                 try refine lg_mk ?_
                 refine u_mv ?_
                 refine u_mv ?_
                 refine u_mv ?_
                 refine u_mv ?_
                 refine u_pt ?_
                 refine u_ld ?_
                 refine u_mv ?_
                 refine g_mv ?_
                 refine g_mv ?_
                 refine g_bn ?_
                 refine g_mv ?_
                 refine g_mv ?_
                 refine g_mv ?_
                 refine g_pt ?_
                 refine g_ld ?_
                 refine g_mv ?_
                 refine g_pt ?_
                 refine g_ld ?_
                 refine g_un ?_
                 refine g_pk ?_
                 refine u_pk ?_
                 refine u_pt ?_
                 refine u_st ?_
                 refine lg_nil ?_
                 have hx := hx0
                 refine h32 _ ?_; clear h32; try clear N32
                 refine u_reg ?_
                 try refine lg_mk ?_
                 refine u_mv ?_
                 refine u_bn ?_
                 refine u_mv ?_
                 refine lg_nil ?_
                 refine h28 _ ⟨k + 1, ?_, ?_, [some 0, some 1, some 2, some 3], ?_⟩
                 ·dsimp only
                  omega
                 ·dsimp only
                  omega
                 ·dsimp only
                  refine ⟨by rfl, ?_, ?_⟩
                  ·refine fin_ ?_
                   (repeat' apply And.intro) <;> (first | (exact e5w) | exact cl_)
                  ·refine fin_ ?_
                   (repeat' apply And.intro) <;> (first | (exact e5w) | exact cl_)
                ·have hw := rfold_at hr hya (w := !ancB l k n) (by have hkn : k ≠ n := (by have := of_eq_false c1; omega); subst hq12; simp [rstep, hkn])
                 have hx := And.intro @hgr (And.intro @hak (And.intro @hakn (And.intro @eB.eq_1 (And.intro @eL.eq_1 (And.intro @c1 hx0)))))
                 refine u_reg ?_
                 try refine lg_mk ?_
                 refine u_mv ?_
                 refine u_mv ?_
                 refine u_mv ?_
                 refine u_mv ?_
                 refine u_pt ?_
                 refine u_ld ?_
                 refine u_mv ?_
                 refine g_mv ?_
                 refine g_mv ?_
                 refine g_bn ?_
                 refine g_mv ?_
                 refine g_mv ?_
                 refine g_mv ?_
                 refine g_pt ?_
                 refine g_ld ?_
                 refine g_mv ?_
                 refine g_pt ?_
                 refine g_ld ?_
                 refine g_un ?_
                 refine g_pk ?_
                 refine u_pk ?_
                 refine u_pt ?_
                 refine u_st ?_
                 refine lg_nil ?_
                 have hx := hx0
                 refine h32 _ ?_; clear h32; try clear N32
                 refine u_reg ?_
                 try refine lg_mk ?_
                 refine u_mv ?_
                 refine u_bn ?_
                 refine u_mv ?_
                 refine lg_nil ?_
                 refine h28 _ ⟨k + 1, ?_, ?_, [some 0, some 1, some 2, some 3], ?_⟩
                 ·dsimp only
                  omega
                 ·dsimp only
                  omega
                 ·dsimp only
                  refine ⟨by rfl, ?_, ?_⟩
                  ·refine fin_ ?_
                   (repeat' apply And.intro) <;> (first | (exact e5w) | exact cl_)
                  ·refine fin_ ?_
                   (repeat' apply And.intro) <;> (first | (exact e5w) | exact cl_)
               ·have hq12 : a ≠ 12 := by have := hb46; (try simp at this); omega
                refine vc_seq_k fun N47 h47 => ?_
                refine u_reg ?_
                try refine lg_mk ?_
                refine u_bn ?_
                refine u_mv ?_
                refine lg_nil ?_
                refine h47 _ ?_; clear h47; try clear N47
                refine u_cond (fun hb48 => ?_) (fun hb48 => ?_)
                ·have hq13 : a = 13 := by have := hb48; (try simp at this); omega
                 rcases and_3 r k n with rfl | ⟨rfl, c1⟩ | ⟨rfl, c1⟩
                 ·have hw := rfold_at hr hya (w := false) (by subst hq13; simp [rstep])
                  have c1 := True.intro
                  have hx := And.intro @hgr (And.intro @han (And.intro @hank (And.intro @eB.eq_1 (And.intro @eL.eq_1 (And.intro @c1 hx0)))))
                  refine u_reg ?_
                  try refine lg_mk ?_
                  refine u_mv ?_
                  refine u_mv ?_
                  refine u_mv ?_
                  refine u_mv ?_
                  refine u_pt ?_
                  refine u_ld ?_
                  refine u_mv ?_
                  refine g_mv ?_
                  refine g_mv ?_
                  refine g_bn ?_
                  refine g_mv ?_
                  refine g_mv ?_
                  refine g_mv ?_
                  refine g_pt ?_
                  refine g_ld ?_
                  refine g_mv ?_
                  refine g_pt ?_
                  refine g_ld ?_
                  refine g_un ?_
                  refine g_pk ?_
                  refine u_pk ?_
                  refine u_pt ?_
                  refine u_st ?_
                  refine lg_nil ?_
                  have hx := hx0
                  refine h32 _ ?_; clear h32; try clear N32
                  refine u_reg ?_
                  try refine lg_mk ?_
                  refine u_mv ?_
                  refine u_bn ?_
                  refine u_mv ?_
                  refine lg_nil ?_
                  refine h28 _ ⟨k + 1, ?_, ?_, [some 0, some 1, some 2, some 3], ?_⟩
                  ·dsimp only
                   omega
                  ·dsimp only
                   omega
                  ·dsimp only
                   refine ⟨by rfl, ?_, ?_⟩
                   ·refine fin_ ?_
                    (repeat' apply And.intro) <;> (first | (exact e5w) | exact cl_)
                   ·refine fin_ ?_
                    (repeat' apply And.intro) <;> (first | (exact e5w) | exact cl_)
                 ·have hw := rfold_at hr hya (w := true) (by have hkn : k = n := (by have := of_eq_true c1; omega); subst hq13; simp [rstep, hkn])
                  have hx := And.intro @hgr (And.intro @han (And.intro @hank (And.intro @eB.eq_1 (And.intro @eL.eq_1 (And.intro @c1 hx0)))))
                  refine u_reg ?_
                  try refine lg_mk ?_
                  refine u_mv ?_
                  refine u_mv ?_
                  refine u_mv ?_
                  refine u_mv ?_
                  refine u_pt ?_
                  refine u_ld ?_
                  refine u_mv ?_
                  refine g_mv ?_
                  refine g_mv ?_
                  refine g_bn ?_
                  refine g_mv ?_
                  refine g_mv ?_
                  refine g_mv ?_
                  refine g_pt ?_
                  refine g_ld ?_
                  refine g_mv ?_
                  refine g_pt ?_
                  refine g_ld ?_
                  refine g_un ?_
                  refine g_pk ?_
                  refine u_pk ?_
                  refine u_pt ?_
                  refine u_st ?_
                  refine lg_nil ?_
                  have hx := hx0
                  refine h32 _ ?_; clear h32; try clear N32
                  refine u_reg ?_
                  try refine lg_mk ?_
                  refine u_mv ?_
                  refine u_bn ?_
                  refine u_mv ?_
                  refine lg_nil ?_
                  refine h28 _ ⟨k + 1, ?_, ?_, [some 0, some 1, some 2, some 3], ?_⟩
                  ·dsimp only
                   omega
                  ·dsimp only
                   omega
                  ·dsimp only
                   refine ⟨by rfl, ?_, ?_⟩
                   ·refine fin_ ?_
                    (repeat' apply And.intro) <;> (first | (exact e5w) | exact cl_)
                   ·refine fin_ ?_
                    (repeat' apply And.intro) <;> (first | (exact e5w) | exact cl_)
                 ·have hw := rfold_at hr hya (w := !ancB l n k) (by have hkn : k ≠ n := (by have := of_eq_false c1; omega); subst hq13; simp [rstep, hkn])
                  have hx := And.intro @hgr (And.intro @han (And.intro @hank (And.intro @eB.eq_1 (And.intro @eL.eq_1 (And.intro @c1 hx0)))))
                  refine u_reg ?_
                  try refine lg_mk ?_
                  refine u_mv ?_
                  refine u_mv ?_
                  refine u_mv ?_
                  refine u_mv ?_
                  refine u_pt ?_
                  refine u_ld ?_
                  refine u_mv ?_
                  refine g_mv ?_
                  refine g_mv ?_
                  refine g_bn ?_
                  refine g_mv ?_
                  refine g_mv ?_
                  refine g_mv ?_
                  refine g_pt ?_
                  refine g_ld ?_
                  refine g_mv ?_
                  refine g_pt ?_
                  refine g_ld ?_
                  refine g_un ?_
                  refine g_pk ?_
                  refine u_pk ?_
                  refine u_pt ?_
                  refine u_st ?_
                  refine lg_nil ?_
                  have hx := hx0
                  refine h32 _ ?_; clear h32; try clear N32
                  refine u_reg ?_
                  try refine lg_mk ?_
                  refine u_mv ?_
                  refine u_bn ?_
                  refine u_mv ?_
                  refine lg_nil ?_
                  refine h28 _ ⟨k + 1, ?_, ?_, [some 0, some 1, some 2, some 3], ?_⟩
                  ·dsimp only
                   omega
                  ·dsimp only
                   omega
                  ·dsimp only
                   refine ⟨by rfl, ?_, ?_⟩
                   ·refine fin_ ?_
                    (repeat' apply And.intro) <;> (first | (exact e5w) | exact cl_)
                   ·refine fin_ ?_
                    (repeat' apply And.intro) <;> (first | (exact e5w) | exact cl_)
                ·have hq13 : a ≠ 13 := by have := hb48; (try simp at this); omega
                 have hsame := rfold_at hr hya (w := r) (by unfold rstep; rw [if_neg hq8, if_neg hq9, if_neg hq10, if_neg hq11, if_neg hq12, if_neg hq13])
                 refine vc_skip ?_
                 try simp only [k_rules]
                 refine h32 _ ?_; clear h32; try clear N32
                 refine u_reg ?_
                 try refine lg_mk ?_
                 refine u_mv ?_
                 refine u_bn ?_
                 refine u_mv ?_
                 refine lg_nil ?_
                 refine h28 _ ⟨k + 1, ?_, ?_, [some 0, some 1, some 2, some 3], ?_⟩
                 ·dsimp only
                  omega
                 ·dsimp only
                  omega
                 ·dsimp only
                  refine ⟨by rfl, ?_, ?_⟩
                  ·refine fin_ ?_
                   (repeat' apply And.intro) <;> (first | (exact e5h) | exact cl_)
                  ·refine fin_ ?_
                   (repeat' apply And.intro) <;> (first | (exact e5h) | exact cl_)
         ·obtain rfl : k = l.length := by have := hb31; (try simp at this); omega
          refine vc_exit ?_
          simp only [k_rules, Nat.reduceEqDiff, reduceIte, eq_self]
          refine h19 _ ?_; clear h19; try clear N19
          refine u_reg ?_
          try refine lg_mk ?_
          refine u_mv ?_
          refine u_bn ?_
          refine u_mv ?_
          refine lg_nil ?_
          refine h15 _ ⟨n + 1, ?_, ?_, [some 0, some 1, some 2, some 3], ?_⟩
          ·dsimp only
           omega
          ·dsimp only
           omega
          ·dsimp only
           refine ⟨by rfl, ?_, ?_⟩
           ·refine fin_ ?_
            (repeat' apply And.intro) <;> (first | (first | (with_reducible rfl) | exact True.intro | rfl | trivial | omega | (rw [← hrf, hN]; done)) | exact cl_)
           ·refine fin_ ?_
            (repeat' apply And.intro) <;> (first | (first | (with_reducible rfl) | exact True.intro | rfl | trivial | omega | (rw [← hrf, hN]; done)) | exact cl_)
       ·intro N26 h26
        refine vc_seq_k fun N49 h49 => ?_
        refine u_reg ?_
        try refine lg_mk ?_
        refine u_pt ?_
        refine u_ld ?_
        refine lg_nil ?_
        refine h49 _ ?_; clear h49; try clear N49
        refine vc_block ?_
        refine vc_seq_k fun N50 h50 => ?_
        refine u_reg ?_
        try refine lg_mk ?_
        refine u_bn ?_
        refine u_mv ?_
        refine lg_nil ?_
        refine h50 _ ?_; clear h50; try clear N50
        refine u_cond (fun hb51 => ?_) (fun hb51 => ?_)
        ·have hq7 : a = 7 := by have := hb51; (try simp at this); omega
         have hb7 : rbase a u z = !u := by subst hq7; simp [rbase]
         have hx := And.intro @hue (And.intro @hze (And.intro @hg0 (And.intro @eB.eq_1 hx0)))
         refine u_reg ?_
         try refine lg_mk ?_
         refine u_mv ?_
         refine u_mv ?_
         refine u_mv ?_
         refine u_mv ?_
         refine u_pt ?_
         refine u_ld ?_
         refine u_un ?_
         refine u_pt ?_
         refine u_st ?_
         refine lg_nil ?_
         have hx := hx0
         refine h26 _ ⟨(), trivial, [some 0, some 1, some 2, some 3], ?_⟩
         ·dsimp only
          refine ⟨by rfl, ?_, ?_⟩
          ·refine fin_ ?_
           (repeat' apply And.intro) <;> (first | (exact e5b) | exact cl_)
          ·refine fin_ ?_
           (repeat' apply And.intro) <;> (first | (exact e5b) | exact cl_)
        ·have hq7 : a ≠ 7 := by have := hb51; (try simp at this); omega
         refine vc_seq_k fun N52 h52 => ?_
         refine u_reg ?_
         try refine lg_mk ?_
         refine u_bn ?_
         refine u_mv ?_
         refine lg_nil ?_
         refine h52 _ ?_; clear h52; try clear N52
         refine u_cond (fun hb53 => ?_) (fun hb53 => ?_)
         ·have hq14 : a = 14 := by have := hb53; (try simp at this); omega
          have hbb : (u || z) = rbase a u z := by subst hq14; simp [rbase]
          rcases u with _ | _
          ·have hb7 : rbase a false z = z := by rw [← hbb]; rfl
           clear hbb
           have hx := And.intro @hue (And.intro @hze (And.intro @hg0 (And.intro @eB.eq_1 hx0)))
           refine u_reg ?_
           try refine lg_mk ?_
           refine u_mv ?_
           refine u_mv ?_
           refine u_mv ?_
           refine u_mv ?_
           refine u_pt ?_
           refine u_ld ?_
           refine u_mv ?_
           refine g_mv ?_
           refine g_mv ?_
           refine g_pt ?_
           refine g_ld ?_
           refine u_pk ?_
           refine u_pt ?_
           refine u_st ?_
           refine lg_nil ?_
           have hx := hx0
           refine h26 _ ⟨(), trivial, [some 0, some 1, some 2, some 3], ?_⟩
           ·dsimp only
            refine ⟨by rfl, ?_, ?_⟩
            ·refine fin_ ?_
             (repeat' apply And.intro) <;> (first | (exact e5b) | exact cl_)
            ·refine fin_ ?_
             (repeat' apply And.intro) <;> (first | (exact e5b) | exact cl_)
          ·have hb7 : rbase a true z = true := by rw [← hbb]; rfl
           clear hbb
           have hx := And.intro @hue (And.intro @hze (And.intro @hg0 (And.intro @eB.eq_1 hx0)))
           refine u_reg ?_
           try refine lg_mk ?_
           refine u_mv ?_
           refine u_mv ?_
           refine u_mv ?_
           refine u_mv ?_
           refine u_pt ?_
           refine u_ld ?_
           refine u_mv ?_
           refine g_mv ?_
           refine g_mv ?_
           refine g_pt ?_
           refine g_ld ?_
           refine u_pk ?_
           refine u_pt ?_
           refine u_st ?_
           refine lg_nil ?_
           have hx := hx0
           refine h26 _ ⟨(), trivial, [some 0, some 1, some 2, some 3], ?_⟩
           ·dsimp only
            refine ⟨by rfl, ?_, ?_⟩
            ·refine fin_ ?_
             (repeat' apply And.intro) <;> (first | (exact e5b) | exact cl_)
            ·refine fin_ ?_
             (repeat' apply And.intro) <;> (first | (exact e5b) | exact cl_)
         ·have hq14 : a ≠ 14 := by have := hb53; (try simp at this); omega
          refine vc_seq_k fun N54 h54 => ?_
          refine u_reg ?_
          try refine lg_mk ?_
          refine u_bn ?_
          refine u_mv ?_
          refine lg_nil ?_
          refine h54 _ ?_; clear h54; try clear N54
          refine u_cond (fun hb55 => ?_) (fun hb55 => ?_)
          ·have hq15 : a = 15 := by have := hb55; (try simp at this); omega
           have hbb : (u && z) = rbase a u z := by subst hq15; simp [rbase]
           rcases u with _ | _
           ·have hb7 : rbase a false z = false := by rw [← hbb]; rfl
            clear hbb
            have hx := And.intro @hue (And.intro @hze (And.intro @hg0 (And.intro @eB.eq_1 hx0)))
            refine u_reg ?_
            try refine lg_mk ?_
            refine u_mv ?_
            refine u_mv ?_
            refine u_mv ?_
            refine u_mv ?_
            refine u_pt ?_
            refine u_ld ?_
            refine u_mv ?_
            refine g_mv ?_
            refine g_mv ?_
            refine g_pt ?_
            refine g_ld ?_
            refine u_pk ?_
            refine u_pt ?_
            refine u_st ?_
            refine lg_nil ?_
            have hx := hx0
            refine h26 _ ⟨(), trivial, [some 0, some 1, some 2, some 3], ?_⟩
            ·dsimp only
             refine ⟨by rfl, ?_, ?_⟩
             ·refine fin_ ?_
              (repeat' apply And.intro) <;> (first | (exact e5b) | exact cl_)
             ·refine fin_ ?_
              (repeat' apply And.intro) <;> (first | (exact e5b) | exact cl_)
           ·have hb7 : rbase a true z = z := by rw [← hbb]; rfl
            clear hbb
            have hx := And.intro @hue (And.intro @hze (And.intro @hg0 (And.intro @eB.eq_1 hx0)))
            refine u_reg ?_
            try refine lg_mk ?_
            refine u_mv ?_
            refine u_mv ?_
            refine u_mv ?_
            refine u_mv ?_
            refine u_pt ?_
            refine u_ld ?_
            refine u_mv ?_
            refine g_mv ?_
            refine g_mv ?_
            refine g_pt ?_
            refine g_ld ?_
            refine u_pk ?_
            refine u_pt ?_
            refine u_st ?_
            refine lg_nil ?_
            have hx := hx0
            refine h26 _ ⟨(), trivial, [some 0, some 1, some 2, some 3], ?_⟩
            ·dsimp only
             refine ⟨by rfl, ?_, ?_⟩
             ·refine fin_ ?_
              (repeat' apply And.intro) <;> (first | (exact e5b) | exact cl_)
             ·refine fin_ ?_
              (repeat' apply And.intro) <;> (first | (exact e5b) | exact cl_)
          ·have hq15 : a ≠ 15 := by have := hb55; (try simp at this); omega
           refine vc_seq_k fun N56 h56 => ?_
           refine u_reg ?_
           try refine lg_mk ?_
           refine u_bn ?_
           refine u_mv ?_
           refine lg_nil ?_
           refine h56 _ ?_; clear h56; try clear N56
           refine u_cond (fun hb57 => ?_) (fun hb57 => ?_)
           ·have hq16 : a = 16 := by have := hb57; (try simp at this); omega
            have hbb : (u && !z) = rbase a u z := by subst hq16; simp [rbase]
            rcases u with _ | _
            ·have hb7 : rbase a false z = false := by rw [← hbb]; rfl
             clear hbb
             have hx := And.intro @hue (And.intro @hze (And.intro @hg0 (And.intro @eB.eq_1 hx0)))
             refine u_reg ?_
             try refine lg_mk ?_
             refine u_mv ?_
             refine u_mv ?_
             refine u_mv ?_
             refine u_mv ?_
             refine u_pt ?_
             refine u_ld ?_
             refine u_mv ?_
             refine g_mv ?_
             refine g_mv ?_
             refine g_pt ?_
             refine g_ld ?_
             refine g_un ?_
             refine u_pk ?_
             refine u_pt ?_
             refine u_st ?_
             refine lg_nil ?_
             have hx := hx0
             refine h26 _ ⟨(), trivial, [some 0, some 1, some 2, some 3], ?_⟩
             ·dsimp only
              refine ⟨by rfl, ?_, ?_⟩
              ·refine fin_ ?_
               (repeat' apply And.intro) <;> (first | (exact e5b) | exact cl_)
              ·refine fin_ ?_
               (repeat' apply And.intro) <;> (first | (exact e5b) | exact cl_)
            ·have hb7 : rbase a true z = (!z) := by rw [← hbb]; rfl
             clear hbb
             have hx := And.intro @hue (And.intro @hze (And.intro @hg0 (And.intro @eB.eq_1 hx0)))
             refine u_reg ?_
             try refine lg_mk ?_
             refine u_mv ?_
             refine u_mv ?_
             refine u_mv ?_
             refine u_mv ?_
             refine u_pt ?_
             refine u_ld ?_
             refine u_mv ?_
             refine g_mv ?_
             refine g_mv ?_
             refine g_pt ?_
             refine g_ld ?_
             refine g_un ?_
             refine u_pk ?_
             refine u_pt ?_
             refine u_st ?_
             refine lg_nil ?_
             have hx := hx0
             refine h26 _ ⟨(), trivial, [some 0, some 1, some 2, some 3], ?_⟩
             ·dsimp only
              refine ⟨by rfl, ?_, ?_⟩
              ·refine fin_ ?_
               (repeat' apply And.intro) <;> (first | (exact e5b) | exact cl_)
              ·refine fin_ ?_
               (repeat' apply And.intro) <;> (first | (exact e5b) | exact cl_)
           ·have hq16 : a ≠ 16 := by have := hb57; (try simp at this); omega
            refine vc_seq_k fun N58 h58 => ?_
            refine vc_seq_k fun N59 h59 => ?_
            refine u_reg ?_
            try refine lg_mk ?_
            refine u_bn ?_
            refine u_mv ?_
            refine lg_nil ?_
            refine h59 _ ?_; clear h59; try clear N59
            refine u_cond (fun hb60 => ?_) (fun hb60 => ?_)
            ·have hb7 : rbase a u z = u := by have hk := hb60; unfold rbase; rw [if_neg hq7, if_neg hq14, if_neg hq15, if_neg hq16, if_pos (by (try simp at hk); omega)]
             refine vc_skip ?_
             try simp only [k_rules]
             refine h58 _ ?_; clear h58; try clear N58
             refine u_cond (fun hb61 => ?_) (fun hb61 => ?_)
             ·have hdone := True.intro
              have hx := And.intro @hue (And.intro @hze (And.intro @hg0 (And.intro @eB.eq_1 hx0)))
              refine u_reg ?_
              try refine lg_mk ?_
              refine u_mv ?_
              refine u_mv ?_
              refine u_mv ?_
              refine u_mv ?_
              refine u_pt ?_
              refine u_ld ?_
              refine u_pt ?_
              refine u_st ?_
              refine lg_nil ?_
              have hx := hx0
              refine h26 _ ⟨(), trivial, [some 0, some 1, some 2, some 3], ?_⟩
              ·dsimp only
               refine ⟨by rfl, ?_, ?_⟩
               ·refine fin_ ?_
                (repeat' apply And.intro) <;> (first | (exact e5b) | exact cl_)
               ·refine fin_ ?_
                (repeat' apply And.intro) <;> (first | (exact e5b) | exact cl_)
             ·exfalso; first | omega | contradiction | (simp_all; done) | (simp_all; omega)
            ·have hn12 : a ≠ 12 := by have := hb60; (try simp at this); omega
             refine u_reg ?_
             try refine lg_mk ?_
             refine u_bn ?_
             refine u_mv ?_
             refine lg_nil ?_
             refine h58 _ ?_; clear h58; try clear N58
             refine u_cond (fun hb62 => ?_) (fun hb62 => ?_)
             ·have hb7 : rbase a u z = u := by have hk := hb62; unfold rbase; rw [if_neg hq7, if_neg hq14, if_neg hq15, if_neg hq16, if_pos (by (try simp at hk); omega)]
              have hx := And.intro @hue (And.intro @hze (And.intro @hg0 (And.intro @eB.eq_1 hx0)))
              refine u_reg ?_
              try refine lg_mk ?_
              refine u_mv ?_
              refine u_mv ?_
              refine u_mv ?_
              refine u_mv ?_
              refine u_pt ?_
              refine u_ld ?_
              refine u_pt ?_
              refine u_st ?_
              refine lg_nil ?_
              have hx := hx0
              refine h26 _ ⟨(), trivial, [some 0, some 1, some 2, some 3], ?_⟩
              ·dsimp only
               refine ⟨by rfl, ?_, ?_⟩
               ·refine fin_ ?_
                (repeat' apply And.intro) <;> (first | (exact e5b) | exact cl_)
               ·refine fin_ ?_
                (repeat' apply And.intro) <;> (first | (exact e5b) | exact cl_)
             ·have hb7 : rbase a u z = false := by have hk := hb62; unfold rbase; rw [if_neg hq7, if_neg hq14, if_neg hq15, if_neg hq16, if_neg (by (try simp at hk); omega)]
              refine vc_skip ?_
              try simp only [k_rules]
              refine h26 _ ⟨(), trivial, [some 0, some 1, some 2, some 3], ?_⟩
              ·dsimp only
               refine ⟨by rfl, ?_, ?_⟩
               ·refine fin_ ?_
                (repeat' apply And.intro) <;> (first | (exact e5b) | exact cl_)
               ·refine fin_ ?_
                (repeat' apply And.intro) <;> (first | (exact e5b) | exact cl_)
     ·obtain rfl : n = l.length := by have := hb18; (try simp at this); omega
      refine vc_exit ?_
      simp only [k_rules, Nat.reduceEqDiff, reduceIte, eq_self]
      refine h13 _ ?_; clear h13; try clear N13
      refine u_reg ?_
      try refine lg_mk ?_
      refine u_mv ?_
      refine u_mv ?_
      refine u_bs ?_
      refine u_ap ?_
      refine u_mv ?_
      refine lg_nil ?_
      refine h10 _ ?_; clear h10; try clear N10
      refine u_reg ?_
      try refine lg_mk ?_
      refine u_mv ?_
      refine u_bn ?_
      refine u_mv ?_
      refine lg_nil ?_
      refine h6 _ ⟨i + 1, ?_, ?_, [some 0, some 5], ?_⟩
      ·dsimp only
       omega
      ·dsimp only
       omega
      ·dsimp only
       refine ⟨by rfl, ?_, ?_⟩
       ·refine fin_ ?_
        (repeat' apply And.intro) <;> (first | (first | rfl | trivial | omega | (rw [htk, hsn]; simp [rows, eL, vec_take]; done)) | exact cl_)
       ·refine fin_ ?_
        (repeat' apply And.intro) <;> (first | (first | rfl | trivial | omega | (rw [htk, hsn]; simp [rows, eL, vec_take]; done)) | exact cl_)
   ·obtain rfl : i = q.length := by have := hb9; (try simp at this); omega
    obtain ⟨sx, hsx, hsxl⟩ := sets_row (l := l) hok (Nat.le_refl _) (j := q.length - 1) (by omega)
    have hr : rtV l q = sx := getD_of hsx
    have hqm : ((q.length : Int) - 1).toNat = q.length - 1 := by omega
    refine vc_exit ?_
    simp only [k_rules, Nat.reduceEqDiff, reduceIte, eq_self]
    refine h4 _ ?_; clear h4; try clear N4
    refine vc_seq_k fun N63 h63 => ?_
    have hx := And.intro @hqm (And.intro @hsx (And.intro @eL.eq_1 hx0))
    refine u_reg ?_
    try refine lg_mk ?_
    refine u_mv ?_
    refine u_mv ?_
    refine u_ln ?_
    refine u_bn ?_
    refine u_pt ?_
    refine u_ld ?_
    refine u_mv ?_
    refine lg_nil ?_
    have hx := hx0
    refine h63 _ ?_; clear h63; try clear N63
    refine vc_ret ?_
    try simp only [k_rules]
    rw [hr]
    refine fin2_ ?_
    exact cl_
 ·cases hg

def E_evr : Env Tryd.prog := E_sel2.add 28 (Spec.pure evRG) evr_meets (by kernel_rfl)
end Go.Proofs.YtlbjffdaooadoaaDoor
