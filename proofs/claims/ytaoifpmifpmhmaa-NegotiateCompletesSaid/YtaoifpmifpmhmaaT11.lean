/- Walks, printed by wip/gen/walk.py. -/
import Derived.Test.YtaoifpmifpmhmaaT10
import Derived.Test.YtaoifpmifpmhmaaV4
set_option linter.all false
set_option maxRecDepth 100000
set_option maxHeartbeats 4000000
namespace Go.Proofs.Ytaoifpmifpmhmaa
open Go Go.Vc Go.RowKit
/-- A commit of an extracted history. -/
def exC (l : List Cm) (ns : List Int) (i : Nat) : Cm := { l.getD (ns.getD i 0).toNat default with par := lst i fun k => decide (ns.getD k 0 ∈ (l.getD (ns.getD i 0).toNat default).par) }
def exR (l : List Cm) (ns : List Int) : List Cm := (List.range ns.length).map (exC l ns)
def psK (ns : List Int) (ps : List Int) : List Int := (ps.filter fun p => decide (p ∈ ns)).map fun p => (lbR ns p : Int)
theorem lb_of {ns : List Int} (hs : ns.Pairwise (· < ·)) {j : Nat} {p : Int} (h : ns[j]? = some p) : lbR ns p = j := by
  obtain ⟨h1, h2⟩ := List.getElem?_eq_some_iff.1 h
  refine lb_at (fun y hy => ?_) (drop_ge hs h (Int.le_refl _)) (by omega)
  have hd := List.take_append_drop j ns
  rw [← hd, List.pairwise_append, List.drop_eq_getElem_cons h1, h2] at hs
  exact hs.2.2 y hy p (by simp)
theorem sorted_lt {ns : List Int} (hs : ns.Pairwise (· < ·)) {i j : Nat} {x y : Int} (hx : ns[i]? = some x) (hy : ns[j]? = some y) (h : i < j) : x < y := by
  obtain ⟨h1, rfl⟩ := List.getElem?_eq_some_iff.1 hx
  obtain ⟨h2, rfl⟩ := List.getElem?_eq_some_iff.1 hy
  exact List.pairwise_iff_getElem.1 hs i j h1 h2 h
theorem Valid.parS {l : List Cm} (hv : Valid l) {i : Nat} {c : Cm} (hc : l[i]? = some c) : c.par.Pairwise (· < ·) := inc_pairwise fun k p q hp hq => hv.inc hc hp hq
theorem ex_par {l : List Cm} {ns : List Int} (h : Sel l ns) {i : Nat} {x : Int} {c : Cm} (hx : ns[i]? = some x) (hc : l[x.toNat]? = some c) : psK ns c.par = lst i fun k => decide (ns.getD k 0 ∈ c.par) := by
  refine sorted_ext ?_ (lst_sorted _ _) fun y => ?_
  · unfold psK
    refine List.pairwise_map.2 (List.Pairwise.imp_of_mem (fun {a b} ha hb hab => ?_) ((h.val.parS hc).filter _))
    simp only [List.mem_filter, decide_eq_true_eq] at ha hb
    obtain ⟨ja, hja, ea⟩ := List.getElem_of_mem ha.2
    obtain ⟨jb, hjb, eb⟩ := List.getElem_of_mem hb.2
    have ga : ns[ja]? = some a := by rw [List.getElem?_eq_getElem hja, ea]
    have gb : ns[jb]? = some b := by rw [List.getElem?_eq_getElem hjb, eb]
    rw [lb_of h.inc ga, lb_of h.inc gb]
    rcases Nat.lt_trichotomy ja jb with g | g | g
    · omega
    · subst g; rw [ga] at gb; cases gb; omega
    · have := sorted_lt h.inc gb ga g; omega
  · unfold psK
    rw [lst_mem]
    simp only [List.mem_map, List.mem_filter, decide_eq_true_eq]
    constructor
    · rintro ⟨p, ⟨hp, hpn⟩, rfl⟩
      obtain ⟨j, hj, ej⟩ := List.getElem_of_mem hpn
      have gj : ns[j]? = some p := by rw [List.getElem?_eq_getElem hj, ej]
      obtain ⟨kk, hkk, ek⟩ := List.getElem_of_mem hp
      have hpr := h.val.parR hc (k := kk) (p := p) (by rw [List.getElem?_eq_getElem hkk, ek])
      have hxr := h.inr.at hx
      refine ⟨j, ?_, by rw [getD_of gj]; exact hp, by rw [lb_of h.inc gj]⟩
      rcases Nat.lt_trichotomy j i with g | g | g
      · exact g
      · subst g; rw [hx] at gj; cases gj; omega
      · have := sorted_lt h.inc hx gj g; omega
    · rintro ⟨k, hk, hkp, rfl⟩
      obtain ⟨h1, _⟩ := List.getElem?_eq_some_iff.1 hx
      obtain ⟨q, hq⟩ := getE (l := ns) (i := k) (by omega)
      rw [getD_of hq] at hkp
      exact ⟨q, ⟨hkp, mem_at hq⟩, by rw [lb_of h.inc hq]⟩
theorem psK_snoc {ns ps : List Int} {k : Nat} {p : Int} (h : ps[k]? = some p) : psK ns (ps.take (k + 1)) = psK ns (ps.take k) ++ if decide (p ∈ ns) = true then [(lbR ns p : Int)] else [] := by
  unfold psK; rw [filter_snoc h]; split <;> simp
theorem exC_at {l : List Cm} {ns : List Int} {i : Nat} {x : Int} {c : Cm} (hx : ns[i]? = some x) (hc : l[x.toNat]? = some c) : exC l ns i = ⟨lst i (fun k => decide (ns.getD k 0 ∈ c.par)), c.au, c.ti, c.tr, c.ms⟩ := by
  simp only [exC, getD_of hx, getD_of hc]
theorem range_snoc {α : Type} (f : Nat → α) (i : Nat) : (List.range (i + 1)).map f = (List.range i).map f ++ [f i] := by rw [List.range_succ, List.map_append]; rfl
theorem range_len {α : Type} (f : Nat → α) (i : Nat) : ((List.range i).map f).length = i := by simp
def exG : List AV → Option (Prop × AV)
  | [.d (.sl xs), .d (.sl hs)] => some (xs = rows eC (dC xs) ∧ hs = rows eI (dI hs) ∧ (dC xs).length ≤ 9223372036854775807 ∧ smallC (dC xs) ∧ (dI hs).length ≤ 9223372036854775807,
      .tup [.d (.sl (rows eC (if (selF (dC xs) (dI hs)).1 = 0 then exR (dC xs) (dI hs) else []))), .agg [.d (.int .i64 (selF (dC xs) (dI hs)).1), .d (.int .i64 (selF (dC xs) (dI hs)).2)]])
  | _ => none
def exOfG : List AV → Option (Prop × AV)
  | [.d (.sl xs), .d (.sl hs)] => some (xs = rows eC (dC xs) ∧ hs = rows eI (dI hs) ∧ Sel (dC xs) (dI hs), .d (.sl (rows eC (exR (dC xs) (dI hs)))))
  | _ => none
def commitsG : List AV → Option (Prop × AV)
  | [.d (.sl xs), .d (.sl ys)] => some (xs = rows eC (dC xs) ∧ ys = rows eC (dC ys) ∧ (dC xs).length ≤ 9223372036854775807 ∧ (dC ys).length ≤ 9223372036854775807 ∧ smallC (dC xs) ∧ smallC (dC ys), .d (.bool (decide (dC xs = dC ys))))
  | _ => none
def chainR (n : Nat) : List Cm := (List.range n).map fun (i : Nat) => ⟨if i = 0 then [] else [(i : Int) - 1], 0, (i : Int), 0, []⟩
def chainG : List AV → Option (Prop × AV)
  | [.d (.int .i64 n)] => some (0 ≤ n ∧ n ≤ 1000, .d (.sl (rows eC (chainR n.toNat))))
  | _ => none
theorem cm_ext {a b : Cm} : a = b ↔ a.par = b.par ∧ a.au = b.au ∧ a.ti = b.ti ∧ a.tr = b.tr ∧ a.ms = b.ms := by
  cases a; cases b; simp

theorem extract_meets : Meets Try.prog 29 (Spec.pure exG) := by
 refine meets_fun (E_bs.at_ 64) Try.func29 rfl rfl rfl ?_
 intro args p r hg hp
 unfold exG at hg
 split at hg
 ·rename_i xs ys
  simp only [Option.some.injEq, Prod.mk.injEq] at hg
  obtain ⟨rfl, rfl⟩ := hg
  obtain ⟨he, hf, hl, hs, hn⟩ := hp
  generalize dC xs = l at *
  generalize dI ys = ns at *
  subst he hf
  have hT : (E_bs).X = T := rfl
  have hx0 := And.intro @rect_eC (And.intro @dC_rows (And.intro @dI_rows (And.intro @range_len @Try.results29)))
  have hx := hx0
  refine ⟨by rfl, ?_⟩
  intro F W0 hnp hmk
  refine vc_seq_k fun N1 h1 => ?_
  refine u_reg ?_
  try refine lg_mk ?_
  refine u_mv ?_
  refine u_al ?_
  refine lg_nil ?_
  refine h1 _ ?_; clear h1; try clear N1
  refine vc_seq_k fun N2 h2 => ?_
  refine vc_seq_k fun N3 h3 => ?_
  by_cases h0 : (selF l ns).1 = 0
  ·have hz := selF_zero h0
   have hsel := sel_of h0
   have hl60 := hsel.val.len
   have hnl := hsel.len
   have hx := And.intro @hz hx0
   refine u_reg ?_
   try refine lg_mk ?_
   refine u_mv ?_
   refine u_mv ?_
   have hc := call_rule (E := (E_bs.at_ 64)) (f := 45) (sp := Spec.pure selG) rfl
   have hs := @selG.eq_1
   refine u_cp (hq := by (first | (exact ⟨hl, ‹smallC l›, by omega⟩) | (first | trivial | omega | assumption | (unfold inI64; omega) | ((repeat' apply And.intro) <;> first | rfl | trivial | omega | assumption | (unfold inI64; omega)) | (simp; done) | (simp; omega)))) ?_
   refine u_al ?_
   refine u_st ?_
   refine lg_nil ?_
   have hx := hx0
   refine h3 _ ?_; clear h3; try clear N3
   refine vc_seq_k fun N4 h4 => ?_
   refine u_reg ?_
   try refine lg_mk ?_
   refine u_ld ?_
   refine u_bd ?_
   refine u_bn ?_
   refine lg_nil ?_
   refine h4 _ ?_; clear h4; try clear N4
   refine u_cond (fun hb5 => ?_) (fun hb5 => ?_)
   ·first | omega | exact absurd trivial hb5 | contradiction | (simp_all; done)
   ·refine vc_skip ?_
    try simp only [k_rules]
    refine h2 _ ?_; clear h2; try clear N2
    refine vc_seq_k fun N6 h6 => ?_
    refine u_reg ?_
    try refine lg_mk ?_
    refine u_mv ?_
    refine lg_nil ?_
    refine h6 _ ?_; clear h6; try clear N6
    refine vc_seq_k fun N7 h7 => ?_
    refine vc_seq_k fun N8 h8 => ?_
    refine u_reg ?_
    try refine lg_mk ?_
    refine u_mv ?_
    refine u_ln ?_
    refine u_mv ?_
    refine lg_nil ?_
    refine h8 _ ?_; clear h8; try clear N8
    refine vc_block ?_
    refine vc_loop_mk (σ := Nat) (fun s => (fun i => i ≤ ns.length) s)
     (fun s => (fun i => [(0, .d (.sl (rows eC l))), (1, .d (.sl (rows eI ns))), (5, .ptr 0 0 0), (7, .sl 1 0 i), (22, .d (.sl (rows eI ns))), (23, .d (.int .i64 (ns.length : Nat))), (24, .d (.int .i64 (i : Nat)))]) s)
     (fun s => (fun i => [some (.one 27 [.d (.int .i64 0), .d (.int .i64 0)]), some (.vec 40 5 (rows eC ((List.range i).map (exC l ns))))]) s) (fun s => (fun i => ns.length - i) s) hnp 0 ?_ [some 0, none] ?_ ?_
    ·dsimp only
     omega
    ·dsimp only
     refine ⟨by rfl, ?_, ?_⟩
     ·refine fin_ ?_
      exact cl_
     ·refine fin_ ?_
      exact cl_
    ·rintro i hinv N9 h9
     dsimp only at hinv ⊢
     have hi1 := hinv
     refine vc_seq_k fun N10 h10 => ?_
     refine u_reg ?_
     try refine lg_mk ?_
     refine u_bn ?_
     refine lg_nil ?_
     refine h10 _ ?_; clear h10; try clear N10
     refine vc_seq_k fun N11 h11 => ?_
     refine u_cond (fun hb12 => ?_) (fun hb12 => ?_)
     ·obtain ⟨x, hxe⟩ := getE (l := ns) (i := i) (by omega)
      have hxr := hsel.inr.at hxe
      obtain ⟨c, hce⟩ := getE (l := l) (i := x.toNat) (by omega)
      have hc3 := hsel.val.few hce
      have hex := exC_at hxe hce
      refine vc_skip ?_
      try simp only [k_rules]
      refine h11 _ ?_; clear h11; try clear N11
      refine vc_seq_k fun N13 h13 => ?_
      refine vc_block ?_
      refine vc_seq_k fun N14 h14 => ?_
      have hx := And.intro @hxe (And.intro @eI.eq_1 hx0)
      refine u_reg ?_
      try refine lg_mk ?_
      refine u_pt ?_
      refine u_ld ?_
      refine u_mv ?_
      refine lg_nil ?_
      have hx := hx0
      refine h14 _ ?_; clear h14; try clear N14
      refine vc_seq_k fun N15 h15 => ?_
      have hx := And.intro @hce (And.intro @eC.eq_1 hx0)
      refine u_reg ?_
      try refine lg_mk ?_
      refine u_mv ?_
      refine u_mv ?_
      refine u_pt ?_
      refine u_ld ?_
      refine u_al ?_
      refine u_st ?_
      refine lg_nil ?_
      have hx := hx0
      refine h15 _ ?_; clear h15; try clear N15
      refine vc_seq_k fun N16 h16 => ?_
      refine u_reg ?_
      try refine lg_mk ?_
      refine u_pt ?_
      refine u_st ?_
      refine lg_nil ?_
      refine h16 _ ?_; clear h16; try clear N16
      refine vc_seq_k fun N17 h17 => ?_
      refine vc_seq_k fun N18 h18 => ?_
      have hx := And.intro @hce (And.intro @eC.eq_1 hx0)
      refine u_reg ?_
      try refine lg_mk ?_
      refine u_mv ?_
      refine u_mv ?_
      refine u_pt ?_
      refine u_pt ?_
      refine u_ld ?_
      refine u_ln ?_
      refine u_mv ?_
      refine lg_nil ?_
      have hx := hx0
      refine h18 _ ?_; clear h18; try clear N18
      refine vc_block ?_
      refine vc_loop_mk (σ := Nat) (fun s => (fun k => k ≤ c.par.length) s)
       (fun s => (fun k => [(0, .d (.sl (rows eC l))), (1, .d (.sl (rows eI ns))), (5, .ptr 0 0 0), (7, .sl 1 0 i), (10, .ptr 2 0 0), (22, .d (.sl (rows eI ns))), (23, .d (.int .i64 (ns.length : Nat))), (24, .d (.int .i64 (i : Nat))), (37, .d (.sl (rows eI c.par))), (38, .d (.int .i64 (c.par.length : Nat))), (39, .d (.int .i64 (k : Nat)))]) s)
       (fun s => (fun k => [some (.one 27 [.d (.int .i64 0), .d (.int .i64 0)]), some (.vec 40 5 (rows eC ((List.range i).map (exC l ns)))), some (.one 40 [.sl 3 0 (psK ns (c.par.take k)).length, .d (.int .i64 c.au), .d (.int .i64 c.ti), .d (.int .i64 c.tr), .d (.str c.ms)]), some (.vec 3 1 (rows eI (psK ns (c.par.take k))))]) s) (fun s => (fun k => c.par.length - k) s) hnp 0 ?_ [some 0, some 1, some 2, none] ?_ ?_
      ·dsimp only
       omega
      ·dsimp only
       refine ⟨by rfl, ?_, ?_⟩
       ·refine fin_ ?_
        (repeat' apply And.intro) <;> (first | (first | rfl | trivial | (simp [psK]; done)) | (first | rfl | exact Or.inr rfl | exact Or.inl rfl | trivial | omega | assumption | (simp; done) | (simp; omega)))
       ·refine fin_ ?_
        (repeat' apply And.intro) <;> (first | (first | rfl | trivial | (simp [psK]; done)) | (first | rfl | exact Or.inr rfl | exact Or.inl rfl | trivial | omega | assumption | (simp; done) | (simp; omega)))
      ·rintro k hinv N19 h19
       dsimp only at hinv ⊢
       have hk1 := hinv
       refine vc_seq_k fun N20 h20 => ?_
       refine u_reg ?_
       try refine lg_mk ?_
       refine u_bn ?_
       refine lg_nil ?_
       refine h20 _ ?_; clear h20; try clear N20
       refine vc_seq_k fun N21 h21 => ?_
       refine u_cond (fun hb22 => ?_) (fun hb22 => ?_)
       ·obtain ⟨p, hpe⟩ := getE (l := c.par) (i := k) (by omega)
        have hpk := psK_snoc (ns := ns) hpe
        have hpl : (psK ns (c.par.take k)).length ≤ k := by unfold psK; rw [List.length_map]; exact Nat.le_trans (List.length_filter_le ..) (List.length_take_le ..)
        refine vc_skip ?_
        try simp only [k_rules]
        refine h21 _ ?_; clear h21; try clear N21
        refine vc_seq_k fun N23 h23 => ?_
        refine vc_block ?_
        refine vc_seq_k fun N24 h24 => ?_
        have hx := And.intro @hpe (And.intro @eI.eq_1 hx0)
        refine u_reg ?_
        try refine lg_mk ?_
        refine u_pt ?_
        refine u_ld ?_
        refine u_mv ?_
        refine lg_nil ?_
        have hx := hx0
        refine h24 _ ?_; clear h24; try clear N24
        refine vc_seq_k fun N25 h25 => ?_
        refine u_reg ?_
        try refine lg_mk ?_
        refine u_mv ?_
        refine u_mv ?_
        have hc := call_rule (E := (E_bs.at_ 64)) (f := 49) (sp := Spec.pure bsG) rfl
        have hs := @bsG.eq_1
        refine u_cp (hq := by (first | (exact ⟨hsel.inc, by omega⟩) | (first | trivial | omega | assumption | (unfold inI64; omega) | ((repeat' apply And.intro) <;> first | rfl | trivial | omega | assumption | (unfold inI64; omega)) | (simp; done) | (simp; omega)))) ?_
        refine u_mv ?_
        refine u_ex ?_
        refine u_ex ?_
        refine u_mv ?_
        refine u_mv ?_
        refine lg_nil ?_
        refine h25 _ ?_; clear h25; try clear N25
        refine vc_seq_k fun N26 h26 => ?_
        refine u_reg ?_
        try refine lg_mk ?_
        refine u_mv ?_
        refine lg_nil ?_
        refine h26 _ ?_; clear h26; try clear N26
        refine u_cond (fun hb27 => ?_) (fun hb27 => ?_)
        ·refine u_reg ?_
         try refine lg_mk ?_
         refine u_pt ?_
         refine u_ld ?_
         refine u_mv ?_
         refine u_bs ?_
         refine u_ap ?_
         refine u_pt ?_
         refine u_st ?_
         refine lg_nil ?_
         refine h23 _ ?_; clear h23; try clear N23
         refine u_reg ?_
         try refine lg_mk ?_
         refine u_bn ?_
         refine u_mv ?_
         refine lg_nil ?_
         refine h19 _ ⟨k + 1, ?_, ?_, [some 0, some 1, some 2, some 5], ?_⟩
         ·dsimp only
          omega
         ·dsimp only
          omega
         ·dsimp only
          refine ⟨by rfl, ?_, ?_⟩
          ·refine fin_ ?_
           (repeat' apply And.intro) <;> (first | (first | rfl | trivial | (rw [hpk, if_pos (by simpa using hb27)]; simp [rows, eI]; done) | (rw [hpk, if_pos (by simpa using hb27)]; simp; done)) | (first | rfl | exact Or.inr rfl | exact Or.inl rfl | trivial | omega | assumption | (simp; done) | (simp; omega)))
          ·refine fin_ ?_
           (repeat' apply And.intro) <;> (first | (first | rfl | trivial | (rw [hpk, if_pos (by simpa using hb27)]; simp [rows, eI]; done) | (rw [hpk, if_pos (by simpa using hb27)]; simp; done)) | (first | rfl | exact Or.inr rfl | exact Or.inl rfl | trivial | omega | assumption | (simp; done) | (simp; omega)))
        ·refine vc_skip ?_
         try simp only [k_rules]
         refine h23 _ ?_; clear h23; try clear N23
         refine u_reg ?_
         try refine lg_mk ?_
         refine u_bn ?_
         refine u_mv ?_
         refine lg_nil ?_
         refine h19 _ ⟨k + 1, ?_, ?_, [some 0, some 1, some 2, some 3], ?_⟩
         ·dsimp only
          omega
         ·dsimp only
          omega
         ·dsimp only
          refine ⟨by rfl, ?_, ?_⟩
          ·refine fin_ ?_
           (repeat' apply And.intro) <;> (first | (first | rfl | trivial | (rw [hpk, if_neg (by simpa using hb27), List.append_nil]; done) | (simp [hpk, hb27]; done)) | (first | rfl | exact Or.inr rfl | exact Or.inl rfl | trivial | omega | assumption | (simp; done) | (simp; omega)))
          ·refine fin_ ?_
           (repeat' apply And.intro) <;> (first | (first | rfl | trivial | (rw [hpk, if_neg (by simpa using hb27), List.append_nil]; done) | (simp [hpk, hb27]; done)) | (first | rfl | exact Or.inr rfl | exact Or.inl rfl | trivial | omega | assumption | (simp; done) | (simp; omega)))
       ·have hk : k = c.par.length := by omega
        subst hk
        rw [List.take_length] at *
        have hep := ex_par hsel hxe hce
        refine vc_exit ?_
        simp only [k_rules, Nat.reduceEqDiff, reduceIte, eq_self]
        refine h17 _ ?_; clear h17; try clear N17
        refine u_reg ?_
        try refine lg_mk ?_
        refine u_mv ?_
        refine u_ld ?_
        refine u_bs ?_
        refine u_ap ?_
        refine u_mv ?_
        refine lg_nil ?_
        refine h13 _ ?_; clear h13; try clear N13
        refine u_reg ?_
        try refine lg_mk ?_
        refine u_bn ?_
        refine u_mv ?_
        refine lg_nil ?_
        have htk : List.take i ((List.range i).map (exC l ns)) = ((List.range i).map (exC l ns)) := List.take_of_length_le (by simp)
        refine h9 _ ⟨i + 1, ?_, ?_, [some 0, some 5], ?_⟩
        ·dsimp only
         omega
        ·dsimp only
         omega
        ·dsimp only
         refine ⟨by rfl, ?_, ?_⟩
         ·refine fin_ ?_
          (repeat' apply And.intro) <;> (first | (first | rfl | trivial | (rw [htk, List.take_length, range_snoc, hex, ← hep]; simp [rows, eC]; done)) | (first | rfl | exact Or.inr rfl | exact Or.inl rfl | trivial | omega | assumption | (simp; done) | (simp; omega)))
         ·refine fin_ ?_
          (repeat' apply And.intro) <;> (first | (first | rfl | trivial | (rw [htk, List.take_length, range_snoc, hex, ← hep]; simp [rows, eC]; done)) | (first | rfl | exact Or.inr rfl | exact Or.inl rfl | trivial | omega | assumption | (simp; done) | (simp; omega)))
     ·refine vc_exit ?_
      simp only [k_rules, Nat.reduceEqDiff, reduceIte, eq_self]
      refine h7 _ ?_; clear h7; try clear N7
      refine vc_seq_k fun N28 h28 => ?_
      refine u_reg ?_
      try refine lg_mk ?_
      refine u_mv ?_
      refine u_bd ?_
      refine u_mv ?_
      refine u_st ?_
      refine lg_nil ?_
      refine h28 _ ?_; clear h28; try clear N28
      refine vc_ret ?_
      try simp only [k_rules]
      rw [if_pos h0, hz]
      have hi : i = ns.length := by omega
      subst hi
      have hr : exR l ns = ((List.range ns.length).map (exC l ns)) := rfl
      rw [hr]
      refine fin2_ ?_
      (repeat' apply And.intro) <;> (first | (first | rfl | exact Or.inl rfl | trivial | exact Nat.le_refl _ | (simp [rows_len]; done) | (rw [List.drop_zero, rows_take, List.take_length]; done) | (rw [rows_take, List.take_length]; done) | (rw [List.drop_zero, rows_take, List.take_of_length_le (by simp)]; done) | (rw [List.take_of_length_le (by simp)]; done)) | (first | rfl | exact Or.inr rfl | exact Or.inl rfl | trivial | omega | assumption | (simp; done) | (simp; omega)))
  ·have hz : True := trivial
   have hx := And.intro @hz hx0
   refine u_reg ?_
   try refine lg_mk ?_
   refine u_mv ?_
   refine u_mv ?_
   have hc := call_rule (E := (E_bs.at_ 64)) (f := 45) (sp := Spec.pure selG) rfl
   have hs := @selG.eq_1
   refine u_cp (hq := by (first | (exact ⟨hl, ‹smallC l›, by omega⟩) | (first | trivial | omega | assumption | (unfold inI64; omega) | ((repeat' apply And.intro) <;> first | rfl | trivial | omega | assumption | (unfold inI64; omega)) | (simp; done) | (simp; omega)))) ?_
   refine u_al ?_
   refine u_st ?_
   refine lg_nil ?_
   have hx := hx0
   refine h3 _ ?_; clear h3; try clear N3
   refine vc_seq_k fun N29 h29 => ?_
   refine u_reg ?_
   try refine lg_mk ?_
   refine u_ld ?_
   refine u_bd ?_
   refine u_bn ?_
   refine lg_nil ?_
   refine h29 _ ?_; clear h29; try clear N29
   refine u_cond (fun hb30 => ?_) (fun hb30 => ?_)
   ·refine vc_seq_k fun N31 h31 => ?_
    refine u_reg ?_
    try refine lg_mk ?_
    refine u_ld ?_
    refine u_mv ?_
    refine u_st ?_
    refine lg_nil ?_
    refine h31 _ ?_; clear h31; try clear N31
    refine vc_ret ?_
    try simp only [k_rules]
    rw [if_neg h0]
    refine fin2_ ?_
    exact cl_
   ·first | omega | exact absurd trivial hb30 | contradiction | (simp_all; done)
 ·cases hg

def E_extract : Env Try.prog := E_bs.add 29 (Spec.pure exG) extract_meets (by kernel_rfl)

theorem extractOf_meets : Meets Try.prog 33 (Spec.pure exOfG) := by
 refine meets_fun (E_extract.at_ 53) Try.func33 rfl rfl rfl ?_
 intro args p r hg hp
 unfold exOfG at hg
 split at hg
 ·rename_i xs ys
  simp only [Option.some.injEq, Prod.mk.injEq] at hg
  obtain ⟨rfl, rfl⟩ := hg
  obtain ⟨he, hf, hsel⟩ := hp
  generalize dC xs = l at *
  generalize dI ys = ns at *
  subst he hf
  have hl60 := hsel.val.len
  have hnl := hsel.len
  have hT : (E_extract).X = T := rfl
  have hx0 := And.intro @rect_eC (And.intro @dC_rows (And.intro @dI_rows (And.intro @range_len @Try.results33)))
  have hx := hx0
  refine ⟨by rfl, ?_⟩
  intro F W0 hnp hmk
  refine vc_seq_k fun N1 h1 => ?_
  refine u_reg ?_
  try refine lg_mk ?_
  refine u_mv ?_
  refine lg_nil ?_
  refine h1 _ ?_; clear h1; try clear N1
  refine vc_seq_k fun N2 h2 => ?_
  refine u_reg ?_
  try refine lg_mk ?_
  refine u_mv ?_
  refine lg_nil ?_
  refine h2 _ ?_; clear h2; try clear N2
  refine vc_seq_k fun N3 h3 => ?_
  refine vc_seq_k fun N4 h4 => ?_
  refine u_reg ?_
  try refine lg_mk ?_
  refine u_mv ?_
  refine lg_nil ?_
  refine h4 _ ?_; clear h4; try clear N4
  refine vc_block ?_
  refine vc_loop_mk (σ := Nat) (fun s => (fun i => i ≤ ns.length) s)
   (fun s => (fun i => [(0, .d (.sl (rows eC l))), (1, .d (.sl (rows eI ns))), (5, .sl 0 0 i), (6, .d (.int .i64 (i : Nat)))]) s)
   (fun s => (fun i => [some (.vec 40 5 (rows eC ((List.range i).map (exC l ns))))]) s) (fun s => (fun i => ns.length - i) s) hnp 0 ?_ [none] ?_ ?_
  ·dsimp only
   omega
  ·dsimp only
   refine ⟨by rfl, ?_, ?_⟩
   ·refine fin_ ?_
    exact cl_
   ·refine fin_ ?_
    exact cl_
  ·rintro i hinv N5 h5
   dsimp only at hinv ⊢
   have hi1 := hinv
   refine vc_seq_k fun N6 h6 => ?_
   refine vc_seq_k fun N7 h7 => ?_
   refine u_reg ?_
   try refine lg_mk ?_
   refine u_mv ?_
   refine u_mv ?_
   refine u_ln ?_
   refine u_bn ?_
   refine lg_nil ?_
   refine h7 _ ?_; clear h7; try clear N7
   refine u_cond (fun hb8 => ?_) (fun hb8 => ?_)
   ·obtain ⟨x, hxe⟩ := getE (l := ns) (i := i) (by omega)
    have hxr := hsel.inr.at hxe
    obtain ⟨c, hce⟩ := getE (l := l) (i := x.toNat) (by omega)
    have hc3 := hsel.val.few hce
    have hex := exC_at hxe hce
    refine vc_skip ?_
    try simp only [k_rules]
    refine h6 _ ?_; clear h6; try clear N6
    refine vc_seq_k fun N9 h9 => ?_
    refine vc_block ?_
    refine vc_seq_k fun N10 h10 => ?_
    have hx := And.intro @hxe (And.intro @hce (And.intro @eI.eq_1 (And.intro @eC.eq_1 hx0)))
    refine u_reg ?_
    try refine lg_mk ?_
    refine u_mv ?_
    refine u_mv ?_
    refine u_mv ?_
    refine u_pt ?_
    refine u_ld ?_
    refine u_pt ?_
    refine u_ld ?_
    refine u_al ?_
    refine u_st ?_
    refine lg_nil ?_
    have hx := hx0
    refine h10 _ ?_; clear h10; try clear N10
    refine vc_seq_k fun N11 h11 => ?_
    refine u_reg ?_
    try refine lg_mk ?_
    refine u_mv ?_
    refine lg_nil ?_
    refine h11 _ ?_; clear h11; try clear N11
    refine vc_seq_k fun N12 h12 => ?_
    refine vc_seq_k fun N13 h13 => ?_
    refine u_reg ?_
    try refine lg_mk ?_
    refine u_mv ?_
    refine lg_nil ?_
    refine h13 _ ?_; clear h13; try clear N13
    refine vc_block ?_
    refine vc_loop_mk (σ := Nat) (fun s => (fun k => k ≤ i) s)
     (fun s => (fun k => [(0, .d (.sl (rows eC l))), (1, .d (.sl (rows eI ns))), (5, .sl 0 0 i), (6, .d (.int .i64 (i : Nat))), (7, .ptr 1 0 0), (8, .sl 2 0 (lst k (fun k => decide (ns.getD k 0 ∈ c.par))).length), (9, .d (.int .i64 (k : Nat)))]) s)
     (fun s => (fun k => [some (.vec 40 5 (rows eC ((List.range i).map (exC l ns)))), some (.one 40 [.d (.sl (rows eI c.par)), .d (.int .i64 c.au), .d (.int .i64 c.ti), .d (.int .i64 c.tr), .d (.str c.ms)]), some (.vec 3 1 (rows eI (lst k (fun k => decide (ns.getD k 0 ∈ c.par)))))]) s) (fun s => (fun k => i - k) s) hnp 0 ?_ [some 0, some 1, none] ?_ ?_
    ·dsimp only
     omega
    ·dsimp only
     refine ⟨by rfl, ?_, ?_⟩
     ·refine fin_ ?_
      exact cl_
     ·refine fin_ ?_
      exact cl_
    ·rintro k hinv N14 h14
     dsimp only at hinv ⊢
     have hk1 := hinv
     refine vc_seq_k fun N15 h15 => ?_
     refine vc_seq_k fun N16 h16 => ?_
     refine u_reg ?_
     try refine lg_mk ?_
     refine u_mv ?_
     refine u_mv ?_
     refine u_bn ?_
     refine lg_nil ?_
     refine h16 _ ?_; clear h16; try clear N16
     refine u_cond (fun hb17 => ?_) (fun hb17 => ?_)
     ·obtain ⟨y, hye⟩ := getE (l := ns) (i := k) (by omega)
      have hgk : ns.getD k 0 = y := getD_of hye
      have hlk := lst_len k (fun k => decide (ns.getD k 0 ∈ c.par))
      refine vc_skip ?_
      try simp only [k_rules]
      refine h15 _ ?_; clear h15; try clear N15
      refine vc_seq_k fun N18 h18 => ?_
      refine vc_block ?_
      refine vc_seq_k fun N19 h19 => ?_
      have hx := And.intro @hye (And.intro @eI.eq_1 hx0)
      refine u_reg ?_
      try refine lg_mk ?_
      refine u_pt ?_
      refine u_ld ?_
      refine u_mv ?_
      refine u_mv ?_
      refine u_pt ?_
      refine u_ld ?_
      have hc := call_rule (E := (E_extract.at_ 53)) (f := 21) (sp := Spec.pure hasG) rfl
      have hs := @hasG.eq_1
      refine u_cp ?_
      refine lg_nil ?_
      have hx := hx0
      refine h19 _ ?_; clear h19; try clear N19
      refine u_cond (fun hb20 => ?_) (fun hb20 => ?_)
      ·refine u_reg ?_
       try refine lg_mk ?_
       refine u_mv ?_
       refine u_mv ?_
       refine u_bs ?_
       refine u_ap ?_
       refine u_mv ?_
       refine lg_nil ?_
       refine h18 _ ?_; clear h18; try clear N18
       refine u_reg ?_
       try refine lg_mk ?_
       refine u_mv ?_
       refine u_bn ?_
       refine u_mv ?_
       refine lg_nil ?_
       refine h14 _ ⟨k + 1, ?_, ?_, [some 0, some 1, some 4], ?_⟩
       ·dsimp only
        omega
       ·dsimp only
        omega
       ·dsimp only
        refine ⟨by rfl, ?_, ?_⟩
        ·refine fin_ ?_
         (repeat' apply And.intro) <;> (first | (first | rfl | trivial | (rw [lst_succ, if_pos (by rw [hgk]; simpa using hb20)]; simp [rows, eI]; done) | (rw [lst_succ, if_pos (by rw [hgk]; simpa using hb20)]; simp; done)) | (first | rfl | exact Or.inr rfl | exact Or.inl rfl | trivial | omega | assumption | (simp; done) | (simp; omega)))
        ·refine fin_ ?_
         (repeat' apply And.intro) <;> (first | (first | rfl | trivial | (rw [lst_succ, if_pos (by rw [hgk]; simpa using hb20)]; simp [rows, eI]; done) | (rw [lst_succ, if_pos (by rw [hgk]; simpa using hb20)]; simp; done)) | (first | rfl | exact Or.inr rfl | exact Or.inl rfl | trivial | omega | assumption | (simp; done) | (simp; omega)))
      ·refine vc_skip ?_
       try simp only [k_rules]
       refine h18 _ ?_; clear h18; try clear N18
       refine u_reg ?_
       try refine lg_mk ?_
       refine u_mv ?_
       refine u_bn ?_
       refine u_mv ?_
       refine lg_nil ?_
       refine h14 _ ⟨k + 1, ?_, ?_, [some 0, some 1, some 2], ?_⟩
       ·dsimp only
        omega
       ·dsimp only
        omega
       ·dsimp only
        refine ⟨by rfl, ?_, ?_⟩
        ·refine fin_ ?_
         (repeat' apply And.intro) <;> (first | (first | rfl | trivial | (rw [lst_succ, if_neg (by rw [hgk]; simpa using hb20), List.append_nil]; done)) | (first | rfl | exact Or.inr rfl | exact Or.inl rfl | trivial | omega | assumption | (simp; done) | (simp; omega)))
        ·refine fin_ ?_
         (repeat' apply And.intro) <;> (first | (first | rfl | trivial | (rw [lst_succ, if_neg (by rw [hgk]; simpa using hb20), List.append_nil]; done)) | (first | rfl | exact Or.inr rfl | exact Or.inl rfl | trivial | omega | assumption | (simp; done) | (simp; omega)))
     ·have hk : k = i := by omega
      subst hk
      refine vc_exit ?_
      simp only [k_rules, Nat.reduceEqDiff, reduceIte, eq_self]
      refine h12 _ ?_; clear h12; try clear N12
      refine u_reg ?_
      try refine lg_mk ?_
      refine u_mv ?_
      refine u_mv ?_
      refine u_pt ?_
      refine u_ld ?_
      refine u_pt ?_
      refine u_ld ?_
      refine u_pt ?_
      refine u_ld ?_
      refine u_pt ?_
      refine u_ld ?_
      refine u_bd ?_
      refine u_bs ?_
      refine u_ap ?_
      refine u_mv ?_
      refine lg_nil ?_
      refine h9 _ ?_; clear h9; try clear N9
      refine u_reg ?_
      try refine lg_mk ?_
      refine u_mv ?_
      refine u_bn ?_
      refine u_mv ?_
      refine lg_nil ?_
      have htk : List.take k ((List.range k).map (exC l ns)) = ((List.range k).map (exC l ns)) := List.take_of_length_le (by simp)
      refine h5 _ ⟨k + 1, ?_, ?_, [some 4], ?_⟩
      ·dsimp only
       omega
      ·dsimp only
       omega
      ·dsimp only
       refine ⟨by rfl, ?_, ?_⟩
       ·refine fin_ ?_
        (repeat' apply And.intro) <;> (first | (first | rfl | trivial | (rw [htk, List.take_length, range_snoc, hex]; simp [rows, eC]; done)) | (first | rfl | exact Or.inr rfl | exact Or.inl rfl | trivial | omega | assumption | (simp; done) | (simp; omega)))
       ·refine fin_ ?_
        (repeat' apply And.intro) <;> (first | (first | rfl | trivial | (rw [htk, List.take_length, range_snoc, hex]; simp [rows, eC]; done)) | (first | rfl | exact Or.inr rfl | exact Or.inl rfl | trivial | omega | assumption | (simp; done) | (simp; omega)))
   ·refine vc_exit ?_
    simp only [k_rules, Nat.reduceEqDiff, reduceIte, eq_self]
    refine h3 _ ?_; clear h3; try clear N3
    refine vc_seq_k fun N21 h21 => ?_
    refine u_reg ?_
    try refine lg_mk ?_
    refine u_mv ?_
    refine u_mv ?_
    refine lg_nil ?_
    refine h21 _ ?_; clear h21; try clear N21
    refine vc_ret ?_
    try simp only [k_rules]
    have hi : i = ns.length := by omega
    subst hi
    have hr : exR l ns = ((List.range ns.length).map (exC l ns)) := rfl
    rw [hr]
    refine fin2_ ?_
    (repeat' apply And.intro) <;> (first | (first | rfl | exact Or.inl rfl | trivial | exact Nat.le_refl _ | (simp [rows_len]; done) | (rw [List.drop_zero, rows_take, List.take_length]; done) | (rw [rows_take, List.take_length]; done) | (rw [List.drop_zero, rows_take, List.take_of_length_le (by simp)]; done) | (rw [List.take_of_length_le (by simp)]; done)) | (first | rfl | exact Or.inr rfl | exact Or.inl rfl | trivial | omega | assumption | (simp; done) | (simp; omega)))
 ·cases hg

def E_extractOf : Env Try.prog := E_extract.add 33 (Spec.pure exOfG) extractOf_meets (by kernel_rfl)
end Go.Proofs.Ytaoifpmifpmhmaa
