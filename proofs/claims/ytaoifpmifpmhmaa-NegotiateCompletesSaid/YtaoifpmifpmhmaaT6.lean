/- Walks, printed by wip/gen/walk.py. -/
import Derived.Test.YtaoifpmifpmhmaaT5
import Derived.Test.YtaoifpmifpmhmaaV4
set_option linter.all false
set_option maxRecDepth 100000
set_option maxHeartbeats 4000000
namespace Go.Proofs.Ytaoifpmifpmhmaa
open Go Go.Vc Go.RowKit
def partS (l : List Cm) (f : Nat → Bool) (is : List Int) : Nat → Bool := fun x => f x || is.any fun j => decide ((x : Int) ∈ (l.getD j.toNat default).par)
theorem partS_nil (l : List Cm) (f : Nat → Bool) : partS l f [] = f := by funext x; simp [partS]
theorem partS_succ {l : List Cm} {f : Nat → Bool} {L : List Int} {i : Nat} {y : Int} {c : Cm} (h : L[i]? = some y) (hc : l[y.toNat]? = some c) : partS l f (L.take (i + 1)) = part2 (partS l f (L.take i)) true c.par := by
  funext x
  simp only [partS, part2, List.take_add_one, h, Option.toList_some, List.any_append, List.any_cons, List.any_nil, Bool.or_false, getD_of hc, Bool.true_and, Bool.or_assoc]
theorem partS_all (l : List Cm) (f : Nat → Bool) (x : Nat) : partS l f (lst l.length f) x = step1 l f x := by
  simp only [partS, step1, part]
  congr 1
  rw [Bool.eq_iff_iff, List.any_eq_true, List.any_eq_true]
  constructor
  · rintro ⟨j, hj, h⟩
    obtain ⟨k, h1, h2, rfl⟩ := lst_mem.1 hj
    exact ⟨k, List.mem_range.2 h1, by rw [h2, Bool.true_and]; simpa using h⟩
  · rintro ⟨k, hk, h⟩
    simp only [Bool.and_eq_true] at h
    exact ⟨(k : Int), lst_mem.2 ⟨k, List.mem_range.1 hk, h.1, rfl⟩, by simpa using h.2⟩
theorem mark_ins {n : Nat} {ns : List Int} {j : Nat} {x : Int} (h : ns[j]? = some x) (h0 : 0 ≤ x) (h1 : x < n) : ins (lst n (mark (ns.take j))) x = lst n (mark (ns.take (j + 1))) := by
  rw [ins_lst h0 h1]
  refine lst_ext fun k _ => ?_
  simp only [setB, mark, List.take_add_one, h, Option.toList_some, List.mem_append, List.mem_singleton]
  split
  · rename_i hk; symm; rw [decide_eq_true_eq]; right; omega
  · rename_i hk; apply decide_eq_decide.2; constructor
    · exact .inl
    · rintro (h | h); exact h; omega
theorem part2_ins {g : Nat → Bool} {ps : List Int} {n k : Nat} {p : Int} (h : ps[k]? = some p) (h0 : 0 ≤ p) (h1 : p < n) : ins (lst n (part2 g true (ps.take k))) p = lst n (part2 g true (ps.take (k + 1))) := by
  rw [ins_lst h0 h1]
  refine lst_ext fun x _ => ?_
  simp only [setB, part2, List.take_add_one, h, Option.toList_some, List.mem_append, List.mem_singleton, Bool.true_and]
  by_cases hx : x = p.toNat
  · rw [if_pos hx]
    have : (x : Int) = p := by omega
    simp [this]
  · rw [if_neg hx]
    have : ¬(x : Int) = p := by omega
    simp [this]
theorem lst_mark_nil (n : Nat) : lst n (mark []) = [] := by
  rw [show mark [] = fun _ => false from funext fun k => by simp [mark]]; simp [lst]
def stepsG : List AV → Option (Prop × AV)
  | [.d (.sl xs), .d (.sl ns), .d (.int .i64 m)] => some (xs = rows eC (dC xs) ∧ ns = rows eI (dI ns) ∧ Valid (dC xs) ∧ InR (dC xs).length (dI ns) ∧ (dI ns).length ≤ 9223372036854775807 ∧ -1000 ≤ m ∧ m ≤ 1000,
      .d (.sl (rows eI (if m < 0 then [] else lst (dC xs).length (stepN (dC xs) m.toNat (mark (dI ns)))))))
  | _ => none
theorem steps_fix {l : List Cm} {f : Nat → Bool} {t m : Nat} (ht : t ≤ m) (h : (lst l.length (stepN l (t + 1) f)).length = (lst l.length (stepN l t f)).length) : lst l.length (stepN l m f) = lst l.length (stepN l t f) := by
  have h1 := lst_len_eq (fun k _ hk => step1_le hk) h
  have h2 := stepN_fix h1 (m - t)
  rw [show t + (m - t) = m by omega] at h2
  exact lst_ext h2

theorem steps_meets : Meets Try.prog 26 (Spec.pure stepsG) := by
 refine meets_fun (E_contains.at_ 71) Try.func26 rfl rfl rfl ?_
 intro args p r hg hp
 unfold stepsG at hg
 split at hg
 ·rename_i xs ys m
  simp only [Option.some.injEq, Prod.mk.injEq] at hg
  obtain ⟨rfl, rfl⟩ := hg
  obtain ⟨he, hf, hv, hin, hn, hm0, hm⟩ := hp
  generalize dC xs = l at *
  generalize dI ys = ns at *
  subst he hf
  have hl60 := hv.len
  have hT : (E_contains).X = T := rfl
  have hx0 := And.intro @rect_eC (And.intro @dI_rows @Try.results26)
  have hx := hx0
  refine ⟨by rfl, ?_⟩
  intro F W0 hnp hmk
  refine vc_seq_k fun N1 h1 => ?_
  refine u_reg ?_
  try refine lg_mk ?_
  refine u_mv ?_
  refine lg_nil ?_
  refine h1 _ ?_; clear h1; try clear N1
  refine vc_seq_k fun N2 h2 => ?_
  refine u_reg ?_
  try refine lg_mk ?_
  refine u_mv ?_
  refine lg_nil ?_
  refine h2 _ ?_; clear h2; try clear N2
  refine vc_seq_k fun N3 h3 => ?_
  refine vc_seq_k fun N4 h4 => ?_
  refine u_reg ?_
  try refine lg_mk ?_
  refine u_mv ?_
  refine u_bn ?_
  refine lg_nil ?_
  refine h4 _ ?_; clear h4; try clear N4
  refine u_cond (fun hb5 => ?_) (fun hb5 => ?_)
  ·refine vc_seq_k fun N6 h6 => ?_
   refine u_reg ?_
   try refine lg_mk ?_
   refine u_mv ?_
   refine lg_nil ?_
   refine h6 _ ?_; clear h6; try clear N6
   refine vc_ret ?_
   try simp only [k_rules]
   rw [if_pos hb5]
   refine fin2_ ?_
   exact cl_
  ·obtain ⟨m, rfl⟩ := Int.eq_ofNat_of_zero_le (by omega : 0 ≤ m)
   refine vc_skip ?_
   try simp only [k_rules]
   refine h3 _ ?_; clear h3; try clear N3
   refine vc_seq_k fun N7 h7 => ?_
   refine vc_seq_k fun N8 h8 => ?_
   refine u_reg ?_
   try refine lg_mk ?_
   refine u_mv ?_
   refine lg_nil ?_
   refine h8 _ ?_; clear h8; try clear N8
   refine vc_block ?_
   refine vc_loop_mk (σ := Nat) (fun s => (fun j => j ≤ ns.length) s)
    (fun s => (fun j => [(0, .d (.sl (rows eC l))), (1, .d (.sl (rows eI ns))), (2, .d (.int .i64 (m : Nat))), (7, .d (.sl (rows eI (lst l.length (mark (ns.take j)))))), (8, .d (.int .i64 (j : Nat)))]) s)
    (fun s => (fun j => []) s) (fun s => (fun j => ns.length - j) s) hnp 0 ?_ [] ?_ ?_
   ·dsimp only
    omega
   ·dsimp only
    refine ⟨by rfl, ?_, ?_⟩
    ·refine fin_ ?_
     (repeat' apply And.intro) <;> (first | (first | rfl | (rw [lst_mark_nil]; rfl) | (rw [lst_mark_nil]; exact Or.inr rfl) | trivial) | (first | rfl | exact Or.inr rfl | exact Or.inl rfl | trivial | omega | assumption | (simp; done) | (simp; omega)))
    ·refine fin_ ?_
     (repeat' apply And.intro) <;> (first | (first | rfl | (rw [lst_mark_nil]; rfl) | (rw [lst_mark_nil]; exact Or.inr rfl) | trivial) | (first | rfl | exact Or.inr rfl | exact Or.inl rfl | trivial | omega | assumption | (simp; done) | (simp; omega)))
   ·rintro j hinv N9 h9
    dsimp only at hinv ⊢
    have hj1 := hinv
    refine vc_seq_k fun N10 h10 => ?_
    refine vc_seq_k fun N11 h11 => ?_
    refine u_reg ?_
    try refine lg_mk ?_
    refine u_mv ?_
    refine u_mv ?_
    refine u_ln ?_
    refine u_bn ?_
    refine lg_nil ?_
    refine h11 _ ?_; clear h11; try clear N11
    refine u_cond (fun hb12 => ?_) (fun hb12 => ?_)
    ·obtain ⟨x, hxe⟩ := getE (l := ns) (i := j) (by omega)
     have hxr := hin.at hxe
     have hln := lst_len l.length (mark (ns.take j))
     have hmi := mark_ins (n := l.length) hxe hxr.1 hxr.2
     refine vc_skip ?_
     try simp only [k_rules]
     refine h10 _ ?_; clear h10; try clear N10
     refine vc_seq_k fun N13 h13 => ?_
     refine vc_block ?_
     have hx := And.intro @hxe (And.intro @eI.eq_1 (And.intro @hmi hx0))
     refine u_reg ?_
     try refine lg_mk ?_
     refine u_mv ?_
     refine u_mv ?_
     refine u_mv ?_
     refine u_pt ?_
     refine u_ld ?_
     have hc := call_rule (E := (E_contains.at_ 71)) (f := 44) (sp := Spec.pure insG) rfl
     have hs := @insG.eq_1
     refine u_hp ?_
     refine u_mv ?_
     refine lg_nil ?_
     have hx := hx0
     refine h13 _ ?_; clear h13; try clear N13
     refine u_reg ?_
     try refine lg_mk ?_
     refine u_mv ?_
     refine u_bn ?_
     refine u_mv ?_
     refine lg_nil ?_
     refine h9 _ ⟨j + 1, ?_, ?_, [], ?_⟩
     ·dsimp only
      omega
     ·dsimp only
      omega
     ·dsimp only
      refine ⟨by rfl, ?_, ?_⟩
      ·refine fin_ ?_
       exact cl_
      ·refine fin_ ?_
       exact cl_
    ·have hj : j = ns.length := by omega
     subst hj
     refine vc_exit ?_
     simp only [k_rules, Nat.reduceEqDiff, reduceIte, eq_self]
     refine h7 _ ?_; clear h7; try clear N7
     refine vc_seq_k fun N14 h14 => ?_
     refine vc_block ?_
     refine vc_loop_mk (σ := Nat) (fun s => (fun t => t ≤ m) s)
      (fun s => (fun t => [(0, .d (.sl (rows eC l))), (1, .d (.sl (rows eI ns))), (2, .d (.int .i64 ((m - t : Nat) : Int))), (7, .d (.sl (rows eI (lst l.length (stepN l t (mark ns))))))]) s)
      (fun s => (fun t => []) s) (fun s => (fun t => m - t) s) hnp 0 ?_ [] ?_ ?_
     ·dsimp only
      omega
     ·dsimp only
      refine ⟨by rfl, ?_, ?_⟩
      ·refine fin_ ?_
       (repeat' apply And.intro) <;> (first | (first | rfl | trivial | (simp [stepN]; done)) | (first | rfl | exact Or.inr rfl | exact Or.inl rfl | trivial | omega | assumption | (simp; done) | (simp; omega)))
      ·refine fin_ ?_
       (repeat' apply And.intro) <;> (first | (first | rfl | trivial | (simp [stepN]; done)) | (first | rfl | exact Or.inr rfl | exact Or.inl rfl | trivial | omega | assumption | (simp; done) | (simp; omega)))
     ·rintro t hinv N15 h15
      dsimp only at hinv ⊢
      have ht1 := hinv
      refine vc_seq_k fun N16 h16 => ?_
      refine vc_seq_k fun N17 h17 => ?_
      refine u_reg ?_
      try refine lg_mk ?_
      refine u_mv ?_
      refine u_bn ?_
      refine lg_nil ?_
      refine h17 _ ?_; clear h17; try clear N17
      refine u_cond (fun hb18 => ?_) (fun hb18 => ?_)
      ·have hL := lst_len l.length (stepN l t (mark ns))
       refine vc_skip ?_
       try simp only [k_rules]
       refine h16 _ ?_; clear h16; try clear N16
       refine vc_seq_k fun N19 h19 => ?_
       refine vc_block ?_
       refine vc_seq_k fun N20 h20 => ?_
       refine u_reg ?_
       try refine lg_mk ?_
       refine u_mv ?_
       refine u_mv ?_
       refine lg_nil ?_
       refine h20 _ ?_; clear h20; try clear N20
       refine vc_seq_k fun N21 h21 => ?_
       refine vc_seq_k fun N22 h22 => ?_
       refine u_reg ?_
       try refine lg_mk ?_
       refine u_mv ?_
       refine lg_nil ?_
       refine h22 _ ?_; clear h22; try clear N22
       refine vc_block ?_
       refine vc_loop_mk (σ := Nat) (fun s => (fun i => i ≤ (lst l.length (stepN l t (mark ns))).length) s)
        (fun s => (fun i => [(0, .d (.sl (rows eC l))), (1, .d (.sl (rows eI ns))), (2, .d (.int .i64 ((m - t : Nat) : Int))), (7, .d (.sl (rows eI (lst l.length (stepN l t (mark ns)))))), (9, .d (.sl (rows eI (lst l.length (partS l (stepN l t (mark ns)) ((lst l.length (stepN l t (mark ns))).take i)))))), (10, .d (.int .i64 (i : Nat)))]) s)
        (fun s => (fun i => []) s) (fun s => (fun i => (lst l.length (stepN l t (mark ns))).length - i) s) hnp 0 ?_ [] ?_ ?_
       ·dsimp only
        omega
       ·dsimp only
        refine ⟨by rfl, ?_, ?_⟩
        ·refine fin_ ?_
         (repeat' apply And.intro) <;> (first | (first | rfl | trivial | (rw [partS_nil]; done) | (rw [partS_nil]; exact Or.inl rfl) | (left; rw [List.take_zero, partS_nil]; done)) | (first | rfl | exact Or.inr rfl | exact Or.inl rfl | trivial | omega | assumption | (simp; done) | (simp; omega)))
        ·refine fin_ ?_
         (repeat' apply And.intro) <;> (first | (first | rfl | trivial | (rw [partS_nil]; done) | (rw [partS_nil]; exact Or.inl rfl) | (left; rw [List.take_zero, partS_nil]; done)) | (first | rfl | exact Or.inr rfl | exact Or.inl rfl | trivial | omega | assumption | (simp; done) | (simp; omega)))
       ·rintro i hinv N23 h23
        dsimp only at hinv ⊢
        have hi1 := hinv
        refine vc_seq_k fun N24 h24 => ?_
        refine vc_seq_k fun N25 h25 => ?_
        refine u_reg ?_
        try refine lg_mk ?_
        refine u_mv ?_
        refine u_mv ?_
        refine u_ln ?_
        refine u_bn ?_
        refine lg_nil ?_
        refine h25 _ ?_; clear h25; try clear N25
        refine u_cond (fun hb26 => ?_) (fun hb26 => ?_)
        ·obtain ⟨y, hye⟩ := getE (l := (lst l.length (stepN l t (mark ns)))) (i := i) (by omega)
         obtain ⟨y0, hy1, hy2, hy3⟩ := lst_mem.1 (mem_at hye)
         obtain ⟨c, hce⟩ := getE (l := l) (i := y.toNat) (by omega)
         have hc3 := hv.few hce
         refine vc_skip ?_
         try simp only [k_rules]
         refine h24 _ ?_; clear h24; try clear N24
         refine vc_seq_k fun N27 h27 => ?_
         refine vc_block ?_
         refine vc_seq_k fun N28 h28 => ?_
         refine u_reg ?_
         try refine lg_mk ?_
         refine u_mv ?_
         refine lg_nil ?_
         refine h28 _ ?_; clear h28; try clear N28
         refine vc_block ?_
         refine vc_loop_mk (σ := Nat) (fun s => (fun k => k ≤ c.par.length) s)
          (fun s => (fun k => [(0, .d (.sl (rows eC l))), (1, .d (.sl (rows eI ns))), (2, .d (.int .i64 ((m - t : Nat) : Int))), (7, .d (.sl (rows eI (lst l.length (stepN l t (mark ns)))))), (9, .d (.sl (rows eI (lst l.length (part2 (partS l (stepN l t (mark ns)) ((lst l.length (stepN l t (mark ns))).take i)) true (c.par.take k)))))), (10, .d (.int .i64 (i : Nat))), (11, .d (.int .i64 (k : Nat)))]) s)
          (fun s => (fun k => []) s) (fun s => (fun k => c.par.length - k) s) hnp 0 ?_ [] ?_ ?_
         ·dsimp only
          omega
         ·dsimp only
          refine ⟨by rfl, ?_, ?_⟩
          ·refine fin_ ?_
           (repeat' apply And.intro) <;> (first | (first | rfl | trivial | (left; rw [part2_zero]; done) | (rw [part2_zero]; done) | (rw [part2_zero]; exact Or.inl rfl) | (left; rw [List.take_zero, part2_zero]; done)) | (first | rfl | exact Or.inr rfl | exact Or.inl rfl | trivial | omega | assumption | (simp; done) | (simp; omega)))
          ·refine fin_ ?_
           (repeat' apply And.intro) <;> (first | (first | rfl | trivial | (left; rw [part2_zero]; done) | (rw [part2_zero]; done) | (rw [part2_zero]; exact Or.inl rfl) | (left; rw [List.take_zero, part2_zero]; done)) | (first | rfl | exact Or.inr rfl | exact Or.inl rfl | trivial | omega | assumption | (simp; done) | (simp; omega)))
         ·rintro k hinv N29 h29
          dsimp only at hinv ⊢
          have hk1 := hinv
          refine vc_seq_k fun N30 h30 => ?_
          refine vc_seq_k fun N31 h31 => ?_
          have hx := And.intro @hye (And.intro @hce (And.intro @eI.eq_1 (And.intro @eC.eq_1 hx0)))
          refine u_reg ?_
          try refine lg_mk ?_
          refine u_mv ?_
          refine u_mv ?_
          refine u_mv ?_
          refine u_mv ?_
          refine u_pt ?_
          refine u_ld ?_
          refine u_pt ?_
          refine u_pt ?_
          refine u_ld ?_
          refine u_ln ?_
          refine u_bn ?_
          refine lg_nil ?_
          have hx := hx0
          refine h31 _ ?_; clear h31; try clear N31
          refine u_cond (fun hb32 => ?_) (fun hb32 => ?_)
          ·obtain ⟨p, hpe⟩ := getE (l := c.par) (i := k) (by omega)
           have hpr := hv.parR hce hpe
           have hpi := part2_ins (g := (partS l (stepN l t (mark ns)) ((lst l.length (stepN l t (mark ns))).take i))) (n := l.length) hpe hpr.1 hpr.2.2
           have hlq := lst_len l.length (part2 (partS l (stepN l t (mark ns)) ((lst l.length (stepN l t (mark ns))).take i)) true (c.par.take k))
           refine vc_skip ?_
           try simp only [k_rules]
           refine h30 _ ?_; clear h30; try clear N30
           refine vc_seq_k fun N33 h33 => ?_
           refine vc_block ?_
           have hx := And.intro @hye (And.intro @hce (And.intro @hpe (And.intro @hpi (And.intro @eI.eq_1 (And.intro @eC.eq_1 hx0)))))
           refine u_reg ?_
           try refine lg_mk ?_
           refine u_mv ?_
           refine u_mv ?_
           refine u_mv ?_
           refine u_mv ?_
           refine u_pt ?_
           refine u_ld ?_
           refine u_pt ?_
           refine u_pt ?_
           refine u_ld ?_
           refine u_mv ?_
           refine u_pt ?_
           refine u_ld ?_
           have hc := call_rule (E := (E_contains.at_ 71)) (f := 44) (sp := Spec.pure insG) rfl
           have hs := @insG.eq_1
           refine u_hp ?_
           refine u_mv ?_
           refine lg_nil ?_
           have hx := hx0
           refine h33 _ ?_; clear h33; try clear N33
           refine u_reg ?_
           try refine lg_mk ?_
           refine u_mv ?_
           refine u_bn ?_
           refine u_mv ?_
           refine lg_nil ?_
           refine h29 _ ⟨k + 1, ?_, ?_, [], ?_⟩
           ·dsimp only
            omega
           ·dsimp only
            omega
           ·dsimp only
            refine ⟨by rfl, ?_, ?_⟩
            ·refine fin_ ?_
             exact cl_
            ·refine fin_ ?_
             exact cl_
          ·have hk : k = c.par.length := by omega
           subst hk
           refine vc_exit ?_
           simp only [k_rules, Nat.reduceEqDiff, reduceIte, eq_self]
           refine h27 _ ?_; clear h27; try clear N27
           refine u_reg ?_
           try refine lg_mk ?_
           refine u_mv ?_
           refine u_bn ?_
           refine u_mv ?_
           refine lg_nil ?_
           refine h23 _ ⟨i + 1, ?_, ?_, [], ?_⟩
           ·dsimp only
            omega
           ·dsimp only
            omega
           ·dsimp only
            refine ⟨by rfl, ?_, ?_⟩
            ·refine fin_ ?_
             (repeat' apply And.intro) <;> (first | (first | rfl | trivial | (left; rw [partS_succ hye hce, List.take_length]; done) | (rw [partS_succ hye hce, List.take_length]; done)) | (first | rfl | exact Or.inr rfl | exact Or.inl rfl | trivial | omega | assumption | (simp; done) | (simp; omega)))
            ·refine fin_ ?_
             (repeat' apply And.intro) <;> (first | (first | rfl | trivial | (left; rw [partS_succ hye hce, List.take_length]; done) | (rw [partS_succ hye hce, List.take_length]; done)) | (first | rfl | exact Or.inr rfl | exact Or.inl rfl | trivial | omega | assumption | (simp; done) | (simp; omega)))
        ·have hi : i = (lst l.length (stepN l t (mark ns))).length := by omega
         subst hi
         rw [List.take_length] at *
         refine vc_exit ?_
         simp only [k_rules, Nat.reduceEqDiff, reduceIte, eq_self]
         refine h21 _ ?_; clear h21; try clear N21
         refine vc_seq_k fun N34 h34 => ?_
         refine vc_seq_k fun N35 h35 => ?_
         refine u_reg ?_
         try refine lg_mk ?_
         refine u_mv ?_
         refine u_ln ?_
         refine u_mv ?_
         refine u_ln ?_
         refine u_bn ?_
         refine lg_nil ?_
         refine h35 _ ?_; clear h35; try clear N35
         refine u_cond (fun hb36 => ?_) (fun hb36 => ?_)
         ·refine vc_seq_k fun N37 h37 => ?_
          refine u_reg ?_
          try refine lg_mk ?_
          refine u_mv ?_
          refine u_mv ?_
          refine lg_nil ?_
          refine h37 _ ?_; clear h37; try clear N37
          refine vc_ret ?_
          try simp only [k_rules]
          rw [if_neg (by omega), Int.toNat_natCast, steps_fix (t := t) (by omega) (by have e := lst_ext (n := l.length) fun k _ => partS_all l (stepN l t (mark ns)) k; have e2 := Int.ofNat.inj hb36; rw [e] at e2; exact e2)]
          refine fin2_ ?_
          exact cl_
         ·refine vc_skip ?_
          try simp only [k_rules]
          refine h34 _ ?_; clear h34; try clear N34
          refine u_reg ?_
          try refine lg_mk ?_
          refine u_mv ?_
          refine u_mv ?_
          refine lg_nil ?_
          refine h19 _ ?_; clear h19; try clear N19
          refine u_reg ?_
          try refine lg_mk ?_
          refine u_mv ?_
          refine u_bn ?_
          refine u_mv ?_
          refine lg_nil ?_
          refine h15 _ ⟨t + 1, ?_, ?_, [], ?_⟩
          ·dsimp only
           omega
          ·dsimp only
           omega
          ·dsimp only
           refine ⟨by rfl, ?_, ?_⟩
           ·refine fin_ ?_
            (repeat' apply And.intro) <;> (first | (first | rfl | trivial | (simp only [D.int.injEq, true_and]; omega) | (left; simp only [D.int.injEq, true_and]; omega) | (left; rw [lst_ext fun k _ => partS_all l _ k]; rfl) | (rw [lst_ext fun k _ => partS_all l _ k]; rfl)) | (first | rfl | exact Or.inr rfl | exact Or.inl rfl | trivial | omega | assumption | (simp; done) | (simp; omega)))
           ·refine fin_ ?_
            (repeat' apply And.intro) <;> (first | (first | rfl | trivial | (simp only [D.int.injEq, true_and]; omega) | (left; simp only [D.int.injEq, true_and]; omega) | (left; rw [lst_ext fun k _ => partS_all l _ k]; rfl) | (rw [lst_ext fun k _ => partS_all l _ k]; rfl)) | (first | rfl | exact Or.inr rfl | exact Or.inl rfl | trivial | omega | assumption | (simp; done) | (simp; omega)))
      ·have ht : m = t := by omega
       subst ht
       refine vc_exit ?_
       simp only [k_rules, Nat.reduceEqDiff, reduceIte, eq_self]
       refine h14 _ ?_; clear h14; try clear N14
       refine vc_seq_k fun N38 h38 => ?_
       refine u_reg ?_
       try refine lg_mk ?_
       refine u_mv ?_
       refine u_mv ?_
       refine lg_nil ?_
       refine h38 _ ?_; clear h38; try clear N38
       refine vc_ret ?_
       try simp only [k_rules]
       rw [if_neg (by omega), Int.toNat_natCast]
       refine fin2_ ?_
       exact cl_
 ·cases hg

def E_steps : Env Try.prog := E_contains.add 26 (Spec.pure stepsG) steps_meets (by kernel_rfl)
end Go.Proofs.Ytaoifpmifpmhmaa
