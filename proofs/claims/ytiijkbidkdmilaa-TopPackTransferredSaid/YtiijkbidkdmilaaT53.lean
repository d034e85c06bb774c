/- Walks, printed by wip/gen/walk.py. -/
import Derived.Test.YtiijkbidkdmilaaT51
import Derived.Test.YtiijkbidkdmilaaV5
set_option linter.all false
set_option maxRecDepth 100000
set_option maxHeartbeats 4000000
namespace Go.Proofs.Ytiijkbidkdmilaa
open Go Go.Vc Go.RowKit
def planR (l : List UInt8) (ls : List Bool) : List Ev × Bool × Int × Int :=
  if l.length ≤ 4096 then if ls.length ≤ 100 then ((plan ls (framesOf l).length 200).1, (plan ls (framesOf l).length 200).2, 0, 0) else ([], false, 2, -2) else ([], false, 2, -1)
def planG : List AV → Option (Prop × AV)
  | [.d (.sl xs), .d (.sl bs)] => some (xs = rows eU (dU xs) ∧ bs = rows eB (dB bs) ∧ (dU xs).length ≤ 9223372036854775807 ∧ (dB bs).length ≤ 9223372036854775807,
      .tup [.d (.sl (rows eE (planR (dU xs) (dB bs)).1)), .d (.bool (planR (dU xs) (dB bs)).2.1), .agg [.d (.int .i64 (planR (dU xs) (dB bs)).2.2.1), .d (.int .i64 (planR (dU xs) (dB bs)).2.2.2)]])
  | _ => none
theorem kinds_snoc {K : List Int} {j : Nat} {x : Int} (h : K[j]? = some x) (out : List Ev) : out ++ (K.take (j + 1)).map (fun k => (k, (0 : Int))) = (out ++ (K.take j).map fun k => (k, (0 : Int))) ++ [(x, 0)] := by
  rw [List.take_add_one, h]; simp
theorem kinds_len {K : List Int} {j : Nat} {x : Int} (h : K[j]? = some x) (out : List Ev) : (out ++ (K.take j).map fun k => (k, (0 : Int))).length + 1 = (out ++ (K.take (j + 1)).map fun k => (k, (0 : Int))).length := by
  rw [kinds_snoc h, List.length_append (bs := [(x, 0)])]; rfl
theorem kinds_rows {K : List Int} {j : Nat} {x : Int} (h : K[j]? = some x) (out : List Ev) : rows eE ((out ++ (K.take j).map fun k => (k, (0 : Int))).take (out ++ (K.take j).map fun k => (k, (0 : Int))).length) ++ [[.int .i64 x, .int .i64 0]] = rows eE (out ++ (K.take (j + 1)).map fun k => (k, (0 : Int))) := by
  rw [kinds_snoc h, List.take_length]; simp only [rows, List.map_append]; rfl

theorem planT_meets : Meets Try.prog 6 (Spec.pure planG) := by
 refine meets_fun (E_run.at_ 70) Try.func6 rfl rfl rfl ?_
 intro args p r hg hp
 unfold planG at hg
 split at hg
 ·rename_i xs bs
  simp only [Option.some.injEq, Prod.mk.injEq] at hg
  obtain ⟨rfl, rfl⟩ := hg
  obtain ⟨hx, hy, hl, hm⟩ := hp
  generalize dU xs = l at *
  generalize dB bs = lost at *
  subst hx hy
  have hfl := framesOf_len l
  have hT : (E_run).X = T := rfl
  have hx0 := And.intro @rect_eE @Try.results6
  have hx := hx0
  refine ⟨by rfl, ?_⟩
  intro F W0 hnp hmk
  refine vc_seq_k fun N1 h1 => ?_
  refine u_reg ?_
  try refine lg_mk ?_
  refine u_mv ?_
  refine u_mv ?_
  refine u_al ?_
  refine lg_nil ?_
  refine h1 _ ?_; clear h1; try clear N1
  refine vc_seq_k fun N2 h2 => ?_
  rcases Nat.lt_or_ge 4096 l.length with h4 | h4
  ·have hq : (l.length ≤ 4096) = False := eq_false (by omega)
   have hx := And.intro @hq hx0
   refine u_reg ?_
   try refine lg_mk ?_
   refine u_mv ?_
   have hc := call_rule (E := (E_run.at_ 70)) (f := 15) (sp := Spec.pure framesG) rfl
   have hs := @framesG.eq_1
   refine u_hp ?_
   refine u_mv ?_
   refine u_ex ?_
   refine u_ex ?_
   refine u_al ?_
   refine u_mv ?_
   refine u_st ?_
   refine lg_nil ?_
   have hx := hx0
   refine h2 _ ?_; clear h2; try clear N2
   refine vc_seq_k fun N3 h3 => ?_
   refine vc_seq_k fun N4 h4 => ?_
   refine u_reg ?_
   try refine lg_mk ?_
   refine u_ld ?_
   refine u_bd ?_
   refine u_bn ?_
   refine lg_nil ?_
   refine h4 _ ?_; clear h4; try clear N4
   refine u_cond (fun hb5 => ?_) (fun hb5 => ?_)
   ·refine vc_seq_k fun N6 h6 => ?_
    refine u_reg ?_
    try refine lg_mk ?_
    refine u_ld ?_
    refine u_mv ?_
    refine u_mv ?_
    refine u_st ?_
    refine lg_nil ?_
    refine h6 _ ?_; clear h6; try clear N6
    refine vc_ret ?_
    try simp only [k_rules]
    have hr : planR l lost = ([], false, 2, -1) := by simp [planR, hq]
    rw [hr]
    refine fin2_ ?_
    (repeat' apply And.intro) <;> (first | (first | rfl | exact Or.inl rfl | exact Or.inr rfl | trivial | exact Nat.le_refl _ | omega | (simp; done) | (simp [rows_len]; done) | (rw [List.drop_zero, rows_take, List.take_length]; done) | (rw [rows_take, List.take_length]; done)) | exact cl_)
   ·first | omega | exact absurd trivial hb5 | contradiction | (simp_all; done)
  ·have hq : (l.length ≤ 4096) = True := eq_true (by omega)
   have hx := And.intro @hq hx0
   refine u_reg ?_
   try refine lg_mk ?_
   refine u_mv ?_
   have hc := call_rule (E := (E_run.at_ 70)) (f := 15) (sp := Spec.pure framesG) rfl
   have hs := @framesG.eq_1
   refine u_hp ?_
   refine u_mv ?_
   refine u_ex ?_
   refine u_ex ?_
   refine u_al ?_
   refine u_mv ?_
   refine u_st ?_
   refine lg_nil ?_
   have hx := hx0
   refine h2 _ ?_; clear h2; try clear N2
   refine vc_seq_k fun N7 h7 => ?_
   refine vc_seq_k fun N8 h8 => ?_
   refine u_reg ?_
   try refine lg_mk ?_
   refine u_ld ?_
   refine u_bd ?_
   refine u_bn ?_
   refine lg_nil ?_
   refine h8 _ ?_; clear h8; try clear N8
   refine u_cond (fun hb9 => ?_) (fun hb9 => ?_)
   ·first | omega | exact absurd trivial hb9 | contradiction | (simp_all; done)
   ·refine vc_skip ?_
    try simp only [k_rules]
    refine h7 _ ?_; clear h7; try clear N7
    refine vc_seq_k fun N10 h10 => ?_
    refine vc_seq_k fun N11 h11 => ?_
    refine u_reg ?_
    try refine lg_mk ?_
    refine u_mv ?_
    refine u_ln ?_
    refine u_bn ?_
    refine lg_nil ?_
    refine h11 _ ?_; clear h11; try clear N11
    refine u_cond (fun hb12 => ?_) (fun hb12 => ?_)
    ·refine vc_seq_k fun N13 h13 => ?_
     refine u_reg ?_
     try refine lg_mk ?_
     refine u_bd ?_
     refine u_mv ?_
     refine u_mv ?_
     refine u_st ?_
     refine lg_nil ?_
     refine h13 _ ?_; clear h13; try clear N13
     refine vc_ret ?_
     try simp only [k_rules]
     have hr : planR l lost = ([], false, 2, -2) := by
      unfold planR; rw [if_pos (by omega), if_neg (by omega)]
     rw [hr]
     refine fin2_ ?_
     (repeat' apply And.intro) <;> (first | (first | rfl | exact Or.inl rfl | exact Or.inr rfl | trivial | exact Nat.le_refl _ | omega | (simp; done) | (simp [rows_len]; done) | (rw [List.drop_zero, rows_take, List.take_length]; done) | (rw [rows_take, List.take_length]; done)) | exact cl_)
    ·refine vc_skip ?_
     try simp only [k_rules]
     refine h10 _ ?_; clear h10; try clear N10
     refine vc_seq_k fun N14 h14 => ?_
     refine u_reg ?_
     try refine lg_mk ?_
     refine u_mv ?_
     refine lg_nil ?_
     refine h14 _ ?_; clear h14; try clear N14
     refine vc_seq_k fun N15 h15 => ?_
     refine vc_seq_k fun N16 h16 => ?_
     refine u_reg ?_
     try refine lg_mk ?_
     refine u_mv ?_
     refine u_mv ?_
     refine lg_nil ?_
     refine h16 _ ?_; clear h16; try clear N16
     refine vc_block ?_
     refine vc_loop_mk (σ := Nat × Nat × List Ev) (fun s => (fun k sent out => sent ≤ (framesOf l).length ∧ out.length ≤ 200 ∧ k ≤ out.length ∧ plan lost (framesOf l).length 200 = (out ++ (plan (lost.drop k) ((framesOf l).length - sent) (200 - out.length)).1, (plan (lost.drop k) ((framesOf l).length - sent) (200 - out.length)).2)) (s.1) (s.2.1) (s.2.2))
      (fun s => (fun k sent out => [(1, .d (.sl (rows eB lost))), (6, .ptr 0 0 0), (7, .d (.sl (rows (eL eU) (framesOf l)))), (9, .sl 2 0 out.length), (10, .d (.int .i64 (sent : Nat))), (11, .d (.int .i64 (k : Nat)))]) (s.1) (s.2.1) (s.2.2))
      (fun s => (fun k sent out => [some (.one 30 [.d (.int .i64 0), .d (.int .i64 0)]), some (.one 30 [.d (.int .i64 0), .d (.int .i64 0)]), some (.vec 56 2 (rows eE out))]) (s.1) (s.2.1) (s.2.2)) (fun s => (fun k sent out => 200 - out.length) (s.1) (s.2.1) (s.2.2)) hnp (0, 0, []) ?_ [some 0, some 1, none] ?_ ?_
     ·dsimp only
      simp
     ·dsimp only
      refine ⟨by rfl, ?_, ?_⟩
      ·refine fin_ ?_
       exact cl_
      ·refine fin_ ?_
       exact cl_
     ·rintro ⟨k, sent, out⟩ hinv N17 h17
      dsimp only at hinv ⊢
      obtain ⟨i2, i3, i5, i4⟩ := hinv
      refine vc_seq_k fun N18 h18 => ?_
      refine vc_seq_k fun N19 h19 => ?_
      refine u_reg ?_
      try refine lg_mk ?_
      refine u_mv ?_
      refine u_mv ?_
      refine u_ln ?_
      refine u_bn ?_
      refine lg_nil ?_
      refine h19 _ ?_; clear h19; try clear N19
      refine u_cond (fun hb20 => ?_) (fun hb20 => ?_)
      ·refine vc_skip ?_
       try simp only [k_rules]
       refine h18 _ ?_; clear h18; try clear N18
       refine vc_seq_k fun N21 h21 => ?_
       refine vc_block ?_
       refine vc_seq_k fun N22 h22 => ?_
       refine u_reg ?_
       try refine lg_mk ?_
       refine u_bs ?_
       refine u_mv ?_
       refine lg_nil ?_
       refine h22 _ ?_; clear h22; try clear N22
       refine vc_seq_k fun N23 h23 => ?_
       refine vc_seq_k fun N24 h24 => ?_
       rcases Nat.lt_or_ge k lost.length with hk | hk
       ·obtain ⟨b, hkb⟩ : ∃ b, lost[k]? = some b := ⟨_, List.getElem?_eq_getElem hk⟩
        have hk' : decide ((k : Int) < (lost.length : Int)) = true := by simp; omega
        have hx := And.intro @hkb (And.intro @hk' hx0)
        refine u_reg ?_
        try refine lg_mk ?_
        refine u_mv ?_
        refine u_mv ?_
        refine u_ln ?_
        refine u_bn ?_
        refine u_mv ?_
        refine g_mv ?_
        refine g_mv ?_
        refine g_pt ?_
        refine g_ld ?_
        refine u_pk ?_
        refine lg_nil ?_
        have hx := hx0
        refine h24 _ ?_; clear h24; try clear N24
        refine u_cond (fun hb25 => ?_) (fun hb25 => ?_)
        ·subst hb25
         rw [plan_t hkb (by omega)] at i4
         refine u_reg ?_
         try refine lg_mk ?_
         refine u_bs ?_
         refine u_mv ?_
         refine lg_nil ?_
         refine h23 _ ?_; clear h23; try clear N23
         refine vc_seq_k fun N26 h26 => ?_
         refine vc_seq_k fun N27 h27 => ?_
         refine u_reg ?_
         try refine lg_mk ?_
         refine u_mv ?_
         refine u_ln ?_
         refine u_mv ?_
         refine u_ln ?_
         refine u_bn ?_
         refine u_bn ?_
         refine lg_nil ?_
         refine h27 _ ?_; clear h27; try clear N27
         refine u_cond (fun hb28 => ?_) (fun hb28 => ?_)
         ·refine vc_seq_k fun N29 h29 => ?_
          refine u_reg ?_
          try refine lg_mk ?_
          refine u_mv ?_
          refine u_bd ?_
          refine u_mv ?_
          refine u_mv ?_
          refine u_st ?_
          refine lg_nil ?_
          refine h29 _ ?_; clear h29; try clear N29
          refine vc_ret ?_
          try simp only [k_rules]
          rw [if_pos (by omega)] at i4
          have hr : planR l lost = (out, false, 0, 0) := by
           unfold planR; rw [if_pos (by omega), if_pos (by omega), i4, List.append_nil]
          rw [hr]
          refine fin2_ ?_
          (repeat' apply And.intro) <;> (first | (first | rfl | exact Or.inl rfl | exact Or.inr rfl | trivial | exact Nat.le_refl _ | omega | (simp; done) | (simp [rows_len]; done) | (rw [List.drop_zero, rows_take, List.take_length]; done) | (rw [rows_take, List.take_length]; done)) | exact cl_)
         ·refine vc_skip ?_
          try simp only [k_rules]
          refine h26 _ ?_; clear h26; try clear N26
          refine vc_seq_k fun N30 h30 => ?_
          refine u_reg ?_
          try refine lg_mk ?_
          refine u_mv ?_
          refine u_ln ?_
          refine u_mv ?_
          refine lg_nil ?_
          refine h30 _ ?_; clear h30; try clear N30
          refine vc_block ?_
          obtain ⟨K, hK⟩ : ∃ K : List Int, K = [1, 3] := ⟨_, rfl⟩
          have hKl : K.length = 2 := by rw [hK]; rfl
          refine vc_loop_mk (σ := Nat) (fun s => (fun j => j ≤ 2) s)
           (fun s => (fun j => [(1, .d (.sl (rows eB lost))), (6, .ptr 0 0 0), (7, .d (.sl (rows (eL eU) (framesOf l)))), (9, .sl 2 0 (out ++ (K.take j).map fun k => (k, (0 : Int))).length), (10, .d (.int .i64 (sent : Nat))), (11, .d (.int .i64 (k : Nat))), (56, .sl 3 0 2), (57, .d (.int .i64 2)), (58, .d (.int .i64 (j : Nat)))]) s)
           (fun s => (fun j => [some (.one 30 [.d (.int .i64 0), .d (.int .i64 0)]), some (.one 30 [.d (.int .i64 0), .d (.int .i64 0)]), some (.vec 56 2 (rows eE (out ++ (K.take j).map fun k => (k, (0 : Int))))), some (.vec 3 1 (rows eI K))]) s) (fun s => (fun j => 2 - j) s) hnp 0 ?_ [some 0, some 1, some 2, some 4] ?_ ?_
          ·dsimp only
           omega
          ·dsimp only
           refine ⟨by rfl, ?_, ?_⟩
           ·refine fin_ ?_
            (repeat' apply And.intro) <;> (first | (first | rfl | (subst hK; simp [rows, eI]; done) | (subst hK; simp; done)) | exact cl_)
           ·refine fin_ ?_
            (repeat' apply And.intro) <;> (first | (first | rfl | (subst hK; simp [rows, eI]; done) | (subst hK; simp; done)) | exact cl_)
          ·rintro j hinv N31 h31
           dsimp only at hinv ⊢
           have hj := hinv
           refine vc_seq_k fun N32 h32 => ?_
           refine u_reg ?_
           try refine lg_mk ?_
           refine u_bn ?_
           refine lg_nil ?_
           refine h32 _ ?_; clear h32; try clear N32
           refine vc_seq_k fun N33 h33 => ?_
           refine u_cond (fun hb34 => ?_) (fun hb34 => ?_)
           ·obtain ⟨kx, hkx⟩ : ∃ x, K[j]? = some x := ⟨_, List.getElem?_eq_getElem (by rw [hKl]; omega)⟩
            refine vc_skip ?_
            try simp only [k_rules]
            refine h33 _ ?_; clear h33; try clear N33
            refine vc_seq_k fun N35 h35 => ?_
            refine vc_block ?_
            refine vc_seq_k fun N36 h36 => ?_
            have hx := And.intro @hkx hx0
            refine u_reg ?_
            try refine lg_mk ?_
            refine u_pt ?_
            refine u_ld ?_
            refine u_mv ?_
            refine lg_nil ?_
            have hx := hx0
            refine h36 _ ?_; clear h36; try clear N36
            refine u_reg ?_
            try refine lg_mk ?_
            refine u_mv ?_
            refine u_mv ?_
            refine u_bd ?_
            refine u_bs ?_
            refine u_ap ?_
            refine u_mv ?_
            refine lg_nil ?_
            refine h35 _ ?_; clear h35; try clear N35
            refine u_reg ?_
            try refine lg_mk ?_
            refine u_bn ?_
            refine u_mv ?_
            refine lg_nil ?_
            refine h31 _ ⟨j + 1, ?_, ?_, [some 0, some 1, some 5, some 3], ?_⟩
            ·dsimp only
             omega
            ·dsimp only
             omega
            ·dsimp only
             refine ⟨by rfl, ?_, ?_⟩
             ·refine fin_ ?_
              (repeat' apply And.intro) <;> (first | (first | rfl | trivial | exact kinds_len hkx out | exact kinds_rows hkx out | (rw [kinds_snoc hkx]; simp [rows, eE]; done) | (rw [kinds_snoc hkx]; simp; done) | exact Or.inr rfl | exact Or.inl rfl | (rw [kinds_snoc hkx])) | exact cl_)
             ·refine fin_ ?_
              (repeat' apply And.intro) <;> (first | (first | rfl | trivial | exact kinds_len hkx out | exact kinds_rows hkx out | (rw [kinds_snoc hkx]; simp [rows, eE]; done) | (rw [kinds_snoc hkx]; simp; done) | exact Or.inr rfl | exact Or.inl rfl | (rw [kinds_snoc hkx])) | exact cl_)
           ·obtain rfl : j = 2 := by omega
            subst hK
            try simp only [List.take_succ_cons, List.take_zero, List.map_cons, List.map_nil, List.take_nil]
            refine vc_exit ?_
            simp only [k_rules, Nat.reduceEqDiff, reduceIte, eq_self]
            refine h21 _ ?_; clear h21; try clear N21
            refine u_reg ?_
            try refine lg_mk ?_
            refine u_mv ?_
            refine u_bn ?_
            refine u_mv ?_
            refine lg_nil ?_
            rw [if_neg (by omega)] at i4
            refine h17 _ ⟨(k + 1, sent, out ++ [(1, 0), (3, 0)]), ?_, ?_, [some 0, some 1, some 2], ?_⟩
            ·dsimp only
             refine ⟨by omega, by simp; omega, by simp; omega, ?_⟩
             rw [i4, Nat.sub_sub]
             simp [Nat.sub_sub]
            ·dsimp only
             simp; omega
            ·dsimp only
             refine ⟨by rfl, ?_, ?_⟩
             ·refine fin_ ?_
              exact cl_
             ·refine fin_ ?_
              exact cl_
        ·subst hb25
         rw [plan_f (.inl hkb) (by omega)] at i4
         refine u_reg ?_
         try refine lg_mk ?_
         refine u_mv ?_
         refine u_bn ?_
         refine u_mv ?_
         refine lg_nil ?_
         refine h23 _ ?_; clear h23; try clear N23
         refine vc_seq_k fun N37 h37 => ?_
         refine vc_seq_k fun N38 h38 => ?_
         refine u_reg ?_
         try refine lg_mk ?_
         refine u_mv ?_
         refine u_ln ?_
         refine u_mv ?_
         refine u_ln ?_
         refine u_bn ?_
         refine u_bn ?_
         refine lg_nil ?_
         refine h38 _ ?_; clear h38; try clear N38
         refine u_cond (fun hb39 => ?_) (fun hb39 => ?_)
         ·refine vc_seq_k fun N40 h40 => ?_
          refine u_reg ?_
          try refine lg_mk ?_
          refine u_mv ?_
          refine u_bd ?_
          refine u_mv ?_
          refine u_mv ?_
          refine u_st ?_
          refine lg_nil ?_
          refine h40 _ ?_; clear h40; try clear N40
          refine vc_ret ?_
          try simp only [k_rules]
          rw [if_pos (by omega)] at i4
          have hr : planR l lost = (out, false, 0, 0) := by
           unfold planR; rw [if_pos (by omega), if_pos (by omega), i4, List.append_nil]
          rw [hr]
          refine fin2_ ?_
          (repeat' apply And.intro) <;> (first | (first | rfl | exact Or.inl rfl | exact Or.inr rfl | trivial | exact Nat.le_refl _ | omega | (simp; done) | (simp [rows_len]; done) | (rw [List.drop_zero, rows_take, List.take_length]; done) | (rw [rows_take, List.take_length]; done)) | exact cl_)
         ·refine vc_skip ?_
          try simp only [k_rules]
          refine h37 _ ?_; clear h37; try clear N37
          refine vc_seq_k fun N41 h41 => ?_
          refine u_reg ?_
          try refine lg_mk ?_
          refine u_mv ?_
          refine u_ln ?_
          refine u_mv ?_
          refine lg_nil ?_
          refine h41 _ ?_; clear h41; try clear N41
          refine vc_block ?_
          obtain ⟨K, hK⟩ : ∃ K : List Int, K = [1, 2, 5] := ⟨_, rfl⟩
          have hKl : K.length = 3 := by rw [hK]; rfl
          refine vc_loop_mk (σ := Nat) (fun s => (fun j => j ≤ 3) s)
           (fun s => (fun j => [(1, .d (.sl (rows eB lost))), (6, .ptr 0 0 0), (7, .d (.sl (rows (eL eU) (framesOf l)))), (9, .sl 2 0 (out ++ (K.take j).map fun k => (k, (0 : Int))).length), (10, .d (.int .i64 (sent + 1 : Nat))), (11, .d (.int .i64 (k : Nat))), (56, .sl 3 0 3), (57, .d (.int .i64 3)), (58, .d (.int .i64 (j : Nat)))]) s)
           (fun s => (fun j => [some (.one 30 [.d (.int .i64 0), .d (.int .i64 0)]), some (.one 30 [.d (.int .i64 0), .d (.int .i64 0)]), some (.vec 56 2 (rows eE (out ++ (K.take j).map fun k => (k, (0 : Int))))), some (.vec 3 1 (rows eI K))]) s) (fun s => (fun j => 3 - j) s) hnp 0 ?_ [some 0, some 1, some 2, some 3] ?_ ?_
          ·dsimp only
           omega
          ·dsimp only
           refine ⟨by rfl, ?_, ?_⟩
           ·refine fin_ ?_
            (repeat' apply And.intro) <;> (first | (first | rfl | (subst hK; simp [rows, eI]; done) | (subst hK; simp; done)) | exact cl_)
           ·refine fin_ ?_
            (repeat' apply And.intro) <;> (first | (first | rfl | (subst hK; simp [rows, eI]; done) | (subst hK; simp; done)) | exact cl_)
          ·rintro j hinv N42 h42
           dsimp only at hinv ⊢
           have hj := hinv
           refine vc_seq_k fun N43 h43 => ?_
           refine u_reg ?_
           try refine lg_mk ?_
           refine u_bn ?_
           refine lg_nil ?_
           refine h43 _ ?_; clear h43; try clear N43
           refine vc_seq_k fun N44 h44 => ?_
           refine u_cond (fun hb45 => ?_) (fun hb45 => ?_)
           ·obtain ⟨kx, hkx⟩ : ∃ x, K[j]? = some x := ⟨_, List.getElem?_eq_getElem (by rw [hKl]; omega)⟩
            refine vc_skip ?_
            try simp only [k_rules]
            refine h44 _ ?_; clear h44; try clear N44
            refine vc_seq_k fun N46 h46 => ?_
            refine vc_block ?_
            refine vc_seq_k fun N47 h47 => ?_
            have hx := And.intro @hkx hx0
            refine u_reg ?_
            try refine lg_mk ?_
            refine u_pt ?_
            refine u_ld ?_
            refine u_mv ?_
            refine lg_nil ?_
            have hx := hx0
            refine h47 _ ?_; clear h47; try clear N47
            refine u_reg ?_
            try refine lg_mk ?_
            refine u_mv ?_
            refine u_mv ?_
            refine u_bd ?_
            refine u_bs ?_
            refine u_ap ?_
            refine u_mv ?_
            refine lg_nil ?_
            refine h46 _ ?_; clear h46; try clear N46
            refine u_reg ?_
            try refine lg_mk ?_
            refine u_bn ?_
            refine u_mv ?_
            refine lg_nil ?_
            refine h42 _ ⟨j + 1, ?_, ?_, [some 0, some 1, some 5, some 3], ?_⟩
            ·dsimp only
             omega
            ·dsimp only
             omega
            ·dsimp only
             refine ⟨by rfl, ?_, ?_⟩
             ·refine fin_ ?_
              (repeat' apply And.intro) <;> (first | (first | rfl | trivial | exact kinds_len hkx out | exact kinds_rows hkx out | (rw [kinds_snoc hkx]; simp [rows, eE]; done) | (rw [kinds_snoc hkx]; simp; done) | exact Or.inr rfl | exact Or.inl rfl | (rw [kinds_snoc hkx])) | exact cl_)
             ·refine fin_ ?_
              (repeat' apply And.intro) <;> (first | (first | rfl | trivial | exact kinds_len hkx out | exact kinds_rows hkx out | (rw [kinds_snoc hkx]; simp [rows, eE]; done) | (rw [kinds_snoc hkx]; simp; done) | exact Or.inr rfl | exact Or.inl rfl | (rw [kinds_snoc hkx])) | exact cl_)
           ·obtain rfl : j = 3 := by omega
            subst hK
            try simp only [List.take_succ_cons, List.take_zero, List.map_cons, List.map_nil, List.take_nil]
            refine vc_exit ?_
            simp only [k_rules, Nat.reduceEqDiff, reduceIte, eq_self]
            refine h21 _ ?_; clear h21; try clear N21
            refine u_reg ?_
            try refine lg_mk ?_
            refine u_mv ?_
            refine u_bn ?_
            refine u_mv ?_
            refine lg_nil ?_
            rw [if_neg (by omega)] at i4
            refine h17 _ ⟨(k + 1, sent + 1, out ++ [(1, 0), (2, 0), (5, 0)]), ?_, ?_, [some 0, some 1, some 2], ?_⟩
            ·dsimp only
             refine ⟨by omega, by simp; omega, by simp; omega, ?_⟩
             rw [i4, Nat.sub_sub]
             simp [Nat.sub_sub]
            ·dsimp only
             simp; omega
            ·dsimp only
             refine ⟨by rfl, ?_, ?_⟩
             ·refine fin_ ?_
              exact cl_
             ·refine fin_ ?_
              exact cl_
       ·have hkb : lost[k]? = none := List.getElem?_eq_none hk
        have hk' : decide ((k : Int) < (lost.length : Int)) = false := by simp; omega
        have hx := And.intro @hkb (And.intro @hk' hx0)
        refine u_reg ?_
        try refine lg_mk ?_
        refine u_mv ?_
        refine u_mv ?_
        refine u_ln ?_
        refine u_bn ?_
        refine u_mv ?_
        refine g_mv ?_
        refine g_mv ?_
        refine g_pt ?_
        refine g_ld ?_
        refine u_pk ?_
        refine lg_nil ?_
        have hx := hx0
        refine h24 _ ?_; clear h24; try clear N24
        refine u_cond (fun hb48 => ?_) (fun hb48 => ?_)
        ·cases hb48
        ·rw [plan_f (.inr hkb) (by omega)] at i4
         refine u_reg ?_
         try refine lg_mk ?_
         refine u_mv ?_
         refine u_bn ?_
         refine u_mv ?_
         refine lg_nil ?_
         refine h23 _ ?_; clear h23; try clear N23
         refine vc_seq_k fun N49 h49 => ?_
         refine vc_seq_k fun N50 h50 => ?_
         refine u_reg ?_
         try refine lg_mk ?_
         refine u_mv ?_
         refine u_ln ?_
         refine u_mv ?_
         refine u_ln ?_
         refine u_bn ?_
         refine u_bn ?_
         refine lg_nil ?_
         refine h50 _ ?_; clear h50; try clear N50
         refine u_cond (fun hb51 => ?_) (fun hb51 => ?_)
         ·refine vc_seq_k fun N52 h52 => ?_
          refine u_reg ?_
          try refine lg_mk ?_
          refine u_mv ?_
          refine u_bd ?_
          refine u_mv ?_
          refine u_mv ?_
          refine u_st ?_
          refine lg_nil ?_
          refine h52 _ ?_; clear h52; try clear N52
          refine vc_ret ?_
          try simp only [k_rules]
          rw [if_pos (by omega)] at i4
          have hr : planR l lost = (out, false, 0, 0) := by
           unfold planR; rw [if_pos (by omega), if_pos (by omega), i4, List.append_nil]
          rw [hr]
          refine fin2_ ?_
          (repeat' apply And.intro) <;> (first | (first | rfl | exact Or.inl rfl | exact Or.inr rfl | trivial | exact Nat.le_refl _ | omega | (simp; done) | (simp [rows_len]; done) | (rw [List.drop_zero, rows_take, List.take_length]; done) | (rw [rows_take, List.take_length]; done)) | exact cl_)
         ·refine vc_skip ?_
          try simp only [k_rules]
          refine h49 _ ?_; clear h49; try clear N49
          refine vc_seq_k fun N53 h53 => ?_
          refine u_reg ?_
          try refine lg_mk ?_
          refine u_mv ?_
          refine u_ln ?_
          refine u_mv ?_
          refine lg_nil ?_
          refine h53 _ ?_; clear h53; try clear N53
          refine vc_block ?_
          obtain ⟨K, hK⟩ : ∃ K : List Int, K = [1, 2, 5] := ⟨_, rfl⟩
          have hKl : K.length = 3 := by rw [hK]; rfl
          refine vc_loop_mk (σ := Nat) (fun s => (fun j => j ≤ 3) s)
           (fun s => (fun j => [(1, .d (.sl (rows eB lost))), (6, .ptr 0 0 0), (7, .d (.sl (rows (eL eU) (framesOf l)))), (9, .sl 2 0 (out ++ (K.take j).map fun k => (k, (0 : Int))).length), (10, .d (.int .i64 (sent + 1 : Nat))), (11, .d (.int .i64 (k : Nat))), (56, .sl 3 0 3), (57, .d (.int .i64 3)), (58, .d (.int .i64 (j : Nat)))]) s)
           (fun s => (fun j => [some (.one 30 [.d (.int .i64 0), .d (.int .i64 0)]), some (.one 30 [.d (.int .i64 0), .d (.int .i64 0)]), some (.vec 56 2 (rows eE (out ++ (K.take j).map fun k => (k, (0 : Int))))), some (.vec 3 1 (rows eI K))]) s) (fun s => (fun j => 3 - j) s) hnp 0 ?_ [some 0, some 1, some 2, some 3] ?_ ?_
          ·dsimp only
           omega
          ·dsimp only
           refine ⟨by rfl, ?_, ?_⟩
           ·refine fin_ ?_
            (repeat' apply And.intro) <;> (first | (first | rfl | (subst hK; simp [rows, eI]; done) | (subst hK; simp; done)) | exact cl_)
           ·refine fin_ ?_
            (repeat' apply And.intro) <;> (first | (first | rfl | (subst hK; simp [rows, eI]; done) | (subst hK; simp; done)) | exact cl_)
          ·rintro j hinv N54 h54
           dsimp only at hinv ⊢
           have hj := hinv
           refine vc_seq_k fun N55 h55 => ?_
           refine u_reg ?_
           try refine lg_mk ?_
           refine u_bn ?_
           refine lg_nil ?_
           refine h55 _ ?_; clear h55; try clear N55
           refine vc_seq_k fun N56 h56 => ?_
           refine u_cond (fun hb57 => ?_) (fun hb57 => ?_)
           ·obtain ⟨kx, hkx⟩ : ∃ x, K[j]? = some x := ⟨_, List.getElem?_eq_getElem (by rw [hKl]; omega)⟩
            refine vc_skip ?_
            try simp only [k_rules]
            refine h56 _ ?_; clear h56; try clear N56
            refine vc_seq_k fun N58 h58 => ?_
            refine vc_block ?_
            refine vc_seq_k fun N59 h59 => ?_
            have hx := And.intro @hkx hx0
            refine u_reg ?_
            try refine lg_mk ?_
            refine u_pt ?_
            refine u_ld ?_
            refine u_mv ?_
            refine lg_nil ?_
            have hx := hx0
            refine h59 _ ?_; clear h59; try clear N59
            refine u_reg ?_
            try refine lg_mk ?_
            refine u_mv ?_
            refine u_mv ?_
            refine u_bd ?_
            refine u_bs ?_
            refine u_ap ?_
            refine u_mv ?_
            refine lg_nil ?_
            refine h58 _ ?_; clear h58; try clear N58
            refine u_reg ?_
            try refine lg_mk ?_
            refine u_bn ?_
            refine u_mv ?_
            refine lg_nil ?_
            refine h54 _ ⟨j + 1, ?_, ?_, [some 0, some 1, some 5, some 3], ?_⟩
            ·dsimp only
             omega
            ·dsimp only
             omega
            ·dsimp only
             refine ⟨by rfl, ?_, ?_⟩
             ·refine fin_ ?_
              (repeat' apply And.intro) <;> (first | (first | rfl | trivial | exact kinds_len hkx out | exact kinds_rows hkx out | (rw [kinds_snoc hkx]; simp [rows, eE]; done) | (rw [kinds_snoc hkx]; simp; done) | exact Or.inr rfl | exact Or.inl rfl | (rw [kinds_snoc hkx])) | exact cl_)
             ·refine fin_ ?_
              (repeat' apply And.intro) <;> (first | (first | rfl | trivial | exact kinds_len hkx out | exact kinds_rows hkx out | (rw [kinds_snoc hkx]; simp [rows, eE]; done) | (rw [kinds_snoc hkx]; simp; done) | exact Or.inr rfl | exact Or.inl rfl | (rw [kinds_snoc hkx])) | exact cl_)
           ·obtain rfl : j = 3 := by omega
            subst hK
            try simp only [List.take_succ_cons, List.take_zero, List.map_cons, List.map_nil, List.take_nil]
            refine vc_exit ?_
            simp only [k_rules, Nat.reduceEqDiff, reduceIte, eq_self]
            refine h21 _ ?_; clear h21; try clear N21
            refine u_reg ?_
            try refine lg_mk ?_
            refine u_mv ?_
            refine u_bn ?_
            refine u_mv ?_
            refine lg_nil ?_
            rw [if_neg (by omega)] at i4
            refine h17 _ ⟨(k + 1, sent + 1, out ++ [(1, 0), (2, 0), (5, 0)]), ?_, ?_, [some 0, some 1, some 2], ?_⟩
            ·dsimp only
             refine ⟨by omega, by simp; omega, by simp; omega, ?_⟩
             rw [i4, Nat.sub_sub]
             simp [Nat.sub_sub]
            ·dsimp only
             simp; omega
            ·dsimp only
             refine ⟨by rfl, ?_, ?_⟩
             ·refine fin_ ?_
              exact cl_
             ·refine fin_ ?_
              exact cl_
      ·refine vc_exit ?_
       simp only [k_rules, Nat.reduceEqDiff, reduceIte, eq_self]
       refine h15 _ ?_; clear h15; try clear N15
       refine vc_seq_k fun N60 h60 => ?_
       refine u_reg ?_
       try refine lg_mk ?_
       refine u_mv ?_
       refine u_bd ?_
       refine u_mv ?_
       refine u_mv ?_
       refine u_st ?_
       refine lg_nil ?_
       refine h60 _ ?_; clear h60; try clear N60
       refine vc_ret ?_
       try simp only [k_rules]
       have e0 : (framesOf l).length - sent = 0 := by omega
       rw [e0, plan_zero] at i4
       have hr : planR l lost = (out, true, 0, 0) := by
        unfold planR; rw [if_pos (by omega), if_pos (by omega), i4, List.append_nil]
       rw [hr]
       refine fin2_ ?_
       (repeat' apply And.intro) <;> (first | (first | rfl | exact Or.inl rfl | exact Or.inr rfl | trivial | exact Nat.le_refl _ | omega | (simp; done) | (simp [rows_len]; done) | (rw [List.drop_zero, rows_take, List.take_length]; done) | (rw [rows_take, List.take_length]; done)) | exact cl_)
 ·cases hg

def E_planT : Env Try.prog := E_run.add 6 (Spec.pure planG) planT_meets (by kernel_rfl)
end Go.Proofs.Ytiijkbidkdmilaa
