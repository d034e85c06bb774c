/- Walks, printed by wip/gen/walk.py. -/
import Derived.Test.YtgnahopdiljikaaT19
import Derived.Test.YtgnahopdiljikaaV5
set_option linter.all false
set_option maxRecDepth 100000
set_option maxHeartbeats 4000000
namespace Go.Proofs.Ytgnahopdiljikaa
open Go Go.Vc Go.RowKit
theorem needed_meets : Meets Try.prog 18 (Spec.pure needG) := by
 refine meets_fun (E_filt.at_ 83) Try.func18 rfl rfl rfl ?_
 intro args p r hg hp
 unfold needG at hg
 split at hg
 ·rename_i xs ps rs
  simp only [Option.some.injEq, Prod.mk.injEq] at hg
  obtain ⟨rfl, rfl⟩ := hg
  obtain ⟨he, hl, hsm, he2, hpl, he3, hrl⟩ := hp
  generalize dO xs = S at *
  generalize dI ps = P at *
  generalize dI rs = R at *
  subst he he2 he3
  have hT : (E_filt).X = T := rfl
  have hx0 := And.intro @rect_eO (And.intro @dI_rows (And.intro @dU_rows (And.intro @dO_rows (And.intro @dec_t (And.intro @dec_f (And.intro @takeI_len (And.intro @eI_snoc @Try.results18)))))))
  have hx := hx0
  refine ⟨by rfl, ?_⟩
  intro F W0 hnp hmk
  refine vc_seq_k fun N1 h1 => ?_
  refine u_reg ?_
  try refine lg_mk ?_
  refine u_bx ?_
  refine u_mv ?_
  refine u_al ?_
  refine lg_nil ?_
  refine h1 _ ?_; clear h1; try clear N1
  refine vc_seq_k fun N2 h2 => ?_
  refine vc_seq_k fun N3 h3 => ?_
  refine u_reg ?_
  try refine lg_mk ?_
  refine u_ld ?_
  refine u_mv ?_
  have hc := call_rule (E := (E_filt.at_ 83)) (f := 31) (sp := Spec.pure proG) rfl
  have hs := @proG.eq_1
  refine u_cp (hq := by (first | (exact ⟨hl, hsm, hpl⟩) | exact sd_)) ?_
  refine u_al ?_
  refine u_st ?_
  refine lg_nil ?_
  refine h3 _ ?_; clear h3; try clear N3
  refine vc_seq_k fun N4 h4 => ?_
  rcases proF_or S P with ⟨hvx, hvp⟩ | hvx
  ·have hz1 : (proF S P).1 = 0 := by rw [hvx]
   have hz2 : (proF S P).2 = 0 := by rw [hvx]
   have hv := hvp.st
   have hlen := hv.len
   have hpn := hvp.len
   refine u_reg ?_
   try refine lg_mk ?_
   refine u_ld ?_
   refine u_bd ?_
   refine u_bn ?_
   refine lg_nil ?_
   refine h4 _ ?_; clear h4; try clear N4
   refine u_cond (fun hb5 => ?_) (fun hb5 => ?_)
   ·exact absurd (And.intro hz1 hz2) (by have := hb5; simpa using this)
   ·refine vc_skip ?_
    try simp only [k_rules]
    refine h2 _ ?_; clear h2; try clear N2
    refine vc_seq_k fun N6 h6 => ?_
    refine vc_seq_k fun N7 h7 => ?_
    refine u_reg ?_
    try refine lg_mk ?_
    refine u_mv ?_
    refine u_ln ?_
    refine u_bn ?_
    refine lg_nil ?_
    refine h7 _ ?_; clear h7; try clear N7
    refine u_cond (fun hb8 => ?_) (fun hb8 => ?_)
    ·refine vc_seq_k fun N9 h9 => ?_
     refine u_reg ?_
     try refine lg_mk ?_
     refine u_bd ?_
     refine u_mv ?_
     refine u_st ?_
     refine lg_nil ?_
     refine h9 _ ?_; clear h9; try clear N9
     refine vc_ret ?_
     try simp only [k_rules]
     have hr : needF S P R = (2, -1) := by unfold needF; rw [if_neg (by rw [hz1]; simp), if_pos (by have := hb8; omega)]
     have hr2 : needR S P R = [] := by unfold needR; rw [hr]; exact if_pos (by decide)
     rw [hr, hr2]
     refine fin2_ ?_
     exact cl_
    ·refine vc_skip ?_
     try simp only [k_rules]
     refine h6 _ ?_; clear h6; try clear N6
     refine vc_seq_k fun N10 h10 => ?_
     refine u_reg ?_
     try refine lg_mk ?_
     refine lg_sem (by rfl) (sem_makeMap rfl ?_)
     try simp only [Bool.false_eq_true, wB, eq_self, Nat.reduceEqDiff, reduceIte, wL, Int.toNat_natCast, Int.reduceToNat, Nat.reduceAdd, Nat.reduceMul, Nat.reduceSub, Nat.reduceLeDiff, hx]
     refine u_mv ?_
     refine lg_nil ?_
     refine h10 _ ?_; clear h10; try clear N10
     refine vc_seq_k fun N11 h11 => ?_
     refine u_reg ?_
     try refine lg_mk ?_
     refine u_mv ?_
     have hc := call_rule (E := (E_filt.at_ 83)) (f := 32) (sp := Spec.fresh (cloneF 3)) rfl
     have hs := @cloneF.eq_1
     refine u_hg (hq := by (first | (exact ⟨rect_eI R, by rw [rows_len]; omega⟩) | exact sd_)) ?_
     refine u_mv ?_
     refine lg_nil ?_
     refine h11 _ ?_; clear h11; try clear N11
     refine vc_seq_k fun N12 h12 => ?_
     refine u_reg ?_
     try refine lg_mk ?_
     refine u_mv ?_
     refine lg_nil ?_
     refine h12 _ ?_; clear h12; try clear N12
     refine vc_seq_k fun N13 h13 => ?_
     refine vc_block ?_
     refine vc_loop_mk (σ := List Int × List (Int × Bool) × List Int) (fun s => (fun t m o => InvN S P R t m o) (s.1) (s.2.1) (s.2.2))
      (fun s => (fun t m o => [(1, .d (.sl (rows eI P))), (3, .ptr 0 0 0), (7, .ptr 1 0 0), (9, .mp 3), (10, .sl 4 0 t.length), (11, .sl 5 0 o.length)]) (s.1) (s.2.1) (s.2.2))
      (fun s => (fun t m o => [some (.one 24 [.d (.sl (rows eO S))]), some (.one 28 [.d (.int .i64 0), .d (.int .i64 0)]), some (.one 28 [.d (.int .i64 0), .d (.int .i64 0)]), some (.ob (.mapI m)), some (.vec 3 1 (rows eI t)), some (.vec 3 1 (rows eI o))]) (s.1) (s.2.1) (s.2.2)) (fun s => (fun t m o => muN S P t m) (s.1) (s.2.1) (s.2.2)) hnp (R, [], []) ?_ [some 0, some 1, some 2, some 3, some 4, none] ?_ ?_
     ·dsimp only
      exact InvN.zero S P R
     ·dsimp only
      refine ⟨by rfl, ?_, ?_⟩
      ·refine fin_ ?_
       exact cl_
      ·refine fin_ ?_
       exact cl_
     ·rintro ⟨t, m, o⟩ hinv N14 h14
      dsimp only at hinv ⊢
      have hI := hinv
      have hbn := hI.bnd
      have hfw := hI.few
      have hol := hI.olen
      refine vc_seq_k fun N15 h15 => ?_
      refine vc_seq_k fun N16 h16 => ?_
      refine u_reg ?_
      try refine lg_mk ?_
      refine u_mv ?_
      refine u_ln ?_
      refine u_bn ?_
      refine lg_nil ?_
      refine h16 _ ?_; clear h16; try clear N16
      refine u_cond (fun hb17 => ?_) (fun hb17 => ?_)
      ·obtain ⟨d, hd⟩ := last_ex (l := t) (by omega)
       have hxe := last_at hd
       have hpm : ((t.length : Int) - 1).toNat = t.length - 1 := by omega
       have hdl := take_last t
       have hdn := last_len t
       have htd : List.take (t.length - 1 - 0) t.dropLast = t.dropLast := List.take_of_length_le (by omega)
       refine vc_skip ?_
       try simp only [k_rules]
       refine h15 _ ?_; clear h15; try clear N15
       refine vc_block ?_
       refine vc_seq_k fun N18 h18 => ?_
       have hx := And.intro @hpm (And.intro @hxe (And.intro @eI.eq_1 hx0))
       refine u_reg ?_
       try refine lg_mk ?_
       refine u_mv ?_
       refine u_mv ?_
       refine u_ln ?_
       refine u_bn ?_
       refine u_pt ?_
       refine u_ld ?_
       refine u_mv ?_
       refine lg_nil ?_
       have hx := hx0
       refine h18 _ ?_; clear h18; try clear N18
       refine vc_seq_k fun N19 h19 => ?_
       have hx := And.intro @hpm hx0
       refine u_reg ?_
       try refine lg_mk ?_
       refine u_mv ?_
       refine u_mv ?_
       refine u_ln ?_
       refine u_bn ?_
       refine u_sl ?_
       refine u_mv ?_
       refine lg_nil ?_
       have hx := hx0
       refine h19 _ ?_; clear h19; try clear N19
       refine vc_seq_k fun N20 h20 => ?_
       refine vc_seq_k fun N21 h21 => ?_
       refine vc_shortL 4 (t.length - 1) rfl ?_
       simp only [updL, List.set, rows_take, hdl]
       rcases (show (d ∈ keysM m) ∨ (d ∉ keysM m ∧ d ∈ P) ∨ (d ∉ keysM m ∧ d ∉ P ∧ inS S d = false) ∨ (d ∉ keysM m ∧ d ∉ P ∧ inS S d = true) by by_cases h1 : d ∈ keysM m <;> by_cases h2 : d ∈ P <;> cases h3 : inS S d <;> simp [h1, h2]) with hk | ⟨hk, hdP⟩ | ⟨hk, hdP, hin⟩ | ⟨hk, hdP, hin⟩
       ·have hm' : (getI m d).getD false = true := (hI.set.in_iff d).2 hk
        obtain ⟨hgo, hmu⟩ := hI.old hd hk
        have hx := And.intro @hm' hx0
        refine u_reg ?_
        try refine lg_mk ?_
        refine u_mv ?_
        refine u_mv ?_
        refine lg_sem (by rfl) (sem_mapGet (t := 62) (kt := 3) (et := 4) (by kernel_rfl) (by kernel_rfl) zero_bool (by first | (simp only [wB, eq_self, Nat.reduceEqDiff, reduceIte]; done) | (simp only [wB, eq_self, Nat.reduceEqDiff, reduceIte]; rfl)) (by first | trivial | simp only [wB, eq_self, Nat.reduceEqDiff, reduceIte]) (by first | (simp only [wB, eq_self, Nat.reduceEqDiff, reduceIte]; done) | (simp only [wB, eq_self, Nat.reduceEqDiff, reduceIte]; rfl)) (by first | trivial | simp only [wB, eq_self, Nat.reduceEqDiff, reduceIte]) (by simp only [wB, eq_self, Nat.reduceEqDiff, reduceIte]; rfl) ?_)
        try simp only [Bool.false_eq_true, wB, eq_self, Nat.reduceEqDiff, reduceIte, wL, Int.toNat_natCast, Int.reduceToNat, Nat.reduceAdd, Nat.reduceMul, Nat.reduceSub, Nat.reduceLeDiff, hx]
        refine lg_nil ?_
        have hx := hx0
        refine h21 _ ?_; clear h21; try clear N21
        refine u_cond (fun hb22 => ?_) (fun hb22 => ?_)
        ·refine vc_exit ?_
         simp only [k_rules, Nat.reduceEqDiff, reduceIte, eq_self]
         refine h14 _ ⟨(t.dropLast, m, o), ?_, ?_, [some 0, some 1, some 2, some 3, some 4, some 5], ?_⟩
         ·dsimp only
          exact hgo
         ·dsimp only
          exact hmu
         ·dsimp only
          refine ⟨by rfl, ?_, ?_⟩
          ·refine fin_ ?_
           (repeat' apply And.intro) <;> (first | (first | rfl | trivial | omega | (rw [hdn]; done) | (rw [List.length_append, hdn]; done) | (rw [htd]; done) | (simp; done)) | exact cl_)
          ·refine fin_ ?_
           (repeat' apply And.intro) <;> (first | (first | rfl | trivial | omega | (rw [hdn]; done) | (rw [List.length_append, hdn]; done) | (rw [htd]; done) | (simp; done)) | exact cl_)
        ·cases hb22
       ·have hm' : (getI m d).getD false = false := (hI.set.in_false d).2 hk
        obtain ⟨hgo, hmu⟩ := hI.prom hvp hd hk hdP
        have hdp : decide (d ∈ P) = true := decide_eq_true hdP
        have hx := And.intro @hm' hx0
        refine u_reg ?_
        try refine lg_mk ?_
        refine u_mv ?_
        refine u_mv ?_
        refine lg_sem (by rfl) (sem_mapGet (t := 62) (kt := 3) (et := 4) (by kernel_rfl) (by kernel_rfl) zero_bool (by first | (simp only [wB, eq_self, Nat.reduceEqDiff, reduceIte]; done) | (simp only [wB, eq_self, Nat.reduceEqDiff, reduceIte]; rfl)) (by first | trivial | simp only [wB, eq_self, Nat.reduceEqDiff, reduceIte]) (by first | (simp only [wB, eq_self, Nat.reduceEqDiff, reduceIte]; done) | (simp only [wB, eq_self, Nat.reduceEqDiff, reduceIte]; rfl)) (by first | trivial | simp only [wB, eq_self, Nat.reduceEqDiff, reduceIte]) (by simp only [wB, eq_self, Nat.reduceEqDiff, reduceIte]; rfl) ?_)
        try simp only [Bool.false_eq_true, wB, eq_self, Nat.reduceEqDiff, reduceIte, wL, Int.toNat_natCast, Int.reduceToNat, Nat.reduceAdd, Nat.reduceMul, Nat.reduceSub, Nat.reduceLeDiff, hx]
        refine lg_nil ?_
        have hx := hx0
        refine h21 _ ?_; clear h21; try clear N21
        refine u_cond (fun hb23 => ?_) (fun hb23 => ?_)
        ·cases hb23
        ·refine vc_skip ?_
         try simp only [k_rules]
         refine h20 _ ?_; clear h20; try clear N20
         refine vc_seq_k fun N24 h24 => ?_
         refine u_reg ?_
         try refine lg_mk ?_
         refine u_mv ?_
         refine u_mv ?_
         refine lg_sem (by rfl) (sem_mapSet (t := 62) (kt := 3) (et := 4) (by kernel_rfl) (by kernel_rfl) (by first | (simp only [wB, eq_self, Nat.reduceEqDiff, reduceIte]; done) | (simp only [wB, eq_self, Nat.reduceEqDiff, reduceIte]; rfl)) (by first | trivial | simp only [wB, eq_self, Nat.reduceEqDiff, reduceIte]) (by first | (simp only [wB, eq_self, Nat.reduceEqDiff, reduceIte]; done) | (simp only [wB, eq_self, Nat.reduceEqDiff, reduceIte]; rfl)) (by first | trivial | simp only [wB, eq_self, Nat.reduceEqDiff, reduceIte]) (by first | (simp only [wB, eq_self, Nat.reduceEqDiff, reduceIte]; done) | (simp only [wB, eq_self, Nat.reduceEqDiff, reduceIte]; rfl)) (by first | trivial | simp only [wB, eq_self, Nat.reduceEqDiff, reduceIte]) (by simp only [wB, eq_self, Nat.reduceEqDiff, reduceIte]; rfl) ?_)
         try simp only [Bool.false_eq_true, wB, eq_self, Nat.reduceEqDiff, reduceIte, wL, Int.toNat_natCast, Int.reduceToNat, Nat.reduceAdd, Nat.reduceMul, Nat.reduceSub, Nat.reduceLeDiff, hx]
         refine lg_nil ?_
         refine h24 _ ?_; clear h24; try clear N24
         refine vc_seq_k fun N25 h25 => ?_
         refine vc_seq_k fun N26 h26 => ?_
         have hx := And.intro @hdp hx0
         refine u_reg ?_
         try refine lg_mk ?_
         refine u_mv ?_
         refine u_mv ?_
         have hc := call_rule (E := (E_filt.at_ 83)) (f := 33) (sp := Spec.pure bsG) rfl
         have hs := @bsG.eq_1
         refine u_cp (hq := by (first | (exact ⟨hvp.sort, by omega⟩) | exact sd_)) ?_
         refine u_mv ?_
         refine u_ex ?_
         refine u_ex ?_
         refine u_mv ?_
         refine u_mv ?_
         refine lg_nil ?_
         have hx := hx0
         refine h26 _ ?_; clear h26; try clear N26
         refine vc_seq_k fun N27 h27 => ?_
         refine u_reg ?_
         try refine lg_mk ?_
         refine u_mv ?_
         refine lg_nil ?_
         refine h27 _ ?_; clear h27; try clear N27
         refine u_cond (fun hb28 => ?_) (fun hb28 => ?_)
         ·refine vc_seq_k fun N29 h29 => ?_
          refine u_reg ?_
          try refine lg_mk ?_
          refine u_mv ?_
          refine u_mv ?_
          refine u_bs ?_
          refine u_ap ?_
          refine u_mv ?_
          refine lg_nil ?_
          refine h29 _ ?_; clear h29; try clear N29
          refine vc_exit ?_
          simp only [k_rules, Nat.reduceEqDiff, reduceIte, eq_self]
          refine h14 _ ⟨(t.dropLast, setI m d true, o ++ [d]), ?_, ?_, [some 0, some 1, some 2, some 3, some 4, some 7], ?_⟩
          ·dsimp only
           exact hgo
          ·dsimp only
           exact hmu
          ·dsimp only
           refine ⟨by rfl, ?_, ?_⟩
           ·refine fin_ ?_
            (repeat' apply And.intro) <;> (first | (first | rfl | trivial | omega | (rw [hdn]; done) | (rw [List.length_append, hdn]; done) | (rw [htd]; done) | (simp; done)) | exact cl_)
           ·refine fin_ ?_
            (repeat' apply And.intro) <;> (first | (first | rfl | trivial | omega | (rw [hdn]; done) | (rw [List.length_append, hdn]; done) | (rw [htd]; done) | (simp; done)) | exact cl_)
         ·cases hb28
       ·have hm' : (getI m d).getD false = false := (hI.set.in_false d).2 hk
        have hno := hI.lost hvp hd hdP (of_decide_eq_false hin)
        have hdp : decide (d ∈ P) = false := decide_eq_false hdP
        have hx := And.intro @hm' hx0
        refine u_reg ?_
        try refine lg_mk ?_
        refine u_mv ?_
        refine u_mv ?_
        refine lg_sem (by rfl) (sem_mapGet (t := 62) (kt := 3) (et := 4) (by kernel_rfl) (by kernel_rfl) zero_bool (by first | (simp only [wB, eq_self, Nat.reduceEqDiff, reduceIte]; done) | (simp only [wB, eq_self, Nat.reduceEqDiff, reduceIte]; rfl)) (by first | trivial | simp only [wB, eq_self, Nat.reduceEqDiff, reduceIte]) (by first | (simp only [wB, eq_self, Nat.reduceEqDiff, reduceIte]; done) | (simp only [wB, eq_self, Nat.reduceEqDiff, reduceIte]; rfl)) (by first | trivial | simp only [wB, eq_self, Nat.reduceEqDiff, reduceIte]) (by simp only [wB, eq_self, Nat.reduceEqDiff, reduceIte]; rfl) ?_)
        try simp only [Bool.false_eq_true, wB, eq_self, Nat.reduceEqDiff, reduceIte, wL, Int.toNat_natCast, Int.reduceToNat, Nat.reduceAdd, Nat.reduceMul, Nat.reduceSub, Nat.reduceLeDiff, hx]
        refine lg_nil ?_
        have hx := hx0
        refine h21 _ ?_; clear h21; try clear N21
        refine u_cond (fun hb30 => ?_) (fun hb30 => ?_)
        ·cases hb30
        ·refine vc_skip ?_
         try simp only [k_rules]
         refine h20 _ ?_; clear h20; try clear N20
         refine vc_seq_k fun N31 h31 => ?_
         refine u_reg ?_
         try refine lg_mk ?_
         refine u_mv ?_
         refine u_mv ?_
         refine lg_sem (by rfl) (sem_mapSet (t := 62) (kt := 3) (et := 4) (by kernel_rfl) (by kernel_rfl) (by first | (simp only [wB, eq_self, Nat.reduceEqDiff, reduceIte]; done) | (simp only [wB, eq_self, Nat.reduceEqDiff, reduceIte]; rfl)) (by first | trivial | simp only [wB, eq_self, Nat.reduceEqDiff, reduceIte]) (by first | (simp only [wB, eq_self, Nat.reduceEqDiff, reduceIte]; done) | (simp only [wB, eq_self, Nat.reduceEqDiff, reduceIte]; rfl)) (by first | trivial | simp only [wB, eq_self, Nat.reduceEqDiff, reduceIte]) (by first | (simp only [wB, eq_self, Nat.reduceEqDiff, reduceIte]; done) | (simp only [wB, eq_self, Nat.reduceEqDiff, reduceIte]; rfl)) (by first | trivial | simp only [wB, eq_self, Nat.reduceEqDiff, reduceIte]) (by simp only [wB, eq_self, Nat.reduceEqDiff, reduceIte]; rfl) ?_)
         try simp only [Bool.false_eq_true, wB, eq_self, Nat.reduceEqDiff, reduceIte, wL, Int.toNat_natCast, Int.reduceToNat, Nat.reduceAdd, Nat.reduceMul, Nat.reduceSub, Nat.reduceLeDiff, hx]
         refine lg_nil ?_
         refine h31 _ ?_; clear h31; try clear N31
         refine vc_seq_k fun N32 h32 => ?_
         refine vc_seq_k fun N33 h33 => ?_
         have hx := And.intro @hdp hx0
         refine u_reg ?_
         try refine lg_mk ?_
         refine u_mv ?_
         refine u_mv ?_
         have hc := call_rule (E := (E_filt.at_ 83)) (f := 33) (sp := Spec.pure bsG) rfl
         have hs := @bsG.eq_1
         refine u_cp (hq := by (first | (exact ⟨hvp.sort, by omega⟩) | exact sd_)) ?_
         refine u_mv ?_
         refine u_ex ?_
         refine u_ex ?_
         refine u_mv ?_
         refine u_mv ?_
         refine lg_nil ?_
         have hx := hx0
         refine h33 _ ?_; clear h33; try clear N33
         refine vc_seq_k fun N34 h34 => ?_
         refine u_reg ?_
         try refine lg_mk ?_
         refine u_mv ?_
         refine lg_nil ?_
         refine h34 _ ?_; clear h34; try clear N34
         refine u_cond (fun hb35 => ?_) (fun hb35 => ?_)
         ·cases hb35
         ·refine vc_skip ?_
          try simp only [k_rules]
          refine h32 _ ?_; clear h32; try clear N32
          refine vc_seq_k fun N36 h36 => ?_
          have hx := And.intro @hin hx0
          refine u_reg ?_
          try refine lg_mk ?_
          refine u_ld ?_
          refine u_mv ?_
          have hc := call_rule (E := (E_filt.at_ 83)) (f := 34) (sp := Spec.pure findG) rfl
          have hs := @findG.eq_1
          refine u_cp (hq := by (first | (exact ⟨hv.sort, by omega⟩) | exact sd_)) ?_
          refine u_mv ?_
          refine u_ex ?_
          refine u_ex ?_
          refine u_mv ?_
          refine u_mv ?_
          refine lg_nil ?_
          have hx := hx0
          refine h36 _ ?_; clear h36; try clear N36
          refine vc_seq_k fun N37 h37 => ?_
          refine vc_seq_k fun N38 h38 => ?_
          refine u_reg ?_
          try refine lg_mk ?_
          refine u_mv ?_
          refine u_un ?_
          refine lg_nil ?_
          refine h38 _ ?_; clear h38; try clear N38
          refine u_cond (fun hb39 => ?_) (fun hb39 => ?_)
          ·refine vc_seq_k fun N40 h40 => ?_
           refine u_reg ?_
           try refine lg_mk ?_
           refine u_bd ?_
           refine u_mv ?_
           refine u_st ?_
           refine lg_nil ?_
           refine h40 _ ?_; clear h40; try clear N40
           refine vc_ret ?_
           try simp only [k_rules]
           have hr : needF S P R = (6, -1) := by unfold needF; rw [if_neg (by rw [hz1]; simp), if_neg (by have := hb8; omega), if_neg (by rw [hno]; simp)]
           have hr2 : needR S P R = [] := by unfold needR; rw [hr]; exact if_pos (by decide)
           rw [hr, hr2]
           refine fin2_ ?_
           exact cl_
          ·cases hb39
       ·have hm' : (getI m d).getD false = false := (hI.set.in_false d).2 hk
        obtain ⟨y, hye, hyd⟩ := inS_get hv.sort hin
        obtain ⟨hgo, hmu⟩ := hI.stor hvp hd hk hdP (mem_at hye) hyd
        have hdp : decide (d ∈ P) = false := decide_eq_false hdP
        have hyl := (hv.ok y (mem_at hye)).ln
        have hklt := (List.getElem?_eq_some_iff.1 hye).1
        have hx := And.intro @hm' hx0
        refine u_reg ?_
        try refine lg_mk ?_
        refine u_mv ?_
        refine u_mv ?_
        refine lg_sem (by rfl) (sem_mapGet (t := 62) (kt := 3) (et := 4) (by kernel_rfl) (by kernel_rfl) zero_bool (by first | (simp only [wB, eq_self, Nat.reduceEqDiff, reduceIte]; done) | (simp only [wB, eq_self, Nat.reduceEqDiff, reduceIte]; rfl)) (by first | trivial | simp only [wB, eq_self, Nat.reduceEqDiff, reduceIte]) (by first | (simp only [wB, eq_self, Nat.reduceEqDiff, reduceIte]; done) | (simp only [wB, eq_self, Nat.reduceEqDiff, reduceIte]; rfl)) (by first | trivial | simp only [wB, eq_self, Nat.reduceEqDiff, reduceIte]) (by simp only [wB, eq_self, Nat.reduceEqDiff, reduceIte]; rfl) ?_)
        try simp only [Bool.false_eq_true, wB, eq_self, Nat.reduceEqDiff, reduceIte, wL, Int.toNat_natCast, Int.reduceToNat, Nat.reduceAdd, Nat.reduceMul, Nat.reduceSub, Nat.reduceLeDiff, hx]
        refine lg_nil ?_
        have hx := hx0
        refine h21 _ ?_; clear h21; try clear N21
        refine u_cond (fun hb41 => ?_) (fun hb41 => ?_)
        ·cases hb41
        ·refine vc_skip ?_
         try simp only [k_rules]
         refine h20 _ ?_; clear h20; try clear N20
         refine vc_seq_k fun N42 h42 => ?_
         refine u_reg ?_
         try refine lg_mk ?_
         refine u_mv ?_
         refine u_mv ?_
         refine lg_sem (by rfl) (sem_mapSet (t := 62) (kt := 3) (et := 4) (by kernel_rfl) (by kernel_rfl) (by first | (simp only [wB, eq_self, Nat.reduceEqDiff, reduceIte]; done) | (simp only [wB, eq_self, Nat.reduceEqDiff, reduceIte]; rfl)) (by first | trivial | simp only [wB, eq_self, Nat.reduceEqDiff, reduceIte]) (by first | (simp only [wB, eq_self, Nat.reduceEqDiff, reduceIte]; done) | (simp only [wB, eq_self, Nat.reduceEqDiff, reduceIte]; rfl)) (by first | trivial | simp only [wB, eq_self, Nat.reduceEqDiff, reduceIte]) (by first | (simp only [wB, eq_self, Nat.reduceEqDiff, reduceIte]; done) | (simp only [wB, eq_self, Nat.reduceEqDiff, reduceIte]; rfl)) (by first | trivial | simp only [wB, eq_self, Nat.reduceEqDiff, reduceIte]) (by simp only [wB, eq_self, Nat.reduceEqDiff, reduceIte]; rfl) ?_)
         try simp only [Bool.false_eq_true, wB, eq_self, Nat.reduceEqDiff, reduceIte, wL, Int.toNat_natCast, Int.reduceToNat, Nat.reduceAdd, Nat.reduceMul, Nat.reduceSub, Nat.reduceLeDiff, hx]
         refine lg_nil ?_
         refine h42 _ ?_; clear h42; try clear N42
         refine vc_seq_k fun N43 h43 => ?_
         refine vc_seq_k fun N44 h44 => ?_
         have hx := And.intro @hdp hx0
         refine u_reg ?_
         try refine lg_mk ?_
         refine u_mv ?_
         refine u_mv ?_
         have hc := call_rule (E := (E_filt.at_ 83)) (f := 33) (sp := Spec.pure bsG) rfl
         have hs := @bsG.eq_1
         refine u_cp (hq := by (first | (exact ⟨hvp.sort, by omega⟩) | exact sd_)) ?_
         refine u_mv ?_
         refine u_ex ?_
         refine u_ex ?_
         refine u_mv ?_
         refine u_mv ?_
         refine lg_nil ?_
         have hx := hx0
         refine h44 _ ?_; clear h44; try clear N44
         refine vc_seq_k fun N45 h45 => ?_
         refine u_reg ?_
         try refine lg_mk ?_
         refine u_mv ?_
         refine lg_nil ?_
         refine h45 _ ?_; clear h45; try clear N45
         refine u_cond (fun hb46 => ?_) (fun hb46 => ?_)
         ·cases hb46
         ·refine vc_skip ?_
          try simp only [k_rules]
          refine h43 _ ?_; clear h43; try clear N43
          refine vc_seq_k fun N47 h47 => ?_
          have hx := And.intro @hin hx0
          refine u_reg ?_
          try refine lg_mk ?_
          refine u_ld ?_
          refine u_mv ?_
          have hc := call_rule (E := (E_filt.at_ 83)) (f := 34) (sp := Spec.pure findG) rfl
          have hs := @findG.eq_1
          refine u_cp (hq := by (first | (exact ⟨hv.sort, by omega⟩) | exact sd_)) ?_
          refine u_mv ?_
          refine u_ex ?_
          refine u_ex ?_
          refine u_mv ?_
          refine u_mv ?_
          refine lg_nil ?_
          have hx := hx0
          refine h47 _ ?_; clear h47; try clear N47
          refine vc_seq_k fun N48 h48 => ?_
          refine vc_seq_k fun N49 h49 => ?_
          refine u_reg ?_
          try refine lg_mk ?_
          refine u_mv ?_
          refine u_un ?_
          refine lg_nil ?_
          refine h49 _ ?_; clear h49; try clear N49
          refine u_cond (fun hb50 => ?_) (fun hb50 => ?_)
          ·cases hb50
          ·refine vc_skip ?_
           try simp only [k_rules]
           refine h48 _ ?_; clear h48; try clear N48
           have hx := And.intro @hye (And.intro @eO.eq_1 hx0)
           refine u_reg ?_
           try refine lg_mk ?_
           refine u_mv ?_
           refine u_pt ?_
           refine u_ld ?_
           refine u_mv ?_
           refine u_pt ?_
           refine u_pt ?_
           refine u_pt ?_
           refine u_ld ?_
           refine u_ap ?_
           refine u_mv ?_
           refine lg_nil ?_
           have hx := hx0
           refine h14 _ ⟨(t.dropLast ++ y.ob.ln, setI m d true, o), ?_, ?_, [some 0, some 1, some 2, some 3, some 6, some 5], ?_⟩
           ·dsimp only
            exact hgo
           ·dsimp only
            exact hmu
           ·dsimp only
            refine ⟨by rfl, ?_, ?_⟩
            ·refine fin_ ?_
             (repeat' apply And.intro) <;> (first | (first | rfl | trivial | omega | (rw [hdn]; done) | (rw [List.length_append, hdn]; done) | (rw [htd]; done) | (simp; done)) | exact cl_)
            ·refine fin_ ?_
             (repeat' apply And.intro) <;> (first | (first | rfl | trivial | omega | (rw [hdn]; done) | (rw [List.length_append, hdn]; done) | (rw [htd]; done) | (simp; done)) | exact cl_)
      ·refine vc_exit ?_
       simp only [k_rules, Nat.reduceEqDiff, reduceIte, eq_self]
       refine h13 _ ?_; clear h13; try clear N13
       refine vc_seq_k fun N51 h51 => ?_
       refine u_reg ?_
       try refine lg_mk ?_
       refine u_mv ?_
       have hc := call_rule (E := (E_filt.at_ 83)) (f := 35) (sp := Spec.gen sortG) rfl
       have hs := @sortG.eq_1
       refine u_hg ?_
       refine lg_nil ?_
       refine h51 _ ?_; clear h51; try clear N51
       refine vc_seq_k fun N52 h52 => ?_
       refine u_reg ?_
       try refine lg_mk ?_
       refine u_mv ?_
       refine u_bd ?_
       refine u_mv ?_
       refine u_st ?_
       refine lg_nil ?_
       refine h52 _ ?_; clear h52; try clear N52
       refine vc_ret ?_
       try simp only [k_rules]
       obtain rfl : t = [] := List.eq_nil_of_length_eq_zero (by omega)
       obtain ⟨hno, hso⟩ := hI.fin hvp
       have hr : needF S P R = (0, 0) := by unfold needF; rw [if_neg (by rw [hz1]; simp), if_neg (by have := hb8; omega), if_pos hno]
       have hr2 : needR S P R = sortI o := by unfold needR; rw [hr]; exact hso.symm
       have hsl := sortI_len o
       rw [hr, hr2]
       refine fin2_ ?_
       (repeat' apply And.intro) <;> (first | (first | rfl | trivial | omega | exact Or.inl rfl | (rw [← hsl, takeI_len]; done) | (rw [sortI_len]; omega)) | exact cl_)
  ·have hz1 := hvx
   refine u_reg ?_
   try refine lg_mk ?_
   refine u_ld ?_
   refine u_bd ?_
   refine u_bn ?_
   refine lg_nil ?_
   refine h4 _ ?_; clear h4; try clear N4
   refine u_cond (fun hb53 => ?_) (fun hb53 => ?_)
   ·refine vc_seq_k fun N54 h54 => ?_
    refine u_reg ?_
    try refine lg_mk ?_
    refine u_ld ?_
    refine u_mv ?_
    refine u_st ?_
    refine lg_nil ?_
    refine h54 _ ?_; clear h54; try clear N54
    refine vc_ret ?_
    try simp only [k_rules]
    have hr : needF S P R = proF S P := by unfold needF; rw [if_pos hz1]
    have hr2 : needR S P R = [] := by unfold needR; rw [hr]; exact if_pos hz1
    rw [hr, hr2]
    refine fin2_ ?_
    exact cl_
   ·exact absurd (show (proF S P).1 = 0 by have := hb53; first | exact this.1 | exact (Classical.not_not.1 this).1 | (simp at this; exact this.1)) hz1
 ·cases hg

def E_needed : Env Try.prog := E_filt.add 18 (Spec.pure needG) needed_meets (by kernel_rfl)
end Go.Proofs.Ytgnahopdiljikaa
