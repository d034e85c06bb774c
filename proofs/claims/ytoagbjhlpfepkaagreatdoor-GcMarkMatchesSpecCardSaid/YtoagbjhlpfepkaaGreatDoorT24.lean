/- Walks, printed by wip/gen/walk.py. -/
import Derived.Test.YtoagbjhlpfepkaaGreatDoorT23
import Derived.Test.YtoagbjhlpfepkaaGreatDoorV5
set_option linter.all false
set_option maxRecDepth 100000
set_option maxHeartbeats 4000000
namespace Go.Proofs.YtoagbjhlpfepkaaGreatDoor
open Go Go.Vc Go.RowKit
theorem collect0_meets : Meets Tryz.prog 15 (Spec.pure col0G) := by
 refine meets_fun (E_leases0.at_ 107) Tryz.func15 rfl rfl rfl ?_
 intro args p r hg hp
 unfold col0G at hg
 split at hg
 ·rename_i xs
  simp only [Option.some.injEq, Prod.mk.injEq] at hg
  obtain ⟨rfl, rfl⟩ := hg
  obtain ⟨he, hv, hsm⟩ := hp
  generalize dO xs = S at *
  subst he
  have hlen := hv.len
  have hz0 := stF_of hv
  have hT : (E_leases0).X = T := rfl
  have hx0 := And.intro @rect_eO (And.intro @dI_rows (And.intro @dU_rows (And.intro @dO_rows (And.intro @takeI_len (And.intro @dec_t (And.intro @dec_f (And.intro @reach_nil (And.intro @dI_nil (And.intro @takeDg_len (And.intro @eI_snoc (And.intro @dgs_len @Tryz.results15)))))))))))
  have hx := hx0
  refine ⟨by rfl, ?_⟩
  intro F W0 hnp hmk
  refine vc_seq_k fun N1 h1 => ?_
  refine u_reg ?_
  try refine lg_mk ?_
  refine u_bx ?_
  refine u_bx ?_
  refine u_al ?_
  refine u_mv ?_
  refine u_al ?_
  refine lg_nil ?_
  refine h1 _ ?_; clear h1; try clear N1
  refine vc_seq_k fun N2 h2 => ?_
  refine vc_seq_k fun N3 h3 => ?_
  have hx := And.intro @hz0 hx0
  refine u_reg ?_
  try refine lg_mk ?_
  refine u_ld ?_
  have hc := call_rule (E := (E_leases0.at_ 107)) (f := 16) (sp := Spec.pure valG) rfl
  have hs := @valG.eq_1
  refine u_cp (hq := by (first | (exact ⟨by omega, hsm⟩) | exact sd_)) ?_
  refine u_al ?_
  refine u_st ?_
  refine lg_nil ?_
  have hx := hx0
  refine h3 _ ?_; clear h3; try clear N3
  refine vc_seq_k fun N4 h4 => ?_
  have hx := And.intro @hz0 hx0
  refine u_reg ?_
  try refine lg_mk ?_
  refine u_ld ?_
  refine u_bd ?_
  refine u_bn ?_
  refine lg_nil ?_
  have hx := hx0
  refine h4 _ ?_; clear h4; try clear N4
  refine u_cond (fun hb5 => ?_) (fun hb5 => ?_)
  ·first | omega | (cases hb5; done) | (simp at hb5; done)
  ·refine vc_skip ?_
   try simp only [k_rules]
   refine h2 _ ?_; clear h2; try clear N2
   refine vc_seq_k fun N6 h6 => ?_
   refine vc_seq_k fun N7 h7 => ?_
   refine u_reg ?_
   try refine lg_mk ?_
   refine u_ld ?_
   have hc := call_rule (E := (E_leases0.at_ 107)) (f := 26) (sp := Spec.pure refs0G) rfl
   have hs := @refs0G.eq_1
   refine u_cp ?_
   refine u_al ?_
   refine u_st ?_
   refine lg_nil ?_
   refine h7 _ ?_; clear h7; try clear N7
   refine vc_seq_k fun N8 h8 => ?_
   refine u_reg ?_
   try refine lg_mk ?_
   refine u_ld ?_
   refine u_bd ?_
   refine u_bn ?_
   refine lg_nil ?_
   refine h8 _ ?_; clear h8; try clear N8
   refine u_cond (fun hb9 => ?_) (fun hb9 => ?_)
   ·first | omega | (cases hb9; done) | (simp at hb9; done)
   ·refine vc_skip ?_
    try simp only [k_rules]
    refine h6 _ ?_; clear h6; try clear N6
    refine vc_seq_k fun N10 h10 => ?_
    refine vc_seq_k fun N11 h11 => ?_
    refine u_reg ?_
    try refine lg_mk ?_
    refine u_mv ?_
    refine u_mv ?_
    have hc := call_rule (E := (E_leases0.at_ 107)) (f := 27) (sp := Spec.pure lea0G) rfl
    have hs := @lea0G.eq_1
    refine u_cp ?_
    refine u_al ?_
    refine u_st ?_
    refine lg_nil ?_
    refine h11 _ ?_; clear h11; try clear N11
    refine vc_seq_k fun N12 h12 => ?_
    refine u_reg ?_
    try refine lg_mk ?_
    refine u_ld ?_
    refine u_bd ?_
    refine u_bn ?_
    refine lg_nil ?_
    refine h12 _ ?_; clear h12; try clear N12
    refine u_cond (fun hb13 => ?_) (fun hb13 => ?_)
    ·first | omega | (cases hb13; done) | (simp at hb13; done)
    ·refine vc_skip ?_
     try simp only [k_rules]
     refine h10 _ ?_; clear h10; try clear N10
     refine vc_seq_k fun N14 h14 => ?_
     refine u_reg ?_
     try refine lg_mk ?_
     refine u_mv ?_
     refine lg_nil ?_
     refine h14 _ ?_; clear h14; try clear N14
     refine vc_seq_k fun N15 h15 => ?_
     refine vc_seq_k fun N16 h16 => ?_
     refine u_reg ?_
     try refine lg_mk ?_
     refine u_pt ?_
     refine u_ld ?_
     refine u_ln ?_
     refine u_mv ?_
     refine lg_nil ?_
     refine h16 _ ?_; clear h16; try clear N16
     refine vc_block ?_
     refine vc_loop_mk (σ := Nat) (fun s => (fun i => i = 0) s)
      (fun s => (fun i => [(2, .d (.sl [])), (3, .d (.int .i64 0)), (4, .ptr 0 0 0), (5, .ptr 1 0 0), (8, .ptr 2 0 0), (10, .ptr 3 0 0), (11, .ptr 4 0 0), (12, .ptr 5 0 0), (13, .ptr 6 0 0), (14, .d .nils), (49, .d (.sl [])), (50, .d (.int .i64 0)), (51, .d (.int .i64 0))]) s)
      (fun s => (fun i => [some (.one 24 [.d (.sl (rows eO S))]), some (.one 46 [.d (.sl [])]), some (.one 24 [.d .nils]), some (.one 28 [.d (.int .i64 0), .d (.int .i64 0)]), some (.one 28 [.d (.int .i64 0), .d (.int .i64 0)]), some (.one 28 [.d (.int .i64 0), .d (.int .i64 0)]), some (.one 28 [.d (.int .i64 0), .d (.int .i64 0)])]) s) (fun s => (fun i => 0) s) hnp 0 ?_ [some 0, some 1, some 2, some 3, some 4, some 5, some 6] ?_ ?_
     ·dsimp only
      skip
     ·dsimp only
      refine ⟨by rfl, ?_, ?_⟩
      ·refine fin_ ?_
       exact cl_
      ·refine fin_ ?_
       exact cl_
     ·rintro i hinv N17 h17
      dsimp only at hinv ⊢
      refine vc_seq_k fun N18 h18 => ?_
      refine u_reg ?_
      try refine lg_mk ?_
      refine u_bn ?_
      refine lg_nil ?_
      refine h18 _ ?_; clear h18; try clear N18
      refine vc_seq_k fun N19 h19 => ?_
      refine u_cond (fun hb20 => ?_) (fun hb20 => ?_)
      ·first | omega | (cases hb20; done) | (simp at hb20; done)
      ·refine vc_exit ?_
       simp only [k_rules, Nat.reduceEqDiff, reduceIte, eq_self]
       refine h15 _ ?_; clear h15; try clear N15
       refine vc_seq_k fun N21 h21 => ?_
       refine vc_seq_k fun N22 h22 => ?_
       refine u_reg ?_
       try refine lg_mk ?_
       refine u_mv ?_
       refine u_ln ?_
       refine u_mv ?_
       refine lg_nil ?_
       refine h22 _ ?_; clear h22; try clear N22
       refine vc_block ?_
       refine vc_loop_mk (σ := Nat) (fun s => (fun i => i = 0) s)
        (fun s => (fun i => [(2, .d (.sl [])), (3, .d (.int .i64 0)), (4, .ptr 0 0 0), (5, .ptr 1 0 0), (8, .ptr 2 0 0), (10, .ptr 3 0 0), (11, .ptr 4 0 0), (12, .ptr 5 0 0), (13, .ptr 6 0 0), (14, .d .nils), (61, .d (.sl [])), (62, .d (.int .i64 0)), (63, .d (.int .i64 0))]) s)
        (fun s => (fun i => [some (.one 24 [.d (.sl (rows eO S))]), some (.one 46 [.d (.sl [])]), some (.one 24 [.d .nils]), some (.one 28 [.d (.int .i64 0), .d (.int .i64 0)]), some (.one 28 [.d (.int .i64 0), .d (.int .i64 0)]), some (.one 28 [.d (.int .i64 0), .d (.int .i64 0)]), some (.one 28 [.d (.int .i64 0), .d (.int .i64 0)])]) s) (fun s => (fun i => 0) s) hnp 0 ?_ [some 0, some 1, some 2, some 3, some 4, some 5, some 6] ?_ ?_
       ·dsimp only
        skip
       ·dsimp only
        refine ⟨by rfl, ?_, ?_⟩
        ·refine fin_ ?_
         exact cl_
        ·refine fin_ ?_
         exact cl_
       ·rintro i hinv N23 h23
        dsimp only at hinv ⊢
        refine vc_seq_k fun N24 h24 => ?_
        refine u_reg ?_
        try refine lg_mk ?_
        refine u_bn ?_
        refine lg_nil ?_
        refine h24 _ ?_; clear h24; try clear N24
        refine vc_seq_k fun N25 h25 => ?_
        refine u_cond (fun hb26 => ?_) (fun hb26 => ?_)
        ·first | omega | (cases hb26; done) | (simp at hb26; done)
        ·refine vc_exit ?_
         simp only [k_rules, Nat.reduceEqDiff, reduceIte, eq_self]
         refine h21 _ ?_; clear h21; try clear N21
         refine vc_seq_k fun N27 h27 => ?_
         refine u_reg ?_
         try refine lg_mk ?_
         refine u_ld ?_
         refine u_mv ?_
         have hc := call_rule (E := (E_leases0.at_ 107)) (f := 18) (sp := Spec.fresh reachG) rfl
         have hs := @reachG.eq_1
         refine u_hg (hq := by (first | ((repeat' apply And.intro) <;> first | rfl | omega | assumption | (simp; done)) | exact sd_)) ?_
         refine u_mv ?_
         refine lg_nil ?_
         refine h27 _ ?_; clear h27; try clear N27
         refine vc_seq_k fun N28 h28 => ?_
         refine u_reg ?_
         try refine lg_mk ?_
         refine u_al ?_
         refine lg_nil ?_
         refine h28 _ ?_; clear h28; try clear N28
         refine vc_seq_k fun N29 h29 => ?_
         refine u_reg ?_
         try refine lg_mk ?_
         refine u_mv ?_
         refine lg_nil ?_
         refine h29 _ ?_; clear h29; try clear N29
         refine vc_seq_k fun N30 h30 => ?_
         refine vc_seq_k fun N31 h31 => ?_
         refine u_reg ?_
         try refine lg_mk ?_
         refine u_ld ?_
         have hc := call_rule (E := (E_leases0.at_ 107)) (f := 28) (sp := Spec.fresh copyG) rfl
         have hs := @copyG.eq_1
         refine u_hg (hq := by (first | (exact hv) | exact sd_)) ?_
         refine u_pt ?_
         refine u_ln ?_
         refine u_mv ?_
         refine lg_nil ?_
         refine h31 _ ?_; clear h31; try clear N31
         refine vc_block ?_
         refine vc_loop_mk (σ := Nat) (fun s => (fun i => i ≤ S.length) s)
          (fun s => (fun i => [(2, .d (.sl [])), (3, .d (.int .i64 0)), (4, .ptr 0 0 0), (5, .ptr 1 0 0), (8, .ptr 2 0 0), (10, .ptr 3 0 0), (11, .ptr 4 0 0), (12, .ptr 5 0 0), (13, .ptr 6 0 0), (19, .mp 7), (20, .ptr 8 0 0), (21, .sl 10 0 i), (82, .sl 9 0 S.length), (83, .d (.int .i64 (S.length : Nat))), (84, .d (.int .i64 (i : Nat)))]) s)
          (fun s => (fun i => [some (.one 24 [.d (.sl (rows eO S))]), some (.one 46 [.d (.sl [])]), some (.one 24 [.d .nils]), some (.one 28 [.d (.int .i64 0), .d (.int .i64 0)]), some (.one 28 [.d (.int .i64 0), .d (.int .i64 0)]), some (.one 28 [.d (.int .i64 0), .d (.int .i64 0)]), some (.one 28 [.d (.int .i64 0), .d (.int .i64 0)]), some (.ob (.mapI [])), some (.one 24 [.d .nils]), some (.vec 54 4 (rows eO S)), some (.vec 3 1 (rows eI (dgs (S.take i))))]) s) (fun s => (fun i => S.length - i) s) hnp 0 ?_ [some 0, some 1, some 2, some 3, some 4, some 5, some 6, some 7, some 8, some 9, none] ?_ ?_
         ·dsimp only
          omega
         ·dsimp only
          refine ⟨by rfl, ?_, ?_⟩
          ·refine fin_ ?_
           exact cl_
          ·refine fin_ ?_
           exact cl_
         ·rintro i hinv N32 h32
          dsimp only at hinv ⊢
          have i1 := hinv
          have htk : (dgs (S.take i)).take i = dgs (S.take i) := List.take_of_length_le (by rw [dgs_len, List.length_take]; omega)
          refine vc_seq_k fun N33 h33 => ?_
          refine u_reg ?_
          try refine lg_mk ?_
          refine u_bn ?_
          refine lg_nil ?_
          refine h33 _ ?_; clear h33; try clear N33
          refine vc_seq_k fun N34 h34 => ?_
          refine u_cond (fun hb35 => ?_) (fun hb35 => ?_)
          ·obtain ⟨x, hxe⟩ := getE (l := S) (i := i) (by omega)
           have hsn := take_snoc hxe
           have hgl : (dgs (S.take i)).length = i := by rw [dgs_len, List.length_take]; omega
           obtain ⟨d, o⟩ := x
           obtain ⟨kd, l, u⟩ := o
           refine vc_skip ?_
           try simp only [k_rules]
           refine h34 _ ?_; clear h34; try clear N34
           refine vc_seq_k fun N36 h36 => ?_
           refine vc_block ?_
           refine vc_seq_k fun N37 h37 => ?_
           have hx := And.intro @hxe (And.intro @eO.eq_1 hx0)
           refine u_reg ?_
           try refine lg_mk ?_
           refine u_pt ?_
           refine u_ld ?_
           refine u_al ?_
           refine u_st ?_
           refine lg_nil ?_
           have hx := hx0
           refine h37 _ ?_; clear h37; try clear N37
           refine vc_seq_k fun N38 h38 => ?_
           have hx := And.intro @gi0 hx0
           refine u_reg ?_
           try refine lg_mk ?_
           refine u_mv ?_
           refine u_pt ?_
           refine u_ld ?_
           refine lg_sem (by rfl) (sem_mapGet (t := 48) (kt := 3) (et := 4) (by kernel_rfl) (by kernel_rfl) zero_bool (by first | (simp only [wB, eq_self, Nat.reduceEqDiff, reduceIte]; done) | (simp only [wB, eq_self, Nat.reduceEqDiff, reduceIte]; rfl)) (by first | trivial | simp only [wB, eq_self, Nat.reduceEqDiff, reduceIte]) (by first | (simp only [wB, eq_self, Nat.reduceEqDiff, reduceIte]; done) | (simp only [wB, eq_self, Nat.reduceEqDiff, reduceIte]; rfl)) (by first | trivial | simp only [wB, eq_self, Nat.reduceEqDiff, reduceIte]) (by simp only [wB, eq_self, Nat.reduceEqDiff, reduceIte]; rfl) ?_)
           try simp only [Bool.false_eq_true, wB, eq_self, Nat.reduceEqDiff, reduceIte, wL, Int.toNat_natCast, Int.reduceToNat, Nat.reduceAdd, Nat.reduceMul, Nat.reduceSub, Nat.reduceLeDiff, hx]
           refine lg_nil ?_
           have hx := hx0
           refine h38 _ ?_; clear h38; try clear N38
           refine u_cond (fun hb39 => ?_) (fun hb39 => ?_)
           ·first | omega | (cases hb39; done) | (simp at hb39; done)
           ·refine u_reg ?_
            try refine lg_mk ?_
            refine u_mv ?_
            refine u_pt ?_
            refine u_ld ?_
            refine u_bs ?_
            refine u_ap ?_
            refine u_mv ?_
            refine lg_nil ?_
            refine h36 _ ?_; clear h36; try clear N36
            refine u_reg ?_
            try refine lg_mk ?_
            refine u_bn ?_
            refine u_mv ?_
            refine lg_nil ?_
            refine h32 _ ⟨i + 1, ?_, ?_, [some 0, some 1, some 2, some 3, some 4, some 5, some 6, some 7, some 8, some 9, some 13], ?_⟩
            ·dsimp only
             omega
            ·dsimp only
             omega
            ·dsimp only
             refine ⟨by rfl, ?_, ?_⟩
             ·refine fin_ ?_
              (repeat' apply And.intro) <;> (first | (first | rfl | trivial | omega | (rw [hsn, htk]; simp [dgs]; done) | (rw [hsn]; simp [dgs, rows, eI]; done)) | exact cl_)
             ·refine fin_ ?_
              (repeat' apply And.intro) <;> (first | (first | rfl | trivial | omega | (rw [hsn, htk]; simp [dgs]; done) | (rw [hsn]; simp [dgs, rows, eI]; done)) | exact cl_)
          ·refine vc_exit ?_
           simp only [k_rules, Nat.reduceEqDiff, reduceIte, eq_self]
           refine h30 _ ?_; clear h30; try clear N30
           refine vc_seq_k fun N40 h40 => ?_
           refine u_reg ?_
           try refine lg_mk ?_
           refine u_ld ?_
           refine u_mv ?_
           refine u_bd ?_
           refine u_st ?_
           refine u_mv ?_
           refine u_st ?_
           refine lg_nil ?_
           refine h40 _ ?_; clear h40; try clear N40
           refine vc_ret ?_
           try simp only [k_rules]
           obtain rfl : i = S.length := by omega
           rw [takeS_len] at *
           refine fin2_ ?_
           (repeat' apply And.intro) <;> (first | (first | rfl | trivial | omega | exact Or.inl rfl | (rw [takeDg_len]; done) | (rw [dgs_len]; omega) | (left; rw [takeDg_len]; done) | (simp; done)) | exact cl_)
 ·cases hg

def E_collect0 : Env Tryz.prog := E_leases0.add 15 (Spec.pure col0G) collect0_meets (by kernel_rfl)
end Go.Proofs.YtoagbjhlpfepkaaGreatDoor
