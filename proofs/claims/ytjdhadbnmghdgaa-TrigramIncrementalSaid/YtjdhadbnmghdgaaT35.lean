/- Walks, printed by wip/gen/walk.py. -/
import Derived.Test.YtjdhadbnmghdgaaT28
import Derived.Test.YtjdhadbnmghdgaaV5
set_option linter.all false
set_option maxRecDepth 100000
set_option maxHeartbeats 4000000
namespace Go.Proofs.Ytjdhadbnmghdgaa
open Go Go.Vc Go.RowKit
theorem lawIn_meets : Meets Try.prog 6 (Spec.pure lawTNG) := by
 refine meets_fun (E_remv.at_ 71) Try.func6 rfl rfl rfl ?_
 intro args p r hg hp
 unfold lawTNG at hg
 split at hg
 ·rename_i xs n
  simp only [Option.some.injEq, Prod.mk.injEq] at hg
  obtain ⟨rfl, rfl⟩ := hg
  obtain ⟨he, hl, hsl, hn64⟩ := hp
  generalize dT xs = l at *
  subst he
  have hT : (E_remv).X = T := rfl
  have hx0 := And.intro @rect_eT (And.intro @rect_eP (And.intro @dI_rows (And.intro @dP_rows (And.intro @dT_rows (And.intro @dI_nil (And.intro @dP_nil (And.intro @dec_t (And.intro @dec_f @Try.results6))))))))
  have hx := hx0
  refine ⟨by rfl, ?_⟩
  intro F W0 hnp hmk
  refine vc_seq_k fun N1 h1 => ?_
  refine u_reg ?_
  try refine lg_mk ?_
  refine u_mv ?_
  refine lg_nil ?_
  refine h1 _ ?_; clear h1; try clear N1
  refine vc_seq_k fun N2 h2 => ?_
  refine vc_seq_k fun N3 h3 => ?_
  refine u_reg ?_
  try refine lg_mk ?_
  have hc := call_rule (E := (E_remv.at_ 71)) (f := 9) (sp := Spec.pure exG) rfl
  have hs := @exG.eq_1
  refine u_cp ?_
  refine u_un ?_
  refine lg_nil ?_
  refine h3 _ ?_; clear h3; try clear N3
  refine u_cond (fun hb4 => ?_) (fun hb4 => ?_)
  ·first | omega | exact absurd trivial hb4 | contradiction | (simp_all; done)
  ·refine vc_skip ?_
   try simp only [k_rules]
   refine h2 _ ?_; clear h2; try clear N2
   refine vc_seq_k fun N5 h5 => ?_
   rcases textsF_or l with hcs | hcs
   ·have hsn := small_nil
    obtain ⟨hb1, hb2, hb3⟩ := hcs
    have hb4 : ¬(textsF l).1 = 0 := hb1
    have hx0 := And.intro @hb2 (And.intro @hb3 (And.intro @hb4 (hx0)))
    have hx := hx0
    refine u_reg ?_
    try refine lg_mk ?_
    refine u_mv ?_
    have hc := call_rule (E := (E_remv.at_ 71)) (f := 10) (sp := Spec.pure indexTG) rfl
    have hs := @indexTG.eq_1
    refine u_hp (hq := by (first | (exact ⟨hl, hsl⟩) | exact sd_)) ?_
    refine u_mv ?_
    refine u_ex ?_
    refine u_ex ?_
    refine u_al ?_
    refine u_al ?_
    refine u_st ?_
    refine u_st ?_
    refine lg_nil ?_
    refine h5 _ ?_; clear h5; try clear N5
    refine vc_seq_k fun N6 h6 => ?_
    refine vc_seq_k fun N7 h7 => ?_
    by_cases hnr : 0 ≤ n ∧ n ≤ (l.length : Int) - 1
    ·have hnr1 : (decide (0 ≤ n) && decide (n ≤ (l.length : Int) - 1)) = true := by simp [hnr]
     have hx := And.intro @hnr1 hx0
     refine u_reg ?_
     try refine lg_mk ?_
     refine u_pt ?_
     refine u_ld ?_
     refine u_bn ?_
     refine u_mv ?_
     refine g_mv ?_
     refine g_mv ?_
     refine g_ln ?_
     refine g_bn ?_
     have hc := call_rule (E := (E_remv.at_ 71)) (f := 23) (sp := Spec.pure inG) rfl
     have hs := @inG.eq_1
     refine g_cp ?_
     refine g_un ?_
     refine u_pk ?_
     refine lg_nil ?_
     have hx := hx0
     refine h7 _ ?_; clear h7; try clear N7
     refine u_cond (fun hb8 => ?_) (fun hb8 => ?_)
     ·refine vc_seq_k fun N9 h9 => ?_
      refine u_reg ?_
      try refine lg_mk ?_
      refine u_pt ?_
      refine u_ld ?_
      refine u_bn ?_
      refine u_mv ?_
      refine g_ld ?_
      refine g_bd ?_
      have hc := call_rule (E := (E_remv.at_ 71)) (f := 12) (sp := Spec.pure idxsG) rfl
      have hs := @idxsG.eq_1
      refine g_cp ?_
      refine u_pk ?_
      refine u_mv ?_
      refine lg_nil ?_
      refine h9 _ ?_; clear h9; try clear N9
      refine vc_ret ?_
      try simp only [k_rules]
      refine fin2_ ?_
      (repeat' apply And.intro) <;> (first | (first | rfl | (simp; done) | (simp [*]; done) | (left; rfl)) | exact cl_)
     ·first | omega | exact absurd trivial hb8 | contradiction | (simp_all; done)
    ·have hnr1 : (decide (0 ≤ n) && decide (n ≤ (l.length : Int) - 1)) = false := by
      cases h1 : (decide (0 ≤ n) && decide (n ≤ (l.length : Int) - 1)) with
      | false => rfl
      | true => exact absurd (by simpa using h1) hnr
     have hx := And.intro @hnr1 hx0
     refine u_reg ?_
     try refine lg_mk ?_
     refine u_pt ?_
     refine u_ld ?_
     refine u_bn ?_
     refine u_mv ?_
     refine g_mv ?_
     refine g_mv ?_
     refine g_ln ?_
     refine g_bn ?_
     have hc := call_rule (E := (E_remv.at_ 71)) (f := 23) (sp := Spec.pure inG) rfl
     have hs := @inG.eq_1
     refine g_cp ?_
     refine g_un ?_
     refine u_pk ?_
     refine lg_nil ?_
     have hx := hx0
     refine h7 _ ?_; clear h7; try clear N7
     refine u_cond (fun hb10 => ?_) (fun hb10 => ?_)
     ·refine vc_seq_k fun N11 h11 => ?_
      refine u_reg ?_
      try refine lg_mk ?_
      refine u_pt ?_
      refine u_ld ?_
      refine u_bn ?_
      refine u_mv ?_
      refine g_ld ?_
      refine g_bd ?_
      have hc := call_rule (E := (E_remv.at_ 71)) (f := 12) (sp := Spec.pure idxsG) rfl
      have hs := @idxsG.eq_1
      refine g_cp ?_
      refine u_pk ?_
      refine u_mv ?_
      refine lg_nil ?_
      refine h11 _ ?_; clear h11; try clear N11
      refine vc_ret ?_
      try simp only [k_rules]
      refine fin2_ ?_
      (repeat' apply And.intro) <;> (first | (first | rfl | (simp; done) | (simp [*]; done) | (left; rfl)) | exact cl_)
     ·first | omega | exact absurd trivial hb10 | contradiction | (simp_all; done)
   ·have hsn := small_nil
    obtain ⟨hb1, hb2, hb3, hl20, hl400⟩ := hcs
    have hvi := val_idx (ts := l) hl20
    have hvt := val_to hvi
    have hvl := hvi.plen
    have hvs := smallP_of hvi
    have hio := iota_len l.length
    have hto : ((l.length : Nat) : Int).toNat = l.length := by omega
    have hx0 := And.intro @hb1 (And.intro @hb2 (And.intro @hb3 (And.intro @hvt (And.intro @hio (And.intro @hto (hx0))))))
    have hx := hx0
    refine u_reg ?_
    try refine lg_mk ?_
    refine u_mv ?_
    have hc := call_rule (E := (E_remv.at_ 71)) (f := 10) (sp := Spec.pure indexTG) rfl
    have hs := @indexTG.eq_1
    refine u_hp (hq := by (first | (exact ⟨hl, hsl⟩) | exact sd_)) ?_
    refine u_mv ?_
    refine u_ex ?_
    refine u_ex ?_
    refine u_al ?_
    refine u_al ?_
    refine u_st ?_
    refine u_st ?_
    refine lg_nil ?_
    refine h5 _ ?_; clear h5; try clear N5
    refine vc_seq_k fun N12 h12 => ?_
    refine vc_seq_k fun N13 h13 => ?_
    by_cases hnr : 0 ≤ n ∧ n ≤ (l.length : Int) - 1
    ·have hnr1 : (decide (0 ≤ n) && decide (n ≤ (l.length : Int) - 1)) = true := by simp [hnr]
     have hx := And.intro @hnr1 hx0
     refine u_reg ?_
     try refine lg_mk ?_
     refine u_pt ?_
     refine u_ld ?_
     refine u_bn ?_
     refine u_mv ?_
     refine g_mv ?_
     refine g_mv ?_
     refine g_ln ?_
     refine g_bn ?_
     have hc := call_rule (E := (E_remv.at_ 71)) (f := 23) (sp := Spec.pure inG) rfl
     have hs := @inG.eq_1
     refine g_cp ?_
     refine g_un ?_
     refine u_pk ?_
     refine lg_nil ?_
     have hx := hx0
     refine h13 _ ?_; clear h13; try clear N13
     refine u_cond (fun hb14 => ?_) (fun hb14 => ?_)
     ·first | omega | exact absurd trivial hb14 | contradiction | (simp_all; done)
     ·obtain ⟨m, hmn⟩ := Int.eq_ofNat_of_zero_le hnr.1
      have hms : m < l.length := by omega
      refine vc_skip ?_
      try simp only [k_rules]
      refine h12 _ ?_; clear h12; try clear N12
      refine vc_seq_k fun N15 h15 => ?_
      refine u_reg ?_
      try refine lg_mk ?_
      refine u_bd ?_
      refine u_al ?_
      refine u_st ?_
      refine lg_nil ?_
      refine h15 _ ?_; clear h15; try clear N15
      refine vc_seq_k fun N16 h16 => ?_
      refine vc_seq_k fun N17 h17 => ?_
      refine u_reg ?_
      try refine lg_mk ?_
      refine u_mv ?_
      refine lg_nil ?_
      refine h17 _ ?_; clear h17; try clear N17
      refine vc_block ?_
      refine vc_loop_mk (σ := Nat × List Int × List Post) (fun s => (fun i T' P' => i ≤ l.length ∧ IncI l m i T' P') (s.1) (s.2.1) (s.2.2))
       (fun s => (fun i T' P' => [(0, .d (.sl (rows eT l))), (1, .d (.int .i64 n)), (5, .ptr 0 0 0), (6, .ptr 1 0 0), (7, .ptr 2 0 0), (8, .d (.int .i64 (i : Nat)))]) (s.1) (s.2.1) (s.2.2))
       (fun s => (fun i T' P' => [some (.one 27 [.d (.sl (rows eI (iota l.length))), .d (.sl (rows eP (idxK l l.length)))]), some (.one 29 [.d (.int .i64 0), .d (.int .i64 0)]), some (.one 27 [.d (.sl (rows eI T')), .d (.sl (rows eP P'))])]) (s.1) (s.2.1) (s.2.2)) (fun s => (fun i T' P' => l.length - i) (s.1) (s.2.1) (s.2.2)) hnp (0, [], []) ?_ [some 0, some 1, some 2] ?_ ?_
      ·dsimp only
       exact ⟨by omega, IncI.zero l m⟩
      ·dsimp only
       refine ⟨by rfl, ?_, ?_⟩
       ·refine fin_ ?_
        exact cl_
       ·refine fin_ ?_
        exact cl_
      ·rintro ⟨i, T', P'⟩ hinv N18 h18
       dsimp only at hinv ⊢
       obtain ⟨i1, hI⟩ := hinv
       refine vc_seq_k fun N19 h19 => ?_
       refine vc_seq_k fun N20 h20 => ?_
       refine u_reg ?_
       try refine lg_mk ?_
       refine u_mv ?_
       refine u_mv ?_
       refine u_ln ?_
       refine u_bn ?_
       refine lg_nil ?_
       refine h20 _ ?_; clear h20; try clear N20
       refine u_cond (fun hb21 => ?_) (fun hb21 => ?_)
       ·have hil : i < l.length := by omega
        have hor : (n + (l.length : Int) - (i : Int)).tmod (l.length : Int) = (ord m l.length i : Int) := by rw [hmn]; exact ord_rem hms hil
        have hol := ord_lt hms hil
        obtain ⟨x, hxe⟩ := getE hol
        have hxl := hl400 x (mem_at hxe)
        have hfr := hI.fresh hms hil
        have hst := hI.step hms hil hl20
        rw [getD_at hxe] at hst
        obtain ⟨ha1, ha2, ha3⟩ := add_0 (s := x) hI.val (by omega) (by omega) hfr hxl
        have htn : ((ord m l.length i : Nat) : Int).toNat = ord m l.length i := by omega
        have hvl2 := hI.val.plen
        have hvs2 := smallP_of hI.val
        have hvn2 := hI.val.tlen
        refine vc_skip ?_
        try simp only [k_rules]
        refine h19 _ ?_; clear h19; try clear N19
        refine vc_seq_k fun N22 h22 => ?_
        refine vc_block ?_
        refine vc_seq_k fun N23 h23 => ?_
        have hx := And.intro @hor hx0
        refine u_reg ?_
        try refine lg_mk ?_
        refine u_mv ?_
        refine u_mv ?_
        refine u_ln ?_
        refine u_bn ?_
        refine u_mv ?_
        refine u_bn ?_
        refine u_mv ?_
        refine u_ln ?_
        refine u_bn (hq := by (first | (omega) | exact sd_)) ?_
        refine u_mv ?_
        refine lg_nil ?_
        have hx := hx0
        refine h23 _ ?_; clear h23; try clear N23
        refine vc_seq_k fun N24 h24 => ?_
        have hx := And.intro @hxe (And.intro @htn (And.intro @ha1 (And.intro @ha2 (And.intro @ha3 hx0))))
        refine vc_regT [] (.seq [0, 1, 2, 3, 4, 5] (.alt 6 (.seq [7, 8, 9] (.alt 10 (.seq [11, 12, 13] .nil) (.alt 11 (.seq [10, 12, 13] .nil) .nil))) (.alt 10 (.alt 6 (.seq [7, 8, 9, 11, 12, 13] .nil) (.alt 11 (.seq [6, 7, 8, 9, 12, 13] .nil) .nil)) (.alt 11 (.alt 6 (.seq [7, 8, 9, 10, 12, 13] .nil) (.alt 10 (.seq [6, 7, 8, 9, 12, 13] .nil) .nil)) .nil)))) hmix (by kernel_rfl) ?_
        refine at_seq ?_
        simp only [pick_rules, list_rules]
        try refine lg_mk ?_
        refine u_ld ?_
        refine u_mv ?_
        refine u_mv ?_
        refine u_mv ?_
        refine u_pt ?_
        refine u_ld ?_
        refine lg_nil ?_
        refine at_alt ?_ ?_
        ·simp only [pick_rules, list_rules]
         try refine lg_mk ?_
         have hc := call_rule (E := (E_remv.at_ 71)) (f := 24) (sp := Spec.pure addTG) rfl
         have hs := @addTG.eq_1
         refine u_hp (hq := by (first | (first | exact ⟨by omega, by omega, hvs2, by omega⟩ | (refine ⟨?_, ?_, ?_, ?_⟩ <;> first | exact hvs2 | omega)) | exact sd_)) ?_
         refine lg_nil ?_
         refine at_seq ?_
         simp only [pick_rules, list_rules]
         try refine lg_mk ?_
         refine u_mv ?_
         refine u_ex ?_
         refine u_ex ?_
         refine lg_nil ?_
         refine at_alt ?_ ?_
         ·simp only [pick_rules, list_rules]
          try refine lg_mk ?_
          refine u_al ?_
          refine lg_nil ?_
          refine at_seq ?_
          simp only [pick_rules, list_rules]
          try refine lg_mk ?_
          refine u_al ?_
          refine u_st ?_
          refine u_st ?_
          refine lg_nil ?_
          refine at_nil ?_
          have hx := hx0
          refine h24 _ ?_; clear h24; try clear N24
          refine vc_seq_k fun N25 h25 => ?_
          refine vc_seq_k fun N26 h26 => ?_
          refine u_reg ?_
          try refine lg_mk ?_
          refine u_pt ?_
          refine u_ld ?_
          refine u_bn ?_
          refine lg_nil ?_
          refine h26 _ ?_; clear h26; try clear N26
          refine u_cond (fun hb27 => ?_) (fun hb27 => ?_)
          ·first | omega | exact absurd trivial hb27 | contradiction | (simp_all; done)
          ·refine vc_skip ?_
           try simp only [k_rules]
           refine h25 _ ?_; clear h25; try clear N25
           refine u_reg ?_
           try refine lg_mk ?_
           refine u_ld ?_
           refine u_st ?_
           refine lg_nil ?_
           refine h22 _ ?_; clear h22; try clear N22
           refine u_reg ?_
           try refine lg_mk ?_
           refine u_mv ?_
           refine u_bn ?_
           refine u_mv ?_
           refine lg_nil ?_
           refine h18 _ ⟨(i + 1, ins T' (ord m l.length i), addP P' (ord m l.length i) x), ?_, ?_, [some 0, some 1, some 2], ?_⟩
           ·dsimp only
            exact ⟨by omega, hst⟩
           ·dsimp only
            omega
           ·dsimp only
            refine ⟨by rfl, ?_, ?_⟩
            ·refine fin_ ?_
             exact cl_
            ·refine fin_ ?_
             exact cl_
         refine at_alt ?_ ?_
         ·simp only [pick_rules, list_rules]
          try refine lg_mk ?_
          refine u_al ?_
          refine lg_nil ?_
          refine at_seq ?_
          simp only [pick_rules, list_rules]
          try refine lg_mk ?_
          refine u_al ?_
          refine u_st ?_
          refine u_st ?_
          refine lg_nil ?_
          refine at_nil ?_
          have hx := hx0
          refine h24 _ ?_; clear h24; try clear N24
          refine vc_seq_k fun N28 h28 => ?_
          refine vc_seq_k fun N29 h29 => ?_
          refine u_reg ?_
          try refine lg_mk ?_
          refine u_pt ?_
          refine u_ld ?_
          refine u_bn ?_
          refine lg_nil ?_
          refine h29 _ ?_; clear h29; try clear N29
          refine u_cond (fun hb30 => ?_) (fun hb30 => ?_)
          ·first | omega | exact absurd trivial hb30 | contradiction | (simp_all; done)
          ·refine vc_skip ?_
           try simp only [k_rules]
           refine h28 _ ?_; clear h28; try clear N28
           refine u_reg ?_
           try refine lg_mk ?_
           refine u_ld ?_
           refine u_st ?_
           refine lg_nil ?_
           refine h22 _ ?_; clear h22; try clear N22
           refine u_reg ?_
           try refine lg_mk ?_
           refine u_mv ?_
           refine u_bn ?_
           refine u_mv ?_
           refine lg_nil ?_
           refine h18 _ ⟨(i + 1, ins T' (ord m l.length i), addP P' (ord m l.length i) x), ?_, ?_, [some 0, some 1, some 2], ?_⟩
           ·dsimp only
            exact ⟨by omega, hst⟩
           ·dsimp only
            omega
           ·dsimp only
            refine ⟨by rfl, ?_, ?_⟩
            ·refine fin_ ?_
             exact cl_
            ·refine fin_ ?_
             exact cl_
         exact at_end
        refine at_alt ?_ ?_
        ·simp only [pick_rules, list_rules]
         try refine lg_mk ?_
         refine u_al ?_
         refine lg_nil ?_
         refine at_alt ?_ ?_
         ·simp only [pick_rules, list_rules]
          try refine lg_mk ?_
          have hc := call_rule (E := (E_remv.at_ 71)) (f := 24) (sp := Spec.pure addTG) rfl
          have hs := @addTG.eq_1
          refine u_hp (hq := by (first | (first | exact ⟨by omega, by omega, hvs2, by omega⟩ | (refine ⟨?_, ?_, ?_, ?_⟩ <;> first | exact hvs2 | omega)) | exact sd_)) ?_
          refine lg_nil ?_
          refine at_seq ?_
          simp only [pick_rules, list_rules]
          try refine lg_mk ?_
          refine u_mv ?_
          refine u_ex ?_
          refine u_ex ?_
          refine u_al ?_
          refine u_st ?_
          refine u_st ?_
          refine lg_nil ?_
          refine at_nil ?_
          have hx := hx0
          refine h24 _ ?_; clear h24; try clear N24
          refine vc_seq_k fun N31 h31 => ?_
          refine vc_seq_k fun N32 h32 => ?_
          refine u_reg ?_
          try refine lg_mk ?_
          refine u_pt ?_
          refine u_ld ?_
          refine u_bn ?_
          refine lg_nil ?_
          refine h32 _ ?_; clear h32; try clear N32
          refine u_cond (fun hb33 => ?_) (fun hb33 => ?_)
          ·first | omega | exact absurd trivial hb33 | contradiction | (simp_all; done)
          ·refine vc_skip ?_
           try simp only [k_rules]
           refine h31 _ ?_; clear h31; try clear N31
           refine u_reg ?_
           try refine lg_mk ?_
           refine u_ld ?_
           refine u_st ?_
           refine lg_nil ?_
           refine h22 _ ?_; clear h22; try clear N22
           refine u_reg ?_
           try refine lg_mk ?_
           refine u_mv ?_
           refine u_bn ?_
           refine u_mv ?_
           refine lg_nil ?_
           refine h18 _ ⟨(i + 1, ins T' (ord m l.length i), addP P' (ord m l.length i) x), ?_, ?_, [some 0, some 1, some 2], ?_⟩
           ·dsimp only
            exact ⟨by omega, hst⟩
           ·dsimp only
            omega
           ·dsimp only
            refine ⟨by rfl, ?_, ?_⟩
            ·refine fin_ ?_
             exact cl_
            ·refine fin_ ?_
             exact cl_
         refine at_alt ?_ ?_
         ·simp only [pick_rules, list_rules]
          try refine lg_mk ?_
          refine u_al ?_
          refine lg_nil ?_
          refine at_seq ?_
          simp only [pick_rules, list_rules]
          try refine lg_mk ?_
          have hc := call_rule (E := (E_remv.at_ 71)) (f := 24) (sp := Spec.pure addTG) rfl
          have hs := @addTG.eq_1
          refine u_hp (hq := by (first | (first | exact ⟨by omega, by omega, hvs2, by omega⟩ | (refine ⟨?_, ?_, ?_, ?_⟩ <;> first | exact hvs2 | omega)) | exact sd_)) ?_
          refine u_mv ?_
          refine u_ex ?_
          refine u_ex ?_
          refine u_st ?_
          refine u_st ?_
          refine lg_nil ?_
          refine at_nil ?_
          have hx := hx0
          refine h24 _ ?_; clear h24; try clear N24
          refine vc_seq_k fun N34 h34 => ?_
          refine vc_seq_k fun N35 h35 => ?_
          refine u_reg ?_
          try refine lg_mk ?_
          refine u_pt ?_
          refine u_ld ?_
          refine u_bn ?_
          refine lg_nil ?_
          refine h35 _ ?_; clear h35; try clear N35
          refine u_cond (fun hb36 => ?_) (fun hb36 => ?_)
          ·first | omega | exact absurd trivial hb36 | contradiction | (simp_all; done)
          ·refine vc_skip ?_
           try simp only [k_rules]
           refine h34 _ ?_; clear h34; try clear N34
           refine u_reg ?_
           try refine lg_mk ?_
           refine u_ld ?_
           refine u_st ?_
           refine lg_nil ?_
           refine h22 _ ?_; clear h22; try clear N22
           refine u_reg ?_
           try refine lg_mk ?_
           refine u_mv ?_
           refine u_bn ?_
           refine u_mv ?_
           refine lg_nil ?_
           refine h18 _ ⟨(i + 1, ins T' (ord m l.length i), addP P' (ord m l.length i) x), ?_, ?_, [some 0, some 1, some 2], ?_⟩
           ·dsimp only
            exact ⟨by omega, hst⟩
           ·dsimp only
            omega
           ·dsimp only
            refine ⟨by rfl, ?_, ?_⟩
            ·refine fin_ ?_
             exact cl_
            ·refine fin_ ?_
             exact cl_
         exact at_end
        refine at_alt ?_ ?_
        ·simp only [pick_rules, list_rules]
         try refine lg_mk ?_
         refine u_al ?_
         refine lg_nil ?_
         refine at_alt ?_ ?_
         ·simp only [pick_rules, list_rules]
          try refine lg_mk ?_
          have hc := call_rule (E := (E_remv.at_ 71)) (f := 24) (sp := Spec.pure addTG) rfl
          have hs := @addTG.eq_1
          refine u_hp (hq := by (first | (first | exact ⟨by omega, by omega, hvs2, by omega⟩ | (refine ⟨?_, ?_, ?_, ?_⟩ <;> first | exact hvs2 | omega)) | exact sd_)) ?_
          refine lg_nil ?_
          refine at_seq ?_
          simp only [pick_rules, list_rules]
          try refine lg_mk ?_
          refine u_mv ?_
          refine u_ex ?_
          refine u_ex ?_
          refine u_al ?_
          refine u_st ?_
          refine u_st ?_
          refine lg_nil ?_
          refine at_nil ?_
          have hx := hx0
          refine h24 _ ?_; clear h24; try clear N24
          refine vc_seq_k fun N37 h37 => ?_
          refine vc_seq_k fun N38 h38 => ?_
          refine u_reg ?_
          try refine lg_mk ?_
          refine u_pt ?_
          refine u_ld ?_
          refine u_bn ?_
          refine lg_nil ?_
          refine h38 _ ?_; clear h38; try clear N38
          refine u_cond (fun hb39 => ?_) (fun hb39 => ?_)
          ·first | omega | exact absurd trivial hb39 | contradiction | (simp_all; done)
          ·refine vc_skip ?_
           try simp only [k_rules]
           refine h37 _ ?_; clear h37; try clear N37
           refine u_reg ?_
           try refine lg_mk ?_
           refine u_ld ?_
           refine u_st ?_
           refine lg_nil ?_
           refine h22 _ ?_; clear h22; try clear N22
           refine u_reg ?_
           try refine lg_mk ?_
           refine u_mv ?_
           refine u_bn ?_
           refine u_mv ?_
           refine lg_nil ?_
           refine h18 _ ⟨(i + 1, ins T' (ord m l.length i), addP P' (ord m l.length i) x), ?_, ?_, [some 0, some 1, some 2], ?_⟩
           ·dsimp only
            exact ⟨by omega, hst⟩
           ·dsimp only
            omega
           ·dsimp only
            refine ⟨by rfl, ?_, ?_⟩
            ·refine fin_ ?_
             exact cl_
            ·refine fin_ ?_
             exact cl_
         refine at_alt ?_ ?_
         ·simp only [pick_rules, list_rules]
          try refine lg_mk ?_
          refine u_al ?_
          refine lg_nil ?_
          refine at_seq ?_
          simp only [pick_rules, list_rules]
          try refine lg_mk ?_
          have hc := call_rule (E := (E_remv.at_ 71)) (f := 24) (sp := Spec.pure addTG) rfl
          have hs := @addTG.eq_1
          refine u_hp (hq := by (first | (first | exact ⟨by omega, by omega, hvs2, by omega⟩ | (refine ⟨?_, ?_, ?_, ?_⟩ <;> first | exact hvs2 | omega)) | exact sd_)) ?_
          refine u_mv ?_
          refine u_ex ?_
          refine u_ex ?_
          refine u_st ?_
          refine u_st ?_
          refine lg_nil ?_
          refine at_nil ?_
          have hx := hx0
          refine h24 _ ?_; clear h24; try clear N24
          refine vc_seq_k fun N40 h40 => ?_
          refine vc_seq_k fun N41 h41 => ?_
          refine u_reg ?_
          try refine lg_mk ?_
          refine u_pt ?_
          refine u_ld ?_
          refine u_bn ?_
          refine lg_nil ?_
          refine h41 _ ?_; clear h41; try clear N41
          refine u_cond (fun hb42 => ?_) (fun hb42 => ?_)
          ·first | omega | exact absurd trivial hb42 | contradiction | (simp_all; done)
          ·refine vc_skip ?_
           try simp only [k_rules]
           refine h40 _ ?_; clear h40; try clear N40
           refine u_reg ?_
           try refine lg_mk ?_
           refine u_ld ?_
           refine u_st ?_
           refine lg_nil ?_
           refine h22 _ ?_; clear h22; try clear N22
           refine u_reg ?_
           try refine lg_mk ?_
           refine u_mv ?_
           refine u_bn ?_
           refine u_mv ?_
           refine lg_nil ?_
           refine h18 _ ⟨(i + 1, ins T' (ord m l.length i), addP P' (ord m l.length i) x), ?_, ?_, [some 0, some 1, some 2], ?_⟩
           ·dsimp only
            exact ⟨by omega, hst⟩
           ·dsimp only
            omega
           ·dsimp only
            refine ⟨by rfl, ?_, ?_⟩
            ·refine fin_ ?_
             exact cl_
            ·refine fin_ ?_
             exact cl_
         exact at_end
        exact at_end
       ·have hie : i = l.length := by omega
        subst hie
        obtain ⟨hf1, hf2⟩ := hI.fin hms
        subst hf1 hf2
        refine vc_exit ?_
        simp only [k_rules, Nat.reduceEqDiff, reduceIte, eq_self]
        refine h16 _ ?_; clear h16; try clear N16
        refine vc_seq_k fun N43 h43 => ?_
        refine u_reg ?_
        try refine lg_mk ?_
        refine u_ld ?_
        refine u_ld ?_
        have hc := call_rule (E := (E_remv.at_ 71)) (f := 12) (sp := Spec.pure idxsG) rfl
        have hs := @idxsG.eq_1
        refine u_cp (hq := by (first | ((repeat' apply And.intro) <;> first | rfl | omega | exact small_nil | assumption | (simp; done) | (simp; omega)) | exact sd_)) ?_
        refine u_mv ?_
        refine lg_nil ?_
        refine h43 _ ?_; clear h43; try clear N43
        refine vc_ret ?_
        try simp only [k_rules]
        refine fin2_ ?_
        (repeat' apply And.intro) <;> (first | (first | rfl | (simp; done) | (simp [*]; done) | (left; rfl)) | exact cl_)
    ·have hnr1 : (decide (0 ≤ n) && decide (n ≤ (l.length : Int) - 1)) = false := by
      cases h1 : (decide (0 ≤ n) && decide (n ≤ (l.length : Int) - 1)) with
      | false => rfl
      | true => exact absurd (by simpa using h1) hnr
     have hx := And.intro @hnr1 hx0
     refine u_reg ?_
     try refine lg_mk ?_
     refine u_pt ?_
     refine u_ld ?_
     refine u_bn ?_
     refine u_mv ?_
     refine g_mv ?_
     refine g_mv ?_
     refine g_ln ?_
     refine g_bn ?_
     have hc := call_rule (E := (E_remv.at_ 71)) (f := 23) (sp := Spec.pure inG) rfl
     have hs := @inG.eq_1
     refine g_cp ?_
     refine g_un ?_
     refine u_pk ?_
     refine lg_nil ?_
     have hx := hx0
     refine h13 _ ?_; clear h13; try clear N13
     refine u_cond (fun hb44 => ?_) (fun hb44 => ?_)
     ·refine vc_seq_k fun N45 h45 => ?_
      refine u_reg ?_
      try refine lg_mk ?_
      refine u_pt ?_
      refine u_ld ?_
      refine u_bn ?_
      refine u_mv ?_
      refine g_ld ?_
      refine g_bd ?_
      have hc := call_rule (E := (E_remv.at_ 71)) (f := 12) (sp := Spec.pure idxsG) rfl
      have hs := @idxsG.eq_1
      refine g_cp ?_
      refine u_pk ?_
      refine u_mv ?_
      refine lg_nil ?_
      refine h45 _ ?_; clear h45; try clear N45
      refine vc_ret ?_
      try simp only [k_rules]
      refine fin2_ ?_
      (repeat' apply And.intro) <;> (first | (first | rfl | (simp; done) | (simp [*]; done) | (left; rfl)) | exact cl_)
     ·first | omega | exact absurd trivial hb44 | contradiction | (simp_all; done)
 ·cases hg
end Go.Proofs.Ytjdhadbnmghdgaa
