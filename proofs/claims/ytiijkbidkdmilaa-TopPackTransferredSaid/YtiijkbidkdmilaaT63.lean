/- Walks, printed by wip/gen/walk.py. -/
import Derived.Test.YtiijkbidkdmilaaT62
import Derived.Test.YtiijkbidkdmilaaV5
set_option linter.all false
set_option maxRecDepth 100000
set_option maxHeartbeats 4000000
namespace Go.Proofs.Ytiijkbidkdmilaa
open Go Go.Vc Go.RowKit
/-- The index that read makes. -/
def idxE (p : Int × Int × Int) : List D := [.int .i64 p.1, .int .i64 p.2.1, .int .i64 p.2.2]
def idxS (S : List SO) : List (Int × Int × Int) := (List.range S.length).map fun i => ((S.getD i default).dg, ((pk0 S.length S).length : Int) - ((restB S i).length : Int), ((restB S i).length : Int) - ((restB S (i + 1)).length : Int))
theorem idxS_len (S : List SO) : (idxS S).length = S.length := by simp [idxS]
theorem idxS_snoc {S : List SO} {i : Nat} {x : SO} (h : S[i]? = some x) : (idxS S).take (i + 1) = (idxS S).take i ++ [(x.dg, ((pk0 S.length S).length : Int) - ((restB S i).length : Int), ((restB S i).length : Int) - ((restB S (i + 1)).length : Int))] := by
  have hi := (List.getElem?_eq_some_iff.1 h).1
  rw [List.take_add_one]
  have : (idxS S)[i]? = some (x.dg, ((pk0 S.length S).length : Int) - ((restB S i).length : Int), ((restB S i).length : Int) - ((restB S (i + 1)).length : Int)) := by
    have e : S.getD i default = x := getD_at h
    unfold idxS; rw [List.getElem?_map, List.getElem?_range hi, Option.map_some, e]
  rw [this]; rfl
def readG : List AV → Option (Prop × AV)
  | [.d (.sl xs)] => some (∃ S, ValS S ∧ okP S = true ∧ xs = rows eU (pkB S), .tup [.agg [.d (.sl (rows eO (decS (dU xs))))], .d (.sl (rows idxE (idxS (decS (dU xs))))), .agg [.d (.int .i64 0), .d (.int .i64 0)]])
  | _ => none
def ReadG : List AV → Option (Prop × AV)
  | [.d (.sl xs)] => some (∃ S, ValS S ∧ okP S = true ∧ xs = rows eU (pkB S), .tup [.agg [.d (.sl (rows eO (decS (dU xs))))], .agg [.d (.int .i64 0), .d (.int .i64 0)]])
  | _ => none
theorem readP {S : List SO} (hv : ValS S) (ho : okP S = true) : pkB S = pk0 S.length S ++ wide (dig (pk0 S.length S)) ∧ decS (pkB S) = S ∧ (pkB S)[2]? = some (UInt8.ofNat (S.length % 256)) ∧ (pkB S).take ((pkB S).length - 8) = pk0 S.length S ∧ (pkB S).drop (pk0 S.length S).length = wide (dig (pk0 S.length S)) := by
  obtain ⟨h1, h2, h3⟩ := pk_ok ho
  refine ⟨h2, by rw [h2]; exact (dec_pk hv _).2, rfl, ?_, by rw [h2, List.drop_left' rfl]⟩
  rw [pkB_len, Nat.add_sub_cancel, h2, List.take_left' rfl]
theorem eX_snoc (l : List (Int × Int × Int)) (a b c : Int) : rows idxE l ++ [[.int .i64 a, .int .i64 b, .int .i64 c]] = rows idxE (l ++ [(a, b, c)]) := by simp [rows, idxE]

def E_digOf4 : Env Try.prog := E_objP.add 24 (Spec.pure ofG) digOf_meets (by kernel_rfl)

theorem read_meets : Meets Try.prog 18 (Spec.pure readG) := by
 refine meets_fun (E_digOf4.at_ 125) Try.func18 rfl rfl rfl ?_
 intro args p r hg hp
 unfold readG at hg
 split at hg
 ·rename_i xs
  simp only [Option.some.injEq, Prod.mk.injEq] at hg
  obtain ⟨rfl, rfl⟩ := hg
  obtain ⟨S, hv, hok, he⟩ := hp
  subst he
  obtain ⟨q1, q2, q3, q4, q5⟩ := readP hv hok
  rw [dU_rows, q2]
  obtain ⟨q6, _, q7⟩ := pk_ok hok
  have hlen := hv.len
  have hbl := pkB_len S
  have hwl := wide_len (dig (pk0 S.length S))
  have hdr := dig_rng (pk0 S.length S)
  have hr0 := restB_le S 0
  have hpr := pk0_rest S
  have hpr2 : (restB S 0).take ((pk0 S.length S).length - 3) = restB S 0 := List.take_of_length_le (by omega)
  have q8 : (wide (dig (pk0 S.length S))).take ((pkB S).length - (pk0 S.length S).length) = wide (dig (pk0 S.length S)) := List.take_of_length_le (by omega)
  have hb2 := byI (n := S.length) (by omega)
  have hst := stF_of hv
  have hq7 : (((pkB S).length : Int) - 8).toNat = (pkB S).length - 8 := by omega
  have hst1 : (stF S).1 = 0 := by rw [hst]
  have hst2 : (stF S).2 = 0 := by rw [hst]
  have hT : (E_digOf4).X = T := rfl
  have hx0 := And.intro @dU_rows (And.intro @dI_rows (And.intro @dO_rows (And.intro @rect_eU (And.intro @rect_eO (And.intro @takeS_len (And.intro @dec_t (And.intro @dec_f @Try.results18)))))))
  have hx := hx0
  refine ⟨by rfl, ?_⟩
  intro F W0 hnp hmk
  refine vc_seq_k fun N1 h1 => ?_
  refine u_reg ?_
  try refine lg_mk ?_
  refine u_al (hq := by (first | (omega) | exact sd_)) ?_
  refine u_mv (hq := by (first | (omega) | exact sd_)) ?_
  refine u_al (hq := by (first | (omega) | exact sd_)) ?_
  refine lg_nil ?_
  refine h1 _ ?_; clear h1; try clear N1
  refine vc_seq_k fun N2 h2 => ?_
  refine u_reg ?_
  try refine lg_mk ?_
  refine u_al (hq := by (first | (omega) | exact sd_)) ?_
  refine lg_nil ?_
  refine h2 _ ?_; clear h2; try clear N2
  refine vc_seq_k fun N3 h3 => ?_
  refine u_reg ?_
  try refine lg_mk ?_
  refine u_mv (hq := by (first | (omega) | exact sd_)) ?_
  refine lg_nil ?_
  refine h3 _ ?_; clear h3; try clear N3
  refine vc_seq_k fun N4 h4 => ?_
  refine vc_seq_k fun N5 h5 => ?_
  refine u_reg ?_
  try refine lg_mk ?_
  refine u_mv (hq := by (first | (omega) | exact sd_)) ?_
  refine u_ln (hq := by (first | (omega) | exact sd_)) ?_
  refine u_bn (hq := by (first | (omega) | exact sd_)) ?_
  refine lg_nil ?_
  refine h5 _ ?_; clear h5; try clear N5
  refine u_cond (fun hb6 => ?_) (fun hb6 => ?_)
  ·first | omega | exact absurd trivial hb6 | contradiction | (simp_all; done)
  ·refine vc_skip ?_
   try simp only [k_rules]
   refine h4 _ ?_; clear h4; try clear N4
   refine vc_seq_k fun N7 h7 => ?_
   refine vc_seq_k fun N8 h8 => ?_
   refine u_reg ?_
   try refine lg_mk ?_
   refine u_mv (hq := by (first | (omega) | exact sd_)) ?_
   refine u_ln (hq := by (first | (omega) | exact sd_)) ?_
   refine u_bn (hq := by (first | (omega) | exact sd_)) ?_
   refine lg_nil ?_
   refine h8 _ ?_; clear h8; try clear N8
   refine u_cond (fun hb9 => ?_) (fun hb9 => ?_)
   ·first | omega | exact absurd trivial hb9 | contradiction | (simp_all; done)
   ·refine vc_skip ?_
    try simp only [k_rules]
    refine h7 _ ?_; clear h7; try clear N7
    refine vc_seq_k fun N10 h10 => ?_
    have hx := And.intro @hq7 (And.intro @Nat.sub_zero (And.intro @q4 hx0))
    refine u_reg ?_
    try refine lg_mk ?_
    refine u_mv (hq := by (first | (omega) | exact sd_)) ?_
    refine u_mv (hq := by (first | (omega) | exact sd_)) ?_
    refine u_ln (hq := by (first | (omega) | exact sd_)) ?_
    refine u_bn (hq := by (first | (omega) | exact sd_)) ?_
    refine u_sl (hq := by (first | (omega) | exact sd_)) ?_
    refine u_mv (hq := by (first | (omega) | exact sd_)) ?_
    refine lg_nil ?_
    have hx := hx0
    refine h10 _ ?_; clear h10; try clear N10
    refine vc_seq_k fun N11 h11 => ?_
    refine vc_seq_k fun N12 h12 => ?_
    have hx := And.intro @Nat.sub_zero (And.intro @q4 hx0)
    refine u_reg ?_
    try refine lg_mk ?_
    refine u_mv (hq := by (first | (omega) | exact sd_)) ?_
    have hc := call_rule (E := (E_digOf4.at_ 125)) (f := 24) (sp := Spec.pure ofG) rfl
    have hs := @ofG.eq_1
    refine u_cp (hq := by (first | (first | exact ⟨rfl, by omega⟩ | exact ⟨trivial, by omega⟩ | omega) | exact sd_)) ?_
    refine u_mv (hq := by (first | (omega) | exact sd_)) ?_
    refine u_ex (hq := by (first | (omega) | exact sd_)) ?_
    refine u_ex (hq := by (first | (omega) | exact sd_)) ?_
    refine u_al (hq := by (first | (omega) | exact sd_)) ?_
    refine u_mv (hq := by (first | (omega) | exact sd_)) ?_
    refine u_st (hq := by (first | (omega) | exact sd_)) ?_
    refine lg_nil ?_
    have hx := hx0
    refine h12 _ ?_; clear h12; try clear N12
    refine vc_seq_k fun N13 h13 => ?_
    have hx := And.intro @q5 (And.intro @q8 hx0)
    refine vc_regO [25] [0, 2, 3, 4, 5, 1, 6, 7] hmix (by kernel_rfl) ?_
    simp only [pick_rules, list_rules]
    try refine lg_mk ?_
    refine u_mv (hq := by (first | (omega) | exact sd_)) ?_
    refine u_mv (hq := by (first | (omega) | exact sd_)) ?_
    refine u_mv (hq := by (first | (omega) | exact sd_)) ?_
    refine u_ln (hq := by (first | (omega) | exact sd_)) ?_
    refine u_sl (hq := by (first | (omega) | exact sd_)) ?_
    have hc := call_rule (E := (E_digOf4.at_ 125)) (f := 25) (sp := Spec.pure bigG) rfl
    have hs := @bigG.eq_1
    refine u_hp (hq := by (first | (omega) | exact sd_)) ?_
    have hc := call_rule (E := (E_digOf4.at_ 125)) (f := 30) (sp := Spec.pure beqG) rfl
    have hs := @beqG.eq_1
    refine u_cp (hq := by (first | (omega) | exact sd_)) ?_
    refine u_un (hq := by (first | (omega) | exact sd_)) ?_
    refine lg_nil ?_
    have hx := hx0
    refine h13 _ ?_; clear h13; try clear N13
    refine u_cond (fun hb14 => ?_) (fun hb14 => ?_)
    ·first | omega | exact absurd trivial hb14 | contradiction | (simp_all; done)
    ·refine vc_skip ?_
     try simp only [k_rules]
     refine h11 _ ?_; clear h11; try clear N11
     refine vc_seq_k fun N15 h15 => ?_
     have hx := And.intro @hpr (And.intro @hpr2 hx0)
     refine u_reg ?_
     try refine lg_mk ?_
     refine u_mv (hq := by (first | (omega) | exact sd_)) ?_
     refine u_sl (hq := by (first | (omega) | exact sd_)) ?_
     refine u_mv (hq := by (first | (omega) | exact sd_)) ?_
     refine lg_nil ?_
     have hx := hx0
     refine h15 _ ?_; clear h15; try clear N15
     refine vc_seq_m (σ := Unit) (fun s => (fun u => True) s)
      (fun s => (fun u => [(0, .d (.sl (rows eU (pkB S)))), (2, .ptr 0 0 0), (4, .ptr 1 0 0), (5, .ptr 2 0 0), (6, .d (.sl (rows idxE (idxS S))))]) s)
      (fun s => (fun u => [some (.one 24 [.d .nils]), some (.one 30 [.d (.int .i64 0), .d (.int .i64 0)]), some (.one 24 [.d (.sl (rows eO S))])]) s) hnp ?_ ?_
     ·rintro u hinv
      dsimp only at hinv ⊢
      refine vc_seq_k fun N17 h17 => ?_
      refine vc_seq_k fun N18 h18 => ?_
      have hx := And.intro @hok hx0
      refine u_reg ?_
      try refine lg_mk ?_
      refine u_ld (hq := by (first | (omega) | exact sd_)) ?_
      have hc := call_rule (E := (E_digOf4.at_ 125)) (f := 14) (sp := Spec.pure bldG) rfl
      have hs := @bldG.eq_1
      refine u_hp (hq := by (first | (exact hv) | exact sd_)) ?_
      refine u_mv (hq := by (first | (omega) | exact sd_)) ?_
      refine u_ex (hq := by (first | (omega) | exact sd_)) ?_
      refine u_ex (hq := by (first | (omega) | exact sd_)) ?_
      refine u_mv (hq := by (first | (omega) | exact sd_)) ?_
      refine u_mv (hq := by (first | (omega) | exact sd_)) ?_
      refine lg_nil ?_
      have hx := hx0
      refine h18 _ ?_; clear h18; try clear N18
      refine vc_seq_k fun N19 h19 => ?_
      have hx := And.intro @hst1 (And.intro @hst2 hx0)
      refine u_reg ?_
      try refine lg_mk ?_
      refine u_mv (hq := by (first | (omega) | exact sd_)) ?_
      refine u_un (hq := by (first | (omega) | exact sd_)) ?_
      refine u_mv (hq := by (first | (omega) | exact sd_)) ?_
      refine s_ld (hq := by (intro hg; (try simp only [b_rules, bif_and, bif_or] at hg); (first | (omega) | exact sd_))) ?_
      have hc := call_rule (E := (E_digOf4.at_ 125)) (f := 13) (sp := Spec.pure valG) rfl
      have hs := @valG.eq_1
      refine s_cp (hq := by (intro hg; (try simp only [b_rules, bif_and, bif_or] at hg); (first | (exact ⟨by omega, small_of hv⟩) | exact sd_))) ?_
      refine s_bd (hq := by (intro hg; (try simp only [b_rules, bif_and, bif_or] at hg); (first | (omega) | exact sd_))) ?_
      refine s_bn (hq := by (intro hg; (try simp only [b_rules, bif_and, bif_or] at hg); (first | (omega) | exact sd_))) ?_
      refine u_pk (hq := by (first | (omega) | exact sd_)) ?_
      refine u_mv (hq := by (first | (omega) | exact sd_)) ?_
      refine s_mv (hq := by (intro hg; (try simp only [b_rules, bif_and, bif_or] at hg); (first | (omega) | exact sd_))) ?_
      refine s_mv (hq := by (intro hg; (try simp only [b_rules, bif_and, bif_or] at hg); (first | (omega) | exact sd_))) ?_
      have hc := call_rule (E := (E_digOf4.at_ 125)) (f := 30) (sp := Spec.pure beqG) rfl
      have hs := @beqG.eq_1
      refine s_cp (hq := by (intro hg; (try simp only [b_rules, bif_and, bif_or] at hg); (first | (omega) | exact sd_))) ?_
      refine s_un (hq := by (intro hg; (try simp only [b_rules, bif_and, bif_or] at hg); (first | (omega) | exact sd_))) ?_
      refine u_pk (hq := by (first | (omega) | exact sd_)) ?_
      refine lg_nil ?_
      have hx := hx0
      refine h19 _ ?_; clear h19; try clear N19
      refine u_cond (fun hb20 => ?_) (fun hb20 => ?_)
      ·first | omega | exact absurd trivial hb20 | contradiction | (simp_all; done)
      ·refine vc_skip ?_
       try simp only [k_rules]
       refine h17 _ ?_; clear h17; try clear N17
       refine vc_seq_k fun N21 h21 => ?_
       refine u_reg ?_
       try refine lg_mk ?_
       refine u_ld (hq := by (first | (omega) | exact sd_)) ?_
       refine u_mv (hq := by (first | (omega) | exact sd_)) ?_
       refine u_bd (hq := by (first | (omega) | exact sd_)) ?_
       refine u_st (hq := by (first | (omega) | exact sd_)) ?_
       refine u_mv (hq := by (first | (omega) | exact sd_)) ?_
       refine u_st (hq := by (first | (omega) | exact sd_)) ?_
       refine lg_nil ?_
       refine h21 _ ?_; clear h21; try clear N21
       refine vc_ret ?_
       try simp only [k_rules]
       refine fin2_ ?_
       exact cl_
     ·intro N16 h16
      refine vc_seq_k fun N22 h22 => ?_
      refine vc_nil1 2 0 _ 4 (vec_nil 65 4) rfl rfl rfl ?_
      simp only [updL, List.set, List.cons_append, List.nil_append]
      have hx := And.intro @q3 (And.intro @eU.eq_1 (And.intro @hb2 hx0))
      refine u_reg ?_
      try refine lg_mk ?_
      refine u_mv (hq := by (first | (omega) | exact sd_)) ?_
      refine u_pt (hq := by (first | (omega) | exact sd_)) ?_
      refine u_ld (hq := by (first | (omega) | exact sd_)) ?_
      refine u_cv (hq := by (first | (omega) | exact sd_)) ?_
      refine u_mv (hq := by (first | (omega) | exact sd_)) ?_
      refine lg_nil ?_
      have hx := hx0
      refine h22 _ ?_; clear h22; try clear N22
      refine vc_block ?_
      refine vc_loop_mk (σ := Nat) (fun s => (fun i => i ≤ S.length) s)
       (fun s => (fun i => [(0, .d (.sl (rows eU (pkB S)))), (2, .ptr 0 0 0), (4, .ptr 1 0 0), (5, .ptr 2 0 0), (6, .sl 5 0 i), (7, .d (.sl (rows eU (pk0 S.length S)))), (9, .ptr 3 0 0), (10, .d (.sl (rows eU (restB S i)))), (53, .d (.int .i64 (S.length : Nat))), (54, .d (.int .i64 (i : Nat)))]) s)
       (fun s => (fun i => [some (.one 24 [.d .nils]), some (.one 30 [.d (.int .i64 0), .d (.int .i64 0)]), some (.one 24 [.sl 4 0 i]), some (.one 30 [.d (.int .i64 0), .d (.int .i64 0)]), some (.vec 65 4 (rows eO (S.take i))), some (.vec 88 3 (rows idxE ((idxS S).take i)))]) s) (fun s => (fun i => S.length - i) s) hnp 0 ?_ [some 0, some 1, some 2, some 3, some 4, none] ?_ ?_
      ·dsimp only
       omega
      ·dsimp only
       refine ⟨by rfl, ?_, ?_⟩
       ·refine fin_ ?_
        exact cl_
       ·refine fin_ ?_
        exact cl_
      ·rintro i hinv N23 h23
       dsimp only at hinv ⊢
       have i1 := hinv
       have hil := idxS_len S
       have htk : (S.take i).take i = S.take i := List.take_of_length_le (by simp; omega)
       have hti : ((idxS S).take i).take i = (idxS S).take i := List.take_of_length_le (by simp; omega)
       refine vc_seq_k fun N24 h24 => ?_
       refine u_reg ?_
       try refine lg_mk ?_
       refine u_bn (hq := by (first | (omega) | exact sd_)) ?_
       refine lg_nil ?_
       refine h24 _ ?_; clear h24; try clear N24
       refine vc_seq_k fun N25 h25 => ?_
       refine u_cond (fun hb26 => ?_) (fun hb26 => ?_)
       ·obtain ⟨x, hxe⟩ := getE (l := S) (i := i) (by omega)
        have hxo := hv.ok x (mem_at hxe)
        have hra := restB_at hxe
        have hrl := restB_le S i
        have hrl2 := restB_le S (i + 1)
        have hdg := hv.dg x (mem_at hxe)
        have hsn := take_snoc hxe
        have his := idxS_snoc hxe
        have hil := idxS_len S
        obtain ⟨hdo, hdp⟩ := dec_ent hxo (restB S (i + 1))
        rw [← hra] at hdo hdp
        obtain ⟨d, o⟩ := x
        obtain ⟨k, l, u⟩ := o
        dsimp only at hxo hra hdg hsn his hdo hdp
        have hof := objF_of hxo
        have hof1 : (objF ⟨k, l, u⟩).1 = 0 := by rw [hof]
        have hof2 : (objF ⟨k, l, u⟩).2 = 0 := by rw [hof]
        have hd0 : objD0 ⟨k, l, u⟩ = d := by unfold objD0; rw [if_neg (by rw [hof1]; simp)]; exact hdg
        have hol : l.length ≤ 30 := hxo.ln
        have hou : u.length ≤ 1000 := hxo.da
        refine vc_skip ?_
        try simp only [k_rules]
        refine h25 _ ?_; clear h25; try clear N25
        refine vc_seq_k fun N27 h27 => ?_
        refine vc_block ?_
        refine vc_seq_k fun N28 h28 => ?_
        have hx := And.intro @hdo (And.intro @hdp hx0)
        refine u_reg ?_
        try refine lg_mk ?_
        refine u_mv (hq := by (first | (omega) | exact sd_)) ?_
        have hc := call_rule (E := (E_digOf4.at_ 125)) (f := 31) (sp := Spec.pure objPG) rfl
        have hs := @objPG.eq_1
        refine u_hp (hq := by (first | (exact ⟨_, _, hxo, by rw [hra], by rw [← hra]; omega⟩) | exact sd_)) ?_
        refine u_mv (hq := by (first | (omega) | exact sd_)) ?_
        refine u_ex (hq := by (first | (omega) | exact sd_)) ?_
        refine u_ex (hq := by (first | (omega) | exact sd_)) ?_
        refine u_ex (hq := by (first | (omega) | exact sd_)) ?_
        refine u_al (hq := by (first | (omega) | exact sd_)) ?_
        refine u_st (hq := by (first | (omega) | exact sd_)) ?_
        refine u_mv (hq := by (first | (omega) | exact sd_)) ?_
        refine u_mv (hq := by (first | (omega) | exact sd_)) ?_
        refine lg_nil ?_
        have hx := hx0
        refine h28 _ ?_; clear h28; try clear N28
        refine vc_seq_k fun N29 h29 => ?_
        have hx := And.intro @hd0 (And.intro @hof1 (And.intro @hof2 hx0))
        refine u_reg ?_
        try refine lg_mk ?_
        refine u_ld (hq := by (first | (omega) | exact sd_)) ?_
        have hc := call_rule (E := (E_digOf4.at_ 125)) (f := 20) (sp := Spec.pure digestG) rfl
        have hs := @digestG.eq_1
        refine u_cp (hq := by (first | (exact ⟨by dsimp only; omega, by dsimp only; omega⟩) | exact sd_)) ?_
        refine u_mv (hq := by (first | (omega) | exact sd_)) ?_
        refine u_ex (hq := by (first | (omega) | exact sd_)) ?_
        refine u_ex (hq := by (first | (omega) | exact sd_)) ?_
        refine u_al (hq := by (first | (omega) | exact sd_)) ?_
        refine u_mv (hq := by (first | (omega) | exact sd_)) ?_
        refine u_st (hq := by (first | (omega) | exact sd_)) ?_
        refine lg_nil ?_
        have hx := hx0
        refine h29 _ ?_; clear h29; try clear N29
        refine vc_seq_k fun N30 h30 => ?_
        refine vc_seq_k fun N31 h31 => ?_
        refine u_reg ?_
        try refine lg_mk ?_
        refine u_mv (hq := by (first | (omega) | exact sd_)) ?_
        refine u_un (hq := by (first | (omega) | exact sd_)) ?_
        refine u_mv (hq := by (first | (omega) | exact sd_)) ?_
        refine s_ld (hq := by (intro hg; (try simp only [b_rules, bif_and, bif_or] at hg); (first | (omega) | exact sd_))) ?_
        refine s_bd (hq := by (intro hg; (try simp only [b_rules, bif_and, bif_or] at hg); (first | (omega) | exact sd_))) ?_
        refine s_bn (hq := by (intro hg; (try simp only [b_rules, bif_and, bif_or] at hg); (first | (omega) | exact sd_))) ?_
        refine u_pk (hq := by (first | (omega) | exact sd_)) ?_
        refine lg_nil ?_
        refine h31 _ ?_; clear h31; try clear N31
        refine u_cond (fun hb32 => ?_) (fun hb32 => ?_)
        ·first | omega | exact absurd trivial hb32 | contradiction | (simp_all; done)
        ·refine vc_skip ?_
         try simp only [k_rules]
         refine h30 _ ?_; clear h30; try clear N30
         refine vc_seq_k fun N33 h33 => ?_
         refine u_reg ?_
         try refine lg_mk ?_
         refine u_pt (hq := by (first | (omega) | exact sd_)) ?_
         refine u_ld (hq := by (first | (omega) | exact sd_)) ?_
         refine u_mv (hq := by (first | (omega) | exact sd_)) ?_
         refine u_ld (hq := by (first | (omega) | exact sd_)) ?_
         refine u_bd (hq := by (first | (omega) | exact sd_)) ?_
         refine u_bs (hq := by (first | (omega) | exact sd_)) ?_
         refine u_ap (hq := by (first | (omega) | exact sd_)) ?_
         refine u_pt (hq := by (first | (omega) | exact sd_)) ?_
         refine u_st (hq := by (first | (omega) | exact sd_)) ?_
         refine lg_nil ?_
         refine h33 _ ?_; clear h33; try clear N33
         refine vc_seq_k fun N34 h34 => ?_
         refine u_reg ?_
         try refine lg_mk ?_
         refine u_mv (hq := by (first | (omega) | exact sd_)) ?_
         refine u_mv (hq := by (first | (omega) | exact sd_)) ?_
         refine u_mv (hq := by (first | (omega) | exact sd_)) ?_
         refine u_ln (hq := by (first | (omega) | exact sd_)) ?_
         refine u_mv (hq := by (first | (omega) | exact sd_)) ?_
         refine u_ln (hq := by (first | (omega) | exact sd_)) ?_
         refine u_bn (hq := by (first | (omega) | exact sd_)) ?_
         refine u_mv (hq := by (first | (omega) | exact sd_)) ?_
         refine u_ln (hq := by (first | (omega) | exact sd_)) ?_
         refine u_mv (hq := by (first | (omega) | exact sd_)) ?_
         refine u_ln (hq := by (first | (omega) | exact sd_)) ?_
         refine u_bn (hq := by (first | (omega) | exact sd_)) ?_
         refine u_bd (hq := by (first | (omega) | exact sd_)) ?_
         refine u_bs (hq := by (first | (omega) | exact sd_)) ?_
         refine u_ap (hq := by (first | (omega) | exact sd_)) ?_
         refine u_mv (hq := by (first | (omega) | exact sd_)) ?_
         refine lg_nil ?_
         refine h34 _ ?_; clear h34; try clear N34
         refine u_reg ?_
         try refine lg_mk ?_
         refine u_mv (hq := by (first | (omega) | exact sd_)) ?_
         refine u_mv (hq := by (first | (omega) | exact sd_)) ?_
         refine lg_nil ?_
         refine h27 _ ?_; clear h27; try clear N27
         refine u_reg ?_
         try refine lg_mk ?_
         refine u_bn (hq := by (first | (omega) | exact sd_)) ?_
         refine u_mv (hq := by (first | (omega) | exact sd_)) ?_
         refine lg_nil ?_
         refine h23 _ ⟨i + 1, ?_, ?_, [some 0, some 1, some 2, some 3, some 9, some 11], ?_⟩
         ·dsimp only
          omega
         ·dsimp only
          omega
         ·dsimp only
          refine ⟨by rfl, ?_, ?_⟩
          ·refine fin_ ?_
           (repeat' apply And.intro) <;> (first | (first | rfl | trivial | omega | (rw [hsn, htk]; simp [rows, eO]; done) | (rw [his, hti]; simp [rows, idxE]; done) | (rw [hsn]; simp [rows, eO]; done) | (rw [his]; simp [rows, idxE]; done)) | exact cl_)
          ·refine fin_ ?_
           (repeat' apply And.intro) <;> (first | (first | rfl | trivial | omega | (rw [hsn, htk]; simp [rows, eO]; done) | (rw [his, hti]; simp [rows, idxE]; done) | (rw [hsn]; simp [rows, eO]; done) | (rw [his]; simp [rows, idxE]; done)) | exact cl_)
       ·refine vc_exit ?_
        simp only [k_rules, Nat.reduceEqDiff, reduceIte, eq_self]
        obtain rfl : i = S.length := by omega
        have hil := idxS_len S
        have hit : (idxS S).take S.length = idxS S := List.take_of_length_le (by omega)
        refine h16 _ ⟨(), trivial, [some 0, some 1, some 2], ?_⟩
        ·dsimp only
         refine ⟨by rfl, ?_, ?_⟩
         ·refine fin_ ?_
          (repeat' apply And.intro) <;> (first | (first | rfl | trivial | omega | (rw [hit]; omega) | (rw [hit, hit]; done) | (rw [takeS_len]; done) | (simp; done)) | exact cl_)
         ·refine fin_ ?_
          (repeat' apply And.intro) <;> (first | (first | rfl | trivial | omega | (rw [hit]; omega) | (rw [hit, hit]; done) | (rw [takeS_len]; done) | (simp; done)) | exact cl_)
 ·cases hg

def E_read : Env Try.prog := E_digOf4.add 18 (Spec.pure readG) read_meets (by kernel_rfl)

theorem Read_meets : Meets Try.prog 9 (Spec.pure ReadG) := by
 refine meets_fun (E_read.at_ 15) Try.func9 rfl rfl rfl ?_
 intro args p r hg hp
 unfold ReadG at hg
 split at hg
 ·rename_i xs
  simp only [Option.some.injEq, Prod.mk.injEq] at hg
  obtain ⟨rfl, rfl⟩ := hg
  obtain ⟨S, hv, hok, he⟩ := hp
  subst he
  obtain ⟨q1, q2, q3, q4, q5⟩ := readP hv hok
  rw [dU_rows, q2]
  have hT : (E_read).X = T := rfl
  have hx0 := And.intro @dU_rows (And.intro @dI_rows (And.intro @dO_rows @Try.results9))
  have hx := hx0
  refine ⟨by rfl, ?_⟩
  intro F W0 hnp hmk
  refine vc_seq_k fun N1 h1 => ?_
  refine u_reg ?_
  try refine lg_mk ?_
  refine u_al ?_
  refine u_al ?_
  refine lg_nil ?_
  refine h1 _ ?_; clear h1; try clear N1
  refine vc_seq_k fun N2 h2 => ?_
  have hx := And.intro @q2 hx0
  refine u_reg ?_
  try refine lg_mk ?_
  refine u_mv ?_
  have hc := call_rule (E := (E_read.at_ 15)) (f := 18) (sp := Spec.pure readG) rfl
  have hs := @readG.eq_1
  refine u_hp (hq := by (first | (exact ⟨S, hv, hok, rfl⟩) | exact sd_)) ?_
  refine u_mv ?_
  refine u_ex ?_
  refine u_ex ?_
  refine u_ex ?_
  refine u_al ?_
  refine u_al ?_
  refine u_st ?_
  refine u_mv ?_
  refine u_st ?_
  refine lg_nil ?_
  have hx := hx0
  refine h2 _ ?_; clear h2; try clear N2
  refine vc_seq_k fun N3 h3 => ?_
  refine vc_regT [] (.seq [0] (.alt 1 (.seq [2, 3] .nil) (.alt 2 (.seq [1, 3] .nil) .nil))) hmix (by kernel_rfl) ?_
  refine at_seq ?_
  simp only [pick_rules, list_rules]
  try refine lg_mk ?_
  refine u_ld ?_
  refine lg_nil ?_
  refine at_alt ?_ ?_
  ·simp only [pick_rules, list_rules]
   try refine lg_mk ?_
   refine u_ld ?_
   refine lg_nil ?_
   refine at_seq ?_
   simp only [pick_rules, list_rules]
   try refine lg_mk ?_
   refine u_st ?_
   refine u_st ?_
   refine lg_nil ?_
   refine at_nil ?_
   refine h3 _ ?_; clear h3; try clear N3
   refine vc_ret ?_
   try simp only [k_rules]
   refine fin2_ ?_
   exact cl_
  refine at_alt ?_ ?_
  ·simp only [pick_rules, list_rules]
   try refine lg_mk ?_
   refine u_st ?_
   refine lg_nil ?_
   refine at_seq ?_
   simp only [pick_rules, list_rules]
   try refine lg_mk ?_
   refine u_ld ?_
   refine u_st ?_
   refine lg_nil ?_
   refine at_nil ?_
   refine h3 _ ?_; clear h3; try clear N3
   refine vc_ret ?_
   try simp only [k_rules]
   refine fin2_ ?_
   exact cl_
  exact at_end
 ·cases hg

def E_Read : Env Try.prog := E_read.add 9 (Spec.pure ReadG) Read_meets (by kernel_rfl)
end Go.Proofs.Ytiijkbidkdmilaa
