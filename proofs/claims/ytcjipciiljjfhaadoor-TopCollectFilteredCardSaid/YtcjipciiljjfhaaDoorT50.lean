/- Walks, printed by wip/gen/walk.py. -/
import Derived.Test.YtcjipciiljjfhaaDoorT40
import Derived.Test.YtcjipciiljjfhaaDoorV5
set_option linter.all false
set_option maxRecDepth 100000
set_option maxHeartbeats 4000000
namespace Go.Proofs.YtcjipciiljjfhaaDoor
open Go Go.Vc Go.RowKit
theorem filter_two {α : Type} (l : List α) (p : α → Bool) : (l.filter p).length + (l.filter fun x => !p x).length = l.length := by
  induction l with
  | nil => rfl
  | cons a l ih => cases h : p a <;> simp [List.filter_cons, h] <;> omega
/-- What is kept, what goes. -/
def keS (S : List SO) (R : List Int) : List SO := chs S (mkV S R) true
def goS (S : List SO) (R : List Int) : List SO := chs S (mkV S R) false
theorem ke_is (S : List SO) (R : List Int) : keS S R = S.filter (fun x => decide (x.dg ∈ keysM (reachM S R))) ∧ goS S R = S.filter (fun x => !decide (x.dg ∈ keysM (reachM S R))) := by
  unfold keS goS mkV; rw [chs_map, chs_map]
  exact ⟨List.filter_congr fun x _ => by simp, List.filter_congr fun x _ => by simp⟩
theorem ke_len (S : List SO) (R : List Int) : (keS S R).length + (goS S R).length = S.length := by
  obtain ⟨h1, h2⟩ := ke_is S R
  rw [h1, h2]; exact filter_two S _
theorem ke_mem {S : List SO} (hv : ValS S) (R : List Int) (x : SO) : x ∈ keS S R ↔ x ∈ S ∧ Rch S R x.dg := by
  rw [(ke_is S R).1, List.mem_filter, decide_eq_true_eq, (reach_set R hv).2]
theorem go_mem {S : List SO} (hv : ValS S) (R : List Int) (x : SO) : x ∈ goS S R ↔ x ∈ S ∧ ¬ Rch S R x.dg := by
  rw [(ke_is S R).2, List.mem_filter]
  simp only [Bool.not_eq_true', decide_eq_false_iff_not, (reach_set R hv).2]
theorem ke_val {S : List SO} (hv : ValS S) (R : List Int) : ValS (keS S R) := by
  have hs : List.Sublist (keS S R) S := by rw [(ke_is S R).1]; exact List.filter_sublist
  exact ⟨Nat.le_trans hs.length_le hv.len, fun x hx => hv.ok x (hs.subset hx), fun x hx => hv.dg x (hs.subset hx), List.Pairwise.sublist (List.Sublist.map _ hs) hv.sort⟩
theorem ke_dgs {S : List SO} (hv : ValS S) (R : List Int) (d : Int) : d ∈ dgs (keS S R) ↔ Rch S R d := by
  constructor
  · intro h
    obtain ⟨x, hx, rfl⟩ := List.mem_map.1 h
    exact ((ke_mem hv R x).1 hx).2
  · intro h
    obtain ⟨x, hx, rfl⟩ := List.mem_map.1 h.mem
    exact List.mem_map.2 ⟨x, (ke_mem hv R x).2 ⟨hx, h⟩, rfl⟩
theorem ke_rch {S : List SO} (hv : ValS S) {R : List Int} {d : Int} (h : Rch S R d) : Rch (keS S R) R d := by
  induction h with
  | root h1 h2 => exact .root h1 ((ke_dgs hv R _).2 (.root h1 h2))
  | step h1 h2 h3 h4 ih => exact .step ((ke_mem hv R _).2 ⟨h1, h2⟩) ih h3 ((ke_dgs hv R _).2 (.step h1 h2 h3 h4))
theorem ke_again {S : List SO} (hv : ValS S) (R : List Int) : keS (keS S R) R = keS S R ∧ goS (keS S R) R = [] := by
  have hw := ke_val hv R
  have hall : ∀ x ∈ keS S R, Rch (keS S R) R x.dg := fun x hx => ke_rch hv ((ke_mem hv R x).1 hx).2
  have key : ∀ x ∈ keS S R, decide (x.dg ∈ keysM (reachM (keS S R) R)) = true := fun x hx => decide_eq_true (((reach_set R hw).2 x.dg).2 (hall x hx))
  obtain ⟨h1, h2⟩ := ke_is (keS S R) R
  rw [h1, h2]
  exact ⟨List.filter_eq_self.2 key, List.filter_eq_nil_iff.2 fun x hx => by rw [key x hx]; simp⟩
theorem ke_links {S : List SO} (hv : ValS S) (R : List Int) : ∀ d ∈ insA (misA (keS S R)), atS S d = -1 := by
  intro d hd
  have hm := ((insA_ok _).2 d).1 hd
  unfold misA at hm
  rw [List.mem_filter, List.mem_flatMap] at hm
  obtain ⟨⟨y, hy, hyd⟩, hn⟩ := hm
  have hn : d ∉ dgs (keS S R) := by
    intro h
    have : inS (keS S R) d = true := decide_eq_true h
    rw [this] at hn; simp at hn
  obtain ⟨h1, h2⟩ := (ke_mem hv R y).1 hy
  have hs : d ∉ dgs S := fun h => hn ((ke_dgs hv R d).2 (.step h1 h2 hyd h))
  unfold atS
  rw [if_neg]
  unfold inS
  rw [decide_eq_false hs]; simp
theorem rch_mono {S : List SO} {R R' : List Int} (h : ∀ x ∈ R', x ∈ R) {d : Int} (hr : Rch S R' d) : Rch S R d := by
  induction hr with
  | root h1 h2 => exact .root (h _ h1) h2
  | step h1 _ h3 h4 ih => exact .step h1 ih h3 h4
theorem held_mono {l : List Rf} {L : List Le} {t t' : Int} (h : t ≤ t') : ∀ x ∈ held l L t', x ∈ held l L t := by
  intro x hx
  unfold held heldK at *
  rw [List.take_length] at *
  rcases List.mem_append.1 hx with hx | hx
  · exact List.mem_append.2 (.inl hx)
  · obtain ⟨y, hy, rfl⟩ := List.mem_map.1 hx
    obtain ⟨h1, h2⟩ := List.mem_filter.1 hy
    refine List.mem_append.2 (.inr (List.mem_map.2 ⟨y, List.mem_filter.2 ⟨h1, ?_⟩, rfl⟩))
    have := of_decide_eq_true h2
    exact decide_eq_true (by omega)
theorem go_mono {S : List SO} (hv : ValS S) {R R' : List Int} (h : ∀ x ∈ R', x ∈ R) : ∀ d ∈ dgs (goS S R), d ∈ dgs (goS S R') := by
  intro d hd
  obtain ⟨x, hx, rfl⟩ := List.mem_map.1 hd
  obtain ⟨h1, h2⟩ := (go_mem hv R x).1 hx
  exact List.mem_map.2 ⟨x, (go_mem hv R' x).2 ⟨h1, fun hr => h2 (rch_mono h hr)⟩, rfl⟩
theorem ke_mono {S : List SO} (hv : ValS S) {R R' : List Int} (h : ∀ x ∈ R', x ∈ R) : ∀ x ∈ keS S R', inS (keS S R) x.dg = true := by
  intro x hx
  exact decide_eq_true ((ke_dgs hv R _).2 (rch_mono h ((ke_mem hv R' x).1 hx).2))
theorem held50 {l : List Rf} {L : List Le} {t : Int} (h1 : l.length ≤ 30) (h2 : L.length ≤ 20) : (held l L t).length ≤ 50 := by
  have := held_len l L t L.length
  unfold held; omega
theorem col_or (S : List SO) (l : List Rf) (L : List Le) (t : Int) : ((colF S l L t).1 ≠ 0 ∧ colS S l L t = [] ∧ colD S l L t = []) ∨
    (colF S l L t = (0, 0) ∧ ValS S ∧ l.length ≤ 30 ∧ L.length ≤ 20 ∧ colS S l L t = keS S (held l L t) ∧ colD S l L t = dgs (goS S (held l L t))) := by
  by_cases h : (colF S l L t).1 ≠ 0
  · exact .inl ⟨h, by unfold colS; rw [if_pos h], by unfold colD; rw [if_pos h]⟩
  · have h0 : (colF S l L t).1 = 0 := by omega
    refine .inr ?_
    have hS : colS S l L t = keS S (held l L t) := by unfold colS keS; rw [if_neg h]
    have hD : colD S l L t = dgs (goS S (held l L t)) := by unfold colD goS; rw [if_neg h]
    unfold colF at h0 ⊢
    rcases stF_or S with ⟨hs, hv⟩ | hs
    · rw [if_neg (by rw [hs]; simp)] at h0 ⊢
      rcases rfF_or l with ⟨r1, r2, r3⟩ | hr
      · rw [if_neg (by rw [r1]; simp)] at h0 ⊢
        rcases leF_or L t with ⟨l1, l2, l3⟩ | hl
        · exact ⟨Prod.ext l1 l2, hv, r3, l3, hS, hD⟩
        · exact absurd h0 hl
      · rw [if_pos hr] at h0; exact absurd h0 hr
    · rw [if_pos hs] at h0; exact absurd h0 hs
theorem col_again {S : List SO} {l : List Rf} {L : List Le} {t : Int} (h : colF S l L t = (0, 0)) (hv : ValS S) : colF (keS S (held l L t)) l L t = (0, 0) ∧ colS (keS S (held l L t)) l L t = keS S (held l L t) ∧ colD (keS S (held l L t)) l L t = [] := by
  have hw := ke_val hv (held l L t)
  have hf : colF (keS S (held l L t)) l L t = (0, 0) := by
    unfold colF at h ⊢
    rw [stF_of hv] at h
    rw [stF_of hw]; exact h
  obtain ⟨g1, g2⟩ := ke_again hv (held l L t)
  refine ⟨hf, ?_, ?_⟩
  · unfold colS; rw [hf, if_neg (by simp)]; exact g1
  · unfold colD; rw [hf, if_neg (by simp)]
    show dgs (goS (keS S (held l L t)) (held l L t)) = []
    rw [g2]; rfl
theorem gcx_1 : colF exS (dR []) (dW []) 0 = (0, 0) ∧ colS exS (dR []) (dW []) 0 = [] ∧ colD exS (dR []) (dW []) 0 = [17106956, 1662115313083863167] := by decide +kernel
theorem gcx_2 : dR [] = [] ∧ dW [] = [] := ⟨rfl, rfl⟩
theorem gcx_3 : colF exS [] [] 0 = (0, 0) ∧ colS exS [] [] 0 = [] ∧ colD exS [] [] 0 = [17106956, 1662115313083863167] := gcx_1
theorem ex_r : smallR [] := fun r h => by cases h

/-- What is filtered. -/
def big (L : Int) (x : SO) : Bool := decide (x.ob.kd = 1) && decide (L < (x.ob.da.length : Int))
def filF (S : List SO) (L : Int) : Int × Int := if (stF S).1 ≠ 0 then stF S else if L < 0 ∨ 1000 < L then (3, -1) else (0, 0)
def filS (S : List SO) (L : Int) : List SO := if (filF S L).1 ≠ 0 then [] else S.filter fun x => !big L x
def filP (S : List SO) (L : Int) : List Int := if (filF S L).1 ≠ 0 then [] else dgs (S.filter (big L))
theorem filter_snoc {α : Type} {l : List α} {i : Nat} {x : α} (h : l[i]? = some x) (Q : α → Bool) : (l.take (i + 1)).filter Q = (l.take i).filter Q ++ if Q x = true then [x] else [] := by
  rw [List.take_add_one, h, List.filter_append]
  cases hq : Q x <;> simp [hq]

def filG : List AV → Option (Prop × AV)
  | [.agg [.d (.sl xs)], .d (.int .i64 n)] => some (xs = rows eO (dO xs) ∧ (dO xs).length ≤ 9223372036854775807 ∧ smallS (dO xs),
      .tup [.agg [.d (.sl (rows eO (filS (dO xs) n)))], .d (.sl (rows eI (filP (dO xs) n))), .agg [.d (.int .i64 (filF (dO xs) n).1), .d (.int .i64 (filF (dO xs) n).2)]])
  | _ => none

theorem takeI_ap (S : List Int) (x : Int) : (S ++ [x]).take (S.length + 1) = S ++ [x] := List.take_of_length_le (by simp)
theorem takeDg_ap (S : List SO) (x : Int) : (dgs S ++ [x]).take (S.length + 1) = dgs S ++ [x] := List.take_of_length_le (by simp [dgs])

theorem filt_meets : Meets Tryd.prog 6 (Spec.pure filG) := by
 refine meets_fun (E_collect.at_ 62) Tryd.func6 rfl rfl rfl ?_
 intro args p r hg hp
 unfold filG at hg
 split at hg
 ·rename_i xs n
  simp only [Option.some.injEq, Prod.mk.injEq] at hg
  obtain ⟨rfl, rfl⟩ := hg
  obtain ⟨he, hl, hsm⟩ := hp
  generalize dO xs = S at *
  subst he
  have hT : (E_collect).X = T := rfl
  have hx0 := And.intro @rect_eO (And.intro @dI_rows (And.intro @dU_rows (And.intro @dO_rows (And.intro @dec_t (And.intro @dec_f (And.intro @eO_snoc (And.intro @takeS_len (And.intro @takeI_len (And.intro @dgs_len (And.intro @takeDg_len (And.intro @eI_snoc @Tryd.results6)))))))))))
  have hx := hx0
  refine ⟨by rfl, ?_⟩
  intro F W0 hnp hmk
  refine vc_seq_k fun N1 h1 => ?_
  refine u_reg ?_
  try refine lg_mk ?_
  refine u_bx ?_
  refine u_al ?_
  refine u_mv ?_
  refine u_al ?_
  refine lg_nil ?_
  refine h1 _ ?_; clear h1; try clear N1
  refine vc_seq_k fun N2 h2 => ?_
  refine vc_seq_k fun N3 h3 => ?_
  refine u_reg ?_
  try refine lg_mk ?_
  refine u_ld ?_
  have hc := call_rule (E := (E_collect.at_ 62)) (f := 11) (sp := Spec.pure valG) rfl
  have hs := @valG.eq_1
  refine u_cp (hq := by (first | (exact ⟨hl, hsm⟩) | exact sd_)) ?_
  refine u_al ?_
  refine u_st ?_
  refine lg_nil ?_
  refine h3 _ ?_; clear h3; try clear N3
  refine vc_seq_k fun N4 h4 => ?_
  rcases stF_or S with ⟨hvx, hv⟩ | hvx
  ·have hz1 : (stF S).1 = 0 := by rw [hvx]
   have hz2 : (stF S).2 = 0 := by rw [hvx]
   have hlen := hv.len
   refine u_reg ?_
   try refine lg_mk ?_
   refine u_ld ?_
   refine u_bd ?_
   refine u_bn ?_
   refine lg_nil ?_
   refine h4 _ ?_; clear h4; try clear N4
   refine u_cond (fun hb5 => ?_) (fun hb5 => ?_)
   ·exact absurd (And.intro hz1 hz2) (by have := hb5; simpa using this)
   ·refine vc_skip ?_
    try simp only [k_rules]
    refine h2 _ ?_; clear h2; try clear N2
    refine vc_seq_k fun N6 h6 => ?_
    refine vc_seq_k fun N7 h7 => ?_
    refine u_reg ?_
    try refine lg_mk ?_
    refine u_mv ?_
    refine u_bn ?_
    refine u_mv ?_
    refine g_mv ?_
    refine g_bn ?_
    refine u_pk ?_
    refine lg_nil ?_
    refine h7 _ ?_; clear h7; try clear N7
    refine u_cond (fun hb8 => ?_) (fun hb8 => ?_)
    ·refine vc_seq_k fun N9 h9 => ?_
     refine u_reg ?_
     try refine lg_mk ?_
     refine u_bd ?_
     refine u_bd ?_
     refine u_st ?_
     refine u_mv ?_
     refine u_st ?_
     refine lg_nil ?_
     refine h9 _ ?_; clear h9; try clear N9
     refine vc_ret ?_
     try simp only [k_rules]
     have hr : filF S n = (3, -1) := by unfold filF; rw [if_neg (by rw [hz1]; simp), if_pos (by have := hb8; (try simp at this); omega)]
     have hr2 : filS S n = [] := by unfold filS; rw [hr]; exact if_pos (by decide)
     have hr3 : filP S n = [] := by unfold filP; rw [hr]; exact if_pos (by decide)
     rw [hr, hr2, hr3]
     refine fin2_ ?_
     exact cl_
    ·refine vc_skip ?_
     try simp only [k_rules]
     refine h6 _ ?_; clear h6; try clear N6
     refine vc_seq_k fun N10 h10 => ?_
     refine u_reg ?_
     try refine lg_mk ?_
     refine u_al ?_
     refine lg_nil ?_
     refine h10 _ ?_; clear h10; try clear N10
     refine vc_seq_k fun N11 h11 => ?_
     refine u_reg ?_
     try refine lg_mk ?_
     refine u_mv ?_
     refine lg_nil ?_
     refine h11 _ ?_; clear h11; try clear N11
     refine vc_seq_k fun N12 h12 => ?_
     refine vc_seq_k fun N13 h13 => ?_
     refine u_reg ?_
     try refine lg_mk ?_
     refine u_ld ?_
     have hc := call_rule (E := (E_collect.at_ 62)) (f := 15) (sp := Spec.fresh copyG) rfl
     have hs := @copyG.eq_1
     refine u_hg (hq := by (first | (exact hv) | exact sd_)) ?_
     refine u_pt ?_
     refine u_ln ?_
     refine u_mv ?_
     refine lg_nil ?_
     refine h13 _ ?_; clear h13; try clear N13
     refine vc_block ?_
     refine vc_nil1 4 0 _ 4 (vec_nil 58 4) rfl rfl rfl ?_
     simp only [updL, List.set, List.cons_append, List.nil_append]
     refine vc_loop_mk (σ := Nat) (fun s => (fun i => i ≤ S.length) s)
      (fun s => (fun i => [(1, .d (.int .i64 n)), (2, .ptr 0 0 0), (4, .ptr 1 0 0), (6, .ptr 2 0 0), (8, .ptr 4 0 0), (9, .sl 7 0 ((S.take i).filter (big n)).length), (29, .sl 5 0 S.length), (30, .d (.int .i64 (S.length : Nat))), (31, .d (.int .i64 (i : Nat)))]) s)
      (fun s => (fun i => [some (.one 24 [.d (.sl (rows eO S))]), some (.one 24 [.d .nils]), some (.one 33 [.d (.int .i64 0), .d (.int .i64 0)]), some (.one 33 [.d (.int .i64 0), .d (.int .i64 0)]), some (.one 24 [.sl 6 0 ((S.take i).filter fun x => !big n x).length]), some (.vec 58 4 (rows eO S)), some (.vec 58 4 (rows eO ((S.take i).filter fun x => !big n x))), some (.vec 3 1 (rows eI (dgs ((S.take i).filter (big n)))))]) s) (fun s => (fun i => S.length - i) s) hnp 0 ?_ [some 0, some 1, some 2, some 3, some 4, some 5, some 6, none] ?_ ?_
     ·dsimp only
      omega
     ·dsimp only
      refine ⟨by rfl, ?_, ?_⟩
      ·refine fin_ ?_
       exact cl_
      ·refine fin_ ?_
       exact cl_
     ·rintro i hinv N14 h14
      dsimp only at hinv ⊢
      have i1 := hinv
      refine vc_seq_k fun N15 h15 => ?_
      refine u_reg ?_
      try refine lg_mk ?_
      refine u_bn ?_
      refine lg_nil ?_
      refine h15 _ ?_; clear h15; try clear N15
      refine vc_seq_k fun N16 h16 => ?_
      refine u_cond (fun hb17 => ?_) (fun hb17 => ?_)
      ·obtain ⟨x, hxe⟩ := getE (l := S) (i := i) (by omega)
       have hxo := hv.ok x (mem_at hxe)
       have hsk := filter_snoc hxe (fun x => !big n x)
       have hsg := filter_snoc hxe (big n)
       have hda := hxo.da
       have hkl : ((S.take i).filter fun x => !big n x).length ≤ i := Nat.le_trans (List.length_filter_le ..) (by rw [List.length_take]; omega)
       have hgl : ((S.take i).filter (big n)).length ≤ i := Nat.le_trans (List.length_filter_le ..) (by rw [List.length_take]; omega)
       obtain ⟨d, o⟩ := x
       obtain ⟨k, l, u⟩ := o
       refine vc_skip ?_
       try simp only [k_rules]
       refine h16 _ ?_; clear h16; try clear N16
       refine vc_seq_k fun N18 h18 => ?_
       refine vc_block ?_
       refine vc_seq_k fun N19 h19 => ?_
       have hx := And.intro @hxe (And.intro @eO.eq_1 hx0)
       refine u_reg ?_
       try refine lg_mk ?_
       refine u_pt ?_
       refine u_ld ?_
       refine u_al ?_
       refine u_st ?_
       refine lg_nil ?_
       have hx := hx0
       refine h19 _ ?_; clear h19; try clear N19
       refine vc_seq_k fun N20 h20 => ?_
       by_cases hk : k = 1
       ·have hq1 : decide (k = 1) = true := decide_eq_true hk
        have hx := And.intro @hq1 hx0
        refine u_reg ?_
        try refine lg_mk ?_
        refine u_pt ?_
        refine u_pt ?_
        refine u_ld ?_
        refine u_bn ?_
        refine u_mv ?_
        refine g_pt ?_
        refine g_pt ?_
        refine g_ld ?_
        refine g_ln ?_
        refine g_mv ?_
        refine g_bn ?_
        refine u_pk ?_
        refine lg_nil ?_
        have hx := hx0
        refine h20 _ ?_; clear h20; try clear N20
        refine u_cond (fun hb21 => ?_) (fun hb21 => ?_)
        ·refine u_reg ?_
         try refine lg_mk ?_
         refine u_mv ?_
         refine u_pt ?_
         refine u_ld ?_
         refine u_bs ?_
         refine u_ap ?_
         refine u_mv ?_
         refine lg_nil ?_
         refine h18 _ ?_; clear h18; try clear N18
         refine u_reg ?_
         try refine lg_mk ?_
         refine u_bn ?_
         refine u_mv ?_
         refine lg_nil ?_
         have hbg : big n ⟨d, ⟨k, l, u⟩⟩ = true := by unfold big; rw [hq1]; have := hb21; simpa using this
         rw [hbg] at hsk hsg
         rw [if_neg (by simp), List.append_nil] at hsk
         rw [if_pos rfl] at hsg
         refine h14 _ ⟨i + 1, ?_, ?_, [some 0, some 1, some 2, some 3, some 4, some 5, some 6, some 10], ?_⟩
         ·dsimp only
          omega
         ·dsimp only
          omega
         ·dsimp only
          refine ⟨by rfl, ?_, ?_⟩
          ·refine fin_ ?_
           (repeat' apply And.intro) <;> (first | (first | rfl | trivial | omega | (rw [hsk]; done) | (rw [hsg]; done) | (rw [hsk]; simp; done) | (rw [hsg]; simp; done) | (rw [hsg]; simp [dgs]; done)) | exact cl_)
          ·refine fin_ ?_
           (repeat' apply And.intro) <;> (first | (first | rfl | trivial | omega | (rw [hsk]; done) | (rw [hsg]; done) | (rw [hsk]; simp; done) | (rw [hsg]; simp; done) | (rw [hsg]; simp [dgs]; done)) | exact cl_)
        ·refine u_reg ?_
         try refine lg_mk ?_
         refine u_pt ?_
         refine u_ld ?_
         refine u_ld ?_
         refine u_bs ?_
         refine u_ap ?_
         refine u_pt ?_
         refine u_st ?_
         refine lg_nil ?_
         refine h18 _ ?_; clear h18; try clear N18
         refine u_reg ?_
         try refine lg_mk ?_
         refine u_bn ?_
         refine u_mv ?_
         refine lg_nil ?_
         have hbg : big n ⟨d, ⟨k, l, u⟩⟩ = false := by unfold big; rw [hq1]; first | rfl | (have := hb21; simpa using this)
         rw [hbg] at hsk hsg
         rw [if_pos (by rfl)] at hsk
         rw [if_neg (by simp), List.append_nil] at hsg
         refine h14 _ ⟨i + 1, ?_, ?_, [some 0, some 1, some 2, some 3, some 4, some 5, some 10, some 7], ?_⟩
         ·dsimp only
          omega
         ·dsimp only
          omega
         ·dsimp only
          refine ⟨by rfl, ?_, ?_⟩
          ·refine fin_ ?_
           (repeat' apply And.intro) <;> (first | (first | rfl | trivial | omega | (rw [hsk]; done) | (rw [hsg]; done) | (rw [hsk]; simp; done) | (rw [hsg]; simp; done) | (rw [hsg]; simp [dgs]; done)) | exact cl_)
          ·refine fin_ ?_
           (repeat' apply And.intro) <;> (first | (first | rfl | trivial | omega | (rw [hsk]; done) | (rw [hsg]; done) | (rw [hsk]; simp; done) | (rw [hsg]; simp; done) | (rw [hsg]; simp [dgs]; done)) | exact cl_)
       ·have hq1 : decide (k = 1) = false := decide_eq_false hk
        have hx := And.intro @hq1 hx0
        refine u_reg ?_
        try refine lg_mk ?_
        refine u_pt ?_
        refine u_pt ?_
        refine u_ld ?_
        refine u_bn ?_
        refine u_mv ?_
        refine g_pt ?_
        refine g_pt ?_
        refine g_ld ?_
        refine g_ln ?_
        refine g_mv ?_
        refine g_bn ?_
        refine u_pk ?_
        refine lg_nil ?_
        have hx := hx0
        refine h20 _ ?_; clear h20; try clear N20
        refine u_cond (fun hb22 => ?_) (fun hb22 => ?_)
        ·cases hb22
        ·refine u_reg ?_
         try refine lg_mk ?_
         refine u_pt ?_
         refine u_ld ?_
         refine u_ld ?_
         refine u_bs ?_
         refine u_ap ?_
         refine u_pt ?_
         refine u_st ?_
         refine lg_nil ?_
         refine h18 _ ?_; clear h18; try clear N18
         refine u_reg ?_
         try refine lg_mk ?_
         refine u_bn ?_
         refine u_mv ?_
         refine lg_nil ?_
         have hbg : big n ⟨d, ⟨k, l, u⟩⟩ = false := by unfold big; rw [hq1]; first | rfl | (have := hb22; simpa using this)
         rw [hbg] at hsk hsg
         rw [if_pos (by rfl)] at hsk
         rw [if_neg (by simp), List.append_nil] at hsg
         refine h14 _ ⟨i + 1, ?_, ?_, [some 0, some 1, some 2, some 3, some 4, some 5, some 10, some 7], ?_⟩
         ·dsimp only
          omega
         ·dsimp only
          omega
         ·dsimp only
          refine ⟨by rfl, ?_, ?_⟩
          ·refine fin_ ?_
           (repeat' apply And.intro) <;> (first | (first | rfl | trivial | omega | (rw [hsk]; done) | (rw [hsg]; done) | (rw [hsk]; simp; done) | (rw [hsg]; simp; done) | (rw [hsg]; simp [dgs]; done)) | exact cl_)
          ·refine fin_ ?_
           (repeat' apply And.intro) <;> (first | (first | rfl | trivial | omega | (rw [hsk]; done) | (rw [hsg]; done) | (rw [hsk]; simp; done) | (rw [hsg]; simp; done) | (rw [hsg]; simp [dgs]; done)) | exact cl_)
      ·refine vc_exit ?_
       simp only [k_rules, Nat.reduceEqDiff, reduceIte, eq_self]
       refine h12 _ ?_; clear h12; try clear N12
       refine vc_seq_k fun N23 h23 => ?_
       refine u_reg ?_
       try refine lg_mk ?_
       refine u_ld ?_
       refine u_mv ?_
       refine u_bd ?_
       refine u_st ?_
       refine u_mv ?_
       refine u_st ?_
       refine lg_nil ?_
       refine h23 _ ?_; clear h23; try clear N23
       refine vc_ret ?_
       try simp only [k_rules]
       obtain rfl : i = S.length := by omega
       rw [takeS_len]
       have hr : filF S n = (0, 0) := by unfold filF; rw [if_neg (by rw [hz1]; simp), if_neg (by have := hb8; (try simp at this); omega)]
       have hr2 : filS S n = S.filter fun x => !big n x := by unfold filS; rw [hr]; rfl
       have hr3 : filP S n = dgs (S.filter (big n)) := by unfold filP; rw [hr]; rfl
       rw [hr, hr2, hr3]
       refine fin2_ ?_
       (repeat' apply And.intro) <;> (first | (first | rfl | trivial | omega | exact Or.inl rfl | (rw [takeS_len]; done) | (rw [takeDg_len]; done) | (rw [dgs_len]; omega)) | exact cl_)
  ·have hz1 := hvx
   refine u_reg ?_
   try refine lg_mk ?_
   refine u_ld ?_
   refine u_bd ?_
   refine u_bn ?_
   refine lg_nil ?_
   refine h4 _ ?_; clear h4; try clear N4
   refine u_cond (fun hb24 => ?_) (fun hb24 => ?_)
   ·refine vc_seq_k fun N25 h25 => ?_
    refine vc_regT [] (.seq [0] (.alt 1 (.seq [2, 3, 4] .nil) (.alt 2 (.seq [1, 3, 4] .nil) .nil))) hmix (by kernel_rfl) ?_
    refine at_seq ?_
    simp only [pick_rules, list_rules]
    try refine lg_mk ?_
    refine u_bd ?_
    refine lg_nil ?_
    refine at_alt ?_ ?_
    ·simp only [pick_rules, list_rules]
     try refine lg_mk ?_
     refine u_ld ?_
     refine lg_nil ?_
     refine at_seq ?_
     simp only [pick_rules, list_rules]
     try refine lg_mk ?_
     refine u_st ?_
     refine u_mv ?_
     refine u_st ?_
     refine lg_nil ?_
     refine at_nil ?_
     refine h25 _ ?_; clear h25; try clear N25
     refine vc_ret ?_
     try simp only [k_rules]
     have hr : filF S n = stF S := by unfold filF; rw [if_pos hz1]
     have hr2 : filS S n = [] := by unfold filS; rw [hr]; exact if_pos hz1
     have hr3 : filP S n = [] := by unfold filP; rw [hr]; exact if_pos hz1
     rw [hr, hr2, hr3]
     refine fin2_ ?_
     exact cl_
    refine at_alt ?_ ?_
    ·simp only [pick_rules, list_rules]
     try refine lg_mk ?_
     refine u_st ?_
     refine lg_nil ?_
     refine at_seq ?_
     simp only [pick_rules, list_rules]
     try refine lg_mk ?_
     refine u_ld ?_
     refine u_mv ?_
     refine u_st ?_
     refine lg_nil ?_
     refine at_nil ?_
     refine h25 _ ?_; clear h25; try clear N25
     refine vc_ret ?_
     try simp only [k_rules]
     have hr : filF S n = stF S := by unfold filF; rw [if_pos hz1]
     have hr2 : filS S n = [] := by unfold filS; rw [hr]; exact if_pos hz1
     have hr3 : filP S n = [] := by unfold filP; rw [hr]; exact if_pos hz1
     rw [hr, hr2, hr3]
     refine fin2_ ?_
     exact cl_
    exact at_end
   ·exact absurd (show (stF S).1 = 0 by have := hb24; first | exact this.1 | exact (Classical.not_not.1 this).1 | (simp at this; exact this.1)) hz1
 ·cases hg

def E_filt : Env Tryd.prog := E_collect.add 6 (Spec.pure filG) filt_meets (by kernel_rfl)
end Go.Proofs.YtcjipciiljjfhaaDoor
