/- Walks, printed by wip/gen/walk.py. -/
import Derived.Test.YtmbjnkgpcbpclaaGreatT2
import Derived.Test.YtmbjnkgpcbpclaaGreatV5
set_option linter.all false
set_option maxRecDepth 100000
set_option maxHeartbeats 4000000
namespace Go.Proofs.YtmbjnkgpcbpclaaGreat
open Go Go.Vc Go.RowKit
def ins (l : List Int) (n : Int) : List Int := if n ∈ l then l else l.takeWhile (fun x => decide (x < n)) ++ n :: l.dropWhile (fun x => decide (x < n))
theorem ins_at {l : List Int} {n : Int} {k : Nat} (hn : n ∉ l) (h : ∀ x ∈ l.take k, x < n) (hk : k = l.length ∨ ∃ x, l[k]? = some x ∧ ¬x < n) : ins l n = l.take k ++ n :: l.drop k := by
  have key : l.takeWhile (fun x => decide (x < n)) = l.take k ∧ l.dropWhile (fun x => decide (x < n)) = l.drop k := by
    clear hn
    induction l generalizing k with
    | nil => simp
    | cons a l ih =>
      cases k with
      | zero =>
        rcases hk with hk | ⟨x, hx, hxn⟩
        · simp at hk
        · simp only [List.getElem?_cons_zero, Option.some.injEq] at hx
          subst hx
          simp [List.takeWhile_cons, List.dropWhile_cons, hxn]
      | succ k =>
        have ha : a < n := h a (by simp)
        have := ih (k := k) (fun x hx => h x (by simp [hx])) (by simpa using hk)
        simp [List.takeWhile_cons, List.dropWhile_cons, ha, this.1, this.2]
  unfold ins; rw [if_neg hn, key.1, key.2]
theorem ins_sorted {l : List Int} {n : Int} (h : l.Pairwise (· < ·)) : (ins l n).Pairwise (· < ·) := by
  unfold ins
  split
  · exact h
  · rename_i hn
    induction l with
    | nil => simp
    | cons a l ih =>
      have ha := List.pairwise_cons.1 h
      simp only [List.mem_cons, not_or] at hn
      by_cases hlt : a < n
      · simp only [List.takeWhile_cons, List.dropWhile_cons, hlt, decide_true, if_true, List.cons_append]
        refine List.pairwise_cons.2 ⟨fun x hx => ?_, ih ha.2 hn.2⟩
        rcases List.mem_append.1 hx with hx | hx
        · exact ha.1 x ((List.takeWhile_sublist _).subset hx)
        · rcases List.mem_cons.1 hx with rfl | hx
          · exact hlt
          · exact ha.1 x ((List.dropWhile_sublist _).subset hx)
      · simp only [List.takeWhile_cons, List.dropWhile_cons, hlt, decide_false, List.nil_append, Bool.false_eq_true, if_false]
        refine List.pairwise_cons.2 ⟨fun x hx => ?_, h⟩
        rcases List.mem_cons.1 hx with rfl | hx
        · omega
        · have := ha.1 x hx; omega
theorem ins_len {l : List Int} {n : Int} : (ins l n).length ≤ l.length + 1 := by
  unfold ins
  split
  · omega
  · rw [List.length_append, List.length_cons]
    have := congrArg List.length (List.takeWhile_append_dropWhile (p := fun x => decide (x < n)) (l := l))
    rw [List.length_append] at this; omega

def lessG : List AV → Option (Prop × AV)
  | [.d (.int .i64 a), .d (.int .i64 b)] => some (True, .d (.bool (decide (a < b))))
  | _ => none
def nanG : List AV → Option (Prop × AV)
  | [.d (.int .i64 _)] => some (True, .d (.bool false))
  | _ => none
def lbR (l : List Int) (n : Int) : Nat := (l.filter fun x => decide (x < n)).length
theorem lb_at {l : List Int} {n : Int} {k : Nat} (h1 : ∀ x ∈ l.take k, x < n) (h2 : ∀ x ∈ l.drop k, n ≤ x) (hk : k ≤ l.length) : lbR l n = k := by
  unfold lbR
  conv => lhs; rw [← List.take_append_drop k l]
  rw [List.filter_append, List.filter_eq_self.2 (fun x hx => by simpa using h1 x hx), List.filter_eq_nil_iff.2 (fun x hx => by simpa using h2 x hx), List.append_nil, List.length_take]; omega
theorem mem_lb {l : List Int} {n : Int} {k : Nat} (h1 : ∀ x ∈ l.take k, x < n) : n ∈ l ↔ n ∈ l.drop k := by
  conv => lhs; rw [← List.take_append_drop k l]
  rw [List.mem_append]
  exact ⟨fun h => by rcases h with h | h; exact absurd (h1 n h) (by omega); exact h, .inr⟩
def bsG : List AV → Option (Prop × AV)
  | [.d (.sl xs), .d (.int .i64 n)] => some (xs = rows eI (dI xs) ∧ (dI xs).Pairwise (· < ·) ∧ (dI xs).length ≤ 1000000000, .tup [.d (.int .i64 (lbR (dI xs) n : Nat)), .d (.bool (decide (n ∈ dI xs)))])
  | _ => none
theorem take_lt {l : List Int} {n x : Int} {m : Nat} (hs : l.Pairwise (· < ·)) (hx : l[m]? = some x) (hxn : x < n) : ∀ y ∈ l.take (m + 1), y < n := by
  intro y hy
  rw [List.take_add_one, hx, List.mem_append] at hy
  rcases hy with hy | hy
  · obtain ⟨h1, h2⟩ := List.getElem?_eq_some_iff.1 hx
    have := List.take_append_drop m l
    rw [← this, List.pairwise_append] at hs
    have := hs.2.2 y hy x (by rw [List.drop_eq_getElem_cons h1, h2]; simp)
    omega
  · simp only [Option.toList_some, List.mem_singleton] at hy; omega
theorem drop_ge {l : List Int} {n x : Int} {m : Nat} (hs : l.Pairwise (· < ·)) (hx : l[m]? = some x) (hxn : n ≤ x) : ∀ y ∈ l.drop m, n ≤ y := by
  obtain ⟨h1, h2⟩ := List.getElem?_eq_some_iff.1 hx
  intro y hy
  have := List.take_append_drop m l
  rw [← this, List.pairwise_append, List.drop_eq_getElem_cons h1, h2] at hs
  rw [List.drop_eq_getElem_cons h1, h2] at hy
  rcases List.mem_cons.1 hy with rfl | hy
  · exact hxn
  · have := (List.pairwise_cons.1 hs.2.1).1 y hy; omega
theorem mid_u64 {lo hi : Nat} (h : lo + hi ≤ 1000000000000) : (IntKind.u64.wrap ((lo : Int) + (hi : Int))).fdiv (2 ^ min 1 IntKind.u64.bits) = (((lo + hi) / 2 : Nat) : Int) := by
  have e : IntKind.u64.wrap ((lo : Int) + (hi : Int)) = ((lo + hi : Nat) : Int) := by
    rw [show (lo : Int) + (hi : Int) = ((lo + hi : Nat) : Int) by omega]
    simp [IntKind.wrap, IntKind.bits, IntKind.signed]; omega
  rw [e]
  have : min 1 IntKind.u64.bits = 1 := by decide
  rw [this, show (2 : Int) ^ 1 = 2 from rfl, Int.fdiv_eq_ediv_of_nonneg _ (by omega)]; omega
theorem bs_in {l : List Int} {n x : Int} {k : Nat} (hs : l.Pairwise (· < ·)) (h1 : ∀ y ∈ l.take k, y < n) (h2 : ∀ y ∈ l.drop k, n ≤ y) (hx : l[k]? = some x) : decide (n ∈ l) = decide (x = n) := by
  apply decide_eq_decide.2
  obtain ⟨g1, g2⟩ := List.getElem?_eq_some_iff.1 hx
  rw [mem_lb h1, List.drop_eq_getElem_cons g1, g2]
  constructor
  · intro h
    rcases List.mem_cons.1 h with h | h
    · exact h.symm
    · have h3 := h2 x (by rw [List.drop_eq_getElem_cons g1, g2]; simp)
      have hd := List.take_append_drop k l
      rw [← hd, List.pairwise_append, List.drop_eq_getElem_cons g1, g2] at hs
      have := (List.pairwise_cons.1 hs.2.1).1 n h
      omega
  · rintro rfl; simp
theorem bs_out {l : List Int} {n : Int} {k : Nat} (h1 : ∀ y ∈ l.take k, y < n) (hk : l.length ≤ k) : decide (n ∈ l) = false := by
  apply decide_eq_false
  rw [mem_lb h1, List.drop_eq_nil_of_le hk]; simp

theorem nanS_meets : Meets Tryz.prog 101 (Spec.pure nanG) := by
 refine meets_fun (E_insPost.at_ 6) Tryz.func101 rfl rfl rfl ?_
 intro args p r hg hp
 unfold nanG at hg
 split at hg
 rename_i n
 simp only [Option.some.injEq, Prod.mk.injEq] at hg
 obtain ⟨rfl, rfl⟩ := hg
 have hT : (E_insPost).X = T := rfl
 have hx0 := @Tryz.results101
 have hx := hx0
 refine ⟨by rfl, ?_⟩
 intro F W0 hnp hmk
 refine vc_seq_k fun N1 h1 => ?_
 refine u_reg ?_
 try refine lg_mk ?_
 refine u_mv ?_
 refine lg_nil ?_
 refine h1 _ ?_; clear h1; try clear N1
 refine vc_seq_k fun N2 h2 => ?_
 refine u_reg ?_
 try refine lg_mk ?_
 iterate 2 refine u_mv ?_
 refine u_bn ?_
 refine u_mv ?_
 refine lg_nil ?_
 refine h2 _ ?_; clear h2; try clear N2
 refine vc_ret ?_
 try simp only [k_rules]
 refine fin2_ ?_
 ·(repeat' apply And.intro) <;> (first | (first | rfl | (simp; done)) | exact cl_)
 cases hg

def E_nanS : Env Tryz.prog := E_insPost.add 101 (Spec.pure nanG) nanS_meets (by kernel_rfl)

theorem nanC_meets : Meets Tryz.prog 117 (Spec.pure nanG) := by
 refine meets_fun (E_nanS.at_ 6) Tryz.func117 rfl rfl rfl ?_
 intro args p r hg hp
 unfold nanG at hg
 split at hg
 rename_i n
 simp only [Option.some.injEq, Prod.mk.injEq] at hg
 obtain ⟨rfl, rfl⟩ := hg
 have hT : (E_nanS).X = T := rfl
 have hx0 := @Tryz.results117
 have hx := hx0
 refine ⟨by rfl, ?_⟩
 intro F W0 hnp hmk
 refine vc_seq_k fun N1 h1 => ?_
 refine u_reg ?_
 try refine lg_mk ?_
 refine u_mv ?_
 refine lg_nil ?_
 refine h1 _ ?_; clear h1; try clear N1
 refine vc_seq_k fun N2 h2 => ?_
 refine u_reg ?_
 try refine lg_mk ?_
 iterate 2 refine u_mv ?_
 refine u_bn ?_
 refine u_mv ?_
 refine lg_nil ?_
 refine h2 _ ?_; clear h2; try clear N2
 refine vc_ret ?_
 try simp only [k_rules]
 refine fin2_ ?_
 ·(repeat' apply And.intro) <;> (first | (first | rfl | (simp; done)) | exact cl_)
 cases hg

def E_nanC : Env Tryz.prog := E_nanS.add 117 (Spec.pure nanG) nanC_meets (by kernel_rfl)

theorem less_meets : Meets Tryz.prog 100 (Spec.pure lessG) := by
 refine meets_fun (E_nanC.at_ 17) Tryz.func100 rfl rfl rfl ?_
 intro args p r hg hp
 unfold lessG at hg
 split at hg
 rename_i a b
 simp only [Option.some.injEq, Prod.mk.injEq] at hg
 obtain ⟨rfl, rfl⟩ := hg
 have hT : (E_nanC).X = T := rfl
 have hx0 := @Tryz.results100
 have hx := hx0
 refine ⟨by rfl, ?_⟩
 intro F W0 hnp hmk
 refine vc_seq_k fun N1 h1 => ?_
 refine u_reg ?_
 try refine lg_mk ?_
 refine u_mv ?_
 refine lg_nil ?_
 refine h1 _ ?_; clear h1; try clear N1
 refine vc_seq_k fun N2 h2 => ?_
 refine u_reg ?_
 try refine lg_mk ?_
 refine u_mv ?_
 have hc := call_rule (E := (E_nanC.at_ 17)) (f := 117) (sp := Spec.pure nanG) rfl
 have hs := @nanG.eq_1
 refine u_cp ?_
 refine u_mv ?_
 refine g_mv ?_
 have hc := call_rule (E := (E_nanC.at_ 17)) (f := 117) (sp := Spec.pure nanG) rfl
 have hs := @nanG.eq_1
 refine g_cp ?_
 refine g_un ?_
 refine u_pk ?_
 refine u_mv ?_
 iterate 2 refine g_mv ?_
 refine g_bn ?_
 refine u_pk ?_
 refine u_mv ?_
 refine lg_nil ?_
 refine h2 _ ?_; clear h2; try clear N2
 refine vc_ret ?_
 try simp only [k_rules]
 refine fin2_ ?_
 exact cl_
 cases hg

def E_less : Env Tryz.prog := E_nanC.add 100 (Spec.pure lessG) less_meets (by kernel_rfl)

theorem bs_meets : Meets Tryz.prog 87 (Spec.pure bsG) := by
 refine meets_fun (E_less.at_ 54) Tryz.func87 rfl rfl rfl ?_
 intro args p r hg hp
 unfold bsG at hg
 split at hg
 rename_i xs n
 simp only [Option.some.injEq, Prod.mk.injEq] at hg
 obtain ⟨rfl, rfl⟩ := hg
 obtain ⟨he, hso, hl⟩ := hp
 generalize dI xs = l at *
 subst he
 have hT : (E_less).X = T := rfl
 have hx0 := And.intro @dec_t (And.intro @dec_f @Tryz.results87)
 have hx := hx0
 refine ⟨by rfl, ?_⟩
 intro F W0 hnp hmk
 refine vc_seq_k fun N1 h1 => ?_
 refine u_reg ?_
 try refine lg_mk ?_
 iterate 2 refine u_mv ?_
 refine lg_nil ?_
 refine h1 _ ?_; clear h1; try clear N1
 refine vc_seq_k fun N2 h2 => ?_
 refine u_reg ?_
 try refine lg_mk ?_
 refine u_mv ?_
 refine u_ln ?_
 refine u_mv ?_
 refine lg_nil ?_
 refine h2 _ ?_; clear h2; try clear N2
 refine vc_seq_k fun N3 h3 => ?_
 refine u_reg ?_
 try refine lg_mk ?_
 iterate 3 refine u_mv ?_
 refine lg_nil ?_
 refine h3 _ ?_; clear h3; try clear N3
 refine vc_seq_k fun N4 h4 => ?_
 refine vc_block ?_
 refine vc_loop_mk (σ := Nat × Nat) (fun s => (fun lo hi => lo ≤ hi ∧ hi ≤ l.length ∧ (∀ x ∈ l.take lo, x < n) ∧ ∀ x ∈ l.drop hi, n ≤ x) (s.1) (s.2))
  (fun s => (fun lo hi => [(0, .d (.sl (rows eI l))), (1, .d (.int .i64 n)), (6, .d (.int .i64 (l.length : Nat))), (7, .d (.int .i64 (lo : Nat))), (8, .d (.int .i64 (hi : Nat)))]) (s.1) (s.2))
  (fun s => (fun lo hi => []) (s.1) (s.2)) (fun s => (fun lo hi => hi - lo) (s.1) (s.2)) hnp (0, l.length) ?_ [] ?_ ?_
 dsimp only
 simp
 dsimp only
 refine ⟨by rfl, ?_, ?_⟩
 refine fin_ ?_
 exact cl_
 refine fin_ ?_
 exact cl_
 rintro ⟨lo, hi⟩ hinv N5 h5
 dsimp only at hinv ⊢
 obtain ⟨i1, i2, i3, i4⟩ := hinv
 refine vc_seq_k fun N6 h6 => ?_
 refine vc_seq_k fun N7 h7 => ?_
 refine u_reg ?_
 try refine lg_mk ?_
 iterate 2 refine u_mv ?_
 refine u_bn ?_
 refine lg_nil ?_
 refine h7 _ ?_; clear h7; try clear N7
 refine u_cond (fun hb8 => ?_) (fun hb8 => ?_)
 have hmid := mid_u64 (lo := lo) (hi := hi) (by omega)
 obtain ⟨x, hxe⟩ := getE (l := l) (i := (lo + hi) / 2) (by omega)
 refine vc_skip ?_
 try simp only [k_rules]
 refine h6 _ ?_; clear h6; try clear N6
 refine vc_block ?_
 refine vc_seq_k fun N9 h9 => ?_
 have hx := And.intro @hmid hx0
 refine u_reg ?_
 try refine lg_mk ?_
 iterate 2 refine u_mv ?_
 refine u_bn ?_
 refine u_cv ?_
 refine u_bn ?_
 refine u_cv ?_
 refine u_mv ?_
 refine lg_nil ?_
 have hx := hx0
 refine h9 _ ?_; clear h9; try clear N9
 refine vc_seq_k fun N10 h10 => ?_
 have hx := And.intro @hxe (And.intro @eI.eq_1 hx0)
 refine u_reg ?_
 try refine lg_mk ?_
 iterate 2 refine u_mv ?_
 refine u_pt ?_
 refine u_ld ?_
 refine u_mv ?_
 have hc := call_rule (E := (E_less.at_ 54)) (f := 100) (sp := Spec.pure lessG) rfl
 have hs := @lessG.eq_1
 refine u_cp ?_
 refine lg_nil ?_
 have hx := hx0
 refine h10 _ ?_; clear h10; try clear N10
 refine u_cond (fun hb11 => ?_) (fun hb11 => ?_)
 refine u_reg ?_
 try refine lg_mk ?_
 refine u_mv ?_
 refine u_bn ?_
 refine u_mv ?_
 refine lg_nil ?_
 refine h5 _ ⟨((lo + hi) / 2 + 1, hi), ?_, ?_, [], ?_⟩
 dsimp only
 exact ⟨by omega, by omega, take_lt hso hxe hb11, i4⟩
 dsimp only
 omega
 dsimp only
 refine ⟨by rfl, ?_, ?_⟩
 refine fin_ ?_
 exact cl_
 refine fin_ ?_
 exact cl_
 refine u_reg ?_
 try refine lg_mk ?_
 iterate 2 refine u_mv ?_
 refine lg_nil ?_
 refine h5 _ ⟨(lo, (lo + hi) / 2), ?_, ?_, [], ?_⟩
 dsimp only
 exact ⟨by omega, by omega, i3, drop_ge hso hxe (by have := hb11; omega)⟩
 dsimp only
 omega
 dsimp only
 refine ⟨by rfl, ?_, ?_⟩
 refine fin_ ?_
 exact cl_
 refine fin_ ?_
 exact cl_
 have hlh : lo = hi := by omega
 subst hlh
 refine vc_exit ?_
 simp only [k_rules, Nat.reduceEqDiff, reduceIte, eq_self]
 refine h4 _ ?_; clear h4; try clear N4
 refine vc_seq_k fun N12 h12 => ?_
 rcases Nat.lt_or_ge lo l.length with hk | hk
 obtain ⟨x, hxe⟩ := getE hk
 have hk' : decide ((lo : Int) < (l.length : Int)) = true := by simp; omega
 have hx := And.intro @hxe (And.intro @hk' (And.intro @eI.eq_1 hx0))
 refine u_reg ?_
 try refine lg_mk ?_
 iterate 3 refine u_mv ?_
 refine u_bn ?_
 refine u_mv ?_
 iterate 2 refine g_mv ?_
 refine g_pt ?_
 refine g_ld ?_
 refine g_mv ?_
 refine g_bn ?_
 iterate 3 refine g_mv ?_
 refine g_pt ?_
 refine g_ld ?_
 have hc := call_rule (E := (E_less.at_ 54)) (f := 101) (sp := Spec.pure nanG) rfl
 have hs := @nanG.eq_1
 refine g_cp ?_
 iterate 2 refine g_mv ?_
 have hc := call_rule (E := (E_less.at_ 54)) (f := 101) (sp := Spec.pure nanG) rfl
 have hs := @nanG.eq_1
 refine g_cp ?_
 iterate 2 refine g_pk ?_
 refine u_pk ?_
 iterate 2 refine u_mv ?_
 refine lg_nil ?_
 have hx := hx0
 refine h12 _ ?_; clear h12; try clear N12
 refine vc_ret ?_
 try simp only [k_rules]
 have hr := bs_in hso i3 i4 hxe
 have hr2 := lb_at i3 i4 i2
 rw [hr, hr2]
 refine fin2_ ?_
 exact cl_
 have hxe : l[lo]? = none := List.getElem?_eq_none hk
 have hk' : decide ((lo : Int) < (l.length : Int)) = false := by simp; omega
 have hx := And.intro @hxe (And.intro @hk' (And.intro @eI.eq_1 hx0))
 refine u_reg ?_
 try refine lg_mk ?_
 iterate 3 refine u_mv ?_
 refine u_bn ?_
 refine u_mv ?_
 iterate 2 refine g_mv ?_
 refine g_pt ?_
 refine g_ld ?_
 refine g_mv ?_
 refine g_bn ?_
 iterate 3 refine g_mv ?_
 refine g_pt ?_
 refine g_ld ?_
 have hc := call_rule (E := (E_less.at_ 54)) (f := 101) (sp := Spec.pure nanG) rfl
 have hs := @nanG.eq_1
 refine g_cp ?_
 iterate 2 refine g_mv ?_
 have hc := call_rule (E := (E_less.at_ 54)) (f := 101) (sp := Spec.pure nanG) rfl
 have hs := @nanG.eq_1
 refine g_cp ?_
 iterate 2 refine g_pk ?_
 refine u_pk ?_
 iterate 2 refine u_mv ?_
 refine lg_nil ?_
 have hx := hx0
 refine h12 _ ?_; clear h12; try clear N12
 refine vc_ret ?_
 try simp only [k_rules]
 have hr := bs_out i3 hk
 have hr2 := lb_at i3 i4 i2
 rw [hr, hr2]
 refine fin2_ ?_
 exact cl_
 cases hg

def E_bs : Env Tryz.prog := E_less.add 87 (Spec.pure bsG) bs_meets (by kernel_rfl)
end Go.Proofs.YtmbjnkgpcbpclaaGreat
