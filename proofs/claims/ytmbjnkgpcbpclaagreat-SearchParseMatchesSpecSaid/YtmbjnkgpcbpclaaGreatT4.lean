/- Walks, printed by wip/gen/walk.py. -/
import Derived.Test.YtmbjnkgpcbpclaaGreatT3
import Derived.Test.YtmbjnkgpcbpclaaGreatV5
set_option linter.all false
set_option maxRecDepth 100000
set_option maxHeartbeats 4000000
namespace Go.Proofs.YtmbjnkgpcbpclaaGreat
open Go Go.Vc Go.RowKit
abbrev Bs := List UInt8
abbrev blt (a b : Bs) : Bool := Op.bytesLess a b
theorem blt_irrefl : ∀ a : Bs, blt a a = false
  | [] => rfl
  | a :: x => by simp [blt, Op.bytesLess, show Op.bytesLess x x = false from blt_irrefl x]
theorem blt_trans : ∀ {a b c : Bs}, blt a b = true → blt b c = true → blt a c = true
  | _, [], _ => by intro h; simp [blt, Op.bytesLess] at h
  | _, _ :: _, [] => by intro _ h; simp [blt, Op.bytesLess] at h
  | [], _ :: _, _ :: _ => fun _ _ => rfl
  | a :: x, b :: y, c :: z => by
    intro h1 h2
    simp only [blt, Op.bytesLess, Bool.or_eq_true, Bool.and_eq_true, decide_eq_true_eq, beq_iff_eq] at *
    rcases h1 with h1 | ⟨rfl, h1⟩
    · rcases h2 with h2 | ⟨rfl, h2⟩
      · exact .inl (UInt8.lt_trans h1 h2)
      · exact .inl h1
    · rcases h2 with h2 | ⟨rfl, h2⟩
      · exact .inl h2
      · exact .inr ⟨rfl, blt_trans h1 h2⟩
theorem blt_asymm {a b : Bs} (h : blt a b = true) : blt b a = false := by
  cases h' : blt b a with
  | false => rfl
  | true => have := blt_trans h h'; rw [blt_irrefl] at this; cases this
theorem blt_total : ∀ {a b : Bs}, blt a b = false → blt b a = false → a = b
  | [], [] => fun _ _ => rfl
  | [], _ :: _ => by intro h; simp [blt, Op.bytesLess] at h
  | _ :: _, [] => by intro _ h; simp [blt, Op.bytesLess] at h
  | a :: x, b :: y => by
    intro h1 h2
    simp only [blt, Op.bytesLess, Bool.or_eq_false_iff, Bool.and_eq_false_imp, decide_eq_false_iff_not, beq_iff_eq] at *
    have hab : a = b := UInt8.le_antisymm (UInt8.not_lt.1 h2.1) (UInt8.not_lt.1 h1.1)
    subst hab
    rw [blt_total (h1.2 rfl) (h2.2 rfl)]
theorem cmp_zero : ∀ {a b : Bs}, Lib.compareBytes a b = 0 ↔ a = b
  | [], [] => by simp [Lib.compareBytes]
  | [], _ :: _ => by simp [Lib.compareBytes]
  | _ :: _, [] => by simp [Lib.compareBytes]
  | a :: x, b :: y => by
    unfold Lib.compareBytes
    split
    · rename_i h
      constructor
      · intro h; simp at h
      · intro h'; cases h'; exact absurd h (UInt8.lt_irrefl _)
    · split
      · rename_i h
        constructor
        · intro h; simp at h
        · intro h'; cases h'; exact absurd h (UInt8.lt_irrefl _)
      · rename_i h1 h2
        have hab : a = b := UInt8.le_antisymm (UInt8.not_lt.1 h2) (UInt8.not_lt.1 h1)
        subst hab
        rw [cmp_zero]; simp
theorem cmp_neg : ∀ {a b : Bs}, Lib.compareBytes a b < 0 ↔ blt a b = true
  | [], [] => by simp [Lib.compareBytes, blt, Op.bytesLess]
  | [], _ :: _ => by simp [Lib.compareBytes, blt, Op.bytesLess]
  | _ :: _, [] => by simp [Lib.compareBytes, blt, Op.bytesLess]
  | a :: x, b :: y => by
    unfold Lib.compareBytes
    simp only [blt, Op.bytesLess, Bool.or_eq_true, Bool.and_eq_true, decide_eq_true_eq, beq_iff_eq]
    split
    · rename_i h; simp [h]
    · split
      · rename_i h1 h
        constructor
        · intro h; simp at h
        · rintro (h' | ⟨rfl, _⟩)
          · exact absurd h' h1
          · exact absurd h (UInt8.lt_irrefl _)
      · rename_i h1 h2
        have hab : a = b := UInt8.le_antisymm (UInt8.not_lt.1 h2) (UInt8.not_lt.1 h1)
        subst hab
        rw [cmp_neg]; simp [h1]
def eG (p : Bs × D) : List D := [.str p.1, p.2]
def dG (xs : List (List D)) : List (Bs × D) := xs.map fun r => match r with
  | [.str g, x] => (g, x)
  | _ => ([], .nils)
theorem dG_rows (l : List (Bs × D)) : dG (rows eG l) = l := by
  induction l with
  | nil => rfl
  | cons p l ih => exact congrArg (p :: ·) ih
theorem rect_eG (l : List (Bs × D)) : Rect 2 (rows eG l) = True := eq_true (fun x hx => by obtain ⟨a, _, rfl⟩ := List.mem_map.1 hx; rfl)
def vP (p : Bs × List Int) : Bs × D := (p.1, .sl (rows eI p.2))
def eP (p : Bs × List Int) : List D := eG (vP p)
def SortG {α : Type} (l : List (Bs × α)) : Prop := l.Pairwise fun p q => blt p.1 q.1 = true
def lbG {α : Type} (l : List (Bs × α)) (q : Bs) : Nat := (l.filter fun p => blt p.1 q).length
theorem lbG_at {α : Type} {l : List (Bs × α)} {q : Bs} {k : Nat} (h1 : ∀ p ∈ l.take k, blt p.1 q = true) (h2 : ∀ p ∈ l.drop k, blt p.1 q = false) (hk : k ≤ l.length) : lbG l q = k := by
  unfold lbG
  conv => lhs; rw [← List.take_append_drop k l]
  rw [List.filter_append, List.filter_eq_self.2 (fun x hx => h1 x hx), List.filter_eq_nil_iff.2 (fun x hx => by rw [h2 x hx]; simp), List.append_nil, List.length_take]; omega
def hasG' {α : Type} (l : List (Bs × α)) (q : Bs) : Bool := decide (q ∈ l.map (·.1))
theorem takeG_lt {α : Type} {l : List (Bs × α)} {q : Bs} {x : Bs × α} {m : Nat} (hs : SortG l) (hx : l[m]? = some x) (hxq : blt x.1 q = true) : ∀ y ∈ l.take (m + 1), blt y.1 q = true := by
  intro y hy
  rw [List.take_add_one, hx, List.mem_append] at hy
  rcases hy with hy | hy
  · obtain ⟨h1, h2⟩ := List.getElem?_eq_some_iff.1 hx
    have := List.take_append_drop m l
    unfold SortG at hs
    rw [← this, List.pairwise_append] at hs
    exact blt_trans (hs.2.2 y hy x (by rw [List.drop_eq_getElem_cons h1, h2]; simp)) hxq
  · simp only [Option.toList_some, List.mem_singleton] at hy; rw [hy]; exact hxq
theorem dropG_ge {α : Type} {l : List (Bs × α)} {q : Bs} {x : Bs × α} {m : Nat} (hs : SortG l) (hx : l[m]? = some x) (hxq : blt x.1 q = false) : ∀ y ∈ l.drop m, blt y.1 q = false := by
  obtain ⟨h1, h2⟩ := List.getElem?_eq_some_iff.1 hx
  intro y hy
  have := List.take_append_drop m l
  unfold SortG at hs
  rw [← this, List.pairwise_append, List.drop_eq_getElem_cons h1, h2] at hs
  rw [List.drop_eq_getElem_cons h1, h2] at hy
  rcases List.mem_cons.1 hy with rfl | hy
  · exact hxq
  · have h3 := (List.pairwise_cons.1 hs.2.1).1 y hy
    cases h4 : blt y.1 q with
    | false => rfl
    | true => rw [blt_trans h3 h4] at hxq; cases hxq
theorem hasG_at {α : Type} {l : List (Bs × α)} {q : Bs} {x : Bs × α} {k : Nat} (hs : SortG l) (h1 : ∀ p ∈ l.take k, blt p.1 q = true) (hx : l[k]? = some x) (h2 : ∀ p ∈ l.drop k, blt p.1 q = false) : hasG' l q = decide (x.1 = q) := by
  apply decide_eq_decide.2
  obtain ⟨g1, g2⟩ := List.getElem?_eq_some_iff.1 hx
  constructor
  · intro h
    obtain ⟨p, hp, rfl⟩ := List.mem_map.1 h
    have hd := List.take_append_drop k l
    unfold SortG at hs
    rw [← hd] at hp
    rcases List.mem_append.1 hp with hp | hp
    · have := h1 p hp; rw [blt_irrefl] at this; cases this
    · rw [List.drop_eq_getElem_cons g1, g2] at hp
      rcases List.mem_cons.1 hp with rfl | hp
      · rfl
      · rw [← hd, List.pairwise_append, List.drop_eq_getElem_cons g1, g2] at hs
        have h3 := (List.pairwise_cons.1 hs.2.1).1 p hp
        have h4 := h2 x (by rw [List.drop_eq_getElem_cons g1, g2]; simp)
        rw [h3] at h4; cases h4
  · rintro rfl; exact List.mem_map.2 ⟨x, List.mem_of_getElem? hx, rfl⟩
theorem hasG_out {α : Type} {l : List (Bs × α)} {q : Bs} {k : Nat} (h1 : ∀ p ∈ l.take k, blt p.1 q = true) (hk : l.length ≤ k) : hasG' l q = false := by
  apply decide_eq_false
  intro h
  obtain ⟨p, hp, rfl⟩ := List.mem_map.1 h
  have := h1 p (by rw [List.take_of_length_le hk]; exact hp)
  rw [blt_irrefl] at this; cases this

def cmpG : List AV → Option (Prop × AV)
  | [.d (.str a), .d (.str b)] => some (True, .d (.int .i64 (Lib.compareBytes a b)))
  | _ => none
def cmpPG : List AV → Option (Prop × AV)
  | [.agg [.d (.str a), .d _], .d (.str b)] => some (True, .d (.int .i64 (Lib.compareBytes a b)))
  | _ => none
def bsfG : List AV → Option (Prop × AV)
  | [.d (.sl xs), .d (.str q), .clo (.func 90) []] => some (xs = rows eG (dG xs) ∧ SortG (dG xs) ∧ (dG xs).length ≤ 1000000000, .tup [.d (.int .i64 (lbG (dG xs) q : Nat)), .d (.bool (hasG' (dG xs) q))])
  | _ => none
def findG : List AV → Option (Prop × AV)
  | [.agg [.d _, .d (.sl xs)], .d (.str q)] => some (xs = rows eG (dG xs) ∧ SortG (dG xs) ∧ (dG xs).length ≤ 1000000000, .tup [.d (.int .i64 (lbG (dG xs) q : Nat)), .d (.bool (hasG' (dG xs) q))])
  | _ => none

theorem cmpB_meets : Meets Tryz.prog 104 (Spec.pure cmpG) := by
 refine meets_fun (E_bs.at_ 8) Tryz.func104 rfl rfl rfl ?_
 intro args p r hg hp
 unfold cmpG at hg
 split at hg
 rename_i a b
 simp only [Option.some.injEq, Prod.mk.injEq] at hg
 obtain ⟨rfl, rfl⟩ := hg
 have hT : (E_bs).X = T := rfl
 have hx0 := @Tryz.results104
 have hx := hx0
 refine ⟨by rfl, ?_⟩
 intro F W0 hnp hmk
 refine vc_seq_k fun N1 h1 => ?_
 refine u_reg ?_
 try refine lg_mk ?_
 refine u_mv ?_
 refine lg_nil ?_
 refine h1 _ ?_; clear h1; try clear N1
 refine vc_seq_k fun N2 h2 => ?_
 refine u_reg ?_
 try refine lg_mk ?_
 iterate 2 refine u_mv ?_
 refine lg_sem (by rfl) (sem_cmpstr (fn := Tryz.f119) Tryz.func119 (by kernel_rfl) (by kernel_rfl) (by kernel_rfl) (by kernel_rfl) (by first | (simp only [wB, eq_self, Nat.reduceEqDiff, reduceIte]; done) | (simp only [wB, eq_self, Nat.reduceEqDiff, reduceIte]; rfl)) (by first | trivial | simp only [wB, eq_self, Nat.reduceEqDiff, reduceIte]) (by first | (simp only [wB, eq_self, Nat.reduceEqDiff, reduceIte]; done) | (simp only [wB, eq_self, Nat.reduceEqDiff, reduceIte]; rfl)) (by first | trivial | simp only [wB, eq_self, Nat.reduceEqDiff, reduceIte]) ?_)
 refine u_mv ?_
 refine lg_nil ?_
 refine h2 _ ?_; clear h2; try clear N2
 refine vc_ret ?_
 try simp only [k_rules]
 refine fin2_ ?_
 exact cl_
 cases hg

def E_cmpB : Env Tryz.prog := E_bs.add 104 (Spec.pure cmpG) cmpB_meets (by kernel_rfl)

theorem cmpS_meets : Meets Tryz.prog 91 (Spec.pure cmpG) := by
 refine meets_fun (E_cmpB.at_ 8) Tryz.func91 rfl rfl rfl ?_
 intro args p r hg hp
 unfold cmpG at hg
 split at hg
 rename_i a b
 simp only [Option.some.injEq, Prod.mk.injEq] at hg
 obtain ⟨rfl, rfl⟩ := hg
 have hT : (E_cmpB).X = T := rfl
 have hx0 := @Tryz.results91
 have hx := hx0
 refine ⟨by rfl, ?_⟩
 intro F W0 hnp hmk
 refine vc_seq_k fun N1 h1 => ?_
 refine u_reg ?_
 try refine lg_mk ?_
 refine u_mv ?_
 refine lg_nil ?_
 refine h1 _ ?_; clear h1; try clear N1
 refine vc_seq_k fun N2 h2 => ?_
 refine u_reg ?_
 try refine lg_mk ?_
 iterate 2 refine u_mv ?_
 have hc := call_rule (E := (E_cmpB.at_ 8)) (f := 104) (sp := Spec.pure cmpG) rfl
 have hs := @cmpG.eq_1
 refine u_cp ?_
 refine u_mv ?_
 refine lg_nil ?_
 refine h2 _ ?_; clear h2; try clear N2
 refine vc_ret ?_
 try simp only [k_rules]
 refine fin2_ ?_
 exact cl_
 cases hg

def E_cmpS : Env Tryz.prog := E_cmpB.add 91 (Spec.pure cmpG) cmpS_meets (by kernel_rfl)

theorem cmpP_meets : Meets Tryz.prog 90 (Spec.pure cmpPG) := by
 refine meets_fun (E_cmpS.at_ 9) Tryz.func90 rfl rfl rfl ?_
 intro args p r hg hp
 unfold cmpPG at hg
 split at hg
 rename_i a x b
 simp only [Option.some.injEq, Prod.mk.injEq] at hg
 obtain ⟨rfl, rfl⟩ := hg
 have hT : (E_cmpS).X = T := rfl
 have hx0 := @Tryz.results90
 have hx := hx0
 refine ⟨by rfl, ?_⟩
 intro F W0 hnp hmk
 refine vc_seq_k fun N1 h1 => ?_
 refine u_reg ?_
 try refine lg_mk ?_
 refine u_bx ?_
 refine u_mv ?_
 refine lg_nil ?_
 refine h1 _ ?_; clear h1; try clear N1
 refine vc_seq_k fun N2 h2 => ?_
 refine u_reg ?_
 try refine lg_mk ?_
 refine u_pt ?_
 refine u_ld ?_
 refine u_mv ?_
 have hc := call_rule (E := (E_cmpS.at_ 9)) (f := 91) (sp := Spec.pure cmpG) rfl
 have hs := @cmpG.eq_1
 refine u_cp ?_
 refine u_mv ?_
 refine lg_nil ?_
 refine h2 _ ?_; clear h2; try clear N2
 refine vc_ret ?_
 try simp only [k_rules]
 refine fin2_ ?_
 exact cl_
 cases hg

def E_cmpP : Env Tryz.prog := E_cmpS.add 90 (Spec.pure cmpPG) cmpP_meets (by kernel_rfl)

theorem bsf_meets : Meets Tryz.prog 89 (Spec.pure bsfG) := by
 refine meets_fun (E_cmpP.at_ 49) Tryz.func89 rfl rfl rfl ?_
 intro args p r hg hp
 unfold bsfG at hg
 split at hg
 rename_i xs q
 simp only [Option.some.injEq, Prod.mk.injEq] at hg
 obtain ⟨rfl, rfl⟩ := hg
 obtain ⟨he, hso, hl⟩ := hp
 generalize dG xs = l at *
 subst he
 have hT : (E_cmpP).X = T := rfl
 have hx0 := And.intro @dec_t (And.intro @dec_f (And.intro @rect_eG @Tryz.results89))
 have hx := hx0
 refine ⟨by rfl, ?_⟩
 intro F W0 hnp hmk
 refine vc_seq_k fun N1 h1 => ?_
 refine u_reg ?_
 try refine lg_mk ?_
 iterate 2 refine u_mv ?_
 refine lg_nil ?_
 refine h1 _ ?_; clear h1; try clear N1
 refine vc_seq_k fun N2 h2 => ?_
 refine u_reg ?_
 try refine lg_mk ?_
 refine u_mv ?_
 refine u_ln ?_
 refine u_mv ?_
 refine lg_nil ?_
 refine h2 _ ?_; clear h2; try clear N2
 refine vc_seq_k fun N3 h3 => ?_
 refine u_reg ?_
 try refine lg_mk ?_
 iterate 3 refine u_mv ?_
 refine lg_nil ?_
 refine h3 _ ?_; clear h3; try clear N3
 refine vc_seq_k fun N4 h4 => ?_
 refine vc_block ?_
 refine vc_loop_mk (σ := Nat × Nat) (fun s => (fun lo hi => lo ≤ hi ∧ hi ≤ l.length ∧ (∀ x ∈ l.take lo, blt x.1 q = true) ∧ ∀ x ∈ l.drop hi, blt x.1 q = false) (s.1) (s.2))
  (fun s => (fun lo hi => [(0, .d (.sl (rows eG l))), (1, .d (.str q)), (2, .clo (.func 90) []), (8, .d (.int .i64 (l.length : Nat))), (9, .d (.int .i64 (lo : Nat))), (10, .d (.int .i64 (hi : Nat)))]) (s.1) (s.2))
  (fun s => (fun lo hi => []) (s.1) (s.2)) (fun s => (fun lo hi => hi - lo) (s.1) (s.2)) hnp (0, l.length) ?_ [] ?_ ?_
 dsimp only
 simp
 dsimp only
 refine ⟨by rfl, ?_, ?_⟩
 refine fin_ ?_
 exact cl_
 refine fin_ ?_
 exact cl_
 rintro ⟨lo, hi⟩ hinv N5 h5
 dsimp only at hinv ⊢
 obtain ⟨i1, i2, i3, i4⟩ := hinv
 refine vc_seq_k fun N6 h6 => ?_
 refine vc_seq_k fun N7 h7 => ?_
 refine u_reg ?_
 try refine lg_mk ?_
 iterate 2 refine u_mv ?_
 refine u_bn ?_
 refine lg_nil ?_
 refine h7 _ ?_; clear h7; try clear N7
 refine u_cond (fun hb8 => ?_) (fun hb8 => ?_)
 have hmid := mid_u64 (lo := lo) (hi := hi) (by omega)
 obtain ⟨x, hxe⟩ := getE (l := l) (i := (lo + hi) / 2) (by omega)
 refine vc_skip ?_
 try simp only [k_rules]
 refine h6 _ ?_; clear h6; try clear N6
 refine vc_block ?_
 refine vc_seq_k fun N9 h9 => ?_
 have hx := And.intro @hmid hx0
 refine u_reg ?_
 try refine lg_mk ?_
 iterate 2 refine u_mv ?_
 refine u_bn ?_
 refine u_cv ?_
 refine u_bn ?_
 refine u_cv ?_
 refine u_mv ?_
 refine lg_nil ?_
 have hx := hx0
 refine h9 _ ?_; clear h9; try clear N9
 refine vc_seq_k fun N10 h10 => ?_
 have hx := And.intro @hxe (And.intro @eG.eq_1 hx0)
 refine u_reg ?_
 try refine lg_mk ?_
 iterate 3 refine u_mv ?_
 refine u_pt ?_
 refine u_ld ?_
 refine u_mv ?_
 have hc := (rfl : ((E_cmpP.at_ 49)).Γ 90 = some (Spec.pure cmpPG))
 have hs := (@cmpPG.eq_1)
 refine u_kp ?_
 refine u_bn ?_
 refine lg_nil ?_
 have hx := hx0
 refine h10 _ ?_; clear h10; try clear N10
 refine u_cond (fun hb11 => ?_) (fun hb11 => ?_)
 have hlt : blt x.1 q = true := cmp_neg.1 hb11
 refine u_reg ?_
 try refine lg_mk ?_
 refine u_mv ?_
 refine u_bn ?_
 refine u_mv ?_
 refine lg_nil ?_
 refine h5 _ ⟨((lo + hi) / 2 + 1, hi), ?_, ?_, [], ?_⟩
 dsimp only
 exact ⟨by omega, by omega, takeG_lt hso hxe hlt, i4⟩
 dsimp only
 omega
 dsimp only
 refine ⟨by rfl, ?_, ?_⟩
 refine fin_ ?_
 exact cl_
 refine fin_ ?_
 exact cl_
 have hge : blt x.1 q = false := by
  cases h : blt x.1 q with
  | false => rfl
  | true => exact absurd (cmp_neg.2 h) (by have := hb11; omega)
 refine u_reg ?_
 try refine lg_mk ?_
 iterate 2 refine u_mv ?_
 refine lg_nil ?_
 refine h5 _ ⟨(lo, (lo + hi) / 2), ?_, ?_, [], ?_⟩
 dsimp only
 exact ⟨by omega, by omega, i3, dropG_ge hso hxe hge⟩
 dsimp only
 omega
 dsimp only
 refine ⟨by rfl, ?_, ?_⟩
 refine fin_ ?_
 exact cl_
 refine fin_ ?_
 exact cl_
 have hlh : lo = hi := by omega
 subst hlh
 refine vc_exit ?_
 simp only [k_rules, Nat.reduceEqDiff, reduceIte, eq_self]
 refine h4 _ ?_; clear h4; try clear N4
 refine vc_seq_k fun N12 h12 => ?_
 rcases Nat.lt_or_ge lo l.length with hk | hk
 obtain ⟨x, hxe⟩ := getE hk
 have hk' : decide ((lo : Int) < (l.length : Int)) = true := by simp; omega
 have hx := And.intro @hxe (And.intro @hk' (And.intro @eG.eq_1 hx0))
 refine u_reg ?_
 try refine lg_mk ?_
 iterate 3 refine u_mv ?_
 refine u_bn ?_
 refine u_mv ?_
 iterate 3 refine g_mv ?_
 refine g_pt ?_
 refine g_ld ?_
 refine g_mv ?_
 have hc := (rfl : ((E_cmpP.at_ 49)).Γ 90 = some (Spec.pure cmpPG))
 have hs := (@cmpPG.eq_1)
 refine g_kp ?_
 refine g_bn ?_
 refine u_pk ?_
 iterate 2 refine u_mv ?_
 refine lg_nil ?_
 have hx := hx0
 refine h12 _ ?_; clear h12; try clear N12
 refine vc_ret ?_
 try simp only [k_rules]
 have hr : hasG' l q = decide (Lib.compareBytes x.1 q = 0) := by rw [hasG_at hso i3 hxe i4]; exact decide_eq_decide.2 cmp_zero.symm
 have hr2 := lbG_at i3 i4 i2
 rw [hr, hr2]
 refine fin2_ ?_
 exact cl_
 have hxe : l[lo]? = none := List.getElem?_eq_none hk
 have hk' : decide ((lo : Int) < (l.length : Int)) = false := by simp; omega
 have hx := And.intro @hxe (And.intro @hk' (And.intro @eG.eq_1 hx0))
 refine u_reg ?_
 try refine lg_mk ?_
 iterate 3 refine u_mv ?_
 refine u_bn ?_
 refine u_mv ?_
 iterate 3 refine g_mv ?_
 refine g_pt ?_
 refine g_ld ?_
 refine g_mv ?_
 have hc := (rfl : ((E_cmpP.at_ 49)).Γ 90 = some (Spec.pure cmpPG))
 have hs := (@cmpPG.eq_1)
 refine g_kp ?_
 refine g_bn ?_
 refine u_pk ?_
 iterate 2 refine u_mv ?_
 refine lg_nil ?_
 have hx := hx0
 refine h12 _ ?_; clear h12; try clear N12
 refine vc_ret ?_
 try simp only [k_rules]
 have hr := hasG_out i3 hk
 have hr2 := lbG_at i3 i4 i2
 rw [hr, hr2]
 refine fin2_ ?_
 exact cl_
 cases hg

def E_bsf : Env Tryz.prog := E_cmpP.add 89 (Spec.pure bsfG) bsf_meets (by kernel_rfl)

theorem find_meets : Meets Tryz.prog 78 (Spec.pure findG) := by
 refine meets_fun (E_bsf.at_ 12) Tryz.func78 rfl rfl rfl ?_
 intro args p r hg hp
 unfold findG at hg
 split at hg
 rename_i ts xs q
 simp only [Option.some.injEq, Prod.mk.injEq] at hg
 obtain ⟨rfl, rfl⟩ := hg
 obtain ⟨he, hso, hl⟩ := hp
 generalize dG xs = l at *
 subst he
 have hT : (E_bsf).X = T := rfl
 have hx0 := @Tryz.results78
 have hx := hx0
 refine ⟨by rfl, ?_⟩
 intro F W0 hnp hmk
 refine vc_seq_k fun N1 h1 => ?_
 refine u_reg ?_
 try refine lg_mk ?_
 refine u_bx ?_
 iterate 2 refine u_mv ?_
 refine lg_nil ?_
 refine h1 _ ?_; clear h1; try clear N1
 refine vc_seq_k fun N2 h2 => ?_
 have hx := And.intro @dG_rows hx0
 refine u_reg ?_
 try refine lg_mk ?_
 refine u_pt ?_
 refine u_ld ?_
 refine u_mv ?_
 have hc := call_rule (E := (E_bsf.at_ 12)) (f := 89) (sp := Spec.pure bsfG) rfl
 have hs := @bsfG.eq_1
 refine u_cp ?_
 iterate 2 refine u_ex ?_
 iterate 2 refine u_mv ?_
 refine lg_nil ?_
 have hx := hx0
 refine h2 _ ?_; clear h2; try clear N2
 refine vc_ret ?_
 try simp only [k_rules]
 refine fin2_ ?_
 exact cl_
 cases hg

def E_find : Env Tryz.prog := E_bsf.add 78 (Spec.pure findG) find_meets (by kernel_rfl)
end Go.Proofs.YtmbjnkgpcbpclaaGreat
