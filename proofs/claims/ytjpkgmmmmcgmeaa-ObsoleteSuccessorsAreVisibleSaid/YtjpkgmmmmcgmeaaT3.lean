/- Walks, printed by wip/gen/walk.py. -/
import Derived.Test.YtjpkgmmmmcgmeaaT2
import Derived.Test.YtjpkgmmmmcgmeaaV5
set_option linter.all false
set_option maxRecDepth 100000
set_option maxHeartbeats 4000000
namespace Go.Proofs.Ytjpkgmmmmcgmeaa
open Go Go.Vc Go.RowKit
def incB (l : List Int) : Bool := (List.range l.length).all fun i => i == 0 || decide (l.getD (i - 1) 0 < l.getD i 0)
theorem incB_no {l : List Int} {i : Nat} (h0 : 0 < i) (hi : i < l.length) (h : ¬ l.getD (i - 1) 0 < l.getD i 0) : incB l = false := by
  unfold incB
  rw [Bool.eq_false_iff]; intro ha
  have := List.all_eq_true.1 ha i (List.mem_range.2 hi)
  simp only [Bool.or_eq_true, beq_iff_eq, decide_eq_true_eq] at this
  rcases this with h | h'
  · omega
  · exact h h'
theorem incB_yes {l : List Int} (h : ∀ j, j < l.length → 0 < j → l.getD (j - 1) 0 < l.getD j 0) : incB l = true := by
  unfold incB
  rw [List.all_eq_true]
  intro i hi
  simp only [Bool.or_eq_true, beq_iff_eq, decide_eq_true_eq]
  rcases Nat.eq_zero_or_pos i with h0 | h0
  · exact .inl h0
  · exact .inr (h i (List.mem_range.1 hi) h0)
def incTG : List AV → Option (Prop × AV)
  | [.d (.sl xs)] => some (xs = rows eI (dI xs) ∧ (dI xs).length ≤ 9223372036854775807, .d (.bool (incB (dI xs))))
  | _ => none

structure Mk where
  old : Int
  nw : List Int
  deriving DecidableEq, Inhabited
def eM (m : Mk) : List D := [.int .i64 m.old, .sl (rows eI m.nw)]
def dM1 (x : List D) : Mk := match x with
  | [.int _ o, .sl l] => ⟨o, dI l⟩
  | _ => ⟨0, []⟩
def dM : List (List D) → List Mk := List.map dM1
theorem dM_rows (l : List Mk) : dM (rows eM l) = l := by
  simp only [dM, rows, List.map_map]
  conv => rhs; rw [← List.map_id l]
  refine List.map_congr_left fun c _ => ?_
  simp only [Function.comp, eM, dM1, dI_rows, id]
theorem rect_eM (l : List Mk) : Rect 2 (rows eM l) := rows_rect (f := eM) (fun _ => rfl) l
def cmpI (a b : Int) : Int := if a < b then -1 else if b < a then 1 else 0
def cmpL : List Int → List Int → Int
  | [], [] => 0
  | [], _ :: _ => -1
  | _ :: _, [] => 1
  | a :: l, b :: m => if cmpI a b ≠ 0 then cmpI a b else cmpL l m
def cmpK (a b : Mk) : Int := if cmpI a.old b.old ≠ 0 then cmpI a.old b.old else cmpL a.nw b.nw
theorem cmpI_or (a b : Int) : (a < b ∧ cmpI a b = -1) ∨ (a = b ∧ cmpI a b = 0) ∨ (b < a ∧ cmpI a b = 1) := by
  unfold cmpI
  by_cases h : a < b
  · rw [if_pos h]; exact .inl ⟨h, rfl⟩
  · by_cases h2 : b < a
    · rw [if_neg h, if_pos h2]; exact .inr (.inr ⟨h2, rfl⟩)
    · rw [if_neg h, if_neg h2]; exact .inr (.inl ⟨by omega, rfl⟩)
theorem cmpI_self (a : Int) : cmpI a a = 0 := by unfold cmpI; rw [if_neg (by omega), if_neg (by omega)]
theorem cmpI_zero {a b : Int} : cmpI a b = 0 ↔ a = b := by
  rcases cmpI_or a b with ⟨h, e⟩ | ⟨h, e⟩ | ⟨h, e⟩ <;> rw [e] <;> constructor <;> intro g <;> omega
theorem cmpI_swap (a b : Int) : cmpI b a = - cmpI a b := by
  rcases cmpI_or a b with ⟨h, e⟩ | ⟨h, e⟩ | ⟨h, e⟩ <;> rcases cmpI_or b a with ⟨h', e'⟩ | ⟨h', e'⟩ | ⟨h', e'⟩ <;> omega
theorem cmpL_or : ∀ l m : List Int, (cmpL l m = -1 ∨ cmpL l m = 0 ∨ cmpL l m = 1)
  | [], [] => .inr (.inl rfl)
  | [], _ :: _ => .inl rfl
  | _ :: _, [] => .inr (.inr rfl)
  | a :: l, b :: m => by
    unfold cmpL
    rcases cmpI_or a b with ⟨_, e⟩ | ⟨_, e⟩ | ⟨_, e⟩
    · rw [e, if_pos (by decide)]; exact .inl rfl
    · rw [e, if_neg (by decide)]; exact cmpL_or l m
    · rw [e, if_pos (by decide)]; exact .inr (.inr rfl)
theorem cmpL_zero : ∀ l m : List Int, cmpL l m = 0 ↔ l = m
  | [], [] => by simp [cmpL]
  | [], _ :: _ => by simp [cmpL]
  | _ :: _, [] => by simp [cmpL]
  | a :: l, b :: m => by
    unfold cmpL
    by_cases h : a = b
    · subst h; rw [cmpI_self, if_neg (by decide), cmpL_zero l m]; simp
    · have h0 : cmpI a b ≠ 0 := fun e => h (cmpI_zero.1 e)
      rw [if_pos h0]
      exact ⟨fun e => absurd e h0, fun e => absurd (List.cons.inj e).1 h⟩
theorem cmpL_swap : ∀ l m : List Int, cmpL m l = - cmpL l m
  | [], [] => rfl
  | [], _ :: _ => rfl
  | _ :: _, [] => rfl
  | a :: l, b :: m => by
    show (if cmpI b a ≠ 0 then cmpI b a else cmpL m l) = - (if cmpI a b ≠ 0 then cmpI a b else cmpL l m)
    rw [cmpI_swap a b, cmpL_swap l m]
    by_cases h : cmpI a b = 0
    · rw [if_neg (by omega), if_neg (by omega)]
    · rw [if_pos (by omega), if_pos h]
theorem cmpL_trans : ∀ l m n : List Int, cmpL l m < 0 → cmpL m n < 0 → cmpL l n < 0
  | [], m, [], h1, h2 => by cases m <;> simp [cmpL] at h1 h2
  | [], _, _ :: _, _, _ => by simp [cmpL]
  | _ :: _, [], _, h1, _ => by simp [cmpL] at h1
  | _ :: _, _ :: _, [], _, h2 => by simp [cmpL] at h2
  | a :: l, b :: m, c :: n, h1, h2 => by
    unfold cmpL at h1 h2 ⊢
    have ih := cmpL_trans l m n
    rcases cmpI_or a b with ⟨x1, e1⟩ | ⟨x1, e1⟩ | ⟨x1, e1⟩ <;> rcases cmpI_or b c with ⟨x2, e2⟩ | ⟨x2, e2⟩ | ⟨x2, e2⟩ <;> rcases cmpI_or a c with ⟨x3, e3⟩ | ⟨x3, e3⟩ | ⟨x3, e3⟩ <;> rw [e1] at h1 <;> rw [e2] at h2 <;> rw [e3] <;>
      first | omega | (exfalso; simp at h1; done) | (exfalso; simp at h2; done) | (simp; done) | (simp at h1 h2 ⊢; exact ih h1 h2)
theorem cmpK_or (a b : Mk) : cmpK a b = -1 ∨ cmpK a b = 0 ∨ cmpK a b = 1 := by
  unfold cmpK
  rcases cmpI_or a.old b.old with ⟨_, e⟩ | ⟨_, e⟩ | ⟨_, e⟩
  · rw [e, if_pos (by decide)]; exact .inl rfl
  · rw [e, if_neg (by decide)]; exact cmpL_or _ _
  · rw [e, if_pos (by decide)]; exact .inr (.inr rfl)
theorem cmpK_zero {a b : Mk} : cmpK a b = 0 ↔ a = b := by
  unfold cmpK
  by_cases h : a.old = b.old
  · rw [h, cmpI_self, if_neg (by decide), cmpL_zero]
    constructor
    · intro e; cases a; cases b; simp_all
    · intro e; rw [e]
  · have h0 : cmpI a.old b.old ≠ 0 := fun e => h (cmpI_zero.1 e)
    rw [if_pos h0]
    exact ⟨fun e => absurd e h0, fun e => absurd (by rw [e]) h⟩
theorem cmpK_swap (a b : Mk) : cmpK b a = - cmpK a b := by
  unfold cmpK
  rw [cmpI_swap a.old b.old, cmpL_swap a.nw b.nw]
  by_cases h : cmpI a.old b.old = 0
  · rw [if_neg (by omega), if_neg (by omega)]
  · rw [if_pos (by omega), if_pos h]
theorem cmpK_trans {a b c : Mk} (h1 : cmpK a b < 0) (h2 : cmpK b c < 0) : cmpK a c < 0 := by
  unfold cmpK at *
  have ih := cmpL_trans a.nw b.nw c.nw
  rcases cmpI_or a.old b.old with ⟨x1, e1⟩ | ⟨x1, e1⟩ | ⟨x1, e1⟩ <;> rcases cmpI_or b.old c.old with ⟨x2, e2⟩ | ⟨x2, e2⟩ | ⟨x2, e2⟩ <;> rcases cmpI_or a.old c.old with ⟨x3, e3⟩ | ⟨x3, e3⟩ | ⟨x3, e3⟩ <;> rw [e1] at h1 <;> rw [e2] at h2 <;> rw [e3] <;>
    first | omega | (exfalso; simp at h1; done) | (exfalso; simp at h2; done) | (simp; done) | (simp at h1 h2 ⊢; exact ih h1 h2)
theorem cmpK_irr (a : Mk) : ¬ cmpK a a < 0 := by rw [cmpK_zero.2 rfl]; decide
theorem cmpK_tot {a b : Mk} (h : ¬ cmpK a b < 0) (hne : a ≠ b) : cmpK b a < 0 := by
  rw [cmpK_swap a b]
  rcases cmpK_or a b with e | e | e
  · omega
  · exact absurd (cmpK_zero.1 e) hne
  · omega
/-- Lists in strict order. -/
def srtK (l : List Mk) : Prop := l.Pairwise fun a b => cmpK a b < 0
theorem srtK_ext {A B : List Mk} (ha : srtK A) (hb : srtK B) (h : ∀ x, x ∈ A ↔ x ∈ B) : A = B := by
  unfold srtK at ha hb
  induction A generalizing B with
  | nil =>
    cases B with
    | nil => rfl
    | cons b B => exact absurd ((h b).2 (by simp)) (by simp)
  | cons a A ih =>
    cases B with
    | nil => exact absurd ((h a).1 (by simp)) (by simp)
    | cons b B =>
      rw [List.pairwise_cons] at ha hb
      have e : a = b := by
        rcases List.mem_cons.1 ((h a).1 (by simp)) with e | h1
        · exact e
        · rcases List.mem_cons.1 ((h b).2 (by simp)) with e | h2
          · exact e.symm
          · exact absurd (cmpK_trans (hb.1 a h1) (ha.1 b h2)) (cmpK_irr b)
      subst e
      rw [ih ha.2 hb.2 fun x => ?_]
      constructor
      · intro hx
        rcases List.mem_cons.1 ((h x).1 (by simp [hx])) with e | h1
        · subst e; exact absurd (ha.1 x hx) (cmpK_irr x)
        · exact h1
      · intro hx
        rcases List.mem_cons.1 ((h x).2 (by simp [hx])) with e | h1
        · subst e; exact absurd (hb.1 x hx) (cmpK_irr x)
        · exact h1
/-- Faults. -/
def rgK (n : Int) : Bool := decide (0 ≤ n) && decide (n ≤ 59)
def chkR (m : Mk) : Bool := rgK m.old && m.nw.all rgK
def chkK (m : Mk) : Int := if chkR m = false then 3 else if incB m.nw = false then 5 else 0
def m0 (L : List Mk) (i j : Nat) : Bool := L.any fun m => decide (m.old = (i : Int)) && decide ((j : Int) ∈ m.nw)
def fws (F : Nat → Nat → Bool) (k i j : Nat) : Bool := F i j || (F i k && F k j)
def fwk (F : Nat → Nat → Bool) : Nat → Nat → Nat → Bool
  | 0 => F
  | k + 1 => fws (fwk F k) k
def rcK (L : List Mk) : Nat → Nat → Bool := fwk (m0 L) 60
def cycK (L : List Mk) : Bool := (List.range 60).any fun i => rcK L i i
def mkC (L : List Mk) (i : Nat) : Int × Int := match L[i]? with
  | none => (0, 0)
  | some m => if chkR m = false then (3, i) else if incB m.nw = false then (5, i) else if i > 0 ∧ ¬ cmpK (L.getD (i - 1) default) m < 0 then (5, i) else (0, 0)
def mkF (L : List Mk) : Int × Int := if 40 < L.length then (2, -1) else if (scanW (mkC L) L.length).1 ≠ 0 then scanW (mkC L) L.length else if cycK L = true then (20, -1) else (0, 0)
structure ValM (L : List Mk) : Prop where
  len : L.length ≤ 40
  ok : ∀ m ∈ L, chkR m = true ∧ incB m.nw = true
  srt : srtK L
  cyc : cycK L = false
theorem srtK_adj {L : List Mk} (h : ∀ i m, 0 < i → L[i]? = some m → cmpK (L.getD (i - 1) default) m < 0) : srtK L := by
  unfold srtK
  rw [List.pairwise_iff_getElem]
  have key : ∀ d i (hi : i < L.length) (hj : i + d + 1 < L.length), cmpK L[i] L[i + d + 1] < 0 := by
    intro d
    induction d with
    | zero =>
      intro i hi hj
      have := h (i + 1) L[i + 1] (by omega) (List.getElem?_eq_getElem hj)
      rw [Nat.add_sub_cancel, List.getD_eq_getElem?_getD, List.getElem?_eq_getElem hi] at this
      exact this
    | succ d ih =>
      intro i hi hj
      refine cmpK_trans (ih i hi (by omega)) ?_
      have := h (i + d + 2) L[i + d + 2] (by omega) (List.getElem?_eq_getElem hj)
      rw [show i + d + 2 - 1 = i + d + 1 by omega, List.getD_eq_getElem?_getD, List.getElem?_eq_getElem (by omega : i + d + 1 < L.length)] at this
      exact this
  intro i j hi hj hij
  have := key (j - i - 1) i hi (by omega)
  have e : i + (j - i - 1) + 1 = j := by omega
  simp only [e] at this
  exact this
theorem mkF_or (L : List Mk) : (mkF L = (0, 0) ∧ ValM L) ∨ (mkF L).1 ≠ 0 := by
  unfold mkF
  by_cases hl : 40 < L.length
  · rw [if_pos hl]; exact .inr (by decide)
  · rw [if_neg hl]
    by_cases hs : (scanW (mkC L) L.length).1 ≠ 0
    · rw [if_pos hs]; exact .inr hs
    · rw [if_neg hs]
      by_cases hc : cycK L = true
      · rw [if_pos hc]; exact .inr (by decide)
      · rw [if_neg hc]
        refine .inl ⟨rfl, ?_⟩
        have hz := scanW_zero (by simpa using hs)
        have key : ∀ i m, L[i]? = some m → chkR m = true ∧ incB m.nw = true ∧ (0 < i → cmpK (L.getD (i - 1) default) m < 0) := fun i m hm => by
          have := hz i (List.getElem?_eq_some_iff.1 hm).1
          unfold mkC at this
          rw [hm] at this
          dsimp only at this
          split at this
          · exact absurd this (by simp)
          · rename_i h1
            split at this
            · exact absurd this (by simp)
            · rename_i h2
              split at this
              · exact absurd this (by simp)
              · rename_i h3
                refine ⟨by simpa using h1, by simpa using h2, fun h0 => ?_⟩
                exact Decidable.byContradiction fun hn => h3 ⟨h0, hn⟩
        refine ⟨by omega, fun m hm => ?_, srtK_adj fun i m h0 hm => (key i m hm).2.2 h0, by simpa using hc⟩
        obtain ⟨i, hi⟩ := List.getElem?_of_mem hm
        exact ⟨(key i m hi).1, (key i m hi).2.1⟩
theorem ValM.zero {L : List Mk} (h : ValM L) : mkF L = (0, 0) := by
  unfold mkF
  rw [if_neg (by have := h.len; omega)]
  have hz : scanW (mkC L) L.length = (0, 0) := scanW_none fun i hi => by
    obtain ⟨m, hm⟩ : ∃ m, L[i]? = some m := ⟨_, List.getElem?_eq_getElem hi⟩
    unfold mkC; rw [hm]; dsimp only
    obtain ⟨h1, h2⟩ := h.ok m (List.mem_of_getElem? hm)
    rw [if_neg (by simp [h1]), if_neg (by simp [h2]), if_neg ?_]
    rintro ⟨h0, h3⟩
    apply h3
    have hs := h.srt
    unfold srtK at hs
    rw [List.pairwise_iff_getElem] at hs
    have := hs (i - 1) i (by omega) hi (by omega)
    rw [List.getD_eq_getElem?_getD, List.getElem?_eq_getElem (by omega : i - 1 < L.length)]
    rw [(List.getElem?_eq_some_iff.1 hm).2] at this
    exact this
  rw [hz, if_neg (by simp), h.cyc, if_neg (by simp)]
/-- Steps of the closure. -/
theorem fws_mono {F G : Nat → Nat → Bool} (h : ∀ i j, F i j = true → G i j = true) (k : Nat) : ∀ i j, fws F k i j = true → fws G k i j = true := fun i j hf => by
  unfold fws at *
  simp only [Bool.or_eq_true, Bool.and_eq_true] at *
  rcases hf with hf | ⟨h1, h2⟩
  · exact .inl (h _ _ hf)
  · exact .inr ⟨h _ _ h1, h _ _ h2⟩
theorem fwk_mono {F G : Nat → Nat → Bool} (h : ∀ i j, F i j = true → G i j = true) : ∀ k i j, fwk F k i j = true → fwk G k i j = true
  | 0 => h
  | k + 1 => fws_mono (fwk_mono h k) k
theorem fwk_ge {F : Nat → Nat → Bool} : ∀ k i j, F i j = true → fwk F k i j = true
  | 0, _, _, h => h
  | k + 1, i, j, h => by unfold fwk fws; rw [fwk_ge k i j h]; rfl
theorem fwk_row {F : Nat → Nat → Bool} {i : Nat} (h : ∀ j, F i j = false) : ∀ k j, fwk F k i j = false
  | 0, j => h j
  | k + 1, j => by unfold fwk fws; rw [fwk_row h k j, fwk_row h k k]; rfl
theorem fws_col (F : Nat → Nat → Bool) (k i : Nat) : fws F k i k = F i k := by unfold fws; cases F i k <;> simp
theorem fws_rowk (F : Nat → Nat → Bool) (k j : Nat) : fws F k k j = F k j := by unfold fws; cases F k j <;> simp
theorem m0_mono {A B : List Mk} (h : ∀ m ∈ A, m ∈ B) (i j : Nat) (hm : m0 A i j = true) : m0 B i j = true := by
  unfold m0 at *
  rw [List.any_eq_true] at *
  obtain ⟨m, h1, h2⟩ := hm
  exact ⟨m, h m h1, h2⟩
theorem cyc_mono {A B : List Mk} (h : ∀ m ∈ A, m ∈ B) (hb : cycK B = false) : cycK A = false := by
  unfold cycK at *
  rw [List.any_eq_false] at *
  intro i hi hc
  exact hb i hi (fwk_mono (m0_mono h) 60 i i hc)

def goneK (L : List Mk) (n : Int) : Bool := L.any fun m => decide (m.old = n)
theorem goneK_mem {L : List Mk} {n : Int} : goneK L n = true ↔ ∃ m ∈ L, m.old = n := by unfold goneK; rw [List.any_eq_true]; simp
theorem numK_len (f : Nat → Bool) (k : Nat) : (lst k f).length ≤ k := by
  unfold lst; rw [List.length_map]; exact Nat.le_trans (List.length_filter_le ..) (by simp)
theorem numK_sort (f : Nat → Bool) (k : Nat) : (lst k f).Pairwise (· < ·) := by
  unfold lst
  rw [List.pairwise_map]
  refine List.Pairwise.filter _ ?_
  exact (List.pairwise_lt_range (n := k)).imp fun h => by omega
theorem numK_ext {f g : Nat → Bool} {k : Nat} (h : ∀ i, i < k → f i = g i) : lst k f = lst k g := by
  unfold lst
  congr 1
  exact List.filter_congr fun i hi => h i (List.mem_range.1 hi)
/-- Successors. -/
def sucK (L : List Mk) (n : Int) : List Int := lst 60 (fun k => (decide ((k : Int) = n) || rcK L n.toNat k) && !goneK L k)
def sucF (L : List Mk) (n : Int) : Int × Int := if (mkF L).1 ≠ 0 then mkF L else if rgK n = false then (3, -2) else (0, 0)
def sucR (L : List Mk) (n : Int) : List Int := if (sucF L n).1 ≠ 0 then [] else sucK L n
/-- Divergent changes. -/
def cntK (L : List Mk) (i : Int) : Nat := (L.filter fun m => decide (m.old = i) && decide (m.nw ≠ [])).length
def divK (L : List Mk) : List Int := lst 60 (fun i => decide (2 ≤ cntK L i))
def divR (L : List Mk) : List Int := if (mkF L).1 ≠ 0 then [] else divK L
/-- Visible changes. -/
def visC (cs : List Int) (i : Nat) : Int × Int := match cs[i]? with
  | none => (0, 0)
  | some n => if rgK n = false then (3, -2 - (i : Int)) else if i > 0 ∧ n ≤ cs.getD (i - 1) 0 then (5, -2 - (i : Int)) else (0, 0)
def visW (cs : List Int) : Int × Int := scanW (visC cs) cs.length
def visF (L : List Mk) (cs : List Int) : Int × Int := if (mkF L).1 ≠ 0 then mkF L else visW cs
def visK (L : List Mk) (cs : List Int) : List Int := cs.filter fun n => !goneK L n
def visR (L : List Mk) (cs : List Int) : List Int := if (visF L cs).1 ≠ 0 then [] else visK L cs
theorem visC_zero {cs : List Int} (h : ∀ n ∈ cs, rgK n = true) (hs : cs.Pairwise (· < ·)) : visW cs = (0, 0) := scanW_none fun i hi => by
  obtain ⟨n, hn⟩ : ∃ n, cs[i]? = some n := ⟨_, List.getElem?_eq_getElem hi⟩
  unfold visC; rw [hn]; dsimp only
  rw [if_neg (by simp [h n (List.mem_of_getElem? hn)]), if_neg ?_]
  rintro ⟨h0, h1⟩
  rw [List.pairwise_iff_getElem] at hs
  have := hs (i - 1) i (by omega) hi (by omega)
  rw [List.getD_eq_getElem?_getD, List.getElem?_eq_getElem (by omega : i - 1 < cs.length)] at h1
  rw [(List.getElem?_eq_some_iff.1 hn).2] at this
  simp only [Option.getD_some] at h1
  omega
/-- Merging. -/
def mrgK : List Mk → List Mk → List Mk
  | [], b => b
  | a :: l, [] => a :: l
  | a :: l, b :: m => if cmpK a b < 0 then a :: mrgK l (b :: m) else if cmpK b a < 0 then b :: mrgK (a :: l) m else b :: mrgK l m
  termination_by l m => l.length + m.length
theorem mrgK_mem : ∀ (l m : List Mk) (x : Mk), x ∈ mrgK l m ↔ x ∈ l ∨ x ∈ m
  | [], b, x => by unfold mrgK; simp
  | a :: l, [], x => by unfold mrgK; simp
  | a :: l, b :: m, x => by
    unfold mrgK
    split
    · rw [List.mem_cons, mrgK_mem l (b :: m) x, List.mem_cons, List.mem_cons, or_assoc]
    · rename_i h1
      split
      · rw [List.mem_cons, mrgK_mem (a :: l) m x, List.mem_cons, List.mem_cons]
        constructor <;> (rintro (h | h | h) <;> simp [h]) <;> simp_all
      · rename_i h2
        have e : a = b := Decidable.byContradiction fun hne => h2 (cmpK_tot h1 hne)
        subst e
        rw [List.mem_cons, mrgK_mem l m x, List.mem_cons, List.mem_cons]
        constructor
        · rintro (h | h | h) <;> simp [h]
        · rintro ((h | h) | (h | h)) <;> simp [h]
  termination_by l m => l.length + m.length
theorem mrgK_srt : ∀ (l m : List Mk), srtK l → srtK m → srtK (mrgK l m)
  | [], b, _, hb => by unfold mrgK; exact hb
  | a :: l, [], ha, _ => by unfold mrgK; exact ha
  | a :: l, b :: m, ha, hb => by
    have ha' := List.pairwise_cons.1 ha
    have hb' := List.pairwise_cons.1 hb
    unfold mrgK
    split
    · rename_i h1
      refine List.pairwise_cons.2 ⟨fun x hx => ?_, mrgK_srt l (b :: m) ha'.2 hb⟩
      rcases (mrgK_mem _ _ _).1 hx with h | h
      · exact ha'.1 x h
      · rcases List.mem_cons.1 h with rfl | h
        · exact h1
        · exact cmpK_trans h1 (hb'.1 x h)
    · rename_i h1
      split
      · rename_i h2
        refine List.pairwise_cons.2 ⟨fun x hx => ?_, mrgK_srt (a :: l) m ha hb'.2⟩
        rcases (mrgK_mem _ _ _).1 hx with h | h
        · rcases List.mem_cons.1 h with rfl | h
          · exact h2
          · exact cmpK_trans h2 (ha'.1 x h)
        · exact hb'.1 x h
      · rename_i h2
        have e : a = b := Decidable.byContradiction fun hne => h2 (cmpK_tot h1 hne)
        subst e
        refine List.pairwise_cons.2 ⟨fun x hx => ?_, mrgK_srt l m ha'.2 hb'.2⟩
        rcases (mrgK_mem _ _ _).1 hx with h | h
        · exact ha'.1 x h
        · exact hb'.1 x h
  termination_by l m => l.length + m.length
theorem mrgK_len : ∀ (l m : List Mk), (mrgK l m).length ≤ l.length + m.length
  | [], b => by unfold mrgK; simp
  | a :: l, [] => by unfold mrgK; simp
  | a :: l, b :: m => by
    unfold mrgK
    have h1 := mrgK_len l (b :: m); have h2 := mrgK_len (a :: l) m; have h3 := mrgK_len l m
    simp only [List.length_cons] at *
    split
    · simp only [List.length_cons]; omega
    · split <;> simp only [List.length_cons] <;> omega
  termination_by l m => l.length + m.length
/-- Sorted, each once. -/
def leK (a b : Mk) : Bool := decide (¬ cmpK b a < 0)
def sortK (l : List Mk) : List Mk := l.mergeSort leK
theorem leK_trans (a b c : Mk) (h1 : leK a b = true) (h2 : leK b c = true) : leK a c = true := by
  unfold leK at *
  have h1 := of_decide_eq_true h1; have h2 := of_decide_eq_true h2
  refine decide_eq_true fun h => ?_
  by_cases e : b = c
  · subst e; exact h1 h
  · have h3 : cmpK b c < 0 := cmpK_tot h2 (fun h => e h.symm)
    exact h1 (cmpK_trans h3 h)
theorem leK_tot (a b : Mk) : (leK a b || leK b a) = true := by
  unfold leK
  rcases cmpK_or a b with e | e | e
  · have := cmpK_swap a b; simp; omega
  · have := cmpK_swap a b; simp; omega
  · have := cmpK_swap a b; simp; omega
theorem sortK_mem {l : List Mk} {x : Mk} : x ∈ sortK l ↔ x ∈ l := List.mem_mergeSort
theorem sortK_len (l : List Mk) : (sortK l).length = l.length := List.length_mergeSort ..
theorem sortK_srt (l : List Mk) : (sortK l).Pairwise fun a b => leK a b = true := List.pairwise_mergeSort leK_trans leK_tot l
theorem sortK_of {l m : List Mk} (hp : l.Perm m) (hs : m.Pairwise fun a b => leK a b = true) : m = sortK l := by
  have h1 : (sortK l).Perm m := (List.mergeSort_perm l leK).trans hp
  refine List.Perm.eq_of_pairwise (le := fun a b => leK a b = true) ?_ hs (sortK_srt l) h1.symm
  intro a b _ _ h1 h2
  unfold leK at h1 h2
  have h1 := of_decide_eq_true h1; have h2 := of_decide_eq_true h2
  exact Decidable.byContradiction fun hne => h1 (cmpK_tot h2 hne)
def onceK : List Mk → List Mk
  | [] => []
  | a :: l => a :: onceG a l
where onceG (a : Mk) : List Mk → List Mk
  | [] => []
  | b :: l => if b = a then onceG a l else b :: onceG b l
/-- The same, from the left. -/
def onceN (l : List Mk) : Nat → List Mk
  | 0 => []
  | k + 1 => match l[k]? with
    | none => onceN l k
    | some x => if 0 < k ∧ l.getD (k - 1) default = x then onceN l k else onceN l k ++ [x]
theorem onceN_mem {l : List Mk} : ∀ {k : Nat}, k ≤ l.length → ∀ x, x ∈ onceN l k ↔ x ∈ l.take k
  | 0, _, x => by simp [onceN]
  | k + 1, hk, x => by
    obtain ⟨y, hy⟩ : ∃ y, l[k]? = some y := ⟨_, List.getElem?_eq_getElem (by omega)⟩
    unfold onceN
    rw [hy, List.take_add_one, hy]
    dsimp only
    split
    · rename_i h
      rw [onceN_mem (by omega)]
      simp only [Option.toList_some, List.mem_append, List.mem_singleton]
      constructor
      · exact .inl
      · rintro (h1 | rfl)
        · exact h1
        · have : (l.take k)[k - 1]? = some x := by
            rw [List.getElem?_take_of_lt (by omega), List.getElem?_eq_getElem (by omega)]
            have := h.2
            rw [List.getD_eq_getElem?_getD, List.getElem?_eq_getElem (by omega : k - 1 < l.length)] at this
            exact congrArg some this
          exact List.mem_of_getElem? this
    · rw [List.mem_append, onceN_mem (by omega)]
      simp
theorem onceN_len (l : List Mk) : ∀ k : Nat, (onceN l k).length ≤ k
  | 0 => by simp [onceN]
  | k + 1 => by
    have := onceN_len l k
    unfold onceN
    split
    · omega
    · split
      · omega
      · rw [List.length_append]; simp; omega
theorem onceN_srt {l : List Mk} (hs : l.Pairwise fun a b => leK a b = true) : ∀ {k : Nat}, k ≤ l.length → srtK (onceN l k) ∧ (0 < k → (onceN l k).getLast? = l[k - 1]?)
  | 0, _ => ⟨List.Pairwise.nil, fun h => by omega⟩
  | k + 1, hk => by
    obtain ⟨h1, h2⟩ := onceN_srt hs (k := k) (by omega)
    have hy : l[k]? = some (l[k]'(by omega)) := List.getElem?_eq_getElem (by omega)
    unfold onceN
    rw [hy]
    dsimp only
    split
    · rename_i h
      refine ⟨h1, fun _ => ?_⟩
      rw [h2 h.1, Nat.add_sub_cancel, hy, List.getElem?_eq_getElem (by omega)]
      have := h.2
      rw [List.getD_eq_getElem?_getD, List.getElem?_eq_getElem (by omega : k - 1 < l.length)] at this
      exact congrArg some this
    · rename_i h
      refine ⟨?_, fun _ => by simp⟩
      unfold srtK
      rw [List.pairwise_append]
      refine ⟨h1, by simp, fun a ha b hb => ?_⟩
      rw [List.mem_singleton] at hb
      subst hb
      by_cases h0 : k = 0
      · subst h0; cases ha
      · rw [onceN_mem (by omega)] at ha
        obtain ⟨i, hi⟩ := List.getElem?_of_mem ha
        rw [List.getElem?_take] at hi
        split at hi
        · rename_i hik
          rw [List.pairwise_iff_getElem] at hs
          obtain ⟨g1, g2⟩ := List.getElem?_eq_some_iff.1 hi
          have g3 := hs i k g1 (by omega) hik
          rw [g2] at g3
          unfold leK at g3
          have g3 := of_decide_eq_true g3
          -- the place before k
          have hl : l[k - 1]? = some (l[k - 1]'(by omega)) := List.getElem?_eq_getElem (by omega)
          have hne : l[k - 1]'(by omega) ≠ l[k]'(by omega) := fun e => h ⟨by omega, by rw [List.getD_eq_getElem?_getD, hl]; exact e⟩
          have g4 := hs (k - 1) k (by omega) (by omega) (by omega)
          unfold leK at g4
          have g5 := cmpK_tot (of_decide_eq_true g4) (fun e => hne e.symm)
          by_cases hik2 : i = k - 1
          · subst hik2; rw [← g2]; exact g5
          · have g6 := hs i (k - 1) g1 (by omega) (by omega)
            rw [g2] at g6
            unfold leK at g6
            have g6 := of_decide_eq_true g6
            by_cases e : a = l[k - 1]'(by omega)
            · rw [e]; exact g5
            · exact cmpK_trans (cmpK_tot g6 (fun h => e h.symm)) g5
        · cases hi
/-- What Merge lays together. -/
def unK (a b : List Mk) : List Mk := onceN (sortK (a ++ b)) (a ++ b).length
theorem unK_is {a b : List Mk} (ha : srtK a) (hb : srtK b) : unK a b = mrgK a b := by
  unfold unK
  have h := onceN_srt (sortK_srt (a ++ b)) (k := (a ++ b).length) (by rw [sortK_len]; exact Nat.le_refl _)
  refine srtK_ext h.1 (mrgK_srt a b ha hb) fun x => ?_
  rw [onceN_mem (by rw [sortK_len]; exact Nat.le_refl _), mrgK_mem, List.take_of_length_le (by rw [sortK_len]; exact Nat.le_refl _), sortK_mem, List.mem_append]
def mgF (a b : List Mk) : Int × Int := if (mkF a).1 ≠ 0 then mkF a else if (mkF b).1 ≠ 0 then ((mkF b).1, -2) else if 40 < (unK a b).length then (10, -1) else if cycK (unK a b) = true then (20, -3) else (0, 0)
def mgR (a b : List Mk) : List Mk := if (mgF a b).1 ≠ 0 then [] else unK a b
theorem mg_or (a b : List Mk) : ((mgF a b).1 ≠ 0 ∧ mgR a b = []) ∨ (mgF a b = (0, 0) ∧ ValM a ∧ ValM b ∧ mgR a b = mrgK a b ∧ ValM (mrgK a b)) := by
  by_cases h0 : (mgF a b).1 ≠ 0
  · exact .inl ⟨h0, by unfold mgR; rw [if_pos h0]⟩
  · right
    have h1 : mgR a b = unK a b := by unfold mgR; rw [if_neg h0]
    rw [h1]
    simp only [ne_eq, Decidable.not_not] at h0
    unfold mgF at h0 ⊢
    rcases mkF_or a with ⟨ea, ha⟩ | ha
    · rcases mkF_or b with ⟨eb, hb⟩ | hb
      · rw [ea, eb, if_neg (by simp), if_neg (by simp)] at h0 ⊢
        rw [unK_is ha.srt hb.srt] at h0 ⊢
        by_cases hl : 40 < (mrgK a b).length
        · rw [if_pos hl] at h0; exact absurd h0 (by decide)
        · rw [if_neg hl] at h0 ⊢
          by_cases hc : cycK (mrgK a b) = true
          · rw [if_pos hc] at h0; exact absurd h0 (by decide)
          · rw [if_neg hc]
            exact ⟨rfl, ha, hb, rfl, by omega, fun m hm => by
              rcases (mrgK_mem _ _ _).1 hm with h | h
              · exact ha.ok m h
              · exact hb.ok m h, mrgK_srt a b ha.srt hb.srt, by simpa using hc⟩
      · rw [ea, if_neg (by simp), if_pos hb] at h0; exact absurd h0 hb
    · rw [if_pos ha] at h0; exact absurd h0 ha
theorem mg_is {a b : List Mk} (ha : ValM a) (hb : ValM b) (h : ValM (mrgK a b)) : mgF a b = (0, 0) ∧ mgR a b = mrgK a b := by
  have : mgF a b = (0, 0) := by
    unfold mgF
    rw [ha.zero, hb.zero, if_neg (by simp), if_neg (by simp), unK_is ha.srt hb.srt, if_neg (by have := h.len; omega), h.cyc, if_neg (by simp)]
  refine ⟨this, ?_⟩
  unfold mgR; rw [this, if_neg (by simp), unK_is ha.srt hb.srt]
theorem nodup_leK {l m : List Mk} (h : l.Nodup) (hs : ∀ x ∈ l, x ∈ m) : l.length ≤ m.length := by
  induction l generalizing m with
  | nil => simp
  | cons a l ih =>
    obtain ⟨h1, h2⟩ := List.nodup_cons.1 h
    have ha := hs a (by simp)
    have := ih (m := m.erase a) h2 (fun x hx => (List.mem_erase_of_ne (fun e => h1 (by rw [← e]; exact hx))).2 (hs x (by simp [hx])))
    rw [List.length_erase_of_mem ha] at this
    have : 0 < m.length := List.length_pos_of_mem ha
    simp only [List.length_cons]; omega
theorem ValM.sub {a b : List Mk} (hb : ValM b) (hs : srtK a) (h : ∀ m ∈ a, m ∈ b) : ValM a where
  len := Nat.le_trans (nodup_leK (List.Pairwise.imp (fun h e => by subst e; exact cmpK_irr _ h) hs) h) hb.len
  ok m hm := hb.ok m (h m hm)
  srt := hs
  cyc := cyc_mono h hb.cyc
/-- The semilattice. -/
theorem mg_semi {a b c : List Mk} (h1 : (mgF a b).1 = 0) (h2 : (mgF (mgR a b) c).1 = 0) : mgF a a = (0, 0) ∧ mgF b a = (0, 0) ∧ mgF b c = (0, 0) ∧ mgF a (mgR b c) = (0, 0) ∧ mgR a a = a ∧ mgR a b = mgR b a ∧ mgR (mgR a b) c = mgR a (mgR b c) := by
  rcases mg_or a b with ⟨h, _⟩ | ⟨_, ha, hb, e1, hab⟩
  · exact absurd h1 h
  rw [e1] at h2 ⊢
  rcases mg_or (mrgK a b) c with ⟨h, _⟩ | ⟨_, _, hc, e2, habc⟩
  · exact absurd h2 h
  rw [e2]
  have saa : srtK (mrgK a a) := mrgK_srt a a ha.srt ha.srt
  have eaa : mrgK a a = a := srtK_ext saa ha.srt fun x => by rw [mrgK_mem, or_self]
  have eba : mrgK b a = mrgK a b := srtK_ext (mrgK_srt b a hb.srt ha.srt) hab.srt fun x => by rw [mrgK_mem, mrgK_mem, or_comm]
  have sbc := mrgK_srt b c hb.srt hc.srt
  have hbc : ValM (mrgK b c) := habc.sub sbc fun m hm => by
    rw [mrgK_mem] at hm; rw [mrgK_mem, mrgK_mem]
    rcases hm with h | h
    · exact .inl (.inr h)
    · exact .inr h
  have eabc : mrgK a (mrgK b c) = mrgK (mrgK a b) c := srtK_ext (mrgK_srt a _ ha.srt sbc) habc.srt fun x => by rw [mrgK_mem, mrgK_mem, mrgK_mem, mrgK_mem, or_assoc]
  obtain ⟨g1, g2⟩ := mg_is ha ha (by rw [eaa]; exact ha)
  obtain ⟨g3, g4⟩ := mg_is hb ha (by rw [eba]; exact hab)
  obtain ⟨g5, g6⟩ := mg_is hb hc hbc
  rw [g6]
  obtain ⟨g7, g8⟩ := mg_is ha hbc (by rw [eabc]; exact habc)
  exact ⟨g1, g3, g5, g7, by rw [g2, eaa], by rw [g4, eba], by rw [g8, eabc]⟩
/-- Successors are visible. -/
theorem suc_vis {L : List Mk} {n : Int} (h : (sucF L n).1 = 0) : visF L (sucR L n) = (0, 0) ∧ visF L [n] = (0, 0) ∧ visR L (sucR L n) = sucR L n ∧ decide ((visR L [n]).length = 1) = decide (sucR L n = [n]) := by
  unfold sucF at h
  rcases mkF_or L with ⟨hz, hv⟩ | hb
  · rw [hz, if_neg (by simp)] at h
    have hn : rgK n = true := by
      cases hn : rgK n with
      | true => rfl
      | false => rw [hn, if_pos rfl] at h; exact absurd h (by decide)
    have hsF : sucF L n = (0, 0) := by unfold sucF; rw [hz, if_neg (by simp), hn, if_neg (by simp)]
    have hs : sucR L n = sucK L n := by unfold sucR; rw [hsF, if_neg (by simp)]
    rw [hs]
    have hr : ∀ x ∈ sucK L n, rgK x = true ∧ goneK L x = false := fun x hx => by
      obtain ⟨i, h1, h2, rfl⟩ := lst_mem.1 hx
      simp only [Bool.and_eq_true, Bool.not_eq_true'] at h2
      exact ⟨by unfold rgK; rw [Bool.and_eq_true]; exact ⟨decide_eq_true (by omega), decide_eq_true (by omega)⟩, h2.2⟩
    have v1 : visF L (sucK L n) = (0, 0) := by unfold visF; rw [hz, if_neg (by simp)]; exact visC_zero (fun x hx => (hr x hx).1) (numK_sort _ _)
    have v2 : visF L [n] = (0, 0) := by unfold visF; rw [hz, if_neg (by simp)]; exact visC_zero (fun x hx => by rw [List.mem_singleton] at hx; rw [hx]; exact hn) (by simp)
    refine ⟨v1, v2, ?_, ?_⟩
    · unfold visR; rw [v1, if_neg (by simp)]
      exact List.filter_eq_self.2 fun x hx => by rw [(hr x hx).2]; rfl
    · unfold visR; rw [v2, if_neg (by simp)]
      unfold visK
      have hn2 := hn
      unfold rgK at hn2
      rw [Bool.and_eq_true] at hn2
      have n0 := of_decide_eq_true hn2.1; have n1 := of_decide_eq_true hn2.2
      refine decide_eq_decide.2 ?_
      cases hg : goneK L n with
      | true =>
        rw [List.filter_cons_of_neg (by simp [hg])]
        constructor
        · intro h; simp at h
        · intro h
          have : n ∈ sucK L n := by rw [h]; simp
          rw [(hr n this).2] at hg; cases hg
      | false =>
        rw [List.filter_cons_of_pos (by simp [hg])]
        constructor
        · intro _
          have hrow : ∀ j, m0 L n.toNat j = false := fun j => by
            unfold m0
            rw [List.any_eq_false]
            intro m hm hc
            simp only [Bool.and_eq_true, decide_eq_true_eq] at hc
            have : goneK L n = true := goneK_mem.2 ⟨m, hm, by omega⟩
            rw [hg] at this; cases this
          have : sucK L n = lst 60 (fun k => decide ((k : Int) = n)) := by
            unfold sucK
            refine numK_ext fun i _ => ?_
            show ((decide ((i : Int) = n) || fwk (m0 L) 60 n.toNat i) && (!goneK L i)) = _
            rw [fwk_row hrow 60 i, Bool.or_false]
            by_cases e : (i : Int) = n
            · rw [e, hg]; simp
            · rw [decide_eq_false e]; rfl
          rw [this]
          refine sorted_ext (numK_sort _ _) (by simp) fun x => ?_
          rw [lst_mem, List.mem_singleton]
          constructor
          · rintro ⟨i, _, h2, rfl⟩; exact of_decide_eq_true h2
          · rintro rfl; exact ⟨x.toNat, by omega, decide_eq_true (by omega), by omega⟩
        · intro _; rfl
  · rw [if_pos hb] at h; exact absurd h hb
/-- More markers hide more. -/
theorem mg_hide {a b : List Mk} {cs : List Int} (h1 : (mgF a b).1 = 0) (h2 : (visF a cs).1 = 0) : (visF b cs).1 = 0 ∧ (visF (mgR a b) cs).1 = 0 ∧ ∀ n ∈ cs, decide (n ∈ visR (mgR a b) cs) = (decide (n ∈ visR a cs) && decide (n ∈ visR b cs)) := by
  rcases mg_or a b with ⟨h, _⟩ | ⟨_, ha, hb, e1, hab⟩
  · exact absurd h1 h
  have hf : ∀ {L : List Mk}, ValM L → visF L cs = visW cs := fun h => by unfold visF; rw [h.zero, if_neg (by simp)]
  rw [e1, hf hb, hf hab, ← hf ha]
  refine ⟨h2, h2, fun n hn => ?_⟩
  have hw : (visW cs).1 = 0 := by rw [← hf ha]; exact h2
  unfold visR
  rw [hf ha, hf hb, hf hab, if_neg (by simp [hw]), if_neg (by simp [hw]), if_neg (by simp [hw])]
  have e : goneK (mrgK a b) n = (goneK a n || goneK b n) := by
    rw [Bool.eq_iff_iff, Bool.or_eq_true, goneK_mem, goneK_mem, goneK_mem]
    constructor
    · rintro ⟨m, hm, rfl⟩
      rcases (mrgK_mem _ _ _).1 hm with h | h
      · exact .inl ⟨m, h, rfl⟩
      · exact .inr ⟨m, h, rfl⟩
    · rintro (⟨m, hm, rfl⟩ | ⟨m, hm, rfl⟩)
      · exact ⟨m, (mrgK_mem _ _ _).2 (.inl hm), rfl⟩
      · exact ⟨m, (mrgK_mem _ _ _).2 (.inr hm), rfl⟩
  have hm : ∀ L : List Mk, decide (n ∈ visK L cs) = !goneK L n := fun L => by
    unfold visK
    rw [Bool.eq_iff_iff, decide_eq_true_eq, List.mem_filter]
    simp [hn]
  rw [hm, hm, hm, e]
  cases goneK a n <;> cases goneK b n <;> rfl

/-- An obsolete commit below. -/
def oldK (L : List Mk) (C : List Cm) (i : Nat) : Bool := (List.range i).any fun k => ancB C i k && goneK L k
theorem oldK_iff {L : List Mk} {C : List Cm} (hv : Valid C) {i : Nat} : oldK L C i = true ↔ ∃ k, k < i ∧ Anc C i k ∧ goneK L k = true := by
  unfold oldK; rw [List.any_eq_true]
  constructor
  · rintro ⟨k, hk, h⟩
    rw [Bool.and_eq_true, anc_iff hv] at h
    exact ⟨k, List.mem_range.1 hk, h⟩
  · rintro ⟨k, hk, h⟩
    exact ⟨k, List.mem_range.2 hk, by rw [Bool.and_eq_true, anc_iff hv]; exact h⟩
theorem oldK_step {L : List Mk} {C : List Cm} (hv : Valid C) {i : Nat} : oldK L C i = (C.getD i default).par.any fun p => oldK L C p.toNat || goneK L p := by
  rw [Bool.eq_iff_iff, oldK_iff hv, List.any_eq_true]
  constructor
  · rintro ⟨k, hk, ha, hg⟩
    rcases ha.cases' with rfl | ⟨j, hj, ha'⟩
    · omega
    · refine ⟨j, hj, ?_⟩
      rw [Bool.or_eq_true, Int.toNat_natCast, oldK_iff hv]
      by_cases e : k = j
      · subst e; exact .inr hg
      · have := ha'.le hv
        exact .inl ⟨k, by omega, ha', hg⟩
  · rintro ⟨p, hp, h⟩
    obtain ⟨h1, h2, h3⟩ := hv.parD hp
    have hpn : ((p.toNat : Nat) : Int) = p := by omega
    rw [Bool.or_eq_true, oldK_iff hv] at h
    rcases h with ⟨k, hk, ha, hg⟩ | hg
    · exact ⟨k, by omega, .step (j := p.toNat) (by rw [hpn]; exact hp) ha, hg⟩
    · exact ⟨p.toNat, by omega, .step (j := p.toNat) (by rw [hpn]; exact hp) (.refl _), by rw [hpn]; exact hg⟩
/-- The bits on the way. -/
def belV (L : List Mk) (C : List Cm) (i j : Nat) : Nat → Bool := fun x => if x < i then oldK L C x else decide (x = i) && ((C.getD i default).par.take j).any fun p => oldK L C p.toNat || goneK L p
theorem belV_zero (L : List Mk) (C : List Cm) (n : Nat) : vec n (belV L C 0 0) = List.replicate n false := by
  rw [← vec_false]
  refine vec_ext fun k _ => ?_
  unfold belV; rw [if_neg (by omega)]; simp
theorem belV_next {L : List Mk} {C : List Cm} (hv : Valid C) {i : Nat} {c : Cm} (hc : C[i]? = some c) : belV L C i c.par.length = belV L C (i + 1) 0 := by
  funext x
  unfold belV
  have e : C.getD i default = c := getD_of hc
  by_cases h : x < i
  · rw [if_pos h, if_pos (by omega)]
  · rw [if_neg h]
    by_cases h2 : x = i
    · subst h2
      rw [if_pos (by omega), e, List.take_length, oldK_step hv, e]; simp
    · rw [if_neg (by omega), decide_eq_false h2]; simp
theorem belV_at {L : List Mk} {C : List Cm} {i j : Nat} : belV L C i j i = ((C.getD i default).par.take j).any fun p => oldK L C p.toNat || goneK L p := by
  unfold belV; rw [if_neg (by omega), decide_eq_true rfl, Bool.true_and]
theorem belV_lt {L : List Mk} {C : List Cm} {i j x : Nat} (h : x < i) : belV L C i j x = oldK L C x := by unfold belV; rw [if_pos h]
theorem belV_set {L : List Mk} {C : List Cm} {i j : Nat} {c : Cm} {p : Int} (hc : C[i]? = some c) (hp : c.par[j]? = some p) {n : Nat} :
    (vec n (belV L C i j)).set i (belV L C i j i || (oldK L C p.toNat || goneK L p)) = vec n (belV L C i (j + 1)) := by
  rw [vec_set]
  refine vec_ext fun x _ => ?_
  have e : C.getD i default = c := getD_of hc
  unfold setB
  by_cases h : x = i
  · subst h
    rw [if_pos rfl, belV_at, belV_at, e, List.take_add_one, hp]
    simp only [Option.toList_some, List.any_append, List.any_cons, List.any_nil, Bool.or_false]
  · rw [if_neg h]
    unfold belV
    by_cases h2 : x < i
    · rw [if_pos h2, if_pos h2]
    · rw [if_neg h2, if_neg h2, decide_eq_false h]; simp
def orpK (L : List Mk) (C : List Cm) : List Int := lst C.length fun i => oldK L C i && !goneK L i
def orpF (L : List Mk) (C : List Cm) : Int × Int := if (mkF L).1 ≠ 0 then mkF L else if (histF C).1 ≠ 0 then ((histF C).1, -2) else (0, 0)
def orpR (L : List Mk) (C : List Cm) : List Int := if (orpF L C).1 ≠ 0 then [] else orpK L C
/-- Divergent changes, as the reference finds them. -/
def dvIn (L : List Mk) (i k : Nat) (acc : List Int) : List Int := match L[i]?, L[k]? with
  | some a, some b => if a.old = b.old ∧ a.nw ≠ [] ∧ b.nw ≠ [] then ins acc a.old else acc
  | _, _ => acc
def dvK (L : List Mk) (i : Nat) : Nat → List Int → List Int
  | 0, acc => acc
  | k + 1, acc => dvIn L i k (dvK L i k acc)
def dvI (L : List Mk) : Nat → List Int
  | 0 => []
  | i + 1 => dvK L i i (dvI L i)
theorem dvIn_mem {L : List Mk} {i k : Nat} {acc : List Int} (hs : acc.Pairwise (· < ·)) : (dvIn L i k acc).Pairwise (· < ·) ∧ ∀ x, x ∈ dvIn L i k acc ↔ x ∈ acc ∨ ∃ a b, L[i]? = some a ∧ L[k]? = some b ∧ a.old = x ∧ b.old = x ∧ a.nw ≠ [] ∧ b.nw ≠ [] := by
  unfold dvIn
  split
  · rename_i a b ha hb
    split
    · rename_i h
      refine ⟨ins_sorted hs, fun x => ?_⟩
      rw [ins_mem]
      constructor
      · rintro (rfl | h1)
        · exact .inr ⟨a, b, ha, hb, rfl, h.1.symm, h.2.1, h.2.2⟩
        · exact .inl h1
      · rintro (h1 | ⟨a', b', e1, e2, e3, _⟩)
        · exact .inr h1
        · rw [ha] at e1; cases e1; exact .inl e3.symm
    · rename_i h
      refine ⟨hs, fun x => ⟨.inl, ?_⟩⟩
      rintro (h1 | ⟨a', b', e1, e2, e3, e4, e5, e6⟩)
      · exact h1
      · rw [ha] at e1; cases e1; rw [hb] at e2; cases e2
        exact absurd ⟨by rw [e3, e4], e5, e6⟩ h
  · rename_i h
    refine ⟨hs, fun x => ⟨.inl, ?_⟩⟩
    rintro (h1 | ⟨a', b', e1, e2, _⟩)
    · exact h1
    · exact absurd e2 (fun e2 => h a' b' e1 e2)
theorem dvK_mem {L : List Mk} {i : Nat} : ∀ {k : Nat} {acc : List Int}, acc.Pairwise (· < ·) → (dvK L i k acc).Pairwise (· < ·) ∧ ∀ x, x ∈ dvK L i k acc ↔ x ∈ acc ∨ ∃ j, j < k ∧ ∃ a b, L[i]? = some a ∧ L[j]? = some b ∧ a.old = x ∧ b.old = x ∧ a.nw ≠ [] ∧ b.nw ≠ []
  | 0, acc, hs => ⟨hs, fun x => ⟨.inl, fun h => by
    rcases h with h | ⟨j, hj, _⟩
    · exact h
    · omega⟩⟩
  | k + 1, acc, hs => by
    obtain ⟨h1, h2⟩ := dvK_mem (k := k) hs
    obtain ⟨h3, h4⟩ := dvIn_mem (L := L) (i := i) (k := k) h1
    refine ⟨h3, fun x => ?_⟩
    show x ∈ dvIn L i k (dvK L i k acc) ↔ _
    rw [h4, h2]
    constructor
    · rintro ((h | ⟨j, hj, h⟩) | h)
      · exact .inl h
      · exact .inr ⟨j, by omega, h⟩
      · exact .inr ⟨k, by omega, h⟩
    · rintro (h | ⟨j, hj, h⟩)
      · exact .inl (.inl h)
      · by_cases e : j = k
        · subst e; exact .inr h
        · exact .inl (.inr ⟨j, by omega, h⟩)
theorem dvI_mem {L : List Mk} : ∀ i : Nat, (dvI L i).Pairwise (· < ·) ∧ ∀ x, x ∈ dvI L i ↔ ∃ m j, m < i ∧ j < m ∧ ∃ a b, L[m]? = some a ∧ L[j]? = some b ∧ a.old = x ∧ b.old = x ∧ a.nw ≠ [] ∧ b.nw ≠ []
  | 0 => ⟨List.Pairwise.nil, fun x => ⟨fun h => (by cases h), fun ⟨m, j, h, _⟩ => by omega⟩⟩
  | i + 1 => by
    obtain ⟨h1, h2⟩ := dvI_mem (L := L) i
    obtain ⟨h3, h4⟩ := dvK_mem (L := L) (i := i) (k := i) h1
    refine ⟨h3, fun x => ?_⟩
    show x ∈ dvK L i i (dvI L i) ↔ _
    rw [h4, h2]
    constructor
    · rintro (⟨m, j, g1, g2, h⟩ | ⟨j, hj, h⟩)
      · exact ⟨m, j, by omega, g2, h⟩
      · exact ⟨i, j, by omega, hj, h⟩
    · rintro ⟨m, j, g1, g2, h⟩
      by_cases e : m = i
      · subst e; exact .inr ⟨j, g2, h⟩
      · exact .inl ⟨m, j, by omega, g2, h⟩
theorem two_of {α : Type} {f : α → Bool} : ∀ {l : List α}, 2 ≤ (l.filter f).length ↔ ∃ (i j : Nat) (a b : α), j < i ∧ l[i]? = some a ∧ l[j]? = some b ∧ f a = true ∧ f b = true
  | [] => by simp
  | x :: l => by
    have key : 1 ≤ (l.filter f).length ↔ ∃ (i : Nat) (a : α), l[i]? = some a ∧ f a = true := by
      constructor
      · intro h
        obtain ⟨a, ha⟩ := List.exists_mem_of_length_pos (show 0 < (l.filter f).length by omega)
        obtain ⟨h1, h2⟩ := List.mem_filter.1 ha
        obtain ⟨i, hi⟩ := List.getElem?_of_mem h1
        exact ⟨i, a, hi, h2⟩
      · rintro ⟨i, a, hi, ha⟩
        exact List.length_pos_of_mem (List.mem_filter.2 ⟨List.mem_of_getElem? hi, ha⟩)
    by_cases hx : f x = true
    · rw [List.filter_cons_of_pos hx, List.length_cons]
      constructor
      · intro h
        obtain ⟨i, a, hi, ha⟩ := key.1 (by omega)
        exact ⟨i + 1, 0, a, x, by omega, by simpa using hi, by simp, ha, hx⟩
      · rintro ⟨i, j, a, b, hij, hi, hj, ha, hb⟩
        cases i with
        | zero => omega
        | succ i => have := key.2 ⟨i, a, by simpa using hi, ha⟩; omega
    · rw [List.filter_cons_of_neg hx, two_of]
      constructor
      · rintro ⟨i, j, a, b, h, h1, h2, h3⟩
        exact ⟨i + 1, j + 1, a, b, by omega, by simpa using h1, by simpa using h2, h3⟩
      · rintro ⟨i, j, a, b, hij, hi, hj, ha, hb⟩
        cases i with
        | zero => omega
        | succ i =>
          cases j with
          | zero => simp at hj; subst hj; exact absurd hb hx
          | succ j => exact ⟨i, j, a, b, by omega, by simpa using hi, by simpa using hj, ha, hb⟩
theorem dvI_is {L : List Mk} (hv : ValM L) : dvI L L.length = divK L := by
  obtain ⟨h1, h2⟩ := dvI_mem (L := L) L.length
  refine sorted_ext h1 (lst_sorted _ _) fun x => ?_
  unfold divK
  rw [h2, lst_mem]
  constructor
  · rintro ⟨m, j, g1, g2, a, b, ha, hb, e1, e2, e3, e4⟩
    have hr := (hv.ok a (List.mem_of_getElem? ha)).1
    unfold chkR rgK at hr
    simp only [Bool.and_eq_true, decide_eq_true_eq] at hr
    have hx : ((x.toNat : Nat) : Int) = x := by omega
    refine ⟨x.toNat, by omega, decide_eq_true ?_, hx.symm⟩
    unfold cntK
    rw [two_of]
    exact ⟨m, j, a, b, g2, ha, hb, by rw [hx]; simp [e1, e3], by rw [hx]; simp [e2, e4]⟩
  · rintro ⟨k, hk, h, rfl⟩
    have h := of_decide_eq_true h
    unfold cntK at h
    rw [two_of] at h
    obtain ⟨i, j, a, b, hij, hi, hj, ha, hb⟩ := h
    simp only [Bool.and_eq_true, decide_eq_true_eq] at ha hb
    exact ⟨i, j, (List.getElem?_eq_some_iff.1 hi).1, hij, a, b, hi, hj, ha.1, hb.1, ha.2, hb.2⟩
/-- Matrices. -/
def matB (F : Nat → Nat → Bool) (n : Nat) : List (List Bool) := (List.range n).map fun i => vec n (F i)
theorem matB_len (F : Nat → Nat → Bool) (n : Nat) : (matB F n).length = n := by simp [matB]
theorem matB_get {F : Nat → Nat → Bool} {n i : Nat} (h : i < n) : (matB F n)[i]? = some (vec n (F i)) := by simp [matB, List.getElem?_range h]
def setM (F : Nat → Nat → Bool) (a b : Nat) (v : Bool) : Nat → Nat → Bool := fun i j => if i = a ∧ j = b then v else F i j
theorem matB_set {F : Nat → Nat → Bool} {n a b : Nat} {v : Bool} (ha : a < n) : (matB F n).set a ((vec n (F a)).set b v) = matB (setM F a b v) n := by
  apply List.ext_getElem?
  intro i
  rw [List.getElem?_set, matB_len]
  by_cases hi : i < n
  · rw [matB_get hi, matB_get hi]
    by_cases h : a = i
    · subst h
      rw [if_pos rfl, if_pos hi, vec_set]
      refine congrArg some (vec_ext fun k _ => ?_)
      unfold setB setM
      by_cases e : k = b
      · rw [if_pos e, if_pos ⟨rfl, e⟩]
      · rw [if_neg e, if_neg (fun h => e h.2)]
    · rw [if_neg h]
      refine congrArg some (vec_ext fun k _ => ?_)
      unfold setM; rw [if_neg (fun e => h e.1.symm)]
  · rw [List.getElem?_eq_none (l := matB F n) (by rw [matB_len]; omega), List.getElem?_eq_none (l := matB (setM F a b v) n) (by rw [matB_len]; omega), if_neg (by omega)]
theorem matB_ext {F G : Nat → Nat → Bool} {n : Nat} (h : ∀ i j, i < n → j < n → F i j = G i j) : matB F n = matB G n := List.map_congr_left fun i hi => vec_ext fun j hj => h i j (List.mem_range.1 hi) hj
/-- Filling in the markers. -/
def m0P (L : List Mk) (a k : Nat) : Nat → Nat → Bool := fun i j => m0 (L.take a) i j || decide ((L.getD a default).old = (i : Int)) && decide ((j : Int) ∈ (L.getD a default).nw.take k)
theorem m0P_zero (L : List Mk) (a : Nat) : m0P L a 0 = m0 (L.take a) := by
  funext i j; unfold m0P; simp
theorem m0P_next {L : List Mk} {a : Nat} {m : Mk} (hm : L[a]? = some m) : m0P L a m.nw.length = m0P L (a + 1) 0 := by
  rw [m0P_zero]
  funext i j
  unfold m0P m0
  rw [getD_of hm, List.take_length, List.take_add_one, hm]
  simp [List.any_append]
theorem m0P_start (L : List Mk) : m0P L 0 0 = fun _ _ => false := by rw [m0P_zero]; rfl
theorem m0P_all (L : List Mk) : m0P L L.length 0 = m0 L := by rw [m0P_zero, List.take_length]
theorem m0P_set {L : List Mk} {a k : Nat} {m : Mk} {n : Int} (hm : L[a]? = some m) (hn : m.nw[k]? = some n) (h1 : 0 ≤ m.old) (h2 : 0 ≤ n) : setM (m0P L a k) m.old.toNat n.toNat true = m0P L a (k + 1) := by
  funext i j
  unfold setM m0P
  rw [getD_of hm, List.take_add_one, hn]
  by_cases h : i = m.old.toNat ∧ j = n.toNat
  · rw [if_pos h]
    obtain ⟨rfl, rfl⟩ := h
    have e1 : ((m.old.toNat : Nat) : Int) = m.old := by omega
    have e2 : ((n.toNat : Nat) : Int) = n := by omega
    rw [e1, e2]; simp
  · rw [if_neg h]
    congr 1
    by_cases h3 : m.old = (i : Int)
    · rw [decide_eq_true h3, Bool.true_and, Bool.true_and]
      refine decide_eq_decide.2 ?_
      simp only [Option.toList_some, List.mem_append, List.mem_singleton]
      constructor
      · exact .inl
      · rintro (h4 | h4)
        · exact h4
        · exact absurd ⟨by omega, by omega⟩ h
    · rw [decide_eq_false h3, Bool.false_and, Bool.false_and]
/-- The closure, on the way. -/
def fwP (F : Nat → Nat → Bool) (k i j : Nat) : Nat → Nat → Bool := fun a b => if a < i ∨ (a = i ∧ b < j) then fws F k a b else F a b
theorem fwP_col (F : Nat → Nat → Bool) (k i j a : Nat) : fwP F k i j a k = F a k := by
  unfold fwP
  split
  · exact fws_col F k a
  · rfl
theorem fwP_row (F : Nat → Nat → Bool) (k i j b : Nat) : fwP F k i j k b = F k b := by
  unfold fwP
  split
  · exact fws_rowk F k b
  · rfl
theorem fwP_at (F : Nat → Nat → Bool) (k i j : Nat) : fwP F k i j i j = F i j := by unfold fwP; rw [if_neg (by omega)]
theorem fwP_zero (F : Nat → Nat → Bool) (k : Nat) : fwP F k 0 0 = F := by funext a b; unfold fwP; rw [if_neg (by omega)]
theorem fwP_set (F : Nat → Nat → Bool) (k i j : Nat) : setM (fwP F k i j) i j (F i j || (F i k && F k j)) = fwP F k i (j + 1) := by
  funext a b
  unfold setM fwP
  by_cases h : a = i ∧ b = j
  · obtain ⟨rfl, rfl⟩ := h
    rw [if_pos ⟨rfl, rfl⟩, if_pos (by omega)]; rfl
  · rw [if_neg h]
    by_cases h2 : a < i ∨ (a = i ∧ b < j)
    · rw [if_pos h2, if_pos (by omega)]
    · rw [if_neg h2, if_neg (by omega)]
theorem fwP_next {F : Nat → Nat → Bool} {k i n : Nat} : matB (fwP F k i n) n = matB (fwP F k (i + 1) 0) n := matB_ext fun a b _ hb => by
  unfold fwP
  by_cases h : a < i ∨ (a = i ∧ b < n)
  · rw [if_pos h, if_pos (by omega)]
  · rw [if_neg h, if_neg (by omega)]
theorem fwP_all {F : Nat → Nat → Bool} {k n : Nat} : matB (fwP F k n 0) n = matB (fws F k) n := matB_ext fun a b ha _ => by
  unfold fwP; rw [if_pos (by omega)]
/-- Where the row is left alone. -/
theorem fwP_skip {F : Nat → Nat → Bool} {k i n : Nat} (h : F i k = false) : matB (fwP F k i 0) n = matB (fwP F k (i + 1) 0) n := matB_ext fun a b _ hb => by
  unfold fwP
  by_cases h1 : a < i
  · rw [if_pos (by omega), if_pos (by omega)]
  · rw [if_neg (by omega)]
    by_cases h2 : a = i
    · subst h2; rw [if_pos (by omega)]; unfold fws; rw [h]; simp
    · rw [if_neg (by omega)]
end Go.Proofs.Ytjpkgmmmmcgmeaa
