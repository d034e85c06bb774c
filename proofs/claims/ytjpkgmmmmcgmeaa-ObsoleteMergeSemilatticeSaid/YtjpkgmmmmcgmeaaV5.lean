/- The Vc layer, part 5. -/
import Derived.Test.YtjpkgmmmmcgmeaaV4
import Derived.Lib.Overlaps
import Derived.Lib.AppendZerosOnto
import Derived.Lib.Bytealg
/- The Vc layer: rows whose elements own slices: opened (a row of raw values and a bag of slices), closed, read as data. -/
set_option linter.all false
namespace Go.Vc
open Go Go.RowKit

section
variable [Far] {w : World} {S : Lays} {n : Nat} {W0 : World} {M0 : Nat → Prop} {H : Heap}

/-- The owned blocks dealt out anew. -/
theorem HeapOk.remap (hH : HeapOk W0 M0 H n w S) (H' : Heap) (n' : Nat) (S' : Lays) (hn : n ≤ n') (hold : ∀ i, i < n → S' i = S i ∨ S' i = none) (hbnd : ∀ i, n' ≤ i → S' i = none)
  (hsub : ∀ i l b, n ≤ i → S' i = some l → l.has b → ∃ j l', S j = some l' ∧ l'.has b ∧ (H j).isSome = true) (hinj : ∀ i j l l' b, S' i = some l → S' j = some l' → l.has b → l'.has b → i = j)
  (hnod : ∀ i l, n ≤ i → S' i = some l → l.subs.Nodup ∧ ∀ b, l.blk = some b → b ∉ l.subs) (hpl : ∀ i l b, H' i = some b → S' i = some l → flatB b = true → l.subs = [])
  (hliv : ∀ i, i < n → (H' i).isSome = true → (H i).isSome = true)
  (hbox : Ext w S n w S' n' → ∀ i b, H' i = some b → (i < n ∧ H i = some b ∧ S' i = S i) ∨ ∃ l, S' i = some l ∧ BoxOk w S' n' b l) : HeapOk W0 M0 H' n' w S' ∧ Ext w S n w S' n' := by
 have back : ∀ i l b, S' i = some l → l.has b → ∃ j l', S j = some l' ∧ l'.has b ∧ (i < n → j = i) ∧ (n ≤ i → (H j).isSome = true) := by
  intro i l b hi hb
  by_cases h : i < n
  ·rcases hold i h with e | e
   ·exact ⟨i, l, by rw [← e]; exact hi, hb, fun _ => rfl, fun h' => by omega⟩
   ·rw [e] at hi; cases hi
  ·obtain ⟨j, l', h1, h2, h3⟩ := hsub i l b (by omega) hi hb
   exact ⟨j, l', h1, h2, fun h' => absurd h' h, fun _ => h3⟩
 have hE : Ext w S n w S' n' := by
  refine ⟨hn, Nat.le_refl _, hold, fun b hb hno ho => ?_, fun _ _ _ => rfl⟩
  rcases ho with ho | ⟨i, l, h1, h2⟩
  ·exact hno (.inl ho)
  ·obtain ⟨j, l', h3, h4, _⟩ := back i l b h1 h2
   exact hno (.inr ⟨j, l', h3, h4⟩)
 refine ⟨⟨hbnd, fun i l b h1 h2 => ?_, fun i b hb => ?_, hinj, fun i l hi => ?_, fun i l b h1 h2 h3 => hpl i l b h1 h2 h3, fun i l b hl hi hb => ?_, hH.os, hH.tape, hH.output, hH.size, hH.same, fun b hb => ?_, fun i hi => ?_⟩, hE⟩
 ·obtain ⟨j, l', h3, h4, _⟩ := back i l b h1 h2
  exact hH.lt2 j l' b h3 h4
 ·rcases hbox hE i b hb with ⟨h1, h2, h3⟩ | h
  ·obtain ⟨l, h4, h5⟩ := hH.box i b h2
   exact ⟨l, h3.trans h4, h5.ext hE fun _ _ => rfl⟩
  ·exact h
 ·by_cases h : i < n
  ·rcases hold i h with e | e
   ·exact hH.nod i l (by rw [← e]; exact hi)
   ·rw [e] at hi; cases hi
  ·exact hnod i l (by omega) hi
 ·obtain ⟨j, l', h3, h4, h5, h6⟩ := back i l b hi hb
  by_cases h : i < n
  ·have := h5 h; subst this
   exact hH.mut2 j l' b (hliv j h hl) h3 h4
  ·exact hH.mut2 j l' b (h6 (by omega)) h3 h4
 ·obtain ⟨h1, h2⟩ := hH.far b hb
  refine ⟨h1, fun i l hi hb' => ?_⟩
  obtain ⟨j, l', h3, h4, _⟩ := back i l b hi hb'
  exact h2 j l' h3 h4
 ·obtain ⟨h1, h2⟩ := hH.pin i hi
  refine ⟨by omega, ?_⟩
  rcases hold i h1 with e | e
  ·rw [e]; exact h2
  ·exact .inr e

/-- Boxes let go, others in their place. -/
def rem {α : Type} (K : List Nat) (n : Nat) (new : List α) (f : Nat → Option α) : Nat → Option α := fun i => if i < n then (if i ∈ K then none else f i) else new[i - n]?
theorem rem_lt {α : Type} {K : List Nat} {n : Nat} {new : List α} {f : Nat → Option α} {i : Nat} (h : i < n) : rem K n new f i = if i ∈ K then none else f i := by unfold rem; rw [if_pos h]
theorem rem_ge {α : Type} {K : List Nat} {n : Nat} {new : List α} {f : Nat → Option α} {i : Nat} (h : n ≤ i) : rem K n new f i = new[i - n]? := by unfold rem; rw [if_neg (by omega)]

/-- The same, with the new ones' layouts. -/
theorem HeapOk.redeal (hH : HeapOk W0 M0 H n w S) (K : List Nat) (bs : List Box) (ls : List Lay) (G : Heap) (hlen : ls.length = bs.length)
  (hG : Ext w S n w (rem K n ls S) (n + bs.length) → ∀ i b l, i ∉ K → G i = some b → S i = some l → H i = some b ∨ (flatB b = true ∧ l.subs = [] ∧ BoxOk w (rem K n ls S) (n + bs.length) b l)) (hGl : ∀ i, (G i).isSome = true → (H i).isSome = true)
  (hsub : ∀ l ∈ ls, ∀ b, l.has b → ∃ j ∈ K, ∃ l', S j = some l' ∧ l'.has b ∧ (H j).isSome = true) (hinj : ∀ (i j : Nat) (l l' : Lay) (b : Nat), ls[i]? = some l → ls[j]? = some l' → l.has b → l'.has b → i = j)
  (hnod : ∀ l ∈ ls, l.subs.Nodup ∧ ∀ b, l.blk = some b → b ∉ l.subs) (hpl : ∀ (i : Nat) (l : Lay) (b : Box), bs[i]? = some b → ls[i]? = some l → flatB b = true → l.subs = [])
  (hbox : Ext w S n w (rem K n ls S) (n + bs.length) → ∀ (i : Nat) (l : Lay) (b : Box), bs[i]? = some b → ls[i]? = some l → BoxOk w (rem K n ls S) (n + bs.length) b l) :
  HeapOk W0 M0 (rem K n bs G) (n + bs.length) w (rem K n ls S) ∧ Ext w S n w (rem K n ls S) (n + bs.length) := by
 have kept : ∀ i l, i < n → rem K n ls S i = some l → S i = some l ∧ i ∉ K := fun i l hi h => by
  rw [rem_lt hi] at h
  split at h
  ·cases h
  ·exact ⟨h, by assumption⟩
 have fresh : ∀ i l, n ≤ i → rem K n ls S i = some l → ls[i - n]? = some l := fun i l hi h => by rwa [rem_ge hi] at h
 have hE0 : Ext w S n w (rem K n ls S) (n + bs.length) := by
  refine ⟨by omega, Nat.le_refl _, fun i hi => ?_, fun b hb hno ho => ?_, fun _ _ _ => rfl⟩
  ·rw [rem_lt hi]; split
   ·exact .inr rfl
   ·exact .inl rfl
  ·rcases ho with ho | ⟨i, l, h1, h2⟩
   ·exact hno (.inl ho)
   ·by_cases hin : i < n
    ·exact hno (.inr ⟨i, l, (kept i l hin h1).1, h2⟩)
    ·obtain ⟨j, _, l', h3, h4, _⟩ := hsub l (List.mem_of_getElem? (fresh i l (by omega) h1)) b h2
     exact hno (.inr ⟨j, l', h3, h4⟩)
 have hG := hG hE0
 refine hH.remap _ _ _ (by omega) (fun i hi => ?_) (fun i hi => ?_) (fun i l b hi hl hb => ?_) (fun i j l l' b hi hj h1 h2 => ?_) (fun i l hi hl => hnod l (List.mem_of_getElem? (fresh i l hi hl))) (fun i l b hb hl hf => ?_) (fun i hi h => ?_) (fun hE i b hb => ?_)
 ·rw [rem_lt hi]; split
  ·exact .inr rfl
  ·exact .inl rfl
 ·rw [rem_ge (by omega), List.getElem?_eq_none (by omega)]
 ·obtain ⟨j, _, l', h⟩ := hsub l (List.mem_of_getElem? (fresh i l hi hl)) b hb
  exact ⟨j, l', h⟩
 ·by_cases hin : i < n
  ·obtain ⟨g1, g2⟩ := kept i l hin hi
   by_cases hjn : j < n
   ·exact hH.inj2 i j l l' b g1 (kept j l' hjn hj).1 h1 h2
   ·obtain ⟨k, hk, l2, h3, h4, _⟩ := hsub l' (List.mem_of_getElem? (fresh j l' (by omega) hj)) b h2
    have := hH.inj2 i k l l2 b g1 h3 h1 h4
    exact absurd (this ▸ hk) g2
  ·by_cases hjn : j < n
   ·obtain ⟨g1, g2⟩ := kept j l' hjn hj
    obtain ⟨k, hk, l2, h3, h4, _⟩ := hsub l (List.mem_of_getElem? (fresh i l (by omega) hi)) b h1
    have := hH.inj2 j k l' l2 b g1 h3 h2 h4
    exact absurd (this ▸ hk) g2
   ·have := hinj _ _ l l' b (fresh i l (by omega) hi) (fresh j l' (by omega) hj) h1 h2
    omega
 ·by_cases hin : i < n
  ·rw [rem_lt hin] at hb
   split at hb
   ·cases hb
   ·rename_i hk
    rcases hG i b l hk hb (kept i l hin hl).1 with h | h
    ·exact hH.plain i l b h (kept i l hin hl).1 hf
    ·exact h.2.1
  ·rw [rem_ge (by omega)] at hb
   exact hpl _ l b hb (fresh i l (by omega) hl) hf
 ·rw [rem_lt hi] at h
  split at h
  ·cases h
  ·exact hGl i h
 ·by_cases hin : i < n
  ·rw [rem_lt hin] at hb
   split at hb
   ·cases hb
   ·rename_i hk
    obtain ⟨b0, hb0⟩ := Option.isSome_iff_exists.1 (hGl i (by rw [hb]; rfl))
    obtain ⟨l, hl, _⟩ := hH.box i b0 hb0
    rcases hG i b l hk hb hl with h | h
    ·exact .inl ⟨hin, h, by rw [rem_lt hin, if_neg hk]⟩
    ·exact .inr ⟨l, by rw [rem_lt hin, if_neg hk]; exact hl, h.2.2⟩
  ·rw [rem_ge (by omega)] at hb
   have hl : i - n < ls.length := by rw [hlen]; exact (List.getElem?_eq_some_iff.1 hb).1
   exact .inr ⟨ls[i - n], by rw [rem_ge (by omega)]; exact List.getElem?_eq_getElem hl, hbox hE (i - n) _ b hb (List.getElem?_eq_getElem hl)⟩
end
end Go.Vc
/- The Vc layer: slices taken out of a bag and put back; rows opened, closed, read as data. -/
set_option linter.all false
namespace Go.Vc
open Go Go.RowKit

theorem fm_split {α β : Type} (f : α → Option β) (l1 l2 : List α) (x : α) : (l1 ++ x :: l2).filterMap f = l1.filterMap f ++ ((f x).toList ++ l2.filterMap f) := by
 rw [List.filterMap_append, List.filterMap_cons]
 cases f x <;> simp
theorem split_at {α : Type} {l : List α} {i : Nat} {x : α} (h : l[i]? = some x) : l = l.take i ++ x :: l.drop (i + 1) := by
 have hi := (List.getElem?_eq_some_iff.1 h).1
 have : x = l[i] := ((List.getElem?_eq_some_iff.1 h).2).symm
 rw [this, List.getElem_cons_drop, List.take_append_drop]

theorem BagP.take {w : World} {O : Nat → Prop} {ety : TypeId} {esz : Nat} {m1 m2 : List (Value × List (List D))} {v : Value} {ys : List (List D)} {subs : List Nat} (h : BagP w O ety esz (m1 ++ (v, ys) :: m2) subs) :
  ∃ (l : Lay) (s1 s2 : List Nat), subs = s1 ++ (l.blk.toList ++ s2) ∧ l.subs = [] ∧ VecO w O ety esz ys l ∧ v = sval l ys.length ∧ BagP w O ety esz (m1 ++ m2) (s1 ++ s2) := by
 obtain ⟨ls, h1, h2, h3⟩ := h
 have hi : m1.length < ls.length := by rw [h1]; simp
 obtain ⟨l, hl⟩ : ∃ l, ls[m1.length]? = some l := ⟨_, List.getElem?_eq_getElem hi⟩
 obtain ⟨g1, g2, g3⟩ := h3 m1.length l (v, ys) hl (by simp)
 have hs := split_at hl
 refine ⟨l, (ls.take m1.length).filterMap (·.blk), (ls.drop (m1.length + 1)).filterMap (·.blk), ?_, g1, g2, g3, ls.take m1.length ++ ls.drop (m1.length + 1), ?_, by rw [List.filterMap_append], fun i l' p hi hp => ?_⟩
 ·rw [h2]
  conv => lhs; rw [hs]
  exact fm_split _ _ _ _
 ·simp at h1 ⊢; omega
 ·have hlt : (ls.take m1.length).length = m1.length := by rw [List.length_take]; omega
  by_cases hlt' : i < m1.length
  ·rw [List.getElem?_append_left (by omega), List.getElem?_take, if_pos hlt'] at hi
   rw [List.getElem?_append_left hlt'] at hp
   exact h3 i l' p hi (by rw [List.getElem?_append_left hlt']; exact hp)
  ·rw [List.getElem?_append_right (by omega), hlt, List.getElem?_drop] at hi
   rw [List.getElem?_append_right (by omega)] at hp
   refine h3 (i + 1) l' p ?_ ?_
   ·rw [← hi]; congr 1; omega
   ·rw [List.getElem?_append_right (by omega), show i + 1 - m1.length = (i - m1.length) + 1 by omega, List.getElem?_cons_succ]; exact hp

theorem BagP.add {w : World} {O : Nat → Prop} {ety : TypeId} {esz : Nat} {m1 m2 : List (Value × List (List D))} {l : Lay} {ys : List (List D)} {subs : List Nat} (h : BagP w O ety esz (m1 ++ m2) subs) (hl : l.subs = []) (hv : VecO w O ety esz ys l) :
  ∃ s1 s2 : List Nat, subs = s1 ++ s2 ∧ BagP w O ety esz (m1 ++ (sval l ys.length, ys) :: m2) (s1 ++ (l.blk.toList ++ s2)) := by
 obtain ⟨ls, h1, h2, h3⟩ := h
 have hle : m1.length ≤ ls.length := by rw [h1]; simp
 have hlt : (ls.take m1.length).length = m1.length := by rw [List.length_take]; omega
 refine ⟨(ls.take m1.length).filterMap (·.blk), (ls.drop m1.length).filterMap (·.blk), by rw [h2, ← List.filterMap_append, List.take_append_drop], ls.take m1.length ++ l :: ls.drop m1.length, ?_, (fm_split _ _ _ _).symm, fun i l' p hi hp => ?_⟩
 ·simp at h1 ⊢; omega
 ·by_cases hlt' : i < m1.length
  ·rw [List.getElem?_append_left (by omega), List.getElem?_take, if_pos hlt'] at hi
   rw [List.getElem?_append_left hlt'] at hp
   exact h3 i l' p hi (by rw [List.getElem?_append_left hlt']; exact hp)
  ·rw [List.getElem?_append_right (by omega), hlt] at hi
   rw [List.getElem?_append_right (by omega)] at hp
   cases hk : i - m1.length with
   | zero =>
    rw [hk] at hi hp
    simp at hi hp
    subst hi; subst hp
    exact ⟨hl, hv, rfl⟩
   | succ k =>
    rw [hk] at hi hp
    simp only [List.getElem?_cons_succ] at hi hp
    rw [List.getElem?_drop] at hi
    refine h3 (m1.length + k) l' p hi ?_
    rw [List.getElem?_append_right (by omega), show m1.length + k - m1.length = k by omega]; exact hp

section
variable [Far] {P : Program} {E : Env P} {W0 : World} {M0 : Nat → Prop} {w : World} {S : Lays} {n : Nat} {H : Heap} {fr : Nat → AV} {K : St → Prop} {d : Option Tmp} {t t' ty' : TypeId} {p : String} {af : Array Edge}

/-- A slice into a bag. -/
theorem put_ok (hH : HeapOk W0 M0 H n w S) {b j len esz : Nat} {ety : TypeId} {m1 m2 : List (Value × List (List D))} {v : Value} {xs : List (List D)} (hne : b ≠ j) (hb : H b = some (.ob (.bag ety esz (m1 ++ m2)))) (hj : H j = some (.vec ety esz xs)) (hv : R w S n (.sl j 0 len) v) (hlen : len ≤ xs.length) :
  v.oneCell' = true ∧ ∃ S', HeapOk W0 M0 (rem [b, j] n [.ob (.bag ety esz (m1 ++ (v, xs.take len) :: m2))] H) (n + 1) w S' ∧ Ext w S n w S' (n + 1) := by
 obtain ⟨lb, hS, hbox⟩ := hH.box b _ hb
 obtain ⟨hb0, hbag⟩ := hbox
 obtain ⟨l, o, hSj, hboxj, rfl, hcap, ho, h0⟩ := hv.sl_live hH hj
 have hl0 := hH.plain j l _ hj hSj rfl
 have hvec : VecO w (own S) ety esz (xs.take len) l := BoxOk.short (ys := xs.drop len) (by rw [List.take_append_drop]; exact hboxj)
 obtain ⟨s1, s2, e1, e2⟩ := hbag.add hl0 hvec
 have hsv : (Value.slice (l.blk.map fun b => (⟨b, o, none⟩ : Addr)) len (l.cap - 0)) = sval l (xs.take len).length := by
  rw [h0 rfl, List.length_take, Nat.min_eq_left hlen]; rfl
 rw [hsv]
 refine ⟨rfl, ?_⟩
 have hnd := (hH.nod b lb hS).1
 rw [e1] at hnd
 have dis : ∀ c, l.blk = some c → c ∈ lb.subs → False := fun c hc hm => hne (hH.inj2 b j lb l c hS hSj (.inr hm) (.inl hc))
 have key := hH.redeal [b, j] [.ob (.bag ety esz (m1 ++ (sval l (xs.take len).length, xs.take len) :: m2))] [⟨none, 0, 0, s1 ++ (l.blk.toList ++ s2)⟩] H rfl (fun _ i b l _ h _ => .inl h) (fun _ h => h) (fun l' hl' c hc => ?_) (fun i k l1 l2 c hi hk h1 h2 => ?_) (fun l' hl' => ?_) (fun i l' b' hb' hl' hf => ?_) (fun hE i l' b' hb' hl' => ?_)
 ·exact ⟨_, key.1, key.2⟩
 ·simp only [List.mem_cons, List.not_mem_nil, or_false] at hl'
  subst hl'
  rcases hc with hc | hc
  ·cases hc
  ·simp only [List.mem_append, Option.mem_toList] at hc
   rcases hc with hc | hc | hc
   ·exact ⟨b, by simp, lb, hS, .inr (by rw [e1]; simp [hc]), by rw [hb]; rfl⟩
   ·exact ⟨j, by simp, l, hSj, .inl hc, by rw [hj]; rfl⟩
   ·exact ⟨b, by simp, lb, hS, .inr (by rw [e1]; simp [hc]), by rw [hb]; rfl⟩
 ·have hi' : i < 1 := (List.getElem?_eq_some_iff.1 hi).1
  have hk' : k < 1 := (List.getElem?_eq_some_iff.1 hk).1
  omega
 ·simp only [List.mem_cons, List.not_mem_nil, or_false] at hl'
  subst hl'
  refine ⟨?_, fun _ h => by cases h⟩
  cases hbk : l.blk with
  | none => simpa using hnd
  | some c =>
   have h1 : c ∉ s1 := fun h => dis c hbk (by rw [e1]; simp [h])
   have h2 : c ∉ s2 := fun h => dis c hbk (by rw [e1]; simp [h])
   rw [List.nodup_append] at hnd
   obtain ⟨q1, q2, q3⟩ := hnd
   simp only [Option.toList_some, List.singleton_append, List.nodup_append, List.nodup_cons]
   refine ⟨q1, ⟨h2, q2⟩, fun x hx y hy => ?_⟩
   rcases List.mem_cons.1 hy with rfl | hy
   ·exact fun e => h1 (e ▸ hx)
   ·exact q3 x hx y hy
 ·have hi' : i < 1 := (List.getElem?_eq_some_iff.1 hl').1
  have : i = 0 := by omega
  subst this
  simp at hb'; subst hb'; cases hf
 ·have hnew := hE.new
  have hi' : i < 1 := (List.getElem?_eq_some_iff.1 hl').1
  have : i = 0 := by omega
  subst this
  simp only [List.getElem?_cons_zero, Option.some.injEq] at hb' hl'; subst hb'; subst hl'
  exact ⟨rfl, e2.ext (Nat.le_refl _) (fun _ _ _ _ _ h => h) hnew (fun _ _ => rfl)⟩
end
end Go.Vc
/- The Vc layer: rows whose elements own slices: opened, closed, read as data. -/
set_option linter.all false
namespace Go.Vc
open Go Go.RowKit

theorem vec_data {w : World} {O O' : Nat → Prop} {ty sz : Nat} {xs : List (List D)} {l : Lay} (h : VecO w O ty sz xs l) (hO : ∀ b, b < w.heap.size → ¬ O b → ¬ O' b) (hb : ∀ b, l.blk = some b → ¬ O' b) (o : Nat) (ho : o = 0) : RD w O' (.sl xs) (.slice (l.blk.map fun b => ⟨b, o, none⟩) xs.length (l.cap - 0)) := by
 subst ho
 obtain ⟨h1, h2, h3, h4, h5, h6⟩ := h
 cases hk : l.blk with
 | none =>
  have := h5 hk
  have : xs = [] := List.eq_nil_of_length_eq_zero (by omega)
  subst this
  exact .sl0 _ _
 | some b =>
  obtain ⟨cur, hc, hz, hr⟩ := h6 b hk
  have hlt : b < w.heap.size := (Array.getElem?_eq_some_iff.1 hc).1
  refine .sl xs sz b 0 _ (fun e f => (cur[e * sz + f]?).getD undef) (by omega) hlt (hb b hk) h4 (fun e f c hh => ?_) (fun e f c hh => ?_)
  ·obtain ⟨u, hu, _⟩ := hr e f c hh
   simp only [hu, Option.getD_some]
   unfold World.cell?
   simp only [hc, Nat.zero_add]
   exact hu
  ·obtain ⟨u, hu, hR⟩ := hr e f c hh
   simp only [hu, Option.getD_some]
   exact hR.extC (Nat.le_refl _) (fun _ _ _ _ _ h => h) hO

section
variable [Far] {P : Program} {E : Env P} {W0 : World} {M0 : Nat → Prop} {w : World} {S : Lays} {n : Nat} {H : Heap} {fr : Nat → AV}

theorem not_own_rem (hH : HeapOk W0 M0 H n w S) {K : List Nat} {ls : List Lay} {id c : Nat} {l : Lay} (hS : S id = some l) (hc : l.has c) (hk : id ∈ K) (hls : ∀ l' ∈ ls, ¬ l'.has c) : ¬ own (rem K n ls S) c := by
 rintro (h | ⟨i, l', h1, h2⟩)
 ·exact (hH.far c (Far.sub c h)).2 id l hS hc
 ·by_cases hi : i < n
  ·rw [rem_lt hi] at h1
   split at h1
   ·cases h1
   ·rename_i hno
    exact hno (hH.inj2 i id l' l c h1 hS h2 hc ▸ hk)
  ·rw [rem_ge (by omega)] at h1
   exact hls l' (List.mem_of_getElem? h1) h2

/-- What else turns when boxes are dealt anew: every value that was so is now so. -/
def Turns (H G : Heap) (K : List Nat) (w : World) (S S' : Lays) (n n' : Nat) (c c' : AV) : Prop :=
 (∀ v, R w S n c v → R w S' n' c' v) → Ext w S n w S' n' → (∀ i b l, i ∉ K → G i = some b → S i = some l → H i = some b ∨ (flatB b = true ∧ l.subs = [] ∧ BoxOk w S' n' b l))

theorem turns_same (H : Heap) (K : List Nat) (w : World) (S S' : Lays) (n n' : Nat) (c c' : AV) : Turns H H K w S S' n n' c c' := fun _ _ i b l _ h _ => .inl h

theorem close_ok (hH : HeapOk W0 M0 H n w S) (G : Heap) (hGl : ∀ i, (G i).isSome = true → (H i).isSome = true) {id b ty sz f ety esz off len : Nat} {ps : List (List D × List (List D))} {vs : List Value} (hne : b ≠ id) (hvs : vs.length = ps.length)
  (hb : H id = some (.vec ty sz (rawR f ps vs))) (hbg : H b = some (.ob (.bag ety esz (rawB ps vs)))) (hG : ∀ S', Turns H G [id, b] w S S' n (n + 1) (.sl id off len) (.sl n off len)) :
  ∃ S', HeapOk W0 M0 (rem [id, b] n [.ob (.uv ty sz f ety esz ps)] G) (n + 1) w S' ∧ Ext w S n w S' (n + 1) ∧ ∀ v, R w S n (.sl id off len) v → R w S' (n + 1) (.sl n off len) v := by
 obtain ⟨l, hS, h2⟩ := hH.box id _ hb
 obtain ⟨lb, hSb, hb0, h3⟩ := hH.box b _ hbg
 have tr : ∀ v, R w S n (.sl id off len) v → R w (rem [id, b] n [⟨l.blk, l.sz, l.cap, lb.subs⟩] S) (n + 1) (.sl n off len) v := fun v hv => by
  obtain ⟨l', o, hS', _, rfl, hcap, ho, h0⟩ := hv.sl_live hH hb
  rw [hS] at hS'; cases hS'
  exact .sl n off len o ⟨l.blk, l.sz, l.cap, lb.subs⟩ (by omega) (by rw [rem_ge (Nat.le_refl _)]; simp) hcap ho h0
 have key := hH.redeal [id, b] [.ob (.uv ty sz f ety esz ps)] [⟨l.blk, l.sz, l.cap, lb.subs⟩] G rfl (fun hE => hG _ tr hE) hGl (fun l' hl' c hc => ?_) (fun i j l1 l2 c hi hj g1 g2 => ?_) (fun l' hl' => ?_) (fun i l' b' hb' hl' hf => ?_) (fun hE i l' b' hb' hl' => ?_)
 ·exact ⟨_, key.1, key.2, tr⟩
 ·simp only [List.mem_cons, List.not_mem_nil, or_false] at hl'
  subst hl'
  rcases hc with hc | hc
  ·exact ⟨id, by simp, l, hS, .inl hc, by rw [hb]; rfl⟩
  ·exact ⟨b, by simp, lb, hSb, .inr hc, by rw [hbg]; rfl⟩
 ·have := (List.getElem?_eq_some_iff.1 hi).1
  have := (List.getElem?_eq_some_iff.1 hj).1
  simp at *; omega
 ·simp only [List.mem_cons, List.not_mem_nil, or_false] at hl'
  subst hl'
  exact ⟨(hH.nod b lb hSb).1, fun c hc hm => hne (hH.inj2 b id lb l c hSb hS (.inr hm) (.inl hc))⟩
 ·have : i < 1 := (List.getElem?_eq_some_iff.1 hl').1
  obtain rfl : i = 0 := by omega
  simp at hb'; subst hb'; cases hf
 ·have : i < 1 := (List.getElem?_eq_some_iff.1 hl').1
  obtain rfl : i = 0 := by omega
  simp at hb' hl'; subst hb'; subst hl'
  exact ⟨vs, hvs, VecO.ext h2 (Nat.le_refl _) (fun _ _ _ _ _ h => h) hE.new (fun _ _ => rfl), h3.ext (Nat.le_refl _) (fun _ _ _ _ _ h => h) hE.new (fun _ _ => rfl)⟩

theorem data_ok (hH : HeapOk W0 M0 H n w S) (G : Heap) (hGl : ∀ i, (G i).isSome = true → (H i).isSome = true) {id ty sz f ety esz : Nat} {ps : List (List D × List (List D))} (hb : H id = some (.ob (.uv ty sz f ety esz ps)))
  (hG : ∀ S', Turns H G [id] w S S' n n (.sl id 0 ps.length) (.d (.sl (dataR f ps)))) :
  ∃ S', HeapOk W0 M0 (rem [id] n [] G) n w S' ∧ Ext w S n w S' n ∧ ∀ v, R w S n (.sl id 0 ps.length) v → R w S' n (.d (.sl (dataR f ps))) v := by
 obtain ⟨l, hS, vs, h1, h2, ls, h3, h4, h5⟩ := hH.box id _ hb
 have hnew : ∀ c, c < w.heap.size → ¬ own S c → ¬ own (rem [id] n ([] : List Lay) S) c := fun c _ hno ho => by
  rcases ho with ho | ⟨i, l', g1, g2⟩
  ·exact hno (.inl ho)
  ·by_cases hi : i < n
   ·rw [rem_lt hi] at g1
    split at g1
    ·cases g1
    ·exact hno (.inr ⟨i, l', g1, g2⟩)
   ·rw [rem_ge (by omega)] at g1; simp at g1
 have nown : ∀ c, l.has c → ¬ own (rem [id] n ([] : List Lay) S) c := fun c hc => not_own_rem hH hS hc (by simp) (fun l' h => by cases h)
 have hrl : (rawR f ps vs).length = ps.length := by simp [rawR, h1]
 have hdl : (dataR f ps).length = ps.length := by simp [dataR]
 have inner : ∀ (k : Nat) (q : List D × List (List D)) (v : Value), ps[k]? = some q → vs[k]? = some v → RD w (own (rem [id] n ([] : List Lay) S)) (.sl q.2) v := fun k q v hq hv => by
  have hm : (rawB ps vs)[k]? = some (v, q.2) := by simp [rawB, List.getElem?_zipWith, hq, hv]
  have hkl : k < ls.length := by rw [h3]; exact (List.getElem?_eq_some_iff.1 hm).1
  obtain ⟨g1, g2, g3⟩ := h5 k ls[k] (v, q.2) (List.getElem?_eq_getElem hkl) hm
  simp only at g2 g3
  rw [g3]
  exact vec_data g2 hnew (fun c hc => nown c (.inr (by rw [h4]; exact List.mem_filterMap.2 ⟨_, List.getElem_mem hkl, hc⟩))) 0 rfl
 have outer : VecO w (own (rem [id] n ([] : List Lay) S)) ty sz (dataR f ps) l := by
  obtain ⟨q1, q2, q3, q4, q5, q6⟩ := h2
  refine ⟨q1, q2, by omega, fun x hx => ?_, q5, fun c hc => ?_⟩
  ·obtain ⟨q, hq, rfl⟩ := List.mem_map.1 hx
   obtain ⟨k, hk⟩ := List.getElem?_of_mem hq
   obtain ⟨v, hv⟩ : ∃ v, vs[k]? = some v := ⟨_, List.getElem?_eq_getElem (by rw [h1]; exact (List.getElem?_eq_some_iff.1 hk).1)⟩
   have := q4 (q.1.set f (.raw v)) (List.mem_of_getElem? (i := k) (by simp [rawR, List.getElem?_zipWith, hk, hv]))
   simpa using this
  ·obtain ⟨cur, e1, e2, e3⟩ := q6 c hc
   refine ⟨cur, e1, e2, fun e g x hh => ?_⟩
   obtain ⟨row, hrow, hg⟩ := at2_some hh
   obtain ⟨q, hq, rfl⟩ : ∃ q, ps[e]? = some q ∧ q.1.set f (.sl q.2) = row := by
    simp only [dataR, List.getElem?_map, Option.map_eq_some_iff] at hrow; exact hrow
   obtain ⟨v, hv⟩ : ∃ v, vs[e]? = some v := ⟨_, List.getElem?_eq_getElem (by rw [h1]; exact (List.getElem?_eq_some_iff.1 hq).1)⟩
   have hraw : (rawR f ps vs)[e]? = some (q.1.set f (.raw v)) := by simp [rawR, List.getElem?_zipWith, hq, hv]
   rw [List.getElem?_set] at hg
   split at hg
   ·rename_i hfg
    subst hfg
    split at hg
    ·rename_i hlt
     cases hg
     obtain ⟨u, hu, hR⟩ := e3 e f (.raw v) (by simp [at2, hraw, List.getElem?_set, hlt])
     cases hR
     exact ⟨_, hu, inner e q _ hq hv⟩
    ·cases hg
   ·rename_i hfg
    obtain ⟨u, hu, hR⟩ := e3 e g x (by simp [at2, hraw, List.getElem?_set, hfg, hg])
    exact ⟨u, hu, hR.extC (Nat.le_refl _) (fun _ _ _ _ _ h => h) hnew⟩
 have tr : ∀ v, R w S n (.sl id 0 ps.length) v → R w (rem [id] n [] S) n (.d (.sl (dataR f ps))) v := fun v hv => by
  obtain ⟨l', o, hS', _, rfl, hcap, ho, h0⟩ := hv.sl_live hH hb
  rw [hS] at hS'; cases hS'
  have := vec_data outer (fun _ _ h => h) (fun c hc => nown c (.inl hc)) o (h0 rfl)
  rw [hdl] at this
  exact .d this
 have key := hH.redeal [id] [] [] G rfl (fun hE => hG _ tr hE) hGl (fun l' hl' => by cases hl') (fun i j l1 l2 c hi => by simp at hi) (fun l' hl' => by cases hl') (fun i l' b' hb' => by simp at hb') (fun hE i l' b' hb' => by simp at hb')
 exact ⟨_, key.1, key.2, tr⟩

theorem newbag_ok (hH : HeapOk W0 M0 H n w S) (ety esz : Nat) : ∃ S', HeapOk W0 M0 (rem [] n [.ob (.bag ety esz [])] H) (n + 1) w S' ∧ Ext w S n w S' (n + 1) := by
 have no : ∀ c, ¬ (⟨none, 0, 0, []⟩ : Lay).has c := fun c h => h.elim (fun h => by cases h) (fun h => by cases h)
 have key := hH.redeal [] [.ob (.bag ety esz [])] [⟨none, 0, 0, []⟩] H rfl (fun _ i b l _ h _ => .inl h) (fun _ h => h) (fun l' hl' c hc => ?_) (fun i j l1 l2 c hi hj g1 g2 => ?_) (fun l' hl' => ?_) (fun i l' b' hb' hl' hf => ?_) (fun hE i l' b' hb' hl' => ?_)
 ·exact ⟨_, key.1, key.2⟩
 ·simp only [List.mem_cons, List.not_mem_nil, or_false] at hl'
  subst hl'; exact (no c hc).elim
 ·have := (List.getElem?_eq_some_iff.1 hi).1
  have := (List.getElem?_eq_some_iff.1 hj).1
  simp at *; omega
 ·simp only [List.mem_cons, List.not_mem_nil, or_false] at hl'
  subst hl'; exact ⟨List.nodup_nil, fun _ h => by cases h⟩
 ·have : i < 1 := (List.getElem?_eq_some_iff.1 hl').1
  obtain rfl : i = 0 := by omega
  simp at hb'; subst hb'; cases hf
 ·have : i < 1 := (List.getElem?_eq_some_iff.1 hl').1
  obtain rfl : i = 0 := by omega
  simp at hb' hl'; subst hb'; subst hl'
  exact ⟨rfl, [], rfl, rfl, fun i l p hi => by simp at hi⟩
end
end Go.Vc
/- The Vc layer: copy, capacities, an append that grows for sure, library functions without a body, a box under a new number. -/
set_option linter.all false
namespace Go.Vc
open Go Go.RowKit

section
variable [Far] {P : Program} {E : Env P} {W0 : World} {M0 : Nat → Prop} {w : World} {S : Lays} {n : Nat} {H : Heap} {fr : Nat → AV} {K : St → Prop} {d : Option Tmp} {t t2 t' ty' : TypeId} {p : String} {af : Array Edge}

end
end Go.Vc
/- The Vc layer: copies within a row, an append that grows for sure, overlaps, comparisons of strings, a box under a new number. -/
set_option linter.all false
namespace Go.Vc
open Go Go.RowKit

section
variable [Far] {P : Program} {E : Env P} {W0 : World} {M0 : Nat → Prop} {w : World} {S : Lays} {n : Nat} {H : Heap} {fr : Nat → AV} {K : St → Prop} {d : Option Tmp} {t t2 t' ty' : TypeId} {p : String} {af : Array Edge}

end
end Go.Vc
/- The Vc layer: the rules of opened rows, over states by lists. -/
set_option linter.all false
namespace Go.Vc
open Go Go.RowKit

theorem kilL_length (B : List Nat) : ∀ (l : List (Option Box)) (i : Nat), (kilL B l i).length = l.length
 | [], _ => rfl
 | _ :: r, i => by simp [kilL, kilL_length B r (i + 1)]
theorem getB_lt {bl : List (Option Box)} {i : Nat} {b : Box} (h : getB bl i = some b) : i < bl.length := by
 unfold getB at h
 cases hx : bl[i]? with
 | none => rw [hx] at h; cases h
 | some x => exact (List.getElem?_eq_some_iff.1 hx).1
theorem getB_app (l r : List (Option Box)) (i : Nat) : getB (l ++ r) i = if i < l.length then getB l i else getB r (i - l.length) := by
 unfold getB
 split
 ·rename_i h; rw [List.getElem?_append_left h]
 ·rename_i h; rw [List.getElem?_append_right (by omega)]
theorem rem_list {m : Nat} (bl : List (Option Box)) (K : List Nat) (bs : List Box) (hm : m = bl.length) : rem K m bs (getB bl) = getB (kilL K bl 0 ++ bs.map some) := by
 subst hm
 funext i
 rw [getB_app, kilL_length, getB_kilL]
 unfold rem
 split
 ·simp
 ·simp only [getB, List.getElem?_map]
  cases bs[i - bl.length]? <;> rfl

section
variable [Far] {P : Program} {E : Env P} {W0 : World} {M0 : Nat → Prop} {w : World} {S : Lays} {n m : Nat} {H : Heap} {fr : Nat → AV} {K : St → Prop} {d : Option Tmp} {t t2 t' ty' : TypeId} {p : String} {af : Array Edge} {bl : List (Option Box)} {cd : Code} {Q : Exit → St → Prop}

theorem vc_newbag (ety esz : Nat) (hm : m = bl.length) (h : VC E W0 M0 cd ⟨fr, getB (bl ++ [some (.ob (.bag ety esz []))]), m + 1⟩ Q) : VC E W0 M0 cd ⟨fr, getB bl, m⟩ Q := by
 refine VC.sub ?_ h
 rintro a w ⟨S, hH, hF, hM⟩
 obtain ⟨S', h2, h3⟩ := newbag_ok hH ety esz
 refine ⟨S', ?_, hF.ext h3, hM.ext h3⟩
 rw [rem_list _ _ _ hm] at h2
 have : kilL [] bl 0 = bl := by
  have : ∀ (l : List (Option Box)) i, kilL [] l i = l := by
   intro l
   induction l with
   | nil => intro i; rfl
   | cons x l ih => intro i; simp [kilL, ih]
  exact this bl 0
 rw [this] at h2
 exact h2

theorem kilL_nil : ∀ (l : List (Option Box)) (i : Nat), kilL [] l i = l
 | [], _ => rfl
 | x :: l, i => by simp [kilL, kilL_nil l (i + 1)]

end
end Go.Vc
/- The Vc layer: nils kept raw. -/
set_option linter.all false
namespace Go.Vc
open Go Go.RowKit

theorem cleanD_raw (v : Value) : cleanD (.raw v) = .raw v := rfl
section
variable [Far] {P : Program} {E : Env P} {W0 : World} {M0 : Nat → Prop} {w : World} {S : Lays} {n m : Nat} {H : Heap} {fr : Nat → AV} {K : St → Prop} {d : Option Tmp} {t t2 t' ty' : TypeId} {p : String} {af : Array Edge} {bl : List (Option Box)} {cd : Code} {Q : Exit → St → Prop}

end
/-- Rules in short. -/
def wB := And.intro @op_rules (And.intro @ev_rules (And.intro @fr_rules (And.intro @av_rules (And.intro @rs_rules @bw))))
def wL := And.intro @list_rules (And.intro @opt_rules (And.intro @map_rules (And.intro @rows_get (And.intro @rows_len (And.intro @rows_drop (And.intro @rows_take (And.intro @rows_app (And.intro @rows_nil (And.intro @rows_set (And.intro @Nat.zero_add (And.intro @Nat.add_zero (And.intro @true_and (And.intro @and_true (And.intro @and_assoc (And.intro @rect_eI (And.intro @rect_eB (And.intro @rect_eU (And.intro @rect_eS (And.intro @rect_eL (And.intro @rect_nil (And.intro @rect_cons (And.intro @bytes_is (And.intro @bytes_str (And.intro @splice_rules (And.intro @cell_rules (And.intro @fill_rules (And.intro @bnd_rules (And.intro @or_false (And.intro @false_or (And.intro @not_true_eq_false @not_false_eq_true))))))))))))))))))))))))))))))
def wG := And.intro @gen_rules (And.intro @gw (And.intro @gen_heap (And.intro @gen_heap0 (And.intro @allSome.eq_1 (And.intro @allSome.eq_2 @allSome.eq_3)))))
end Go.Vc
