/- The Vc layer, part 5. -/
import Derived.Test.YtlbjffdaooadoaaDoorV4
import Derived.Lib.Overlaps
import Derived.Lib.AppendZerosOnto
import Derived.Lib.Bytealg
/- The Vc layer: rows whose elements own slices: opened (a row of raw values and a bag of slices), closed, read as data. -/
set_option linter.all false
namespace Go.Vc
open Go Go.RowKit

section
variable [Far] {w : World} {S : Lays} {n : Nat} {W0 : World} {M0 : Nat → Prop} {H : Heap}

theorem HeapOk.remap (hH : HeapOk W0 M0 H n w S) (H' : Heap) (n' : Nat) (S' : Lays) (hn : n ≤ n') (hold : ∀ i, i < n → S' i = S i ∨ S' i = none) (hbnd : ∀ i, n' ≤ i → S' i = none)
  (hsub : ∀ i l b, n ≤ i → S' i = some l → l.has b → ∃ j l', S j = some l' ∧ l'.has b ∧ (H j).isSome = true) (hinj : ∀ i j l l' b, S' i = some l → S' j = some l' → l.has b → l'.has b → i = j)
  (hnod : ∀ i l, n ≤ i → S' i = some l → l.subs.Nodup ∧ ∀ b, l.blk = some b → b ∉ l.subs) (hpl : ∀ i l b, H' i = some b → S' i = some l → flatB b = true → l.subs = [])
  (hliv : ∀ i, i < n → (H' i).isSome = true → (H i).isSome = true)
  (hbox : Ext w S n w S' n' → ∀ i b, H' i = some b → (i < n ∧ H i = some b ∧ S' i = S i) ∨ ∃ l, S' i = some l ∧ BoxOk w S' n' b l) : HeapOk W0 M0 H' n' w S' ∧ Ext w S n w S' n' := by
 have back : ∀ i l b, S' i = some l → l.has b → ∃ j l', S j = some l' ∧ l'.has b ∧ (i < n → j = i) ∧ (n ≤ i → (H j).isSome = true) := by
  intro i l b hi hb
  by_cases h : i < n
  ·rcases hold i h with e | e
   ·exact ⟨i, l, by rw [← e]; exact hi, hb, fun _ => rfl, fun h' => by omega⟩
   ·rw [e] at hi; cases hi
  ·obtain ⟨j, l', h1, h2, h3⟩ := hsub i l b (by omega) hi hb
   exact ⟨j, l', h1, h2, fun h' => absurd h' h, fun _ => h3⟩
 have hE : Ext w S n w S' n' := by
  refine ⟨hn, Nat.le_refl _, hold, fun b hb hno ho => ?_, fun _ _ _ => rfl⟩
  rcases ho with ho | ⟨i, l, h1, h2⟩
  ·exact hno (.inl ho)
  ·obtain ⟨j, l', h3, h4, _⟩ := back i l b h1 h2
   exact hno (.inr ⟨j, l', h3, h4⟩)
 refine ⟨⟨hbnd, fun i l b h1 h2 => ?_, fun i b hb => ?_, hinj, fun i l hi => ?_, fun i l b h1 h2 h3 => hpl i l b h1 h2 h3, fun i l b hl hi hb => ?_, hH.os, hH.tape, hH.output, hH.size, hH.same, fun b hb => ?_, fun i hi => ?_, hH.glx hE⟩, hE⟩
 ·obtain ⟨j, l', h3, h4, _⟩ := back i l b h1 h2
  exact hH.lt2 j l' b h3 h4
 ·rcases hbox hE i b hb with ⟨h1, h2, h3⟩ | h
  ·obtain ⟨l, h4, h5⟩ := hH.box i b h2
   exact ⟨l, h3.trans h4, h5.ext hE fun _ _ => rfl⟩
  ·exact h
 ·by_cases h : i < n
  ·rcases hold i h with e | e
   ·exact hH.nod i l (by rw [← e]; exact hi)
   ·rw [e] at hi; cases hi
  ·exact hnod i l (by omega) hi
 ·obtain ⟨j, l', h3, h4, h5, h6⟩ := back i l b hi hb
  by_cases h : i < n
  ·have := h5 h; subst this
   exact hH.mut2 j l' b (hliv j h hl) h3 h4
  ·exact hH.mut2 j l' b (h6 (by omega)) h3 h4
 ·obtain ⟨h1, h2⟩ := hH.far b hb
  refine ⟨h1, fun i l hi hb' => ?_⟩
  obtain ⟨j, l', h3, h4, _⟩ := back i l b hi hb'
  exact h2 j l' h3 h4
 ·obtain ⟨h1, h2⟩ := hH.pin i hi
  refine ⟨by omega, ?_⟩
  rcases hold i h1 with e | e
  ·rw [e]; exact h2
  ·exact .inr e

def rem {α : Type} (K : List Nat) (n : Nat) (new : List α) (f : Nat → Option α) : Nat → Option α := fun i => if i < n then (if i ∈ K then none else f i) else new[i - n]?
theorem rem_lt {α : Type} {K : List Nat} {n : Nat} {new : List α} {f : Nat → Option α} {i : Nat} (h : i < n) : rem K n new f i = if i ∈ K then none else f i := by unfold rem; rw [if_pos h]
theorem rem_ge {α : Type} {K : List Nat} {n : Nat} {new : List α} {f : Nat → Option α} {i : Nat} (h : n ≤ i) : rem K n new f i = new[i - n]? := by unfold rem; rw [if_neg (by omega)]

theorem HeapOk.redeal (hH : HeapOk W0 M0 H n w S) (K : List Nat) (bs : List Box) (ls : List Lay) (G : Heap) (hlen : ls.length = bs.length)
  (hG : Ext w S n w (rem K n ls S) (n + bs.length) → ∀ i b l, i ∉ K → G i = some b → S i = some l → H i = some b ∨ (flatB b = true ∧ l.subs = [] ∧ BoxOk w (rem K n ls S) (n + bs.length) b l)) (hGl : ∀ i, (G i).isSome = true → (H i).isSome = true)
  (hsub : ∀ l ∈ ls, ∀ b, l.has b → ∃ j ∈ K, ∃ l', S j = some l' ∧ l'.has b ∧ (H j).isSome = true) (hinj : ∀ (i j : Nat) (l l' : Lay) (b : Nat), ls[i]? = some l → ls[j]? = some l' → l.has b → l'.has b → i = j)
  (hnod : ∀ l ∈ ls, l.subs.Nodup ∧ ∀ b, l.blk = some b → b ∉ l.subs) (hpl : ∀ (i : Nat) (l : Lay) (b : Box), bs[i]? = some b → ls[i]? = some l → flatB b = true → l.subs = [])
  (hbox : Ext w S n w (rem K n ls S) (n + bs.length) → ∀ (i : Nat) (l : Lay) (b : Box), bs[i]? = some b → ls[i]? = some l → BoxOk w (rem K n ls S) (n + bs.length) b l) :
  HeapOk W0 M0 (rem K n bs G) (n + bs.length) w (rem K n ls S) ∧ Ext w S n w (rem K n ls S) (n + bs.length) := by
 have kept : ∀ i l, i < n → rem K n ls S i = some l → S i = some l ∧ i ∉ K := fun i l hi h => by
  rw [rem_lt hi] at h
  split at h
  ·cases h
  ·exact ⟨h, by assumption⟩
 have fresh : ∀ i l, n ≤ i → rem K n ls S i = some l → ls[i - n]? = some l := fun i l hi h => by rwa [rem_ge hi] at h
 have hE0 : Ext w S n w (rem K n ls S) (n + bs.length) := by
  refine ⟨by omega, Nat.le_refl _, fun i hi => ?_, fun b hb hno ho => ?_, fun _ _ _ => rfl⟩
  ·rw [rem_lt hi]; split
   ·exact .inr rfl
   ·exact .inl rfl
  ·rcases ho with ho | ⟨i, l, h1, h2⟩
   ·exact hno (.inl ho)
   ·by_cases hin : i < n
    ·exact hno (.inr ⟨i, l, (kept i l hin h1).1, h2⟩)
    ·obtain ⟨j, _, l', h3, h4, _⟩ := hsub l (List.mem_of_getElem? (fresh i l (by omega) h1)) b h2
     exact hno (.inr ⟨j, l', h3, h4⟩)
 have hG := hG hE0
 refine hH.remap _ _ _ (by omega) (fun i hi => ?_) (fun i hi => ?_) (fun i l b hi hl hb => ?_) (fun i j l l' b hi hj h1 h2 => ?_) (fun i l hi hl => hnod l (List.mem_of_getElem? (fresh i l hi hl))) (fun i l b hb hl hf => ?_) (fun i hi h => ?_) (fun hE i b hb => ?_)
 ·rw [rem_lt hi]; split
  ·exact .inr rfl
  ·exact .inl rfl
 ·rw [rem_ge (by omega), List.getElem?_eq_none (by omega)]
 ·obtain ⟨j, _, l', h⟩ := hsub l (List.mem_of_getElem? (fresh i l hi hl)) b hb
  exact ⟨j, l', h⟩
 ·by_cases hin : i < n
  ·obtain ⟨g1, g2⟩ := kept i l hin hi
   by_cases hjn : j < n
   ·exact hH.inj2 i j l l' b g1 (kept j l' hjn hj).1 h1 h2
   ·obtain ⟨k, hk, l2, h3, h4, _⟩ := hsub l' (List.mem_of_getElem? (fresh j l' (by omega) hj)) b h2
    have := hH.inj2 i k l l2 b g1 h3 h1 h4
    exact absurd (this ▸ hk) g2
  ·by_cases hjn : j < n
   ·obtain ⟨g1, g2⟩ := kept j l' hjn hj
    obtain ⟨k, hk, l2, h3, h4, _⟩ := hsub l (List.mem_of_getElem? (fresh i l (by omega) hi)) b h1
    have := hH.inj2 j k l' l2 b g1 h3 h2 h4
    exact absurd (this ▸ hk) g2
   ·have := hinj _ _ l l' b (fresh i l (by omega) hi) (fresh j l' (by omega) hj) h1 h2
    omega
 ·by_cases hin : i < n
  ·rw [rem_lt hin] at hb
   split at hb
   ·cases hb
   ·rename_i hk
    rcases hG i b l hk hb (kept i l hin hl).1 with h | h
    ·exact hH.plain i l b h (kept i l hin hl).1 hf
    ·exact h.2.1
  ·rw [rem_ge (by omega)] at hb
   exact hpl _ l b hb (fresh i l (by omega) hl) hf
 ·rw [rem_lt hi] at h
  split at h
  ·cases h
  ·exact hGl i h
 ·by_cases hin : i < n
  ·rw [rem_lt hin] at hb
   split at hb
   ·cases hb
   ·rename_i hk
    obtain ⟨b0, hb0⟩ := Option.isSome_iff_exists.1 (hGl i (by rw [hb]; rfl))
    obtain ⟨l, hl, _⟩ := hH.box i b0 hb0
    rcases hG i b l hk hb hl with h | h
    ·exact .inl ⟨hin, h, by rw [rem_lt hin, if_neg hk]⟩
    ·exact .inr ⟨l, by rw [rem_lt hin, if_neg hk]; exact hl, h.2.2⟩
  ·rw [rem_ge (by omega)] at hb
   have hl : i - n < ls.length := by rw [hlen]; exact (List.getElem?_eq_some_iff.1 hb).1
   exact .inr ⟨ls[i - n], by rw [rem_ge (by omega)]; exact List.getElem?_eq_getElem hl, hbox hE (i - n) _ b hb (List.getElem?_eq_getElem hl)⟩
end
end Go.Vc
/- The Vc layer: slices taken out of a bag and put back; rows opened, closed, read as data. -/
set_option linter.all false
namespace Go.Vc
open Go Go.RowKit

theorem fm_split {α β : Type} (f : α → Option β) (l1 l2 : List α) (x : α) : (l1 ++ x :: l2).filterMap f = l1.filterMap f ++ ((f x).toList ++ l2.filterMap f) := by
 rw [List.filterMap_append, List.filterMap_cons]
 cases f x <;> simp
theorem split_at {α : Type} {l : List α} {i : Nat} {x : α} (h : l[i]? = some x) : l = l.take i ++ x :: l.drop (i + 1) := by
 have hi := (List.getElem?_eq_some_iff.1 h).1
 have : x = l[i] := ((List.getElem?_eq_some_iff.1 h).2).symm
 rw [this, List.getElem_cons_drop, List.take_append_drop]

theorem BagP.take {w : World} {O : Nat → Prop} {ety : TypeId} {esz : Nat} {m1 m2 : List (Value × List (List D))} {v : Value} {ys : List (List D)} {subs : List Nat} (h : BagP w O ety esz (m1 ++ (v, ys) :: m2) subs) :
  ∃ (l : Lay) (s1 s2 : List Nat), subs = s1 ++ (l.blk.toList ++ s2) ∧ l.subs = [] ∧ VecO w O ety esz ys l ∧ v = sval l ys.length ∧ BagP w O ety esz (m1 ++ m2) (s1 ++ s2) := by
 obtain ⟨ls, h1, h2, h3⟩ := h
 have hi : m1.length < ls.length := by rw [h1]; simp
 obtain ⟨l, hl⟩ : ∃ l, ls[m1.length]? = some l := ⟨_, List.getElem?_eq_getElem hi⟩
 obtain ⟨g1, g2, g3⟩ := h3 m1.length l (v, ys) hl (by simp)
 have hs := split_at hl
 refine ⟨l, (ls.take m1.length).filterMap (·.blk), (ls.drop (m1.length + 1)).filterMap (·.blk), ?_, g1, g2, g3, ls.take m1.length ++ ls.drop (m1.length + 1), ?_, by rw [List.filterMap_append], fun i l' p hi hp => ?_⟩
 ·rw [h2]
  conv => lhs; rw [hs]
  exact fm_split _ _ _ _
 ·simp at h1 ⊢; omega
 ·have hlt : (ls.take m1.length).length = m1.length := by rw [List.length_take]; omega
  by_cases hlt' : i < m1.length
  ·rw [List.getElem?_append_left (by omega), List.getElem?_take, if_pos hlt'] at hi
   rw [List.getElem?_append_left hlt'] at hp
   exact h3 i l' p hi (by rw [List.getElem?_append_left hlt']; exact hp)
  ·rw [List.getElem?_append_right (by omega), hlt, List.getElem?_drop] at hi
   rw [List.getElem?_append_right (by omega)] at hp
   refine h3 (i + 1) l' p ?_ ?_
   ·rw [← hi]; congr 1; omega
   ·rw [List.getElem?_append_right (by omega), show i + 1 - m1.length = (i - m1.length) + 1 by omega, List.getElem?_cons_succ]; exact hp

theorem BagP.add {w : World} {O : Nat → Prop} {ety : TypeId} {esz : Nat} {m1 m2 : List (Value × List (List D))} {l : Lay} {ys : List (List D)} {subs : List Nat} (h : BagP w O ety esz (m1 ++ m2) subs) (hl : l.subs = []) (hv : VecO w O ety esz ys l) :
  ∃ s1 s2 : List Nat, subs = s1 ++ s2 ∧ BagP w O ety esz (m1 ++ (sval l ys.length, ys) :: m2) (s1 ++ (l.blk.toList ++ s2)) := by
 obtain ⟨ls, h1, h2, h3⟩ := h
 have hle : m1.length ≤ ls.length := by rw [h1]; simp
 have hlt : (ls.take m1.length).length = m1.length := by rw [List.length_take]; omega
 refine ⟨(ls.take m1.length).filterMap (·.blk), (ls.drop m1.length).filterMap (·.blk), by rw [h2, ← List.filterMap_append, List.take_append_drop], ls.take m1.length ++ l :: ls.drop m1.length, ?_, (fm_split _ _ _ _).symm, fun i l' p hi hp => ?_⟩
 ·simp at h1 ⊢; omega
 ·by_cases hlt' : i < m1.length
  ·rw [List.getElem?_append_left (by omega), List.getElem?_take, if_pos hlt'] at hi
   rw [List.getElem?_append_left hlt'] at hp
   exact h3 i l' p hi (by rw [List.getElem?_append_left hlt']; exact hp)
  ·rw [List.getElem?_append_right (by omega), hlt] at hi
   rw [List.getElem?_append_right (by omega)] at hp
   cases hk : i - m1.length with
   | zero =>
    rw [hk] at hi hp
    simp at hi hp
    subst hi; subst hp
    exact ⟨hl, hv, rfl⟩
   | succ k =>
    rw [hk] at hi hp
    simp only [List.getElem?_cons_succ] at hi hp
    rw [List.getElem?_drop] at hi
    refine h3 (m1.length + k) l' p hi ?_
    rw [List.getElem?_append_right (by omega), show m1.length + k - m1.length = k by omega]; exact hp

section
variable [Far] {P : Program} {E : Env P} {W0 : World} {M0 : Nat → Prop} {w : World} {S : Lays} {n : Nat} {H : Heap} {fr : Nat → AV} {K : St → Prop} {d : Option Tmp} {t t' ty' : TypeId} {p : String} {af : Array Edge}

theorem put_ok (hH : HeapOk W0 M0 H n w S) {b j len esz : Nat} {ety : TypeId} {m1 m2 : List (Value × List (List D))} {v : Value} {xs : List (List D)} (hne : b ≠ j) (hb : H b = some (.ob (.bag ety esz (m1 ++ m2)))) (hj : H j = some (.vec ety esz xs)) (hv : R w S n (.sl j 0 len) v) (hlen : len ≤ xs.length) :
  v.oneCell' = true ∧ ∃ S', HeapOk W0 M0 (rem [b, j] n [.ob (.bag ety esz (m1 ++ (v, xs.take len) :: m2))] H) (n + 1) w S' ∧ Ext w S n w S' (n + 1) := by
 obtain ⟨lb, hS, hbox⟩ := hH.box b _ hb
 obtain ⟨hb0, hbag⟩ := hbox
 obtain ⟨l, o, hSj, hboxj, rfl, hcap, ho, h0⟩ := hv.sl_live hH hj
 have hl0 := hH.plain j l _ hj hSj rfl
 have hvec : VecO w (own S) ety esz (xs.take len) l := BoxOk.short (ys := xs.drop len) (by rw [List.take_append_drop]; exact hboxj)
 obtain ⟨s1, s2, e1, e2⟩ := hbag.add hl0 hvec
 have hsv : (Value.slice (l.blk.map fun b => (⟨b, o, none⟩ : Addr)) len (l.cap - 0)) = sval l (xs.take len).length := by
  rw [h0 rfl, List.length_take, Nat.min_eq_left hlen]; rfl
 rw [hsv]
 refine ⟨rfl, ?_⟩
 have hnd := (hH.nod b lb hS).1
 rw [e1] at hnd
 have dis : ∀ c, l.blk = some c → c ∈ lb.subs → False := fun c hc hm => hne (hH.inj2 b j lb l c hS hSj (.inr hm) (.inl hc))
 have key := hH.redeal [b, j] [.ob (.bag ety esz (m1 ++ (sval l (xs.take len).length, xs.take len) :: m2))] [⟨none, 0, 0, s1 ++ (l.blk.toList ++ s2)⟩] H rfl (fun _ i b l _ h _ => .inl h) (fun _ h => h) (fun l' hl' c hc => ?_) (fun i k l1 l2 c hi hk h1 h2 => ?_) (fun l' hl' => ?_) (fun i l' b' hb' hl' hf => ?_) (fun hE i l' b' hb' hl' => ?_)
 ·exact ⟨_, key.1, key.2⟩
 ·simp only [List.mem_cons, List.not_mem_nil, or_false] at hl'
  subst hl'
  rcases hc with hc | hc
  ·cases hc
  ·simp only [List.mem_append, Option.mem_toList] at hc
   rcases hc with hc | hc | hc
   ·exact ⟨b, by simp, lb, hS, .inr (by rw [e1]; simp [hc]), by rw [hb]; rfl⟩
   ·exact ⟨j, by simp, l, hSj, .inl hc, by rw [hj]; rfl⟩
   ·exact ⟨b, by simp, lb, hS, .inr (by rw [e1]; simp [hc]), by rw [hb]; rfl⟩
 ·have hi' : i < 1 := (List.getElem?_eq_some_iff.1 hi).1
  have hk' : k < 1 := (List.getElem?_eq_some_iff.1 hk).1
  omega
 ·simp only [List.mem_cons, List.not_mem_nil, or_false] at hl'
  subst hl'
  refine ⟨?_, fun _ h => by cases h⟩
  cases hbk : l.blk with
  | none => simpa using hnd
  | some c =>
   have h1 : c ∉ s1 := fun h => dis c hbk (by rw [e1]; simp [h])
   have h2 : c ∉ s2 := fun h => dis c hbk (by rw [e1]; simp [h])
   rw [List.nodup_append] at hnd
   obtain ⟨q1, q2, q3⟩ := hnd
   simp only [Option.toList_some, List.singleton_append, List.nodup_append, List.nodup_cons]
   refine ⟨q1, ⟨h2, q2⟩, fun x hx y hy => ?_⟩
   rcases List.mem_cons.1 hy with rfl | hy
   ·exact fun e => h1 (e ▸ hx)
   ·exact q3 x hx y hy
 ·have hi' : i < 1 := (List.getElem?_eq_some_iff.1 hl').1
  have : i = 0 := by omega
  subst this
  simp at hb'; subst hb'; cases hf
 ·have hnew := hE.new
  have hi' : i < 1 := (List.getElem?_eq_some_iff.1 hl').1
  have : i = 0 := by omega
  subst this
  simp only [List.getElem?_cons_zero, Option.some.injEq] at hb' hl'; subst hb'; subst hl'
  exact ⟨rfl, e2.ext (Nat.le_refl _) (fun _ _ _ _ _ h => h) hnew (fun _ _ => rfl)⟩
end
end Go.Vc
/- The Vc layer: rows whose elements own slices: opened, closed, read as data. -/
set_option linter.all false
namespace Go.Vc
open Go Go.RowKit

theorem vec_data {w : World} {O O' : Nat → Prop} {ty sz : Nat} {xs : List (List D)} {l : Lay} (h : VecO w O ty sz xs l) (hO : ∀ b, b < w.heap.size → ¬ O b → ¬ O' b) (hb : ∀ b, l.blk = some b → ¬ O' b) (o : Nat) (ho : o = 0) : RD w O' (.sl xs) (.slice (l.blk.map fun b => ⟨b, o, none⟩) xs.length (l.cap - 0)) := by
 subst ho
 obtain ⟨h1, h2, h3, h4, h5, h6⟩ := h
 cases hk : l.blk with
 | none =>
  have := h5 hk
  have : xs = [] := List.eq_nil_of_length_eq_zero (by omega)
  subst this
  exact .sl0 _ _
 | some b =>
  obtain ⟨cur, hc, hz, hr⟩ := h6 b hk
  have hlt : b < w.heap.size := (Array.getElem?_eq_some_iff.1 hc).1
  refine .sl xs sz b 0 _ (fun e f => (cur[e * sz + f]?).getD undef) (by omega) hlt (hb b hk) h4 (fun e f c hh => ?_) (fun e f c hh => ?_)
  ·obtain ⟨u, hu, _⟩ := hr e f c hh
   simp only [hu, Option.getD_some]
   unfold World.cell?
   simp only [hc, Nat.zero_add]
   exact hu
  ·obtain ⟨u, hu, hR⟩ := hr e f c hh
   simp only [hu, Option.getD_some]
   exact hR.extC (Nat.le_refl _) (fun _ _ _ _ _ h => h) hO

section
variable [Far] {P : Program} {E : Env P} {W0 : World} {M0 : Nat → Prop} {w : World} {S : Lays} {n : Nat} {H : Heap} {fr : Nat → AV}

theorem not_own_rem (hH : HeapOk W0 M0 H n w S) {K : List Nat} {ls : List Lay} {id c : Nat} {l : Lay} (hS : S id = some l) (hc : l.has c) (hk : id ∈ K) (hls : ∀ l' ∈ ls, ¬ l'.has c) : ¬ own (rem K n ls S) c := by
 rintro (h | ⟨i, l', h1, h2⟩)
 ·exact (hH.far c (Far.sub c h)).2 id l hS hc
 ·by_cases hi : i < n
  ·rw [rem_lt hi] at h1
   split at h1
   ·cases h1
   ·rename_i hno
    exact hno (hH.inj2 i id l' l c h1 hS h2 hc ▸ hk)
  ·rw [rem_ge (by omega)] at h1
   exact hls l' (List.mem_of_getElem? h1) h2

def Turns (H G : Heap) (K : List Nat) (w : World) (S S' : Lays) (n n' : Nat) (c c' : AV) : Prop :=
 (∀ v, R w S n c v → R w S' n' c' v) → Ext w S n w S' n' → (∀ i b l, i ∉ K → G i = some b → S i = some l → H i = some b ∨ (flatB b = true ∧ l.subs = [] ∧ BoxOk w S' n' b l))

theorem turns_cell (hH : HeapOk W0 M0 H n w S) {x tx g : Nat} {cells : List AV} {c c' : AV} (hx : H x = some (.one tx cells)) (hg : cells[g]? = some c) (K : List Nat) (S' : Lays) (n' : Nat) :
  Turns H (upd H x (some (.one tx (cells.set g c')))) K w S S' n n' c c' := by
 intro hr hE i b l hi hb hl
 rw [upd_app] at hb
 split at hb
 ·rename_i hix
  subst hix
  cases hb
  obtain ⟨l', hl', hbox⟩ := hH.box i _ hx
  rw [hl] at hl'; cases hl'
  refine .inr ⟨rfl, hH.plain i l _ hx hl rfl, ?_⟩
  obtain ⟨h1, h2, k, hk, cur, hc, hz, hcell⟩ := hbox
  refine ⟨by simpa using h1, h2, k, hk, cur, hc, by simpa using hz, fun f e hf => ?_⟩
  rw [List.getElem?_set] at hf
  split at hf
  ·rename_i hgf
   subst hgf
   split at hf
   ·cases hf
    obtain ⟨u, g1, g2, g3⟩ := hcell g c hg
    exact ⟨u, g1, g2, hr u g3⟩
   ·cases hf
  ·obtain ⟨u, g1, g2, g3⟩ := hcell f e hf
   exact ⟨u, g1, g2, hE.r g3⟩
 ·exact .inl hb
theorem live_cell {x tx : Nat} {cells cells' : List AV} (hx : H x = some (.one tx cells)) : ∀ i, (upd H x (some (.one tx cells')) i).isSome = true → (H i).isSome = true := by
 intro i h
 rw [upd_app] at h
 split at h
 ·rename_i hi; rw [hi, hx]; rfl
 ·exact h

theorem newbag_ok (hH : HeapOk W0 M0 H n w S) (ety esz : Nat) : ∃ S', HeapOk W0 M0 (rem [] n [.ob (.bag ety esz [])] H) (n + 1) w S' ∧ Ext w S n w S' (n + 1) := by
 have no : ∀ c, ¬ (⟨none, 0, 0, []⟩ : Lay).has c := fun c h => h.elim (fun h => by cases h) (fun h => by cases h)
 have key := hH.redeal [] [.ob (.bag ety esz [])] [⟨none, 0, 0, []⟩] H rfl (fun _ i b l _ h _ => .inl h) (fun _ h => h) (fun l' hl' c hc => ?_) (fun i j l1 l2 c hi hj g1 g2 => ?_) (fun l' hl' => ?_) (fun i l' b' hb' hl' hf => ?_) (fun hE i l' b' hb' hl' => ?_)
 ·exact ⟨_, key.1, key.2⟩
 ·simp only [List.mem_cons, List.not_mem_nil, or_false] at hl'
  subst hl'; exact (no c hc).elim
 ·have := (List.getElem?_eq_some_iff.1 hi).1
  have := (List.getElem?_eq_some_iff.1 hj).1
  simp at *; omega
 ·simp only [List.mem_cons, List.not_mem_nil, or_false] at hl'
  subst hl'; exact ⟨List.nodup_nil, fun _ h => by cases h⟩
 ·have : i < 1 := (List.getElem?_eq_some_iff.1 hl').1
  obtain rfl : i = 0 := by omega
  simp at hb'; subst hb'; cases hf
 ·have : i < 1 := (List.getElem?_eq_some_iff.1 hl').1
  obtain rfl : i = 0 := by omega
  simp at hb' hl'; subst hb'; subst hl'
  exact ⟨rfl, [], rfl, rfl, fun i l p hi => by simp at hi⟩
end
end Go.Vc
/- The Vc layer: copy, capacities, an append that grows for sure, library functions without a body, a box under a new number. -/
set_option linter.all false
namespace Go.Vc
open Go Go.RowKit

section
variable [Far] {P : Program} {E : Env P} {W0 : World} {M0 : Nat → Prop} {w : World} {S : Lays} {n : Nat} {H : Heap} {fr : Nat → AV} {K : St → Prop} {d : Option Tmp} {t t2 t' ty' : TypeId} {p : String} {af : Array Edge}

theorem HeapOk.rebox (hH : HeapOk W0 M0 H n w S) {id : Nat} {b b' : Box} (hb : H id = some b) (hbox : ∀ l, S id = some l → BoxOk w S n b l → (flatB b = true → l.subs = []) → BoxOk w S n b' l ∧ (flatB b' = true → l.subs = [])) : HeapOk W0 M0 (upd H id (some b')) n w S := by
 obtain ⟨l0, hS, hbx⟩ := hH.box id b hb
 have h0 := hbox l0 hS hbx (fun h => hH.plain id l0 b hb hS h)
 refine ⟨hH.bnd, hH.lt2, fun i b1 h => ?_, hH.inj2, hH.nod, fun i l b1 h1 h2 h3 => ?_, fun i l b1 h1 h2 h3 => ?_, hH.os, hH.tape, hH.output, hH.size, hH.same, hH.far, hH.pin, hH.gl⟩
 ·rw [upd_app] at h
  split at h
  ·rename_i hi; subst hi; cases h; exact ⟨l0, hS, h0.1⟩
  ·exact hH.box i b1 h
 ·rw [upd_app] at h1
  split at h1
  ·rename_i hi; subst hi; cases h1; rw [hS] at h2; cases h2; exact h0.2 h3
  ·exact hH.plain i l b1 h1 h2 h3
 ·rw [upd_app] at h1
  split at h1
  ·rename_i hi; subst hi; exact hH.mut2 i l b1 (by rw [hb]; rfl) h2 h3
  ·exact hH.mut2 i l b1 h1 h2 h3

theorem sem_copy {e ety : TypeId} {s b s' b' : Nat} {z z' : List D} {sh : Sh} {x y : Operand} {id off len sz : Nat} {xs ys : List (List D)} {q : Prop} {c : AV} (hx : bare (evO fr x) = .sl id off len) (hn : needs (evO fr x)) (hbx : H id = some (.vec ety sz xs)) (hty : E.X.ty t = some ⟨.slice e, s, b, z⟩) (hte : E.X.ty e = some ⟨sh, s', b', z'⟩) (hsz : s' = sz)
  (hy : bare (evO fr y) = c) (hny : needs (evO fr y)) (hsrc : rowsSrc H c = some (q, ys)) (hq : q) (hr : Rect sz ys) (hb : off + len ≤ xs.length)
  (k : K ⟨putD d (.d (.int .i64 (min ys.length len : Nat))) fr, upd H id (some (.vec ety sz (splice xs off (ys.take len)))), n⟩) : SemO W0 M0 E ⟨d, .call ⟨.builtin .copy, #[x, y], #[t, t2]⟩, t', p, af, none⟩ ⟨fr, H, n⟩ K := by
 refine .value (fun c h => by cases h) fun a w S hH hop => ?_
 have hR := (hop x (by simp [Op.operands, Call.operands])).bare_of hn
 have hY := (hop y (by simp [Op.operands, Call.operands])).bare_of hny
 rw [hx] at hR
 rw [hy] at hY
 obtain ⟨lay, o, hS, hbox, hv, hcap, ho, h0⟩ := hR.sl_live hH hbx
 have hbox' := hbox
 obtain ⟨hsz', hcm, hxl, hz, hnil, hbk⟩ := hbox'
 obtain ⟨A, cx, news, hvy, hs⟩ := rowsSrc_ok hH hsrc hq hr hY
 have hes : s' = lay.sz := by rw [hsz]; exact hsz'.symm
 obtain ⟨i, zv, hi, his, _⟩ := (E.X.facts hte).info
 simp only at his
 have hu := (E.X.facts hty).slice
 have hsize : ∀ w, (sizeOf e).run P w = .ok i.size w := fun w => by simp [sizeOf, typeInfo, hi]
 have hmin : Nat.min ys.length len = min ys.length len := rfl
 have exec : ∀ {r : Value} {w' : World}, (Builtin.copy_ #[t, t2] t' #[a.eval x, a.eval y]).run P w = .ok r w' → (execOp a.eval ⟨d, .call ⟨.builtin .copy, #[x, y], #[t, t2]⟩, t', p, af, none⟩).run P w = .ok (.value r) w' := by
  intro r w' hrun
  simp only [execOp, resolve, invoke, builtin, Sem.run_bind, Sem.run_pure, Result.andThen_ok, List.map_toArray, List.map_cons, List.map_nil]
  rw [hrun]; rfl
 have same : ys.take len = [] → upd H id (some (.vec ety sz (splice xs off (ys.take len)))) = H := by
  intro h0
  funext j
  rw [upd_app]
  split
  ·rename_i hj; rw [hj, hbx, h0]; simp [splice]
  ·rfl
 have hl : (ys.take len).length = min ys.length len := by rw [List.length_take, Nat.min_comm]
 have rint : ∀ {w : World} {S : Lays} {n m : Nat}, R w S n (.d (.int .i64 (m : Nat))) (goInt m) := .d (.int _ _)
 have hfirst : (Builtin.firstCells i.size (min ys.length len) (.slice A ys.length cx)).run P w = .ok (news.take (min ys.length len * sz)).toArray w := by
  cases hA : A with
  | none =>
   have hy0 := hs.none_ hA
   have : news = [] := List.eq_nil_of_length_eq_zero (by rw [hs.len, hy0]; simp)
   simp [Builtin.firstCells, this]
  | some ad =>
   have hln : (news.take (min ys.length len * sz)).length = min ys.length len * i.size := by
    rw [List.length_take, hs.len, his, hsz]
    have := Nat.mul_le_mul_right sz (Nat.min_le_left ys.length len)
    omega
   have := run_loadCells_list (P := P) w ad (news.take (min ys.length len * sz)) (fun j v hj => hs.cells ad hA j v (by rw [List.getElem?_take] at hj; split at hj; exact hj; cases hj))
   rw [hln] at this
   simpa [Builtin.firstCells] using this
 cases hk : lay.blk with
 | none =>
  have hc0 := hnil hk
  have hl0 : len = 0 := by omega
  refine ⟨_, _, n, goInt (min ys.length len : Nat), w, S, exec ?_, by rw [same (by rw [hl0]; simp)]; exact hH, Ext.refl _ _ _, rint, k⟩
  rw [hv, hvy, hk]
  simp [Builtin.copy_, run_underlying hu, Builtin.lenOf, hsize, hmin, hfirst]
 | some g =>
  obtain ⟨cur, hcur, hsize', hcell⟩ := hbk g hk
  by_cases hz0 : ys.take len = []
  ·have hm0 : min ys.length len = 0 := by rw [← hl, hz0]; rfl
   refine ⟨_, _, n, goInt (min ys.length len : Nat), w, S, exec ?_, by rw [same hz0]; exact hH, Ext.refl _ _ _, rint, k⟩
   rw [hv, hvy, hk]
   have hf0 := hfirst
   rw [hm0] at hf0 ⊢
   simp at hf0
   simp [Builtin.copy_, run_underlying hu, Builtin.lenOf, hsize, hmin, hm0, hf0, storeCells]
  ·have hpos : 0 < len := by
    rcases Nat.eq_zero_or_pos len with h | h
    ·rw [h] at hz0; simp at hz0
    ·exact h
   have hoff := ho (by omega)
   subst hoff
   have hr' : Rect sz (ys.take len) := fun y hy => hr y (List.mem_of_mem_take hy)
   have hnl : (news.take (min ys.length len * sz)).length = (ys.take len).length * sz := by
    rw [List.length_take, hs.len, hl]
    have := Nat.mul_le_mul_right sz (Nat.min_le_left ys.length len)
    omega
   have hst := run_storeCells_at (P := P) g (off * lay.sz) ety (news.take (min ys.length len * sz)) 0 cur w hcur (by
    rw [hnl, hsize', hsz', Nat.add_zero, ← Nat.add_mul]
    exact Nat.mul_le_mul_right _ (by rw [hl]; omega)) (fun v hv => hs.one v (List.mem_of_mem_take hv))
   obtain ⟨hH', hE⟩ := write_rows hH hbx hS hk hcur hr' hnl (e0 := off) (by omega) (by rw [hl]; omega) (fun e' f' c' hh => by
    obtain ⟨row, hrow, hf⟩ := at2_some hh
    rw [List.getElem?_take] at hrow
    split at hrow
    ·rename_i hlt
     obtain ⟨u, h1, h2⟩ := hs.rd e' f' c' (by simp [at2, hrow, hf])
     refine ⟨u, ?_, h2⟩
     have hel : e' < ys.length := (List.getElem?_eq_some_iff.1 hrow).1
     have hfl : f' < sz := by rw [← hr row (List.mem_of_getElem? hrow)]; exact (List.getElem?_eq_some_iff.1 hf).1
     rw [List.getElem?_take, if_pos]
     ·exact h1
     ·have := Nat.mul_le_mul_right sz (show e' + 1 ≤ min ys.length len by omega)
      rw [Nat.add_mul] at this; omega
    ·cases hrow)
   refine ⟨_, _, n, goInt (min ys.length len : Nat), _, S, exec ?_, hH', hE, rint, k⟩
   rw [hv, hvy, hk]
   simp only [Nat.add_zero, hsz'] at hst
   simp only [Option.map_some]
   simp [Builtin.copy_, run_underlying hu, Builtin.lenOf, hsize, hmin, hfirst, hst, splice, hsz']

theorem unfull_ok (hH : HeapOk W0 M0 H n w S) {id e sz c : Nat} {xs : List (List D)} (hb : H id = some (.ob (.full e sz xs c))) : HeapOk W0 M0 (upd H id (some (.vec e sz xs))) n w S :=
 hH.rebox hb fun l _ hb _ => ⟨hb.2.2, fun _ => hb.1⟩

end
end Go.Vc
/- The Vc layer: copies within a row, an append that grows for sure, overlaps, comparisons of strings, a box under a new number. -/
set_option linter.all false
namespace Go.Vc
open Go Go.RowKit

section
variable [Far] {P : Program} {E : Env P} {W0 : World} {M0 : Nat → Prop} {w : World} {S : Lays} {n : Nat} {H : Heap} {fr : Nat → AV} {K : St → Prop} {d : Option Tmp} {t t2 t' ty' : TypeId} {p : String} {af : Array Edge}

end
end Go.Vc
/- The Vc layer: the rules of opened rows, over states by lists. -/
set_option linter.all false
namespace Go.Vc
open Go Go.RowKit

theorem kilL_length (B : List Nat) : ∀ (l : List (Option Box)) (i : Nat), (kilL B l i).length = l.length
 | [], _ => rfl
 | _ :: r, i => by simp [kilL, kilL_length B r (i + 1)]
theorem updL_length (b : Option Box) : ∀ (l : List (Option Box)) (i : Nat), i < l.length → (updL l i b).length = l.length
 | [], i, h => by simp at h
 | _ :: l, 0, _ => rfl
 | _ :: l, i + 1, h => by simp [updL, updL_length b l i (by simpa using h)]
theorem getB_lt {bl : List (Option Box)} {i : Nat} {b : Box} (h : getB bl i = some b) : i < bl.length := by
 unfold getB at h
 cases hx : bl[i]? with
 | none => rw [hx] at h; cases h
 | some x => exact (List.getElem?_eq_some_iff.1 hx).1
theorem getB_app (l r : List (Option Box)) (i : Nat) : getB (l ++ r) i = if i < l.length then getB l i else getB r (i - l.length) := by
 unfold getB
 split
 ·rename_i h; rw [List.getElem?_append_left h]
 ·rename_i h; rw [List.getElem?_append_right (by omega)]
theorem rem_list {m : Nat} (bl : List (Option Box)) (K : List Nat) (bs : List Box) (hm : m = bl.length) : rem K m bs (getB bl) = getB (kilL K bl 0 ++ bs.map some) := by
 subst hm
 funext i
 rw [getB_app, kilL_length, getB_kilL]
 unfold rem
 split
 ·simp
 ·simp only [getB, List.getElem?_map]
  cases bs[i - bl.length]? <;> rfl

section
variable [Far] {P : Program} {E : Env P} {W0 : World} {M0 : Nat → Prop} {w : World} {S : Lays} {n m : Nat} {H : Heap} {fr : Nat → AV} {K : St → Prop} {d : Option Tmp} {t t2 t' ty' : TypeId} {p : String} {af : Array Edge} {bl : List (Option Box)} {cd : Code} {Q : Exit → St → Prop}

theorem vc_newbag (ety esz : Nat) (hm : m = bl.length) (h : VC E W0 M0 cd ⟨fr, getB (bl ++ [some (.ob (.bag ety esz []))]), m + 1⟩ Q) : VC E W0 M0 cd ⟨fr, getB bl, m⟩ Q := by
 refine VC.sub ?_ h
 rintro a w ⟨S, hH, hF, hM⟩
 obtain ⟨S', h2, h3⟩ := newbag_ok hH ety esz
 refine ⟨S', ?_, hF.ext h3, hM.ext h3⟩
 rw [rem_list _ _ _ hm] at h2
 have : kilL [] bl 0 = bl := by
  have : ∀ (l : List (Option Box)) i, kilL [] l i = l := by
   intro l
   induction l with
   | nil => intro i; rfl
   | cons x l ih => intro i; simp [kilL, ih]
  exact this bl 0
 rw [this] at h2
 exact h2

theorem kilL_nil : ∀ (l : List (Option Box)) (i : Nat), kilL [] l i = l
 | [], _ => rfl
 | x :: l, i => by simp [kilL, kilL_nil l (i + 1)]

theorem nilrow_ok (hH : HeapOk W0 M0 H n w S) (G : Heap) (hGl : ∀ i, (G i).isSome = true → (H i).isSome = true) (b : Box) (sz : Nat) (hb : ∀ w S n, BoxOk w S n b ⟨none, sz, 0, []⟩) (hG : ∀ S', Turns H G [] w S S' n (n + 1) (.d .nils) (.sl n 0 0)) :
  ∃ S', HeapOk W0 M0 (rem [] n [b] G) (n + 1) w S' ∧ Ext w S n w S' (n + 1) ∧ ∀ v, R w S n (.d .nils) v → R w S' (n + 1) (.sl n 0 0) v := by
 have no : ∀ c, ¬ (⟨none, sz, 0, []⟩ : Lay).has c := fun c h => h.elim (fun h => by cases h) (fun h => by cases h)
 have tr : ∀ v, R w S n (.d .nils) v → R w (rem [] n [⟨none, sz, 0, []⟩] S) (n + 1) (.sl n 0 0) v := fun v hv => by
  cases hv with | d hv =>
  cases hv
  exact .sl n 0 0 0 ⟨none, sz, 0, []⟩ (by omega) (by rw [rem_ge (Nat.le_refl _)]; simp) (by simp) (fun h => by simp at h) (fun _ => rfl)
 have key := hH.redeal [] [b] [⟨none, sz, 0, []⟩] G rfl (fun hE => hG _ tr hE) hGl (fun l' hl' c hc => ?_) (fun i j l1 l2 c hi hj g1 g2 => ?_) (fun l' hl' => ?_) (fun i l' b' hb' hl' hf => ?_) (fun hE i l' b' hb' hl' => ?_)
 ·exact ⟨_, key.1, key.2, tr⟩
 ·simp only [List.mem_cons, List.not_mem_nil, or_false] at hl'
  subst hl'; exact (no c hc).elim
 ·have := (List.getElem?_eq_some_iff.1 hi).1
  have := (List.getElem?_eq_some_iff.1 hj).1
  simp at *; omega
 ·simp only [List.mem_cons, List.not_mem_nil, or_false] at hl'
  subst hl'; exact ⟨List.nodup_nil, fun _ h => by cases h⟩
 ·have : i < 1 := (List.getElem?_eq_some_iff.1 hl').1
  obtain rfl : i = 0 := by omega
  simp only [List.getElem?_cons_zero, Option.some.injEq] at hl'; subst hl'; rfl
 ·have : i < 1 := (List.getElem?_eq_some_iff.1 hl').1
  obtain rfl : i = 0 := by omega
  simp only [List.getElem?_cons_zero, Option.some.injEq] at hb' hl'; subst hb'; subst hl'
  exact hb _ _ _

theorem vec_nil [Far] (ty sz : Nat) (w : World) (S : Lays) (n : Nat) : BoxOk w S n (.vec ty sz []) ⟨none, sz, 0, []⟩ := ⟨rfl, by simp [maxLen], by simp, by simp, fun _ => rfl, fun b hb => by cases hb⟩
theorem vc_nil1 (x g : Nat) (b : Box) (sz : Nat) (hbx : ∀ w S n, BoxOk w S n b ⟨none, sz, 0, []⟩) (hm : m = bl.length) {tx : Nat} {cells : List AV} (hx : getB bl x = some (.one tx cells)) (hg : cells[g]? = some (.d .nils))
  (h : VC E W0 M0 cd ⟨fr, getB (updL bl x (some (.one tx (cells.set g (.sl m 0 0)))) ++ [some b]), m + 1⟩ Q) : VC E W0 M0 cd ⟨fr, getB bl, m⟩ Q := by
 refine VC.sub ?_ h
 rintro a w ⟨S, hH, hF, hM⟩
 obtain ⟨S', h2, h3, _⟩ := nilrow_ok hH (upd (getB bl) x (some (.one tx (cells.set g (.sl m 0 0))))) (live_cell hx) b sz hbx (fun S' => turns_cell hH hx hg [] S' (m + 1))
 refine ⟨S', ?_, hF.ext h3, hM.ext h3⟩
 rw [upd_getB, rem_list _ _ _ (by rw [updL_length _ _ _ (getB_lt hx)]; exact hm), kilL_nil] at h2
 exact h2

theorem run_callD (hH : HeapOk W0 M0 H n w S) {f : FuncId} {sp : Spec} (hf : E.Γ f = some sp) (D : List Nat) {args : List AV} {vals : List Value} (hl : vals.length = args.length) (hR : ∀ (i : Nat) (c : AV) (u : Value), args[i]? = some c → vals[i]? = some u → R w S n c u)
  {q : Prop} {r : AV} {H' : Heap} {n' : Nat} (hrun : sp.run args (restr D H) n = some (q, r, some (H', n'))) (hq : q) :
  Calls P f vals.toArray w fun e w' => ∃ v S', e = .returned v ∧ HeapOk W0 M0 (merge D n H H') n' w' S' ∧ Ext w S n w' S' n' ∧ R w' S' n' r v := by
 have hkl : killL [] S = S := by funext i; simp [killL]
 have hE0 := hH.enter D [] (fun i hi => by cases hi)
 rw [hkl] at hE0
 have hcall := E.ok f sp hf args (restr D H) n q r _ hrun hq w S vals hE0 hl hR
 refine Calls.mono hcall ?_
 rintro e w' ⟨v, S', rfl, hL, hs, hR⟩
 have hb := hH.back (D := D) (B := []) (fun i hi => by cases hi) (by rw [hkl]; exact hL)
 rw [show killL [] (merge D n H (Option.getD (some (H', n')) (restr D H, n)).1) = merge D n H H' by funext i; simp [killL]] at hb
 exact ⟨v, S', rfl, hb.1, hb.2, hR⟩

theorem sem_call_put (b : Nat) {f : FuncId} {sp : Spec} (hf : E.Γ f = some sp) {ops : List Operand} {ts : Array TypeId} {args : List AV} (ha : (ops.map fun x => bare (evO fr x)) = args) (hn : nd fr ops) {q : Prop} {H' : Heap} {n' j len ety esz : Nat} {bl2 : List (Option Box)} {xs : List (List D)} {m1 m2 : List (Value × List (List D))} {mb : List (Value × List (List D))}
  (hrun : sp.run args (restr [] (getB bl)) m = some (q, .sl j 0 len, some (H', n'))) (hq : q) (h2 : merge [] m (getB bl) H' = getB bl2) (hn2 : n' = bl2.length) (hj : getB bl2 j = some (.vec ety esz xs)) (hb : getB bl2 b = some (.ob (.bag ety esz mb))) (hmb : mb = m1 ++ m2) (hbj : b ≠ j) (hlen : len ≤ xs.length)
  (k : ∀ v', K ⟨putD d (.d (.raw v')) fr, getB (kilL [b, j] bl2 0 ++ [some (.ob (.bag ety esz (m1 ++ (v', xs.take len) :: m2)))]), n' + 1⟩) : SemO W0 M0 E ⟨d, .call ⟨.value (.func f), ops.toArray, ts⟩, t', p, af, none⟩ ⟨fr, getB bl, m⟩ K := by
 subst hmb
 intro a w S hH hop Q
 have hvs : ∀ (i : Nat) (c : AV) (u : Value), args[i]? = some c → (ops.map a.eval)[i]? = some u → R w S m c u := fun i c u hc hu => by
  rw [← ha, List.getElem?_map] at hc
  rw [List.getElem?_map] at hu
  cases hx : ops[i]? with
  | none => rw [hx] at hc; cases hc
  | some x =>
   rw [hx] at hc hu; cases hc; cases hu
   have hm : x ∈ ops := List.mem_of_getElem? hx
   exact (hop x (by simp only [Op.operands, Call.operands, Array.toList_append, List.mem_append]; exact .inr (by simpa using hm))).bare_of (nd_mem hn x hm)
 have hcall := run_callD hH hf [] (vals := ops.map a.eval) (by rw [← ha]; simp) hvs hrun hq
 have hex : (execOp a.eval ⟨d, .call ⟨.value (.func f), ops.toArray, ts⟩, t', p, af, none⟩).run P w = .ok (.enter f (ops.map a.eval).toArray) w := by
  simp only [execOp, resolve, Sem.run_bind, show a.eval (.func f) = .func (.func f) #[] #[] from rfl]
  simp [Deferred.ofValue, invoke, enters_run (E.ent f sp hf)]
 refine fen_op (fun c h => by cases h) ?_
 rw [hex, Oper.uponIn_enter]
 refine ⟨fun h => (by cases h), fen_calls (Calls.mono hcall ?_)⟩
 rintro e w' ⟨v, S', rfl, h3, h4, h5⟩
 simp only at h3 h4 h5
 rw [h2] at h3
 obtain ⟨h6, S2, h7, h8⟩ := put_ok h3 hbj hb hj h5 hlen
 rw [rem_list _ _ _ hn2] at h7
 exact ⟨_, _, _, v, S2, rfl, h7, h4.trans h8, .d (.raw v h6), k v⟩

end
end Go.Vc
/- The Vc layer: nils kept raw. -/
set_option linter.all false
namespace Go.Vc
open Go Go.RowKit

section
variable [Far] {P : Program} {E : Env P} {W0 : World} {M0 : Nat → Prop} {w : World} {S : Lays} {n m : Nat} {H : Heap} {fr : Nat → AV} {K : St → Prop} {d : Option Tmp} {t t2 t' ty' : TypeId} {p : String} {af : Array Edge} {bl : List (Option Box)} {cd : Code} {Q : Exit → St → Prop}

end
def wB := And.intro @op_rules (And.intro @ev_rules (And.intro @fr_rules (And.intro @av_rules (And.intro @rs_rules @bw))))
def wL := And.intro @list_rules (And.intro @opt_rules (And.intro @map_rules (And.intro @rows_get (And.intro @rows_len (And.intro @rows_drop (And.intro @rows_take (And.intro @rows_app (And.intro @rows_nil (And.intro @rows_set (And.intro @Nat.zero_add (And.intro @Nat.add_zero (And.intro @true_and (And.intro @and_true (And.intro @and_assoc (And.intro @rect_eI (And.intro @rect_eB (And.intro @rect_eU (And.intro @rect_eS (And.intro @rect_eL (And.intro @rect_nil (And.intro @rect_cons (And.intro @bytes_is (And.intro @bytes_str (And.intro @splice_rules (And.intro @cell_rules (And.intro @fill_rules (And.intro @bnd_rules (And.intro @or_false (And.intro @false_or (And.intro @not_true_eq_false @not_false_eq_true))))))))))))))))))))))))))))))
def wG := And.intro @gen_rules (And.intro @gw (And.intro @gen_heap (And.intro @gen_heap0 (And.intro @allSome.eq_1 (And.intro @allSome.eq_2 @allSome.eq_3)))))
end Go.Vc
