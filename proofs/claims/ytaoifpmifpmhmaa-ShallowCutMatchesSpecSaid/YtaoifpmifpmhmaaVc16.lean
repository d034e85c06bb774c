/- The Vc layer: a state seen as another: boxes renumbered, let go, forgotten. -/
import Derived.Test.YtaoifpmifpmhmaaVc15
set_option linter.all false
namespace Go.Vc
open Go Go.RowKit
variable [Far]

/-- For each box of the new state: the box that it was; none: a row that is nil. -/
abbrev Ren := List (Option Nat)

def mt1 (ρ : Ren) (H : Heap) (c c' : AV) : Prop :=
  match c' with
  | .any => True
  | .d y => match c with
    | .d x => x = y ∨ cleanD x = y
    | .sl k off len => match H k with
      | some (.vec _ _ xs) => (some k ∈ ρ → False) ∧ off + len ≤ xs.length ∧ D.sl ((xs.drop off).take len) = y
      | _ => False
    | .ptr k e f => match H k with
      | some (.one _ cells) => match pureL cells with
        | some ds => (some k ∈ ρ → False) ∧ e = 0 ∧ f = 0 ∧ D.ptr ds = y
        | none => False
      | _ => False
    | _ => False
  | .sl i off len => match c with
    | .sl k off' len' => ρ[i]? = some (some k) ∧ off' = off ∧ len' = len
    | .d .nils => ρ[i]? = some none ∧ off = 0 ∧ len = 0
    | _ => False
  | .ptr i e f => match c with
    | .ptr k e' f' => ρ[i]? = some (some k) ∧ e' = e ∧ f' = f
    | _ => False
  | .ip sz xs e f => c = .ip sz xs e f
  | _ => False

def mtL (ρ : Ren) (H : Heap) : List AV → List AV → Prop
  | [], [] => True
  | c :: cs, c' :: cs' => mt1 ρ H c c' ∧ mtL ρ H cs cs'
  | _, _ => False

def mt2 (ρ : Ren) (H : Heap) (c c' : AV) : Prop :=
  match c' with
  | .agg cs' => match c with
    | .agg cs => mtL ρ H cs cs'
    | _ => False
  | .clo fn cs' => match c with
    | .clo fn' cs => fn' = fn ∧ mtL ρ H cs cs'
    | _ => False
  | c' => mt1 ρ H c c'

def mtL2 (ρ : Ren) (H : Heap) : List AV → List AV → Prop
  | [], [] => True
  | c :: cs, c' :: cs' => mt2 ρ H c c' ∧ mtL2 ρ H cs cs'
  | _, _ => False

def mt (ρ : Ren) (H : Heap) (c c' : AV) : Prop :=
  match c' with
  | .tup cs' => match c with
    | .tup cs => mtL2 ρ H cs cs'
    | _ => False
  | c' => mt2 ρ H c c'

def mtBox (ρ : Ren) (H : Heap) : Box → Box → Prop
  | .vec t s xs, .vec t' s' xs' => t = t' ∧ s = s' ∧ xs = xs'
  | .one t cs, .one t' cs' => t = t' ∧ mtL ρ H cs cs'
  | _, _ => False

def mtBs (ρ : Ren) (H : Heap) : Ren → List (Option Box) → Prop
  | [], [] => True
  | some k :: r, some b' :: bs => (match H k with | some b => mtBox ρ H b b' | none => False) ∧ mtBs ρ H r bs
  | none :: r, some b' :: bs => (match b' with | .vec _ _ xs => xs = [] | _ => False) ∧ mtBs ρ H r bs
  | _ :: r, none :: bs => mtBs ρ H r bs
  | _, _ => False

def getF : List (Nat × AV) → Nat → AV
  | [], _ => .any
  | (j, c) :: r, i => if i = j then c else getF r i

def getB (bl : List (Option Box)) (i : Nat) : Option Box := (bl[i]?).join

/-- A state by lists: the frame, the boxes. -/
def mkSt (fl : List (Nat × AV)) (bl : List (Option Box)) : St := ⟨getF fl, getB bl, bl.length⟩

def mtFr (ρ : Ren) (H : Heap) (fr : Nat → AV) : List (Nat × AV) → Prop
  | [] => True
  | (i, c') :: r => mt ρ H (fr i) c' ∧ mtFr ρ H fr r

def renS (ρ : Ren) (bl : List (Option Box)) (S : Lays) : Lays := fun i => match ρ[i]? with
  | some (some k) => S k
  | some none => match getB bl i with
    | some (.vec _ sz _) => some ⟨none, sz, 0⟩
    | _ => none
  | none => none

section
variable {P : Program} {E : Env P} {w w' : World} {S : Lays} {n : Nat} {W0 : World} {M0 : Nat → Prop} {H : Heap} {a : Act} {ρ : Ren} {bl : List (Option Box)}

theorem RD.of_vec (hH : HeapOk W0 M0 H n w S) {O : Nat → Prop} {id off len ty sz : Nat} {xs : List (List D)} {u : Value} (hu : R w S n (.sl id off len) u) (hb : H id = some (.vec ty sz xs)) (hp : off + len ≤ xs.length)
    (hO : ∀ l b, S id = some l → l.blk = some b → ¬ O b) (hm : ∀ b, b < w.heap.size → ¬ own S b → ¬ O b) : RD w O (.sl ((xs.drop off).take len)) u := by
  obtain ⟨l, o, hS, ⟨hsz, _, _, hz, hnil, hbk⟩, rfl, hcap, ho, h0⟩ := hu.sl_live hH hb
  have hlen : ((xs.drop off).take len).length = len := by rw [List.length_take, List.length_drop]; omega
  by_cases hl0 : len = 0
  · subst hl0; rw [List.take_zero]; exact .sl0 _ _
  · cases hk : l.blk with
    | none => have := hnil hk; omega
    | some b =>
      obtain ⟨cur, hcur, hsize, hcell⟩ := hbk b hk
      have hpt : ∀ e f c, at2 ((xs.drop off).take len) e f = some c → ∃ u, w.cell? ⟨b, o + e * sz + f, none⟩ = some u ∧ RD w O c u := fun e f c hh => by
        obtain ⟨u, hu', hr⟩ := hcell _ _ _ (at2_drop_take hh)
        refine ⟨u, ?_, hr.ext (Nat.le_refl _) (fun _ _ _ => rfl) hm⟩
        rw [cell_of_row w b _ cur _ (0, 0) hcur, ho (by omega), hsz, show off * sz + e * sz + f = (off + e) * sz + f by rw [Nat.add_mul]]
        exact hu'
      have := RD.sl (w := w) (O := O) ((xs.drop off).take len) sz b o (l.cap - off) (fun e f => (w.cell? ⟨b, o + e * sz + f, none⟩).getD undef) (by omega) (Array.getElem?_eq_some_iff.1 hcur).1 (hO l b hS hk)
        (fun x hx => hz x (List.mem_of_mem_drop (List.mem_of_mem_take hx))) (fun e f c hh => by obtain ⟨u, hu, _⟩ := hpt e f c hh; rw [hu]; rfl) (fun e f c hh => by obtain ⟨u, hu, hr⟩ := hpt e f c hh; rw [hu]; exact hr)
      rw [hlen] at this
      exact this

theorem RD.of_one (hH : HeapOk W0 M0 H n w S) {O : Nat → Prop} {id ty : Nat} {cells : List AV} {ds : List D} {u : Value} (hu : R w S n (.ptr id 0 0) u) (hb : H id = some (.one ty cells)) (hds : pureL cells = some ds)
    (hO : ∀ l b, S id = some l → l.blk = some b → ¬ O b) (hm : ∀ b, b < w.heap.size → ¬ own S b → ¬ O b) : RD w O (.ptr ds) u := by
  obtain ⟨l, k, hS, ⟨hsz, hcap, k', hk', cur, hcur, hsize, hcell⟩, hk, rfl⟩ := hu.ptr_live hH hb
  rw [hk] at hk'; cases hk'
  obtain ⟨hdl, hdd⟩ := pureL_ok hds
  have hpt : ∀ f c, ds[f]? = some c → ∃ u, w.cell? ⟨k, 0 + f, none⟩ = some u ∧ RD w O c u := fun f c hf => by
    have hlt : f < cells.length := by have := (List.getElem?_eq_some_iff.1 hf).1; omega
    obtain ⟨d, x, h1, h2, h3⟩ := hdd f _ (List.getElem?_eq_getElem hlt)
    rw [hf] at h1; cases h1
    obtain ⟨u, hu', _, hr⟩ := hcell f _ (List.getElem?_eq_getElem hlt)
    rw [h2] at hr
    cases hr with | d hr =>
    refine ⟨u, ?_, h3 ▸ (hr.ext (Nat.le_refl _) (fun _ _ _ => rfl) hm).clean⟩
    rw [cell_of_row w k _ cur _ (0, 0) hcur, Nat.zero_add]; exact hu'
  rw [Nat.zero_mul, Nat.zero_add]
  exact .ptr ds k 0 (fun f => (w.cell? ⟨k, 0 + f, none⟩).getD undef) (Array.getElem?_eq_some_iff.1 hcur).1 (hO l k hS hk)
    (fun f c hh => by obtain ⟨u, hu, _⟩ := hpt f c hh; rw [hu]; rfl) (fun f c hh => by obtain ⟨u, hu, hr⟩ := hpt f c hh; rw [hu]; exact hr)

theorem renS_some {i : Nat} {l : Lay} (h : renS ρ bl S i = some l) : (∃ k, ρ[i]? = some (some k) ∧ S k = some l) ∨ (ρ[i]? = some none ∧ l.blk = none) := by
  unfold renS at h
  split at h
  · rename_i k hk; exact .inl ⟨k, hk, h⟩
  · rename_i hk
    split at h
    · cases h; exact .inr ⟨hk, rfl⟩
    · cases h
  · cases h

theorem own_ren {b : Nat} (h : own (renS ρ bl S) b) : own S b := by
  rcases h with h | ⟨i, l, h1, h2⟩
  · exact .inl h
  · rcases renS_some h1 with ⟨k, _, h3⟩ | ⟨_, h3⟩
    · exact .inr ⟨k, l, h3, h2⟩
    · rw [h3] at h2; cases h2

theorem not_own_ren (hH : HeapOk W0 M0 H n w S) {k : Nat} (hk : some k ∈ ρ → False) : ∀ l b, S k = some l → l.blk = some b → ¬ own (renS ρ bl S) b := by
  rintro l b hS hb (h | ⟨i, l', h1, h2⟩)
  · exact (hH.far b (Far.sub b h)).2 k l hS hb
  · rcases renS_some h1 with ⟨k', h3, h4⟩ | ⟨_, h3⟩
    · have := hH.inj k' k l' l b h4 hS h2 hb
      subst this
      exact hk (List.mem_of_getElem? h3)
    · rw [h3] at h2; cases h2

theorem mt1_ok (hH : HeapOk W0 M0 H n w S) {c c' : AV} (h : mt1 ρ H c c') {v : Value} (hv : R w S n c v) : R w (renS ρ bl S) ρ.length c' v := by
  have hm : ∀ b, b < w.heap.size → ¬ own S b → ¬ own (renS ρ bl S) b := fun b _ h h' => h (own_ren h')
  have mv : ∀ {d : D} {v : Value}, RD w (own S) d v → RD w (own (renS ρ bl S)) d v := fun h => h.ext (Nat.le_refl _) (fun _ _ _ => rfl) hm
  unfold mt1 at h
  split at h
  · exact .any _
  · rename_i y
    split at h
    · rename_i x
      cases hv with | d hx =>
      rcases h with rfl | rfl
      · exact .d (mv hx)
      · exact .d (mv hx).clean
    · rename_i k off len
      split at h
      · rename_i ty sz xs hb
        obtain ⟨h1, h2, rfl⟩ := h
        exact .d (RD.of_vec hH hv hb h2 (not_own_ren hH h1) hm)
      · exact h.elim
    · rename_i k e f
      split at h
      · rename_i ty cells hb
        split at h
        · rename_i ds hds
          obtain ⟨h1, rfl, rfl, rfl⟩ := h
          exact .d (RD.of_one hH hv hb hds (not_own_ren hH h1) hm)
        · exact h.elim
      · exact h.elim
    · exact h.elim
  · rename_i i off len
    split at h
    · rename_i k off' len'
      obtain ⟨h1, rfl, rfl⟩ := h
      have hi : i < ρ.length := (List.getElem?_eq_some_iff.1 h1).1
      have hr : renS ρ bl S i = S k := by unfold renS; simp only [h1]
      cases hv with
      | slDead _ _ _ _ hn hS => exact .slDead _ _ _ _ hi (hr.trans hS)
      | sl _ _ _ o l hn hS hc ho h0 => exact .sl _ _ _ o l hi (hr.trans hS) hc ho h0
    · obtain ⟨h1, rfl, rfl⟩ := h
      have hi : i < ρ.length := (List.getElem?_eq_some_iff.1 h1).1
      cases hv with | d hx =>
      cases hx
      cases hb : renS ρ bl S i with
      | none => exact .slDead _ _ _ _ hi hb
      | some l =>
        have hb' := hb
        unfold renS at hb'
        simp only [h1] at hb'
        split at hb'
        · cases hb'
          exact .sl i 0 0 0 _ hi hb (by simp) (fun h => by cases h) (fun _ => rfl)
        · cases hb'
    · exact h.elim
  · rename_i i e f
    split at h
    · rename_i k e' f'
      obtain ⟨h1, rfl, rfl⟩ := h
      have hi : i < ρ.length := (List.getElem?_eq_some_iff.1 h1).1
      have hr : renS ρ bl S i = S k := by unfold renS; simp only [h1]
      cases hv with
      | ptrDead _ _ _ _ hn hS => exact .ptrDead _ _ _ _ hi (hr.trans hS)
      | ptr _ _ _ b l hn hS hb => exact .ptr _ _ _ b l hi (hr.trans hS) hb
    · exact h.elim
  · subst h
    cases hv with | ip _ _ _ _ b o u hb hO hc hr => exact .ip _ _ _ _ b o u hb (hm b hb hO) hc (fun e f c hh => mv (hr e f c hh))
  · exact h.elim

theorem mtL_ok (hH : HeapOk W0 M0 H n w S) : ∀ {cs cs' : List AV}, mtL ρ H cs cs' → cs'.length = cs.length ∧ ∀ (i : Nat) (c' : AV), cs'[i]? = some c' → ∃ c, cs[i]? = some c ∧ ∀ v, R w S n c v → R w (renS ρ bl S) ρ.length c' v := by
  intro cs
  induction cs with
  | nil =>
    intro cs' h
    cases cs' with
    | nil => exact ⟨rfl, fun i c' h => by simp at h⟩
    | cons _ _ => exact h.elim
  | cons c cs ih =>
    intro cs' h
    cases cs' with
    | nil => exact h.elim
    | cons c' cs' =>
      obtain ⟨h1, h2⟩ := h
      obtain ⟨h3, h4⟩ := ih h2
      refine ⟨by simp [h3], fun i d hd => ?_⟩
      cases i with
      | zero => simp at hd; subst hd; exact ⟨c, rfl, fun v hv => mt1_ok hH h1 hv⟩
      | succ i => simpa using h4 i d (by simpa using hd)

theorem mt2_ok (hH : HeapOk W0 M0 H n w S) {c c' : AV} (h : mt2 ρ H c c') {v : Value} (hv : R w S n c v) : R w (renS ρ bl S) ρ.length c' v := by
  unfold mt2 at h
  split at h
  · split at h
    · obtain ⟨h1, h2⟩ := mtL_ok (bl := bl) hH h
      cases hv with | agg _ us hl h1' hr =>
      exact .agg _ us (by omega) h1' (fun i c u hc hu => by obtain ⟨c0, h3, h4⟩ := h2 i c hc; exact h4 u (hr i c0 u h3 hu))
    · exact h.elim
  · split at h
    · obtain ⟨rfl, h⟩ := h
      obtain ⟨h1, h2⟩ := mtL_ok (bl := bl) hH h
      cases hv with | clo _ _ us hl hr =>
      exact .clo _ _ us (by omega) (fun i c u hc hu => by obtain ⟨c0, h3, h4⟩ := h2 i c hc; exact h4 u (hr i c0 u h3 hu))
    · exact h.elim
  · exact mt1_ok hH h hv

theorem mtL2_ok (hH : HeapOk W0 M0 H n w S) : ∀ {cs cs' : List AV}, mtL2 ρ H cs cs' → cs'.length = cs.length ∧ ∀ (i : Nat) (c' : AV), cs'[i]? = some c' → ∃ c, cs[i]? = some c ∧ ∀ v, R w S n c v → R w (renS ρ bl S) ρ.length c' v := by
  intro cs
  induction cs with
  | nil =>
    intro cs' h
    cases cs' with
    | nil => exact ⟨rfl, fun i c' h => by simp at h⟩
    | cons _ _ => exact h.elim
  | cons c cs ih =>
    intro cs' h
    cases cs' with
    | nil => exact h.elim
    | cons c' cs' =>
      obtain ⟨h1, h2⟩ := h
      obtain ⟨h3, h4⟩ := ih h2
      refine ⟨by simp [h3], fun i d hd => ?_⟩
      cases i with
      | zero => simp at hd; subst hd; exact ⟨c, rfl, fun v hv => mt2_ok hH h1 hv⟩
      | succ i => simpa using h4 i d (by simpa using hd)

theorem mt_ok (hH : HeapOk W0 M0 H n w S) {c c' : AV} (h : mt ρ H c c') {v : Value} (hv : R w S n c v) : R w (renS ρ bl S) ρ.length c' v := by
  unfold mt at h
  split at h
  · split at h
    · obtain ⟨h1, h2⟩ := mtL2_ok (bl := bl) hH h
      cases hv with | tup _ us hl hr =>
      exact .tup _ us (by omega) (fun i c u hc hu => by obtain ⟨c0, h3, h4⟩ := h2 i c hc; exact h4 u (hr i c0 u h3 hu))
    · exact h.elim
  · exact mt2_ok hH h hv

theorem mtFr_ok (hH : HeapOk W0 M0 H n w S) {fr : Nat → AV} : ∀ {fl : List (Nat × AV)}, mtFr ρ H fr fl → ∀ i v, R w S n (fr i) v → R w (renS ρ bl S) ρ.length (getF fl i) v := by
  intro fl
  induction fl with
  | nil => intro _ i v _; exact .any _
  | cons q fl ih =>
    obtain ⟨j, c'⟩ := q
    intro h i v hv
    simp only [getF]
    split
    · rename_i hi; subst hi; exact mt_ok hH h.1 hv
    · exact ih h.2 i v hv

theorem getB_some {bl : List (Option Box)} {i : Nat} {b : Box} : getB bl i = some b ↔ bl[i]? = some (some b) := by
  unfold getB
  cases h : bl[i]? with
  | none => simp
  | some x => cases x <;> simp

theorem mtBs_ok : ∀ {r : Ren} {bs : List (Option Box)}, mtBs ρ H r bs → r.length = bs.length ∧ ∀ (i : Nat) (b' : Box), bs[i]? = some (some b') →
    (∃ k b, r[i]? = some (some k) ∧ H k = some b ∧ mtBox ρ H b b') ∨ (r[i]? = some none ∧ ∃ ty sz, b' = .vec ty sz []) := by
  intro r
  induction r with
  | nil =>
    intro bs h
    cases bs with
    | nil => exact ⟨rfl, fun i b h => by simp at h⟩
    | cons _ _ => exact h.elim
  | cons q r ih =>
    intro bs h
    cases bs with
    | nil => cases q <;> exact h.elim
    | cons b' bs =>
      cases b' with
      | none =>
        have h' : mtBs ρ H r bs := by cases q <;> exact h
        obtain ⟨h3, h4⟩ := ih h'
        refine ⟨by simp [h3], fun i d hd => ?_⟩
        cases i with
        | zero => simp at hd
        | succ i => simpa using h4 i d (by simpa using hd)
      | some b' =>
        cases q with
        | some k =>
          obtain ⟨h1, h2⟩ := h
          obtain ⟨h3, h4⟩ := ih h2
          refine ⟨by simp [h3], fun i d hd => ?_⟩
          cases i with
          | zero =>
            simp at hd; subst hd
            split at h1
            · rename_i b hb; exact .inl ⟨k, b, rfl, hb, h1⟩
            · exact h1.elim
          | succ i => simpa using h4 i d (by simpa using hd)
        | none =>
          obtain ⟨h1, h2⟩ := h
          obtain ⟨h3, h4⟩ := ih h2
          refine ⟨by simp [h3], fun i d hd => ?_⟩
          cases i with
          | zero =>
            simp at hd; subst hd
            split at h1
            · rename_i ty sz xs; subst h1; exact .inr ⟨rfl, ty, sz, rfl⟩
            · exact h1.elim
          | succ i => simpa using h4 i d (by simpa using hd)

/-- The old boxes that the new state knows differ from one another. -/
def apartB : Ren → Bool
  | [] => true
  | some k :: r => !r.contains (some k) && apartB r
  | none :: r => apartB r

theorem apartB_ok : ∀ {ρ : Ren}, apartB ρ = true → ∀ (i j k : Nat), ρ[i]? = some (some k) → ρ[j]? = some (some k) → i = j := by
  intro ρ
  induction ρ with
  | nil => intro _ i j k h; simp at h
  | cons q r ih =>
    intro h i j k hi hj
    have hr : apartB r = true := by cases q <;> simp [apartB] at h <;> first | exact h | exact h.2
    have hnm : ∀ m : Nat, q = some k → r[m]? ≠ some (some k) := by
      rintro m rfl hm
      simp [apartB] at h
      exact h.1 (List.mem_of_getElem? hm)
    cases i with
    | zero => cases j with
      | zero => rfl
      | succ j => exact absurd (by simpa using hj) (hnm j (by simpa using hi))
    | succ i => cases j with
      | zero => exact absurd (by simpa using hi) (hnm i (by simpa using hj))
      | succ j => rw [ih hr i j k (by simpa using hi) (by simpa using hj)]

def subOk (np : Nat) (ρ : Ren) (st : St) (fl : List (Nat × AV)) (bl : List (Option Box)) : Prop :=
  (apartB ρ && (ρ.take np == (List.range np).map some)) = true ∧ mtBs ρ st.H ρ bl ∧ mtFr ρ st.H st.fr fl

theorem HeapOk.ren (hH : HeapOk W0 M0 H n w S) (ha : apartB ρ = true) (hp : ∀ i, i < Far.np → ρ[i]? = some (some i)) (hb : mtBs ρ H ρ bl) : HeapOk W0 M0 (getB bl) bl.length w (renS ρ bl S) := by
  obtain ⟨hlen, hB⟩ := mtBs_ok hb
  have hm : ∀ b, b < w.heap.size → ¬ own S b → ¬ own (renS ρ bl S) b := fun b _ h h' => h (own_ren h')
  have mv : ∀ {d : D} {v : Value}, RD w (own S) d v → RD w (own (renS ρ bl S)) d v := fun h => h.ext (Nat.le_refl _) (fun _ _ _ => rfl) hm
  constructor
  · intro i hi
    unfold renS
    rw [List.getElem?_eq_none (by omega)]
  · intro i l b h1 h2
    rcases renS_some h1 with ⟨k, _, h3⟩ | ⟨_, h3⟩
    · exact hH.lt_ k l b h3 h2
    · rw [h3] at h2; cases h2
  · intro i b' hb'
    rw [getB_some] at hb'
    rcases hB i b' hb' with ⟨k, b, h1, h2, h3⟩ | ⟨h1, ty, sz, rfl⟩
    · obtain ⟨l, hl, hbox⟩ := hH.box k b h2
      refine ⟨l, by unfold renS; simp only [h1]; exact hl, ?_⟩
      cases b with
      | vec t s xs =>
        cases b' with
        | one _ _ => exact h3.elim
        | vec t' s' xs' =>
          obtain ⟨rfl, rfl, rfl⟩ := h3
          obtain ⟨g1, g2, g3, g4, g5, g6⟩ := hbox
          refine ⟨g1, g2, g3, g4, g5, fun b hb => ?_⟩
          obtain ⟨cur, e1, e2, e3⟩ := g6 b hb
          exact ⟨cur, e1, e2, fun e f c hh => by obtain ⟨u, e4, e5⟩ := e3 e f c hh; exact ⟨u, e4, mv e5⟩⟩
      | one t cs =>
        cases b' with
        | vec _ _ _ => exact h3.elim
        | one t' cs' =>
          obtain ⟨rfl, h3⟩ := h3
          obtain ⟨h4, h5⟩ := mtL_ok (bl := bl) hH h3
          obtain ⟨g1, g2, b, hb, cur, e1, e2, e3⟩ := hbox
          refine ⟨by omega, g2, b, hb, cur, e1, by omega, fun f c hc => ?_⟩
          obtain ⟨c0, h6, h7⟩ := h5 f c hc
          obtain ⟨u, e4, e5, e6⟩ := e3 f c0 h6
          rw [← hlen]
          exact ⟨u, e4, e5, h7 u e6⟩
    · refine ⟨⟨none, sz, 0⟩, by unfold renS; simp only [h1, getB_some.2 hb'], ⟨rfl, by simp [maxLen], by simp, by simp, fun _ => rfl, fun b hb => by cases hb⟩⟩
  · intro i j l l' b hi hj h1 h2
    rcases renS_some hi with ⟨k, hk, hSk⟩ | ⟨_, h3⟩
    · rcases renS_some hj with ⟨k', hk', hSk'⟩ | ⟨_, h3⟩
      · have := hH.inj k k' l l' b hSk hSk' h1 h2
        subst this
        exact apartB_ok ha i j k hk hk'
      · rw [h3] at h2; cases h2
    · rw [h3] at h1; cases h1
  · intro i l b hl hi hb'
    cases hbi : getB bl i with
    | none => simp [hbi] at hl
    | some b' =>
      rcases hB i b' (getB_some.1 hbi) with ⟨k, b0, h1, h2, h3⟩ | ⟨h1, ty, sz, rfl⟩
      · have : renS ρ bl S i = S k := by unfold renS; simp only [h1]
        exact hH.mut_ k l b (by rw [h2]; rfl) (by rw [← this]; exact hi) hb'
      · rcases renS_some hi with ⟨k, hk, _⟩ | ⟨_, h3⟩
        · rw [h1] at hk; cases hk
        · rw [h3] at hb'; cases hb'
  · exact hH.os
  · exact hH.tape
  · exact hH.output
  · exact hH.size
  · exact hH.same
  · intro b hf
    refine ⟨(hH.far b hf).1, fun i l hi hb' => ?_⟩
    rcases renS_some hi with ⟨k, _, hk⟩ | ⟨_, h3⟩
    · exact (hH.far b hf).2 k l hk hb'
    · rw [h3] at hb'; cases hb'
  · intro i hpn
    have hi := hp i hpn
    refine ⟨by have := (List.getElem?_eq_some_iff.1 hi).1; omega, ?_⟩
    have : renS ρ bl S i = S i := by unfold renS; simp only [hi]
    rw [this]
    exact (hH.pin i hpn).2

theorem pins_ok {np : Nat} (h : (ρ.take np == (List.range np).map some) = true) : ∀ i, i < np → ρ[i]? = some (some i) := by
  intro i hi
  have h : ρ.take np = (List.range np).map some := by simpa using h
  have h2 : (ρ.take np)[i]? = ((List.range np).map some)[i]? := by rw [h]
  rw [List.getElem?_take, if_pos hi] at h2
  rw [h2, List.getElem?_map, List.getElem?_range hi]; rfl

theorem sub_mk {np : Nat} (hnp : Far.np = np) (ρ : Ren) {st : St} {fl : List (Nat × AV)} (h : subOk np ρ st fl bl) : Sub E W0 M0 st (mkSt fl bl) := by
  obtain ⟨h1, h2, h3⟩ := h
  rw [Bool.and_eq_true] at h1
  rintro a w ⟨S, hH, hF, hM⟩
  have hlen := (mtBs_ok h2).1
  refine ⟨renS ρ bl S, hH.ren h1.1 (by rw [hnp]; exact pins_ok h1.2) h2, ⟨hF.size, fun i => ?_⟩, hM.let_, hM.apart, fun d hd => ?_⟩
  rotate_left
  · obtain ⟨D, e1, e2, e3, e4⟩ := hM.at_ d hd
    exact ⟨D, e1, e2, e3, fun h => e4 (own_ren h)⟩
  show R w (renS ρ bl S) bl.length (getF fl i) _
  rw [← hlen]
  exact mtFr_ok hH h3 i _ (hF.at_ i)

theorem VC.mk {np : Nat} (hnp : Far.np = np) (ρ : Ren) {c : Code} {st : St} {fl : List (Nat × AV)} {K : Exit → St → Prop} (h : subOk np ρ st fl bl) (hc : VC E W0 M0 c (mkSt fl bl) K) : VC E W0 M0 c st K := hc.sub (sub_mk hnp ρ h)
end
end Go.Vc
