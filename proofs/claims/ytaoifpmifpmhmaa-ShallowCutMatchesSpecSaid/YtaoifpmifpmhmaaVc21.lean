/- The Vc layer: a range over a function. -/
import Derived.Test.YtaoifpmifpmhmaaVc20
import Derived.RangeFuncIn
import Derived.RangeFuncSeq
set_option linter.all false
namespace Go.Vc
open Go Go.RowKit

def Env.inR {P : Program} (E : Env P) (l : Nat) : Env P := ⟨E.X, E.N, some l, E.Γ, E.ok, E.ent⟩
theorem Env.inR_X {P : Program} (E : Env P) (l : Nat) : (E.inR l).X = E.X := rfl
theorem Env.inR_N {P : Program} (E : Env P) (l : Nat) : (E.inR l).N = E.N := rfl
theorem Env.inR_Γ {P : Program} (E : Env P) (l : Nat) : (E.inR l).Γ = E.Γ := rfl

/-! ### what leads to boxes below a number -/
def lt1 (m : Nat) : AV → Bool
  | .sl id _ _ => decide (id < m)
  | .ptr id _ _ => decide (id < m)
  | .d _ => true
  | .ip .. => true
  | .any => true
  | _ => false
def lt2 (m : Nat) : AV → Bool
  | .agg cs => cs.all (lt1 m)
  | .clo _ cs => cs.all (lt1 m)
  | c => lt1 m c
def lt3 (m : Nat) : AV → Bool
  | .tup cs => cs.all (lt2 m)
  | .cond _ c => lt2 m c
  | c => lt2 m c

theorem R.far {G G' : Far} {w : World} {S : Lays} {n : Nat} (hO : ∀ b, b < w.heap.size → ¬ @own G S b → ¬ @own G' S b) {c : AV} {v : Value} (h : @R G w S n c v) : @R G' w S n c v := by
  induction h with
  | any v => exact @R.any G' _ _ _ v
  | d hx => exact @R.d G' _ _ _ _ _ (hx.ext (Nat.le_refl _) (fun _ _ _ => rfl) hO)
  | ip sz xs e f b o u hb hO' hc hr => exact @R.ip G' _ _ _ sz xs e f b o u hb (hO b hb hO') hc (fun e f c hh => (hr e f c hh).ext (Nat.le_refl _) (fun _ _ _ => rfl) hO)
  | slDead id off len v hn hS => exact @R.slDead G' _ _ _ id off len v hn hS
  | sl id off len o l hn hS hc ho h0 => exact @R.sl G' _ _ _ id off len o l hn hS hc ho h0
  | ptrDead id e f v hn hS => exact @R.ptrDead G' _ _ _ id e f v hn hS
  | ptr id e f b l hn hS hb => exact @R.ptr G' _ _ _ id e f b l hn hS hb
  | agg cs us hl h1 _ ih => exact @R.agg G' _ _ _ cs us hl h1 ih
  | tup cs us hl _ ih => exact @R.tup G' _ _ _ cs us hl ih
  | clo fn cs us hl _ ih => exact @R.clo G' _ _ _ fn cs us hl ih
  | cond b c v _ hu ih => exact @R.cond G' _ _ _ b c v ih hu

theorem BoxOk.far {G G' : Far} {w : World} {S : Lays} {n : Nat} (hO : ∀ b, b < w.heap.size → ¬ @own G S b → ¬ @own G' S b) {b : Box} {l : Lay} (h : @BoxOk G w S n b l) : @BoxOk G' w S n b l := by
  cases b with
  | vec ty sz xs =>
    obtain ⟨h1, h2, h3, h4, h5, h6⟩ := h
    refine ⟨h1, h2, h3, h4, h5, fun b hb => ?_⟩
    obtain ⟨cur, e1, e2, e3⟩ := h6 b hb
    exact ⟨cur, e1, e2, fun e f c hh => by obtain ⟨u, e4, e5⟩ := e3 e f c hh; exact ⟨u, e4, e5.ext (Nat.le_refl _) (fun _ _ _ => rfl) hO⟩⟩
  | one ty cells =>
    obtain ⟨h1, h2, b, hb, cur, e1, e2, e3⟩ := h
    exact ⟨h1, h2, b, hb, cur, e1, e2, fun f c hh => by obtain ⟨u, e4, e5, e6⟩ := e3 f c hh; exact ⟨u, e4, e5, e6.far hO⟩⟩

theorem box_far {G G' : Far} {w : World} {S : Lays} {n : Nat} {H : Heap} (hO : ∀ b, b < w.heap.size → ¬ @own G S b → ¬ @own G' S b) (h : ∀ (id : Nat) (b : Box), H id = some b → ∃ l, S id = some l ∧ @BoxOk G w S n b l) :
    ∀ (id : Nat) (b : Box), H id = some b → ∃ l, S id = some l ∧ @BoxOk G' w S n b l := fun id b hb => by
  obtain ⟨l, h1, h2⟩ := h id b hb
  exact ⟨l, h1, h2.far hO⟩

section
variable [F : Far] {P : Program} {w w' : World} {S S' : Lays} {n m : Nat} {H : Heap} {W0 : World} {M0 : Nat → Prop}

theorem lt1_ok {c : AV} (h : lt1 m c = true) {v : Value} (hv : R w S n c v) : R w S m c v := by
  cases hv <;> simp [lt1] at h
  · exact .any _
  · rename_i hx; exact .d hx
  · rename_i sz xs e f b o u hb hO hc hr; exact .ip sz xs e f b o u hb hO hc hr
  · rename_i id off len hn hS; exact .slDead id off len _ h hS
  · rename_i id off len o l hn hS hc ho h0; exact .sl id off len o l h hS hc ho h0
  · rename_i id e f hn hS; exact .ptrDead id e f _ h hS
  · rename_i id e f b l hn hS hb; exact .ptr id e f b l h hS hb

theorem lt2_ok {c : AV} (h : lt2 m c = true) {v : Value} (hv : R w S n c v) : R w S m c v := by
  unfold lt2 at h
  split at h
  · cases hv with | agg _ us hl h1 hr =>
    exact .agg _ us hl h1 (fun i c u hc hu => lt1_ok (List.all_eq_true.1 h c (List.mem_of_getElem? hc)) (hr i c u hc hu))
  · cases hv with | clo _ _ us hl hr =>
    exact .clo _ _ us hl (fun i c u hc hu => lt1_ok (List.all_eq_true.1 h c (List.mem_of_getElem? hc)) (hr i c u hc hu))
  · exact lt1_ok h hv

theorem lt3_ok {c : AV} (h : lt3 m c = true) {v : Value} (hv : R w S n c v) : R w S m c v := by
  unfold lt3 at h
  split at h
  · cases hv with | tup _ us hl hr =>
    exact .tup _ us hl (fun i c u hc hu => lt2_ok (List.all_eq_true.1 h c (List.mem_of_getElem? hc)) (hr i c u hc hu))
  · cases hv with | cond _ _ _ hr hu => exact .cond _ _ _ (fun hb => lt2_ok h (hr hb)) hu
  · exact lt2_ok h hv

/-! ### a view of one's own memory, as it lies at some point -/
@[reducible] def own_view (F : Far) (w : World) (S : Lays) (m : Nat) (hlt : ∀ b, Far.F b → b < w.heap.size) (hno : ∀ b i l, Far.F b → S i = some l → l.blk ≠ some b) : Far where
  F := F.F
  nev := fun b => b < w.heap.size ∧ ∀ i l, S i = some l → l.blk ≠ some b
  sub := fun b h => ⟨hlt b h, fun i l hi => hno b i l h hi⟩
  pin := S
  np := m
  marks := false

theorem far_lt (hH : HeapOk W0 M0 H n w S) : ∀ b, Far.F b → b < w.heap.size := fun b h => by
  have := (hH.far b (Far.sub b h)).1
  have := hH.size
  omega
theorem far_no (hH : HeapOk W0 M0 H n w S) : ∀ b i l, Far.F b → S i = some l → l.blk ≠ some b := fun b i l h hi => (hH.far b (Far.sub b h)).2 i l hi

def liveM (H : Heap) (S : Lays) (b : Nat) : Prop := ∃ i l, (H i).isSome = true ∧ S i = some l ∧ l.blk = some b

theorem HeapOk.down (hH : HeapOk W0 M0 H n w S) (hm : m ≤ n) : @HeapOk (own_view F w S m (far_lt hH) (far_no hH)) w (liveM H S) H n w S := by
  refine @HeapOk.mk (own_view F w S m _ _) _ _ _ _ _ _ hH.bnd hH.lt_ (box_far (G := F) (G' := own_view F w S m _ _) (fun _ _ h => h) hH.box) hH.inj (fun i l b h1 h2 h3 => .inr ⟨i, l, h1, h2, h3⟩) rfl rfl rfl (Nat.le_refl _) (fun _ _ _ => rfl) (fun b h => h) (fun i h => ⟨Nat.lt_of_lt_of_le h hm, .inl rfl⟩)

theorem HeapOk.up (hH : HeapOk W0 M0 H n w S) (hm : m ≤ n) (hnp : Far.np ≤ m) {H' : Heap} {n' : Nat} (h : @HeapOk (own_view F w S m (far_lt hH) (far_no hH)) w (liveM H S) H' n' w' S') : HeapOk W0 M0 H' n' w' S' ∧ Ext w S m w' S' n' := by
  have hp : ∀ i, i < m → i < n' ∧ (S' i = S i ∨ S' i = none) := fun i hi => @HeapOk.pin (own_view F w S m _ _) _ _ _ _ _ _ h i hi
  have hL : ∀ b, liveM H S b → W0.heap.size ≤ b ∨ M0 b := fun b ⟨i, l, h1, h2, h3⟩ => hH.mut_ i l b h1 h2 h3
  have hsz := @HeapOk.size (own_view F w S m _ _) _ _ _ _ _ _ h
  have hsame : ∀ b, b < w.heap.size → ¬ liveM H S b → w'.heap[b]? = w.heap[b]? := @HeapOk.same (own_view F w S m _ _) _ _ _ _ _ _ h
  have hfar : ∀ b, b < w.heap.size → (∀ i l, S i = some l → l.blk ≠ some b) → ∀ i l, S' i = some l → l.blk ≠ some b := fun b h1 h2 => (@HeapOk.far (own_view F w S m _ _) _ _ _ _ _ _ h b ⟨h1, h2⟩).2
  refine ⟨?_, ?_⟩
  · refine ⟨@HeapOk.bnd (own_view F w S m _ _) _ _ _ _ _ _ h, @HeapOk.lt_ (own_view F w S m _ _) _ _ _ _ _ _ h, box_far (G := own_view F w S m _ _) (G' := F) (fun _ _ h => h) (@HeapOk.box (own_view F w S m _ _) _ _ _ _ _ _ h), @HeapOk.inj (own_view F w S m _ _) _ _ _ _ _ _ h, fun i l b h1 h2 h3 => ?_,
      (@HeapOk.os (own_view F w S m _ _) _ _ _ _ _ _ h).trans hH.os, (@HeapOk.tape (own_view F w S m _ _) _ _ _ _ _ _ h).trans hH.tape, (@HeapOk.output (own_view F w S m _ _) _ _ _ _ _ _ h).trans hH.output, Nat.le_trans hH.size hsz, fun b hb hM => ?_, fun b hb => ?_, fun i hi => ?_⟩
    · rcases @HeapOk.mut_ (own_view F w S m _ _) _ _ _ _ _ _ h i l b h1 h2 h3 with h4 | h4
      · have := hH.size; left; omega
      · exact hL b h4
    · rw [hsame b (by have := hH.size; omega) (fun h4 => ?_)]
      · exact hH.same b hb hM
      · rcases hL b h4 with h5 | h5
        · omega
        · exact hM h5
    · obtain ⟨h1, h2⟩ := hH.far b hb
      exact ⟨h1, hfar b (by have := hH.size; omega) h2⟩
    · obtain ⟨h1, h2⟩ := hH.pin i hi
      obtain ⟨h3, h4⟩ := hp i (by omega)
      refine ⟨h3, ?_⟩
      rcases h4 with h4 | h4
      · rw [h4]; exact h2
      · exact .inr h4
  · refine ⟨?_, hsz, fun i hi => (hp i hi).2, fun b hb hno ho => ?_, fun b hb hno => hsame b hb (fun ⟨i, l, _, h2, h3⟩ => hno (.inr ⟨i, l, h2, h3⟩))⟩
    · rcases Nat.eq_zero_or_pos m with h0 | h0
      · omega
      · have := (hp (m - 1) (by omega)).1; omega
    · rcases ho with ho | ⟨i, l, h1, h2⟩
      · exact hno (.inl ho)
      · exact hfar b hb (fun i l hi hb' => hno (.inr ⟨i, l, hi, hb'⟩)) i l h1 h2

theorem HeapOk.of_putObj {D : Nat} {o o' : Obj} (hH : HeapOk W0 M0 H n w S) (hD : w.heap[D]? = some o') (hc : ∀ cur t z, o' ≠ .cells cur t z) (h0 : W0.heap.size ≤ D) : HeapOk W0 M0 H n (w.putObj D o) S := by
  refine hH.shut ⟨by simp, fun b cur t z hb => ?_⟩ (fun b hb => World.putObj_heap_other (by omega)) rfl rfl rfl
  rw [World.putObj_heap_other (fun e => ?_)]
  · exact hb
  · subst e; rw [hD] at hb; cases hb; exact hc _ _ _ rfl
theorem cells_of_putObj {D : Nat} {o o' : Obj} (hD : w.heap[D]? = some o') (hc : ∀ cur t z, o' ≠ .cells cur t z) : Cells w (w.putObj D o) := by
  refine ⟨by simp, fun b cur t z hb => ?_⟩
  rw [World.putObj_heap_other (fun e => ?_)]
  · exact hb
  · subst e; rw [hD] at hb; cases hb; exact hc _ _ _ rfl

theorem HeapOk.alloc_other (hH : HeapOk W0 M0 H n w S) (o : Obj) : HeapOk W0 M0 H n (w.alloc o) S ∧ Ext w S n (w.alloc o) S n := by
  have hs : ∀ b, b < w.heap.size → (w.alloc o).heap[b]? = w.heap[b]? := fun b hb => Below.heap_alloc w o b hb
  have hE : Ext w S n (w.alloc o) S n := ⟨Nat.le_refl _, by simp, fun _ _ => .inl rfl, fun _ _ h => h, fun b hb _ => hs b hb⟩
  refine ⟨⟨hH.bnd, fun i l b h1 h2 => by have := hH.lt_ i l b h1 h2; simp; omega, fun id b hb => ?_, hH.inj, hH.mut_, hH.os, hH.tape, hH.output, by have := hH.size; simp; omega, fun b hb hM => (hs b (by have := hH.size; omega)).trans (hH.same b hb hM), hH.far, hH.pin⟩, hE⟩
  obtain ⟨l, hl, hb'⟩ := hH.box id b hb
  exact ⟨l, hl, hb'.ext hE (fun k hk => hs k (hH.lt_ id l k hl hk))⟩
end

/-! ### iterators -/
/-- What a round leaves: what is not one's own lies as it lay. -/
def KeepN [Far] (w : World) (S : Lays) (W W' : World) : Prop := W.heap.size ≤ W'.heap.size ∧ ∀ b, b < w.heap.size → ¬ own S b → W'.heap[b]? = W.heap[b]?

/-- An iterator that only reads: the closure g over caps hands over xs, one round each. -/
structure IterOk (P : Program) (g : FuncId) (caps : List AV) (ar : Nat) (xs : List (List AV)) : Prop where
  ent : enters P g = true
  len : ∀ x ∈ xs, x.length = ar
  run : ∀ [Far] (w : World) (S : Lays) (n : Nat) (lb : List Value), lb.length = caps.length → (∀ (i : Nat) (c : AV) (u : Value), caps[i]? = some c → lb[i]? = some u → R w S n c u) →
    ∃ encs : Nat → List Value, (∀ k, (encs k).length = ar) ∧ (∀ (k : Nat) (x : List AV), xs[k]? = some x → ∀ (i : Nat) (c : AV) (u : Value), x[i]? = some c → (encs k)[i]? = some u → R w S n c u) ∧
      ∀ (l : Nat) (J : Nat → World → Prop) (Jx : World → Prop) (W : World), (∀ k W, J k W → KeepN w S w W) → (∀ (k : Nat) (W : World) (d : Nat), J k W → J k { W with drawn := d }) →
        (∀ k W1, J k W1 → k < xs.length → YieldAt Fence.wide 0 P l (encs k).toArray W1 fun e W' => (e = .returned (.bool true) ∧ J (k + 1) W') ∨ (e = .returned (.bool false) ∧ Jx W')) → J 0 W →
        CallsIn Fence.wide 0 P g (#[.func (.yield l) #[] #[]] ++ lb.toArray) W fun e W' => (∃ v, e = .returned v) ∧ (J xs.length W' ∨ Jx W')

theorem wpIn_any_n {F : Fence} {n n' : Nat} {P : Program} {c : Code} {Q : Exit → Act → World → Prop} {a : Act} {w : World} (hd : F.depth = none) (h : c.wpIn F n P Q a w) : c.wpIn F n' P Q a w :=
  fun b k cs hro hb _ => h b k cs hro hb (fun d e => by rw [hd] at e; cases e)

def setPs (ps : List Tmp) (x : List AV) (fl : List (Nat × AV)) : List (Nat × AV) := ps.zip x ++ fl

theorem foldl_set_size' : ∀ (ps : List Tmp) (us : List Value) (t : Array Value), ((ps.zip us).foldl (fun t (p : Tmp × Value) => t.setIfInBounds p.1 p.2) t).size = t.size := by
  intro ps
  induction ps with
  | nil => intro us t; rfl
  | cons p ps ih =>
    intro us t
    cases us with
    | nil => rfl
    | cons u us => simp only [List.zip_cons_cons, List.foldl_cons]; rw [ih]; simp

theorem setPs_ok [Far] {w : World} {S : Lays} {n : Nat} : ∀ (ps : List Tmp) (x : List AV) (us : List Value) (fl : List (Nat × AV)) (t : Array Value), ps.length = x.length → us.length = x.length → ps.Nodup → (∀ p ∈ ps, p < t.size) →
    (∀ (i : Nat) (c : AV) (u : Value), x[i]? = some c → us[i]? = some u → R w S n c u) → (∀ i, R w S n (getF fl i) (t.getD i undef)) →
    ∀ i, R w S n (getF (setPs ps x fl) i) (((ps.zip us).foldl (fun t (p : Tmp × Value) => t.setIfInBounds p.1 p.2) t).getD i undef) := by
  intro ps
  induction ps with
  | nil => intro x us fl t _ _ _ _ _ h; exact h
  | cons p ps ih =>
    intro x us fl t hl hu hn hp hx h i
    cases x with
    | nil => cases hl
    | cons c x =>
      cases us with
      | nil => cases hu
      | cons u us =>
        obtain ⟨hn1, hn2⟩ := List.nodup_cons.1 hn
        simp only [List.zip_cons_cons, List.foldl_cons]
        have hset : ∀ j, (t.setIfInBounds p u).getD j undef = if j = p then u else t.getD j undef := fun j => by
          have := tmps_put (a := { tmps := t, defers := [] }) (d := p) (v := u) (hp p (by simp)) j
          simpa [Act.put] using this
        have key : ∀ (ps : List Tmp) (us : List Value) (t : Array Value), p ∉ ps → ((ps.zip us).foldl (fun t (q : Tmp × Value) => t.setIfInBounds q.1 q.2) t).getD p undef = t.getD p undef := by
          intro ps
          induction ps with
          | nil => intro us t _; rfl
          | cons q ps ih2 =>
            intro us t hno
            cases us with
            | nil => rfl
            | cons v us =>
              simp only [List.zip_cons_cons, List.foldl_cons]
              rw [ih2 us _ (fun h => hno (by simp [h]))]
              have hqp : q ≠ p := fun e => hno (by simp [e])
              rw [Array.getD_eq_getD_getElem?, Array.getElem?_setIfInBounds_ne hqp, ← Array.getD_eq_getD_getElem?]
        by_cases hi : i = p
        · subst hi
          rw [key ps us _ hn1, hset, if_pos rfl]
          show R w S n (if i = i then c else _) u
          rw [if_pos rfl]
          exact hx 0 c u rfl rfl
        · show R w S n (if i = p then c else getF (ps.zip x ++ fl) i) _
          rw [if_neg hi]
          have := ih x us ((p, c) :: fl) (t.setIfInBounds p u) (by simpa using hl) (by simpa using hu) hn2 (fun q hq => by simp; exact hp q (by simp [hq])) (fun j d v hj hv => hx (j + 1) d v (by simpa using hj) (by simpa using hv)) (fun j => by
            rw [hset]
            show R w S n (if j = p then c else getF fl j) _
            split
            · exact hx 0 c u rfl rfl
            · exact h j) i
          have e : getF (setPs ps x ((p, c) :: fl)) i = getF (ps.zip x ++ fl) i := by
            have : ∀ (l : List (Nat × AV)), getF (l ++ (p, c) :: fl) i = getF (l ++ fl) i := by
              intro l
              induction l with
              | nil => show (if i = p then c else getF fl i) = getF fl i; rw [if_neg hi]
              | cons q l ih => obtain ⟨a, b⟩ := q; show (if i = a then b else getF (l ++ (p, c) :: fl) i) = (if i = a then b else getF (l ++ fl) i); rw [ih]
            exact this _
          rwa [e] at this

section
variable [F : Far] {P : Program} {E : Env P} {W0 : World} {M0 : Nat → Prop}

/-- How a round may be left: it goes on; or it leaves by a jump. -/
def roundK {P : Program} (E : Env P) (fl : List (Nat × AV)) (m : Nat) (bn : List (Option Box)) (K : Exit → St → Prop) : Exit → St → Prop
  | .normal, st => ∃ ρ : Ren, subOk m ρ st [] bn
  | .ret, st => ∃ (bx : List (Option Box)) (ρ : Ren), subOk m ρ st [] bx ∧ m ≤ bx.length ∧ K .ret (mkSt fl bx)
  | .exit id, st => ∃ (bx : List (Option Box)) (ρ : Ren), subOk m ρ st [] bx ∧ m ≤ bx.length ∧ K (.exit id) (mkSt fl bx)
  | _, _ => False

theorem vc_range (hρ : E.ρ = none) {fl : List (Nat × AV)} {bl : List (Option Box)} {f : Operand} {ps : List Tmp} {assign body : Code} {g : FuncId} {caps : List AV} {ar : Nat} {xs : List (List AV)} {K : Exit → St → Prop}
    (hit : IterOk P g caps ar xs) (hf : evO (getF fl) f = .clo (.func g) caps) (hps : (decide (ps.length = ar) && decide ps.Nodup && ps.all (fun p => decide (p < E.N))) = true) (m : Nat) (hm : (fl.all (fun q => lt3 m q.2) && caps.all (lt1 m)) = true) (hml : m ≤ bl.length) (hnp : Far.np ≤ m) (hmk : Far.marks = true)
    (bs : Nat → List (Option Box)) (h0 : bs 0 = bl) (hbs : ∀ k, m ≤ (bs k).length) (fa : Nat → List AV → List (Nat × AV)) (ba : Nat → List (Option Box))
    (hass : ∀ (k : Nat) (x : List AV) (l : Nat), xs[k]? = some x → ∀ [Far] (W0 : World) (M0 : Nat → Prop), Far.np = m → VC (E.inR l) W0 M0 assign (mkSt (setPs ps x fl) (bs k)) (fun e st => e = .normal ∧ ∃ ρ : Ren, subOk m ρ st (fa k x) (ba k)))
    (hbody : ∀ (k : Nat) (x : List AV) (l : Nat), xs[k]? = some x → ∀ [Far] (W0 : World) (M0 : Nat → Prop), Far.np = m → VC (E.inR l) W0 M0 body (mkSt (fa k x) (ba k)) (roundK E fl m (bs (k + 1)) K))
    (hK : K .normal (mkSt fl (bs xs.length))) : VC E W0 M0 (.rangeFunc f ps.toArray assign body) (mkSt fl bl) K := by
  intro a w hs
  obtain ⟨S, hH, hF, hM⟩ := hs
  simp only [Bool.and_eq_true, decide_eq_true_eq] at hps hm
  obtain ⟨⟨hpl, hpn⟩, hpN⟩ := hps
  have hH : HeapOk W0 M0 (getB bl) bl.length w S := hH
  have hfl : ∀ i, R w S m (getF fl i) (a.tmps.getD i undef) := fun i => by
    have h1 : R w S bl.length (getF fl i) (a.tmps.getD i undef) := hF.at_ i
    have h2 : ∀ (fl : List (Nat × AV)), (fl.all fun q => lt3 m q.2) = true → lt3 m (getF fl i) = true := by
      intro fl
      induction fl with
      | nil => intro _; rfl
      | cons q fl ih =>
        intro h
        obtain ⟨j, c⟩ := q
        simp only [List.all_cons, Bool.and_eq_true] at h
        simp only [getF]
        split
        · exact h.1
        · exact ih h.2
    exact lt3_ok (h2 fl hm.1) h1
  have hev : R w S bl.length (evO (getF fl) f) (a.eval f) := evO_ok (a := a) hF.at_ f
  rw [hf] at hev
  generalize hvf : a.eval f = vf at hev
  cases hev with | clo _ _ lb hlb hlr =>
  obtain ⟨encs, hel, her, hseq⟩ := hit.run w S m lb hlb (fun i c u hc hu => lt1_ok (List.all_eq_true.1 hm.2 c (List.mem_of_getElem? hc)) (hlr i c u hc hu))
  show Code.wpIn (fen E.ρ) 0 P _ _ a w
  rw [show fen E.ρ = Fence.wide by rw [hρ]; rfl]
  refine wpIn_rangeFunc ?_
  intro fn hfn
  obtain ⟨rec, hrec⟩ : ∃ rec : LoopState → Option Code → Loop, rec = fun st pe => { state := st, pending := pe, fn, tmps := a.tmps, params := ps.toArray, assign, body, defers := w.heap.size } := ⟨_, rfl⟩
  obtain ⟨W1, hW1⟩ : ∃ W1, (w.alloc (.deferred (some []))).alloc (.loop (rec .ready none)) = W1 := ⟨_, rfl⟩
  have hL1 : W1.heap[w.heap.size + 1]? = some (.loop (rec .ready none)) := by
    rw [← hW1]; have := World.alloc_heap_new (w.alloc (.deferred (some []))) (.loop (rec .ready none)); rwa [World.size_alloc] at this
  have hK1 : W1.heap[w.heap.size]? = some (.deferred (some [])) := by
    rw [← hW1]; exact (Below.heap_alloc _ _ _ (by simp)).trans (World.alloc_heap_new w _)
  obtain ⟨hHa, hEa⟩ := hH.alloc_other (.deferred (some []))
  obtain ⟨hHb, hEb⟩ := hHa.alloc_other (.loop (rec .ready none))
  rw [hW1] at hHb hEb
  have hE1 : Ext w S m W1 S m := by
    have h := hEa.trans hEb
    exact ⟨Nat.le_refl _, h.size, fun _ _ => .inl rfl, h.new, h.same⟩
  have hsz := hH.size
  have hown : ∀ b, own S b → b < w.heap.size := own_lt hH
  -- what holds between two rounds
  obtain ⟨J0, hJ0⟩ : ∃ J0 : Obj → List (Option Box) → World → Prop, J0 = fun o bk W => ∃ Sk, HeapOk W0 M0 (getB bk) bk.length W Sk ∧ Ext w S m W Sk bk.length ∧ ¬ own Sk w.heap.size ∧ ¬ own Sk (w.heap.size + 1) ∧
      W.heap[w.heap.size + 1]? = some o ∧ W.heap[w.heap.size]? = some (.deferred (some [])) := ⟨_, rfl⟩
  have hbusy : ∀ (o o' : Obj) bk W, (∀ cur t z, o ≠ .cells cur t z) → J0 o bk W → J0 o' bk (W.putObj (w.heap.size + 1) o') := by
    intro o o' bk W ho hj
    rw [hJ0] at hj ⊢
    obtain ⟨Sk, h1, h2, h3, h4, h5, h6⟩ := hj
    refine ⟨Sk, h1.of_putObj h5 ho (by omega), ?_, h3, h4, World.putObj_heap_same (Array.getElem?_eq_some_iff.1 h5).1, (World.putObj_heap_other (by omega)).trans h6⟩
    exact ⟨h2.le, by simp; exact h2.size, h2.old, h2.new, fun b hb hno => (World.putObj_heap_other (by omega)).trans (h2.same b hb hno)⟩
  -- a piece of a round, walked in a view of its own
  have piece : ∀ {o : Obj} {bk : List (Option Box)} {W : World} {c : Code} {fk : List (Nat × AV)} {t : Array Value} {l : Nat} {Q : Exit → Act → World → Prop} {K1 : Exit → St → Prop},
      m ≤ bk.length → J0 o bk W → (∀ Sk, HeapOk W0 M0 (getB bk) bk.length W Sk → Ext w S m W Sk bk.length → ∀ i, R W Sk bk.length (getF fk i) (t.getD i undef)) → t.size = E.N →
      (∀ [Far] (W0 : World) (M0 : Nat → Prop), Far.np = m → VC (E.inR l) W0 M0 c (mkSt fk bk) K1) →
      (∀ e st a' W', K1 e st → (∀ {ρ : Ren} {fl' : List (Nat × AV)} {bn : List (Option Box)}, subOk m ρ st fl' bn → J0 o bn W' ∧ ∀ Sk', HeapOk W0 M0 (getB bn) bn.length W' Sk' → True) →
        (∀ {ρ : Ren} {fl' : List (Nat × AV)} {bn : List (Option Box)}, subOk m ρ st fl' bn → ∃ Sk', HeapOk W0 M0 (getB bn) bn.length W' Sk' ∧ Ext w S m W' Sk' bn.length ∧ ¬ own Sk' w.heap.size ∧ ¬ own Sk' (w.heap.size + 1) ∧ ∀ i, R W' Sk' bn.length (getF fl' i) (a'.tmps.getD i undef)) →
        W'.heap[w.heap.size + 1]? = some o → W'.heap[w.heap.size]? = some (.deferred (some [])) → a'.tmps.size = E.N → a'.defers = [] → Q e a' W') →
      c.wpIn (Fence.wide.inRound l) 0 P Q { tmps := t, defers := [] } W := by
    intro o bk W c fk t l Q K1 hmk hj hfk ht hvc hQ
    rw [hJ0] at hj
    obtain ⟨Sk, h1, h2, h3, h4, h5, h6⟩ := hj
    have hd := h1.down hmk
    have hv := @hvc (own_view F W Sk m (far_lt h1) (far_no h1)) W (liveM (getB bk) Sk) rfl { tmps := t, defers := [] } W
      ⟨Sk, hd, @FrOk.mk (own_view F W Sk m (far_lt h1) (far_no h1)) _ _ _ _ _ _ ht (fun i => R.far (G := F) (G' := own_view F W Sk m (far_lt h1) (far_no h1)) (fun _ _ h => h) (hfk Sk h1 h2 i)), @Marks.nil (own_view F W Sk m (far_lt h1) (far_no h1)) _ _ _⟩
    have hv : c.wpIn (Fence.wide.inRound l) 0 P _ { tmps := t, defers := [] } W := hv
    refine wpIn_mono hv ?_
    rintro e a' W' ⟨st, hK1, S1, hH1, hF1, hM1⟩
    have hde : a'.defers = [] := @Marks.let_ (own_view F W Sk m (far_lt h1) (far_no h1)) _ _ _ _ hM1 rfl
    have hno : ∀ b, b < W.heap.size → ¬ own Sk b → W'.heap[b]? = W.heap[b]? := fun b hb hno => (HeapOk.up h1 hmk hnp hH1).2.same b hb hno
    have hlt1 : w.heap.size + 1 < W.heap.size := (Array.getElem?_eq_some_iff.1 h5).1
    have e5 := (hno _ hlt1 h4).trans h5
    have e6 := (hno _ (by omega) h3).trans h6
    have main : ∀ {ρ : Ren} {fl' : List (Nat × AV)} {bn : List (Option Box)}, subOk m ρ st fl' bn → ∃ Sk', HeapOk W0 M0 (getB bn) bn.length W' Sk' ∧ Ext w S m W' Sk' bn.length ∧ ¬ own Sk' w.heap.size ∧ ¬ own Sk' (w.heap.size + 1) ∧ ∀ i, R W' Sk' bn.length (getF fl' i) (a'.tmps.getD i undef) := by
      intro ρ fl' bn hsub
      obtain ⟨g1, g2, g3⟩ := hsub
      rw [Bool.and_eq_true] at g1
      have hren := @HeapOk.ren (own_view F W Sk m (far_lt h1) (far_no h1)) W' S1 st.n W _ st.H ρ bn hH1 g1.1 (fun i hi => pins_ok g1.2 i hi) g2
      have hlen := (mtBs_ok g2).1
      obtain ⟨k1, k2⟩ := HeapOk.up h1 hmk hnp hren
      refine ⟨renS ρ bn S1, k1, ?_, k2.new _ (by omega) h3, k2.new _ hlt1 h4, fun i => ?_⟩
      · refine ⟨k2.le, Nat.le_trans h2.size k2.size, fun i hi => ?_, fun b hb hno => k2.new b (by have := h2.size; omega) (h2.new b hb hno), fun b hb hno => (k2.same b (by have := h2.size; omega) (h2.new b hb hno)).trans (h2.same b hb hno)⟩
        rcases k2.old i hi with e | e
        · rw [e]; exact h2.old i hi
        · exact .inr e
      · rw [← hlen]
        exact R.far (G := own_view F W Sk m (far_lt h1) (far_no h1)) (G' := F) (fun _ _ h => h) <| @mtFr_ok (own_view F W Sk m (far_lt h1) (far_no h1)) W' S1 st.n W _ st.H ρ bn hH1 st.fr fl' g3 i _ (@FrOk.at_ (own_view F W Sk m (far_lt h1) (far_no h1)) _ _ _ _ _ _ hF1 i)
    refine hQ e st a' W' hK1 (fun {ρ fl' bn} hsub => ?_) main e5 e6 (@FrOk.size (own_view F W Sk m (far_lt h1) (far_no h1)) _ _ _ _ _ _ hF1) hde
    obtain ⟨Sk', k1, k2, k3, k4, _⟩ := main hsub
    exact ⟨by rw [hJ0]; exact ⟨Sk', k1, k2, k3, k4, e5, e6⟩, fun _ _ => trivial⟩
  -- what is left behind the loop
  have behind : ∀ (o : Obj) (bx : List (Option Box)) (W2 : World), (∀ cur t z, o ≠ .cells cur t z) → J0 o bx W2 → ∀ o', Sim W0 M0 E.N (mkSt fl bx) { a with defers := { target := .collected w.heap.size, args := #[] } :: a.defers } (W2.putObj (w.heap.size + 1) o') := by
    intro o bx W2 ho hj o'
    rw [hJ0] at hj
    obtain ⟨Sk, h1, h2, h3, h4, h5, h6⟩ := hj
    have hc : Cells W2 (W2.putObj (w.heap.size + 1) o') := cells_of_putObj h5 ho
    refine ⟨Sk, h1.of_putObj h5 ho (by omega), ⟨hF.size, fun i => hc.r (h2.r (hfl i))⟩, fun h => (by rw [hmk] at h; cases h), ?_, ?_⟩
    · refine List.pairwise_cons.2 ⟨fun d hd => ?_, hM.apart⟩
      obtain ⟨D, e1, e2, e3, e4⟩ := hM.at_ d hd
      have : D < w.heap.size := (Array.getElem?_eq_some_iff.1 e3).1
      rw [e1]
      intro h; cases h; omega
    · intro d hd
      rcases List.mem_cons.1 hd with rfl | hd
      · exact ⟨_, rfl, by omega, (World.putObj_heap_other (by omega)).trans h6, h3⟩
      · obtain ⟨D, e1, e2, e3, e4⟩ := (hM.ext h2).at_ d hd
        obtain ⟨D', f1, _, f3, _⟩ := hM.at_ d hd
        have hD : D = D' := by rw [e1] at f1; cases f1; rfl
        have : D' < w.heap.size := (Array.getElem?_eq_some_iff.1 f3).1
        exact ⟨D, e1, e2, (World.putObj_heap_other (by omega)).trans e3, e4⟩
  refine ⟨w.heap.size + 1, [{ target := .collected w.heap.size, args := #[] }], W1, { target := .fn (.func g) lb.toArray, args := #[.func (.yield (w.heap.size + 1)) #[] #[]] }, W1, g,
    #[.func (.yield (w.heap.size + 1)) #[] #[]] ++ lb.toArray, W1, ?_, ?_, fun _ _ => trivial, ?_, fun h => (by cases h), ?_⟩
  · rw [← hW1, hrec]; exact run_enterLoop_outer _ _ _ _ _
  · simp only [resolve, hvf]
    simp [go_sem]
  · simp [invoke, go_sem, enters_run hit.ent]
  · refine (hseq (w.heap.size + 1) (fun k W => J0 (.loop (rec .ready none)) (bs k) W)
      (fun W => ∃ (c : Code) (bx : List (Option Box)), J0 (.loop (rec .done (some c))) bx W ∧ m ≤ bx.length ∧ ((c = .ret ∧ K .ret (mkSt fl bx)) ∨ ∃ id, c = .exit id ∧ K (.exit id) (mkSt fl bx))) W1 ?_ ?_ ?_ ?_).mono ?_
    · intro k W hj
      rw [hJ0] at hj
      obtain ⟨Sk, h1, h2, _⟩ := hj
      exact ⟨h2.size, fun b hb hno => h2.same b hb hno⟩
    · intro k W d hj
      rw [hJ0] at hj ⊢
      obtain ⟨Sk, h1, h2, h3, h4, h5, h6⟩ := hj
      have hc : Cells W { W with drawn := d } := ⟨rfl, fun _ _ _ _ h => h⟩
      exact ⟨Sk, h1.shut hc (fun _ _ => rfl) rfl rfl rfl, ⟨h2.le, h2.size, h2.old, h2.new, h2.same⟩, h3, h4, h5, h6⟩
    · -- one round
      intro k W hj hk
      obtain ⟨x, hx⟩ : ∃ x, xs[k]? = some x := ⟨_, List.getElem?_eq_getElem hk⟩
      have hxl : x.length = ar := hit.len x (List.mem_of_getElem? hx)
      have hl : W.heap[w.heap.size + 1]? = some (.loop (rec .ready none)) := by rw [hJ0] at hj; exact hj.choose_spec.2.2.2.2.1
      have hy := run_yield (P := P) (args := (encs k).toArray) hl (by rw [hrec]; simp [hel k, hpl])
      rw [hrec] at hy
      refine ⟨fn, _, assign, body, hy, roundIn_of_wpIn trivial ?_⟩
      have htm : ((ps.toArray.zip (encs k).toArray).foldl (fun t (p : Tmp × Value) => t.setIfInBounds p.1 p.2) a.tmps) = ((ps.zip (encs k)).foldl (fun t (p : Tmp × Value) => t.setIfInBounds p.1 p.2) a.tmps) := by
        rw [List.zip_toArray, List.foldl_toArray]
      refine piece (l := w.heap.size + 1) (fk := setPs ps x fl) (hbs k) hj (fun Sk h1 h2 i => ?_) ?_ (fun W0 M0 hn => hass k x _ hx W0 M0 hn) ?_
      · show R W Sk (bs k).length (getF (setPs ps x fl) i) (((ps.toArray.zip (encs k).toArray).foldl (fun t (p : Tmp × Value) => t.setIfInBounds p.1 p.2) a.tmps).getD i undef)
        rw [htm]
        exact setPs_ok ps x (encs k) fl a.tmps (by omega) (by rw [hel k]; omega) hpn (fun p hp => by rw [hF.size]; exact of_decide_eq_true (List.all_eq_true.1 hpN p hp)) (fun j c u hc hu => h2.r (her k x hx j c u hc hu)) (fun j => h2.r (hfl j)) i
      · show ((ps.toArray.zip (encs k).toArray).foldl (fun t (p : Tmp × Value) => t.setIfInBounds p.1 p.2) a.tmps).size = E.N
        rw [htm, foldl_set_size', hF.size]
      · rintro e st a1 Wa ⟨rfl, ρ, hsub⟩ hj1 hmain e5 e6 hsz1 hde
        refine ⟨_, run_beginRound e5 (by rw [hrec]), ?_⟩
        have hjb := hbusy _ (.loop { rec .ready none with state := .busy }) _ _ (fun _ _ _ h => by cases h) (hj1 hsub).1
        have hmb : m ≤ (ba k).length := by obtain ⟨Sk', _, k2, _⟩ := hmain hsub; exact k2.le
        obtain ⟨at1, ad1⟩ := a1
        simp only at hde
        subst hde
        obtain ⟨Sk', k1, k2, k3, k4, k5⟩ := hmain hsub
        have hc : Cells Wa (Wa.putObj (w.heap.size + 1) (.loop { rec .ready none with state := .busy })) := cells_of_putObj e5 (fun _ _ _ h => by cases h)
        -- the body is walked from the very layout that the assignment has left
        have hd := (k1.of_putObj (o := .loop { rec .ready none with state := .busy }) e5 (fun _ _ _ h => by cases h) (by omega))
        have hdn := hd.down hmb
        have hv := @hbody k x (w.heap.size + 1) hx (own_view F (Wa.putObj (w.heap.size + 1) (.loop { rec .ready none with state := .busy })) Sk' m (far_lt hd) (far_no hd)) (Wa.putObj (w.heap.size + 1) (.loop { rec .ready none with state := .busy })) (liveM (getB (ba k)) Sk') rfl
          { tmps := at1, defers := [] } (Wa.putObj (w.heap.size + 1) (.loop { rec .ready none with state := .busy }))
          ⟨Sk', hdn, @FrOk.mk (own_view F _ Sk' m (far_lt hd) (far_no hd)) _ _ _ _ _ _ hsz1 (fun i => R.far (G := F) (G' := own_view F _ Sk' m (far_lt hd) (far_no hd)) (fun _ _ h => h) (hc.r (k5 i))), @Marks.nil (own_view F _ Sk' m (far_lt hd) (far_no hd)) _ _ _⟩
        have hv : body.wpIn (Fence.wide.inRound (w.heap.size + 1)) 0 P _ { tmps := at1, defers := [] } (Wa.putObj (w.heap.size + 1) (.loop { rec .ready none with state := .busy })) := hv
        refine wpIn_mono hv ?_
        rintro e a' W' ⟨st, hK1, S1, hH1, hF1, _⟩
        have hlt1 : w.heap.size + 1 < Wa.heap.size := (Array.getElem?_eq_some_iff.1 e5).1
        have hup := HeapOk.up hd hmb hnp hH1
        have g5 : W'.heap[w.heap.size + 1]? = some (.loop { rec .ready none with state := .busy }) := (hup.2.same _ (by simp; omega) k4).trans (World.putObj_heap_same hlt1)
        have g6 : W'.heap[w.heap.size]? = some (.deferred (some [])) := (hup.2.same _ (by simp; omega) k3).trans ((World.putObj_heap_other (by omega)).trans e6)
        have done : ∀ {ρ : Ren} {bn : List (Option Box)}, subOk m ρ st [] bn → J0 (.loop { rec .ready none with state := .busy }) bn W' := by
          intro ρ bn hsub'
          obtain ⟨g1, g2, _⟩ := hsub'
          rw [Bool.and_eq_true] at g1
          have hren := @HeapOk.ren (own_view F _ Sk' m (far_lt hd) (far_no hd)) W' S1 st.n _ _ st.H ρ bn hH1 g1.1 (fun i hi => pins_ok g1.2 i hi) g2
          obtain ⟨p1, p2⟩ := HeapOk.up hd hmb hnp hren
          rw [hJ0]
          refine ⟨renS ρ bn S1, p1, ?_, p2.new _ (by simp; omega) k3, p2.new _ (by simp; omega) k4, g5, g6⟩
          have hk2s := k2.size
          refine ⟨p2.le, by have := p2.size; simp at this; omega, fun i hi => ?_, fun b hb hno => p2.new b (by simp; omega) (k2.new b hb hno), fun b hb hno => (p2.same b (by simp; omega) (k2.new b hb hno)).trans ((World.putObj_heap_other (by omega)).trans (k2.same b hb hno))⟩
          rcases p2.old i hi with e | e
          · rw [e]; exact k2.old i hi
          · exact .inr e
        have fin : ∀ (jump : Option Code), (Instr.endRound (w.heap.size + 1) jump).run P W' = .ok (.bool jump.isNone) (W'.putObj (w.heap.size + 1) (.loop (rec (if jump.isNone then .ready else .done) jump))) := by
          intro jump
          have := run_endRound (P := P) jump g5
          rw [hrec] at this ⊢
          exact this
        cases e with
        | normal =>
          obtain ⟨ρ', hs'⟩ := hK1
          exact ⟨_, _, fin none, .inl ⟨rfl, hbusy _ _ _ _ (fun _ _ _ h => by cases h) (done hs')⟩⟩
        | ret =>
          obtain ⟨bx, ρ', hs', hb', hk'⟩ := hK1
          exact ⟨_, _, fin (some .ret), .inr ⟨rfl, .ret, bx, hbusy _ _ _ _ (fun _ _ _ h => by cases h) (done hs'), hb', .inl ⟨rfl, hk'⟩⟩⟩
        | exit id =>
          obtain ⟨bx, ρ', hs', hb', hk'⟩ := hK1
          exact ⟨_, _, fin (some (.exit id)), .inr ⟨rfl, .exit id, bx, hbusy _ _ _ _ (fun _ _ _ h => by cases h) (done hs'), hb', .inr ⟨id, rfl, hk'⟩⟩⟩
        | goto t => exact hK1.elim
        | panic ch => exact hK1.elim
        | outgrown => exact hK1.elim
    · show J0 _ (bs 0) W1
      rw [hJ0, h0]
      refine ⟨S, hHb, ⟨hml, hE1.size, fun _ _ => .inl rfl, hE1.new, hE1.same⟩, fun h => ?_, fun h => ?_, hL1, hK1⟩
      · have := hown _ h; omega
      · have := hown _ h; omega
    · rintro e W2 ⟨⟨v, rfl⟩, hj | ⟨c, bx, hj, hbx, hc⟩⟩
      · have hl : W2.heap[w.heap.size + 1]? = some (.loop (rec .ready none)) := by rw [hJ0] at hj; exact hj.choose_spec.2.2.2.2.1
        refine ⟨none, _, by have := run_endLoop (P := P) hl (by rw [hrec]; simp); rw [hrec] at this; exact this, ?_⟩
        exact ⟨_, hK, behind _ _ _ (fun _ _ _ h => by cases h) hj _⟩
      · have hl : W2.heap[w.heap.size + 1]? = some (.loop (rec .done (some c))) := by rw [hJ0] at hj; exact hj.choose_spec.2.2.2.2.1
        refine ⟨some c, _, by have := run_endLoop (P := P) hl (by rw [hrec]; simp); rw [hrec] at this; exact this, ?_⟩
        have hb := fun o' => behind _ _ _ (fun _ _ _ h => by cases h) hj o'
        rcases hc with ⟨rfl, hk⟩ | ⟨id, rfl, hk⟩
        · exact wpIn_ret ⟨_, hk, hb _⟩
        · exact wpIn_exit ⟨_, hk, hb _⟩
end
end Go.Vc
