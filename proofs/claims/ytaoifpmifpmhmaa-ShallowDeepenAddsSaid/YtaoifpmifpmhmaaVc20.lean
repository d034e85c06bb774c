/- The Vc layer: functions that turn boxes that they are handed, or hand back new ones: their contracts. -/
import Derived.Test.YtaoifpmifpmhmaaVc19
set_option linter.all false
namespace Go.Vc
open Go Go.RowKit

section
variable {F : Far} {P : Program} {w w' : World} {S S2 : Lays} {n : Nat} {ds : List Nat} {hlt : ∀ b, @own F S b → b < w.heap.size} {H : Heap} {bf : List (Option Box)} {W0 : World} {M0 M1 : Nat → Prop}

/-- What is handed over, as the caller's memory knows it. -/
structure Handed (F : Far) (H : Heap) (n : Nat) (w : World) (S : Lays) (ds : List Nat) : Prop where
  nd : nodupB ds = true
  live : ∀ d ∈ ds, ∃ l, S d = some l
  lt : ∀ d ∈ ds, d < n
  alive : ∀ d ∈ ds, (H d).isSome = true

theorem Handed.mk' (hH : @HeapOk F W0 M0 H n w S) (hn : nodupB ds = true) (hl : ∀ d ∈ ds, (H d).isSome = true) : Handed F H n w S ds := by
  have live : ∀ d ∈ ds, ∃ l, S d = some l := fun d hd => by
    obtain ⟨b, hb⟩ := Option.isSome_iff_exists.1 (hl d hd)
    obtain ⟨l, h1, _⟩ := hH.box d b hb
    exact ⟨l, h1⟩
  refine ⟨hn, live, fun d hd => ?_, hl⟩
  obtain ⟨l, h1⟩ := live d hd
  exact hH.lt h1

theorem ixOf_mem {l : List Nat} {i j : Nat} (h : ixOf l i = some j) : i ∈ l := List.mem_of_getElem? (ixOf_get h)

theorem own_out (hD : Handed F H n w S ds) (hH : @HeapOk F W0 M0 H n w S) {b : Nat} (h : @own F (ouS ds n S S2) b) : @own (inner F w S hlt ds) S2 b := by
  rcases h with h | ⟨i, l, h1, h2⟩
  · refine .inl ⟨.inl h, fun j l hj hb => ?_⟩
    obtain ⟨d, _, h3⟩ := pick_some hj
    exact (hH.far b (Far.sub b h)).2 d l h3 hb
  · unfold ouS at h1
    split at h1
    · split at h1
      · rename_i j hj; exact .inr ⟨j, l, h1, h2⟩
      · rename_i hno
        refine .inl ⟨.inr ⟨i, l, h1, h2⟩, fun j l' hj hb => ?_⟩
        obtain ⟨d, h3, h4⟩ := pick_some hj
        have := hH.inj d i l' l b h4 h1 hb h2
        subst this
        exact ixOf_none hno (List.mem_of_getElem? h3)
    · exact .inr ⟨_, l, h1, h2⟩

theorem ouN_lt (hD : Handed F H n w S ds) {m i : Nat} (hm : ds.length ≤ m) (hi : i < m) : ouN ds n i < n + (m - ds.length) := by
  unfold ouN
  cases h : ds[i]? with
  | some d => have := hD.lt d (List.mem_of_getElem? h); simp only; omega
  | none =>
    have : ds.length ≤ i := by rw [List.getElem?_eq_none_iff] at h; exact h
    simp only; omega

theorem ou1_ok (hD : Handed F H n w S ds) (hH : @HeapOk F W0 M0 H n w S) {m : Nat} (hm : ds.length ≤ m) {c : AV} {v : Value} (hv : @R (inner F w S hlt ds) w' S2 m c v) : @R F w' (ouS ds n S S2) (n + (m - ds.length)) (ou1 ds n c) v := by
  have mv : ∀ {d : D} {v : Value}, RD w' (@own (inner F w S hlt ds) S2) d v → RD w' (@own F (ouS ds n S S2)) d v := fun h => h.ext (Nat.le_refl _) (fun _ _ _ => rfl) (fun b _ hb hb' => hb (own_out hD hH hb'))
  cases hv with
  | any v => exact .any _
  | d hx => exact .d (mv hx)
  | ip sz xs e f b o u hb hO hc hr => exact .ip sz xs e f b o u hb (fun h => hO (own_out hD hH h)) hc (fun e f c hh => mv (hr e f c hh))
  | slDead id off len v hn hS => exact .slDead _ off len v (ouN_lt hD hm hn) ((ouS_ou hD.nd hD.lt id).trans hS)
  | sl id off len o l hn hS hc ho h0 => exact .sl _ off len o l (ouN_lt hD hm hn) ((ouS_ou hD.nd hD.lt id).trans hS) hc ho h0
  | ptrDead id e f v hn hS => exact .ptrDead _ e f v (ouN_lt hD hm hn) ((ouS_ou hD.nd hD.lt id).trans hS)
  | ptr id e f b l hn hS hb => exact .ptr _ e f b l (ouN_lt hD hm hn) ((ouS_ou hD.nd hD.lt id).trans hS) hb
  | agg cs us hl h1 hr => exact .any _
  | tup cs us hl hr => exact .any _
  | clo fn cs us hl hr => exact .any _
  | cond b c v hr hu => exact .any _

theorem ouL_get {cs : List AV} : ∀ {i : Nat} {c : AV}, (ouL ds n cs)[i]? = some c → ∃ c0, cs[i]? = some c0 ∧ c = ou1 ds n c0 := by
  induction cs with
  | nil => intro i c h; simp [ouL] at h
  | cons c cs ih =>
    intro i d h
    cases i with
    | zero => simp [ouL] at h; exact ⟨c, rfl, h.symm⟩
    | succ i => simpa using ih (by simpa [ouL] using h)
theorem ouL_length (cs : List AV) : (ouL ds n cs).length = cs.length := by
  induction cs with
  | nil => rfl
  | cons c cs ih => simp [ouL, ih]
theorem ouL2_get {cs : List AV} : ∀ {i : Nat} {c : AV}, (ouL2 ds n cs)[i]? = some c → ∃ c0, cs[i]? = some c0 ∧ c = ou2 ds n c0 := by
  induction cs with
  | nil => intro i c h; simp [ouL2] at h
  | cons c cs ih =>
    intro i d h
    cases i with
    | zero => simp [ouL2] at h; exact ⟨c, rfl, h.symm⟩
    | succ i => simpa using ih (by simpa [ouL2] using h)
theorem ouL2_length (cs : List AV) : (ouL2 ds n cs).length = cs.length := by
  induction cs with
  | nil => rfl
  | cons c cs ih => simp [ouL2, ih]

theorem ou2_ok (hD : Handed F H n w S ds) (hH : @HeapOk F W0 M0 H n w S) {m : Nat} (hm : ds.length ≤ m) {c : AV} {v : Value} (hv : @R (inner F w S hlt ds) w' S2 m c v) : @R F w' (ouS ds n S S2) (n + (m - ds.length)) (ou2 ds n c) v := by
  unfold ou2
  split
  · rename_i cs
    cases hv with | agg _ us hl h1 hr =>
    exact .agg _ us (by rw [ouL_length]; exact hl) h1 (fun i c u hc hu => by obtain ⟨c0, h3, rfl⟩ := ouL_get hc; exact ou1_ok hD hH hm (hr i c0 u h3 hu))
  · rename_i fn cs
    cases hv with | clo _ _ us hl hr =>
    exact .clo _ _ us (by rw [ouL_length]; exact hl) (fun i c u hc hu => by obtain ⟨c0, h3, rfl⟩ := ouL_get hc; exact ou1_ok hD hH hm (hr i c0 u h3 hu))
  · exact ou1_ok hD hH hm hv

theorem ou3_ok (hD : Handed F H n w S ds) (hH : @HeapOk F W0 M0 H n w S) {m : Nat} (hm : ds.length ≤ m) {c : AV} {v : Value} (hv : @R (inner F w S hlt ds) w' S2 m c v) : @R F w' (ouS ds n S S2) (n + (m - ds.length)) (ou3 ds n c) v := by
  unfold ou3
  split
  · rename_i cs
    cases hv with | tup _ us hl hr =>
    exact .tup _ us (by rw [ouL2_length]; exact hl) (fun i c u hc hu => by obtain ⟨c0, h3, rfl⟩ := ouL2_get hc; exact ou2_ok hD hH hm (hr i c0 u h3 hu))
  · exact ou2_ok hD hH hm hv

theorem ouBox_ok (hD : Handed F H n w S ds) (hH : @HeapOk F W0 M0 H n w S) {m : Nat} (hm : ds.length ≤ m) {b b' : Box} (hb' : ouBox ds n (some b) = some b') {l : Lay} (hb : @BoxOk (inner F w S hlt ds) w' S2 m b l) : @BoxOk F w' (ouS ds n S S2) (n + (m - ds.length)) b' l := by
  have mv : ∀ {d : D} {v : Value}, RD w' (@own (inner F w S hlt ds) S2) d v → RD w' (@own F (ouS ds n S S2)) d v := fun h => h.ext (Nat.le_refl _) (fun _ _ _ => rfl) (fun b _ hb hb' => hb (own_out hD hH hb'))
  cases b with
  | vec t s xs =>
    cases hb'
    obtain ⟨h1, h2, h3, h4, h5, h6⟩ := hb
    refine ⟨h1, h2, h3, h4, h5, fun b hb => ?_⟩
    obtain ⟨cur, e1, e2, e3⟩ := h6 b hb
    exact ⟨cur, e1, e2, fun e f c hh => by obtain ⟨u, e4, e5⟩ := e3 e f c hh; exact ⟨u, e4, mv e5⟩⟩
  | one t cs =>
    cases hb'
    obtain ⟨g1, g2, b, hb, cur, e1, e2, e3⟩ := hb
    refine ⟨by rw [ouL_length]; exact g1, g2, b, hb, cur, e1, by rw [ouL_length]; exact e2, fun f c hc => ?_⟩
    obtain ⟨c0, h3, rfl⟩ := ouL_get hc
    obtain ⟨u, e4, e5, e6⟩ := e3 f c0 h3
    exact ⟨u, e4, e5, ou1_ok hD hH hm e6⟩

theorem allSome_get : ∀ {l : List (Option Box)} {i : Nat}, allSome l = true → i < l.length → ∃ b, l[i]? = some (some b) := by
  intro l
  induction l with
  | nil => intro i _ h; cases h
  | cons b l ih =>
    intro i h hi
    cases b with
    | none => cases h
    | some b =>
      cases i with
      | zero => exact ⟨b, rfl⟩
      | succ i => simpa using ih (i := i) h (by simpa using hi)

/-- The caller's memory behind the call. -/
theorem HeapOk.unview (hH : @HeapOk F w (liveB H S) H n w S) (hD : Handed F H n w S ds) (hlen : ds.length ≤ bf.length) (hall : allSome (bf.drop ds.length) = true)
    (h2 : @HeapOk (inner F w S hlt ds) w (fun b => ∃ j l, pick ds S j = some l ∧ l.blk = some b) (getB bf) bf.length w' S2) :
    @Left F H n w S (ouH ds n H bf) (n + (bf.length - ds.length)) w' (ouS ds n S S2) := by
  have hM : ∀ b, (∃ j l, pick ds S j = some l ∧ l.blk = some b) → liveB H S b := by
    rintro b ⟨j, l, h1, h3⟩
    obtain ⟨d, h4, h5⟩ := pick_some h1
    exact ⟨d, l, hD.alive d (List.mem_of_getElem? h4), h5, h3⟩
  have hMo : ∀ b, (∃ j l, pick ds S j = some l ∧ l.blk = some b) → @own F S b := by
    rintro b ⟨j, l, h1, h3⟩
    obtain ⟨d, h4, h5⟩ := pick_some h1
    exact .inr ⟨d, l, h5, h3⟩
  have hpin : ∀ i j, ixOf ds i = some j → S2 j = S i ∨ S2 j = none := by
    intro i j hj
    have := (@HeapOk.pin (inner F w S hlt ds) _ _ _ _ _ _ h2 j (List.getElem?_eq_some_iff.1 (ixOf_get hj)).1).2
    rwa [show (inner F w S hlt ds).pin j = S i from pick_ix hj] at this
  have hE : @Ext F w S n w' (ouS ds n S S2) (n + (bf.length - ds.length)) := by
    refine @Ext.mk F _ _ _ _ _ _ (by omega) (@HeapOk.size (inner F w S hlt ds) _ _ _ _ _ _ h2) (fun i hi => ?_) (fun b hb hno h => ?_) (fun b hb hno => ?_)
    · unfold ouS
      rw [if_pos hi]
      split
      · rename_i j hj; exact hpin i j hj
      · exact .inl rfl
    · rcases own_out (hlt := hlt) hD hH h with h | ⟨j, l, h3, h4⟩
      · exact hno h.1
      · exact (@HeapOk.far (inner F w S hlt ds) _ _ _ _ _ _ h2 b ⟨hb, fun j l hj hb' => hno (hMo b ⟨j, l, hj, hb'⟩)⟩).2 j l h3 h4
    · exact @HeapOk.same (inner F w S hlt ds) _ _ _ _ _ _ h2 b hb (fun h => hno (hMo b h))
  have hold : ∀ i l b, i < n → ixOf ds i = none → S i = some l → l.blk = some b → w'.heap[b]? = w.heap[b]? := by
    intro i l b hi hno hS hb
    refine @HeapOk.same (inner F w S hlt ds) _ _ _ _ _ _ h2 b (hH.lt_ i l b hS hb) ?_
    rintro ⟨j, l', h1, h3⟩
    obtain ⟨d, h4, h5⟩ := pick_some h1
    have := hH.inj d i l' l b h5 hS h3 hb
    subst this
    exact ixOf_none hno (List.mem_of_getElem? h4)
  refine ⟨?_, hE, fun i hi hHi => ?_, fun i hi hHi => ?_⟩
  · refine @HeapOk.mk F _ _ _ _ _ _ ?_ ?_ ?_ ?_ ?_ (@HeapOk.os (inner F w S hlt ds) _ _ _ _ _ _ h2) (@HeapOk.tape (inner F w S hlt ds) _ _ _ _ _ _ h2) (@HeapOk.output (inner F w S hlt ds) _ _ _ _ _ _ h2) hE.size (fun b hb hno => ?_) ?_ ?_
    · intro i hi
      unfold ouS
      rw [if_neg (by omega)]
      exact @HeapOk.bnd (inner F w S hlt ds) _ _ _ _ _ _ h2 _ (by omega)
    · intro i l b h1 h3
      unfold ouS at h1
      split at h1
      · split at h1
        · exact @HeapOk.lt_ (inner F w S hlt ds) _ _ _ _ _ _ h2 _ l b h1 h3
        · exact Nat.lt_of_lt_of_le (hH.lt_ i l b h1 h3) hE.size
      · exact @HeapOk.lt_ (inner F w S hlt ds) _ _ _ _ _ _ h2 _ l b h1 h3
    · intro i b hb
      have boxed : ∀ j, ouBox ds n (getB bf j) = some b → ∃ l, S2 j = some l ∧ @BoxOk F w' (ouS ds n S S2) (n + (bf.length - ds.length)) b l := by
        intro j hj
        cases hg : getB bf j with
        | none => rw [hg] at hj; cases hj
        | some b0 =>
          rw [hg] at hj
          obtain ⟨l, h3, h4⟩ := @HeapOk.box (inner F w S hlt ds) _ _ _ _ _ _ h2 j b0 hg
          exact ⟨l, h3, ouBox_ok hD hH hlen hj h4⟩
      unfold ouH at hb
      split at hb
      · rename_i hi
        split at hb
        · rename_i j hj
          obtain ⟨l, h3, h4⟩ := boxed j hb
          refine ⟨l, ?_, h4⟩
          unfold ouS
          rw [if_pos hi]
          simp only [hj]
          exact h3
        · rename_i hno
          obtain ⟨l, h3, h4⟩ := hH.box i b hb
          refine ⟨l, ?_, @BoxOk.ext F _ _ _ _ _ _ _ _ h4 hE (fun k hk => hold i l k hi hno h3 hk)⟩
          unfold ouS
          rw [if_pos hi]
          simp only [hno]
          exact h3
      · rename_i hi
        obtain ⟨l, h3, h4⟩ := boxed _ hb
        refine ⟨l, ?_, h4⟩
        unfold ouS
        rw [if_neg hi]
        exact h3
    · intro i j l l' b hi hj h1 h3
      -- an old box of the caller's, not handed over, lies in a block that is far from the callee
      have apart : ∀ {i k l l'}, ixOf ds i = none → S i = some l → S2 k = some l' → l.blk = some b → l'.blk = some b → False := by
        intro i k l l' hno hS h2k hb hb'
        refine (@HeapOk.far (inner F w S hlt ds) _ _ _ _ _ _ h2 b ⟨hH.lt_ i l b hS hb, fun j l' hj hb' => ?_⟩).2 k l' h2k hb'
        obtain ⟨d, h4, h5⟩ := pick_some hj
        have := hH.inj d i l' l b h5 hS hb' hb
        subst this
        exact ixOf_none hno (List.mem_of_getElem? h4)
      have same2 : ∀ {k k' : Nat}, S2 k = some l → S2 k' = some l' → k = k' := fun h4 h5 => @HeapOk.inj (inner F w S hlt ds) _ _ _ _ _ _ h2 _ _ l l' b h4 h5 h1 h3
      unfold ouS at hi hj
      split at hi
      · split at hi
        · rename_i hin a ha
          split at hj
          · split at hj
            · rename_i hjn a' ha'
              have := same2 hi hj
              subst this
              have e1 := ixOf_get ha
              rw [ixOf_get ha'] at e1
              cases e1; rfl
            · rename_i hno; exact (apart hno hj hi h3 h1).elim
          · rename_i hjn
            have := same2 hi hj
            have hk := (List.getElem?_eq_some_iff.1 (ixOf_get ha)).1
            omega
        · rename_i hin hno
          split at hj
          · split at hj
            · exact (apart hno hi hj h1 h3).elim
            · exact hH.inj i j l l' b hi hj h1 h3
          · exact (apart hno hi hj h1 h3).elim
      · rename_i hin
        split at hj
        · split at hj
          · rename_i hjn a' ha'
            have := same2 hi hj
            have hk := (List.getElem?_eq_some_iff.1 (ixOf_get ha')).1
            omega
          · rename_i hno; exact (apart hno hj hi h3 h1).elim
        · have := same2 hi hj
          omega
    · intro i l b hl hi hb
      have some_of : ∀ j, (ouBox ds n (getB bf j)).isSome = true → (getB bf j).isSome = true := by
        intro j hj
        cases hg : getB bf j with
        | none => rw [hg] at hj; cases hj
        | some => rfl
      unfold ouH at hl
      unfold ouS at hi
      split at hl
      · rename_i hin
        rw [if_pos hin] at hi
        split at hl
        · rename_i j hj
          simp only [hj] at hi
          rcases @HeapOk.mut_ (inner F w S hlt ds) _ _ _ _ _ _ h2 j l b (some_of j hl) hi hb with h | h
          · exact .inl h
          · exact .inr (hM b h)
        · rename_i hno
          simp only [hno] at hi
          exact .inr ⟨i, l, hl, hi, hb⟩
      · rename_i hin
        rw [if_neg hin] at hi
        rcases @HeapOk.mut_ (inner F w S hlt ds) _ _ _ _ _ _ h2 _ l b (some_of _ hl) hi hb with h | h
        · exact .inl h
        · exact .inr (hM b h)
    · exact @HeapOk.same (inner F w S hlt ds) _ _ _ _ _ _ h2 b hb (fun h => hno (hM b h))
    · intro b hb
      obtain ⟨h3, h4⟩ := hH.far b hb
      have h5 := (@HeapOk.far (inner F w S hlt ds) _ _ _ _ _ _ h2 b ⟨h3, fun j l hj hb' => by obtain ⟨d, _, h6⟩ := pick_some hj; exact h4 d l h6 hb'⟩).2
      refine ⟨h3, fun i l hi => ?_⟩
      unfold ouS at hi
      split at hi
      · split at hi
        · exact h5 _ l hi
        · exact h4 i l hi
      · exact h5 _ l hi
    · intro i hp
      obtain ⟨h3, h4⟩ := hH.pin i hp
      refine ⟨by omega, ?_⟩
      unfold ouS
      rw [if_pos h3]
      split
      · rename_i j hj
        rcases hpin i j hj with h | h
        · rw [h]; exact h4
        · exact .inr h
      · exact h4
  · unfold ouS
    rw [if_pos hi]
    split
    · rename_i j hj
      have := hD.alive i (ixOf_mem hj)
      rw [hHi] at this; cases this
    · rfl
  · unfold ouH at hHi
    rw [if_neg (by omega)] at hHi
    unfold ouS
    rw [if_neg (by omega)]
    by_cases hb : ds.length + (i - n) < bf.length
    · obtain ⟨b, hb'⟩ := allSome_get (i := i - n) hall (by rw [List.length_drop]; omega)
      rw [List.getElem?_drop] at hb'
      rw [getB_some.2 hb'] at hHi
      cases b <;> cases hHi
    · exact @HeapOk.bnd (inner F w S hlt ds) _ _ _ _ _ _ h2 _ (by omega)
end

/-- **A function that turns boxes that it is handed, or hands back new ones.** -/
theorem meets_gen {P : Program} (E : Env P) {f : FuncId} {fn : Func} {c : Code} {sp : Spec} (hf : P.funcs[f]? = some fn) (hb : fn.body = some c) (hN : fn.ntmps = E.N) (hρ : E.ρ = none) (dsOf : List AV → Heap → List Nat) (g : GFun)
    (hsp : ∀ args H n, sp.run args H n = genRun g (dsOf args H) args H n)
    (h : ∀ ia bl p r bf, g ia bl = some (p, r, bf) → p → ia.length ≤ E.N ∧ ∀ [Far] (W0 : World) (M0 : Nat → Prop), Far.np = bl.length → Far.marks = true → VC E W0 M0 c (mkSt (enumF 0 ia) bl) (retG E fn.results.toList bl.length r bf)) : Meets P f sp := by
  intro args H n p r o hrun hp F w S vs hH hl hr
  rw [hsp] at hrun
  unfold genRun at hrun
  generalize dsOf args H = ds at hrun
  split at hrun
  · rename_i ia bl hia hbl
    split at hrun
    · rename_i p' r' bf hg
      split at hrun
      · rename_i hc
        obtain ⟨hnd, hlen, hall⟩ := hc
        simp only [Option.some.injEq, Prod.mk.injEq] at hrun
        obtain ⟨rfl, rfl, rfl⟩ := hrun
        have hlt : ∀ b, @own F S b → b < w.heap.size := own_lt hH
        obtain ⟨hla, hvc⟩ := h ia bl p' r' bf hg hp
        obtain ⟨hbll, _⟩ := ixBs_ok hbl
        obtain ⟨hial, hiaR⟩ := ixA_ok hia
        have hD : Handed F H n w S ds := Handed.mk' hH hnd (ixBs_live hbl)
        have hvc := @hvc (inner F w S hlt ds) w (fun b => ∃ j l, pick ds S j = some l ∧ l.blk = some b) hbll.symm rfl
        have h0 := hH.view (hlt := hlt) hnd hbl
        refine callsIn_wide.1 (callsIn_of_wp_marks (n := 0) hf hb trivial ?_)
        have hsim : @Sim (inner F w S hlt ds) w (fun b => ∃ j l, pick ds S j = some l ∧ l.blk = some b) E.N (mkSt (enumF 0 ia) bl) { tmps := vs.toArray ++ Array.replicate (fn.ntmps - vs.toArray.size) undef, defers := [] } w := by
          refine ⟨pick ds S, h0, @FrOk.mk (inner F w S hlt ds) _ _ _ _ _ _ ?_ fun i => ?_, @Marks.nil (inner F w S hlt ds) _ _ _⟩
          · simp only [Array.size_append, Array.size_replicate, List.size_toArray, hN]; omega
          · show @R (inner F w S hlt ds) w (pick ds S) bl.length (getF (enumF 0 ia) i) _
            rw [getF_enum, if_pos (by omega), Nat.sub_zero, frame_get (by omega), hbll]
            cases hi : ia[i]? with
            | none => exact @R.any (inner F w S hlt ds) _ _ _ _
            | some c =>
              have hlt' : i < ia.length := (List.getElem?_eq_some_iff.1 hi).1
              have hv : vs[i]? = some (vs[i]'(by omega)) := List.getElem?_eq_getElem _
              rw [hv]
              obtain ⟨c0, h3, h4⟩ := hiaR i c hi
              exact ix2_ok h4 (hr i c0 _ h3 hv)
        have hvc2 := hvc _ w hsim
        rw [show fen E.ρ = Fence.wide by rw [hρ]; rfl] at hvc2
        refine wpIn_mono hvc2 ?_
        rintro e a' w' ⟨st, ⟨he, hst⟩, S1, hH1, hF1, hM1⟩
        have go : LeavesInM Fence.wide 0 P fn a'.tmps (fun e w' => ∃ v S', e = .returned v ∧ Left H n w S (Option.getD (some (ouH ds n H bf, n + (bf.length - ds.length))) (H, n)).1 (Option.getD (some (ouH ds n H bf, n + (bf.length - ds.length))) (H, n)).2 w' S' ∧
            ((some (ouH ds n H bf, n + (bf.length - ds.length)) : Option (Heap × Nat)) = none → S' = S ∧ ∀ b, b < w.heap.size → w'.heap[b]? = w.heap[b]?) ∧ R w' S' (Option.getD (some (ouH ds n H bf, n + (bf.length - ds.length))) (H, n)).2 (ou3 ds n r') v) a'.defers .returning w' := by
          refine @leave_marks _ _ (inner F w S hlt ds) _ _ _ _ _ _ _ _ a'.defers w' hH1 (@FrOk.at_ (inner F w S hlt ds) _ _ _ _ _ _ hF1) (@Marks.apart (inner F w S hlt ds) _ _ _ _ hM1) (@Marks.at_ (inner F w S hlt ds) _ _ _ _ hM1) (fun w' hH1 hF1 => ?_)
          split at hst
          · rename_i q cs hres
            obtain ⟨hq, ρ, hρ1, hbs, hmt⟩ := hst
            rw [Bool.and_eq_true] at hρ1
            obtain ⟨us, e1, e2, e3, e4⟩ := @resA_ok P w' S1 st.n (inner F w S hlt ds) E w _ st.H hH1 st.fr a'.tmps hF1 _ _ _ hres hq
            have hpk : @R (inner F w S hlt ds) w' S1 st.n (packA cs) (packV us) := by
              match us, cs, e2, e4 with
              | [], [], _, _ => exact @R.tup (inner F w S hlt ds) _ _ _ [] [] rfl (fun i c u h => by simp at h)
              | [v], [c], _, e4 => exact e4 0 c v rfl rfl
              | v :: u :: us, c :: d :: cs, e2, e4 => exact @R.tup (inner F w S hlt ds) _ _ _ (c :: d :: cs) (v :: u :: us) e2.symm (fun i c' u' hc hu => e4 i c' u' hc hu)
            have hout := @mt_ok (inner F w S hlt ds) w' S1 st.n w _ st.H ρ bf hH1 _ _ hmt _ hpk
            have hren := @HeapOk.ren (inner F w S hlt ds) w' S1 st.n w _ st.H ρ bf hH1 hρ1.1 (fun i hi => pins_ok hρ1.2 i (by rw [hbll]; exact hi)) hbs
            have hlr := (mtBs_ok hbs).1
            rw [hlr] at hout
            exact ⟨_, results_run e1 e3, _, ouS ds n S (renS ρ bf S1), rfl, hH.unview hD hlen hall hren, fun h => (by cases h), ou3_ok hD hH hlen hout⟩
          · exact hst.elim
        rcases he with rfl | rfl
        · exact go
        · exact go
      · cases hrun
    · cases hrun
  · cases hrun

theorem meets_handed {P : Program} (E : Env P) {f : FuncId} {fn : Func} {c : Code} {g : GFun} (hf : P.funcs[f]? = some fn) (hb : fn.body = some c) (hN : fn.ntmps = E.N) (hρ : E.ρ = none)
    (h : ∀ ia bl p r bf, g ia bl = some (p, r, bf) → p → ia.length ≤ E.N ∧ ∀ [Far] (W0 : World) (M0 : Nat → Prop), Far.np = bl.length → Far.marks = true → VC E W0 M0 c (mkSt (enumF 0 ia) bl) (retG E fn.results.toList bl.length r bf)) : Meets P f (Spec.gen g) :=
  meets_gen E hf hb hN hρ reach g (fun _ _ _ => rfl) h
theorem meets_fresh {P : Program} (E : Env P) {f : FuncId} {fn : Func} {c : Code} {g : GFun} (hf : P.funcs[f]? = some fn) (hb : fn.body = some c) (hN : fn.ntmps = E.N) (hρ : E.ρ = none)
    (h : ∀ ia bl p r bf, g ia bl = some (p, r, bf) → p → ia.length ≤ E.N ∧ ∀ [Far] (W0 : World) (M0 : Nat → Prop), Far.np = bl.length → Far.marks = true → VC E W0 M0 c (mkSt (enumF 0 ia) bl) (retG E fn.results.toList bl.length r bf)) : Meets P f (Spec.fresh g) :=
  meets_gen E hf hb hN hρ (fun _ _ => []) g (fun _ _ _ => rfl) h
end Go.Vc
