/- The Vc layer: operations known by what they do to worlds: nil tests of slices, cap, append of made rows, clear, append in place, slices beyond the length. -/
import Derived.Test.YtaoifpmifpmhmaaVc26
import Derived.Lib.SliceRun
import Derived.Lib.LazyBuf
set_option linter.all false
namespace Go.Vc
open Go Go.RowKit
section
variable [Far] {P : Program} {E : Env P} {W0 : World} {M0 : Nat → Prop} {w : World} {S : Lays} {n : Nat} {H : Heap} {fr : Nat → AV} {K : St → Prop} {d : Option Tmp} {t t' ty' : TypeId} {p : String} {af : Array Edge}

theorem SemO.value {o : Oper} {st : St} (hd : ∀ c, o.op ≠ .defer c) (h : ∀ (a : Act) (w : World) (S : Lays), HeapOk W0 M0 st.H st.n w S → (∀ x ∈ o.op.operands.toList, R w S st.n (evO st.fr x) (a.eval x)) →
    ∃ c H' n' r w' S', (execOp a.eval o).run P w = .ok (.value r) w' ∧ HeapOk W0 M0 H' n' w' S' ∧ Ext w S st.n w' S' n' ∧ R w' S' n' c r ∧ K ⟨putD o.dst c st.fr, H', n'⟩) : SemO W0 M0 E o st K := by
  intro a w S h1 h2 Q
  obtain ⟨c, H', n', r, w', S', e1, e2, e3, e4, e5⟩ := h a w S h1 h2
  refine fen_op hd ?_
  rw [e1]
  exact ⟨c, H', n', r, S', rfl, e2, e3, e4, e5⟩

/-- What is known of a slice that is nil. -/
def emptyA : AV → Prop
  | .d (.sl xs) => xs = []
  | .d .nils => True
  | .sl _ _ len => len = 0
  | _ => False
def slA (H : Heap) : AV → Option Unit
  | .d (.sl _) => some ()
  | .d .nils => some ()
  | .sl id _ _ => match H id with
    | some (.vec ..) => some ()
    | _ => none
  | _ => none

theorem slA_ok (hH : HeapOk W0 M0 H n w S) {x : AV} {v : Value} (h : slA H x = some ()) (hx : R w S n x v) : ∃ a l c, v = .slice a l c ∧ (a.isNone = true → emptyA x) ∧ (x = .d .nils → a.isNone = true) := by
  unfold slA at h
  split at h
  · cases hx with | d hx =>
    obtain ⟨a, cap, rfl, _⟩ := hx.slice_form
    refine ⟨a, _, cap, rfl, fun ha => ?_, fun e => by cases e⟩
    cases hx with
    | sl0 => rfl
    | sl => cases ha
  · cases hx with | d hx =>
    cases hx
    exact ⟨none, 0, 0, rfl, fun _ => trivial, fun _ => rfl⟩
  · rename_i id off len
    split at h
    · rename_i hb
      obtain ⟨l, o, hS, ⟨_, _, _, _, hnil, _⟩, rfl, hcap, _, _⟩ := hx.sl_live hH hb
      refine ⟨_, _, _, rfl, fun ha => ?_, fun e => by cases e⟩
      cases hk : l.blk with
      | none => have := hnil hk; show len = 0; omega
      | some b => rw [hk] at ha; cases ha
    · cases h
  · cases h

theorem sem_eqnil {e : TypeId} {s b : Nat} {z : List D} {x : Operand} {c : AV} (hx : bare (evO fr x) = c) (hn : needs (evO fr x)) (hty : E.X.ty t = some ⟨.slice e, s, b, z⟩) (hs : slA H c = some ())
    (k : ∀ b : Bool, (b = true → emptyA c) → (c = .d .nils → b = true) → K ⟨putD d (.d (.bool b)) fr, H, n⟩) : SemO W0 M0 E ⟨d, .binOp .eql t x (.const (.slice none 0 0)) ty', t', p, af, none⟩ ⟨fr, H, n⟩ K := by
  refine .value (fun c h => by cases h) fun a w S hH hop => ?_
  have hR := (hop x (by simp [Op.operands])).bare_of hn
  rw [hx] at hR
  obtain ⟨ad, l, cp, hv, h1, h2⟩ := slA_ok hH hs hR
  refine ⟨_, H, n, .bool ad.isNone, w, S, ?_, hH, Ext.refl _ _ _, R.mkBool _, k _ h1 h2⟩
  have hrun := Go.Lib.run_eql_slice_nil (P := P) w t e ad l cp 0 0 (E.X.facts hty).slice
  simp only [execOp, hv, show a.eval (.const (.slice none 0 0)) = .slice none 0 0 from rfl]
  simp [eqGuard, hrun]

theorem sem_nenil {e : TypeId} {s b : Nat} {z : List D} {x : Operand} {c : AV} (hx : bare (evO fr x) = c) (hn : needs (evO fr x)) (hty : E.X.ty t = some ⟨.slice e, s, b, z⟩) (hs : slA H c = some ())
    (k : ∀ b : Bool, (b = false → emptyA c) → (c = .d .nils → b = false) → K ⟨putD d (.d (.bool b)) fr, H, n⟩) : SemO W0 M0 E ⟨d, .binOp .neq t x (.const (.slice none 0 0)) ty', t', p, af, none⟩ ⟨fr, H, n⟩ K := by
  refine .value (fun c h => by cases h) fun a w S hH hop => ?_
  have hR := (hop x (by simp [Op.operands])).bare_of hn
  rw [hx] at hR
  obtain ⟨ad, l, cp, hv, h1, h2⟩ := slA_ok hH hs hR
  refine ⟨_, H, n, .bool !ad.isNone, w, S, ?_, hH, Ext.refl _ _ _, R.mkBool _, k _ (fun h => h1 (by simpa using h)) (fun h => by simpa using h2 h)⟩
  have hrun := Go.run_neq_slice_nil (P := P) w t e ad l cp (E.X.facts hty).slice
  simp only [execOp, hv, show a.eval (.const (.slice none 0 0)) = .slice none 0 0 from rfl]
  simp [eqGuard, hrun]

/-- The length of a slice. -/
def lenA : AV → Nat
  | .d (.sl xs) => xs.length
  | .sl _ _ len => len
  | _ => 0
theorem slA_cap (hH : HeapOk W0 M0 H n w S) {x : AV} {v : Value} (h : slA H x = some ()) (hx : R w S n x v) : ∃ a c, v = .slice a (lenA x) c ∧ lenA x ≤ c ∧ (x = .d .nils → c = 0) := by
  unfold slA at h
  split at h
  · cases hx with | d hx =>
    obtain ⟨a, cap, rfl, hc⟩ := hx.slice_form
    exact ⟨a, cap, rfl, hc, fun e => by cases e⟩
  · cases hx with | d hx =>
    cases hx
    exact ⟨none, 0, rfl, Nat.le_refl _, fun _ => rfl⟩
  · rename_i id off len
    split at h
    · rename_i hb
      obtain ⟨l, o, hS, _, rfl, hcap, _, _⟩ := hx.sl_live hH hb
      exact ⟨_, _, rfl, by show len ≤ _; omega, fun e => by cases e⟩
    · cases h
  · cases h

theorem sem_cap {e : TypeId} {s b : Nat} {z : List D} {x : Operand} {c : AV} (hx : bare (evO fr x) = c) (hn : needs (evO fr x)) (hty : E.X.ty t = some ⟨.slice e, s, b, z⟩) (hs : slA H c = some ())
    (k : ∀ m : Nat, lenA c ≤ m → (c = .d .nils → m = 0) → K ⟨putD d (.d (.int .i64 m)) fr, H, n⟩) : SemO W0 M0 E ⟨d, .call ⟨.builtin .cap, #[x], #[t]⟩, t', p, af, none⟩ ⟨fr, H, n⟩ K := by
  refine .value (fun c h => by cases h) fun a w S hH hop => ?_
  have hR := (hop x (by simp [Op.operands, Call.operands])).bare_of hn
  rw [hx] at hR
  obtain ⟨ad, cp, hv, h1, h2⟩ := slA_cap hH hs hR
  refine ⟨_, H, n, .int .i64 cp, w, S, ?_, hH, Ext.refl _ _ _, R.mkInt _ _, k cp h1 h2⟩
  simp [execOp, resolve, invoke, builtin, hv, Builtin.cap_, run_underlying (E.X.facts hty).slice, goInt]

theorem sem_slice3 {e : TypeId} {s b s' b' : Nat} {z z' : List D} {sh : Sh} {x y1 y2 y3 : Operand} {xs : List (List D)} {k1 k2 k3 : IntKind} {l h m : Int} (hx : bare (evO fr x) = .d (.sl xs)) (hn : needs (evO fr x)) (hty : E.X.ty t = some ⟨.slice e, s, b, z⟩) (hte : E.X.ty e = some ⟨sh, s', b', z'⟩)
    (hy1 : bare (evO fr y1) = .d (.int k1 l)) (hn1 : needs (evO fr y1)) (hy2 : bare (evO fr y2) = .d (.int k2 h)) (hn2 : needs (evO fr y2)) (hy3 : bare (evO fr y3) = .d (.int k3 m)) (hn3 : needs (evO fr y3)) (hr : Rect s' xs) (hb : 0 ≤ l ∧ l ≤ h ∧ h ≤ m ∧ m ≤ xs.length)
    (k : K ⟨putD d (.d (.sl ((xs.drop l.toNat).take (h.toNat - l.toNat)))) fr, H, n⟩) : SemO W0 M0 E ⟨d, .slice t x (some y1) (some y2) (some y3), t', p, af, none⟩ ⟨fr, H, n⟩ K := by
  refine .value (fun c h => by cases h) fun a w S hH hop => ?_
  have hR := (hop x (by simp [Op.operands])).bare_of hn
  have h1 := (hop y1 (by simp [Op.operands])).bare_of hn1
  have h2 := (hop y2 (by simp [Op.operands])).bare_of hn2
  have h3 := (hop y3 (by simp [Op.operands])).bare_of hn3
  rw [hx] at hR
  rw [hy1, R.int_iff] at h1
  rw [hy2, R.int_iff] at h2
  rw [hy3, R.int_iff] at h3
  cases hR with | d hR =>
  obtain ⟨ad, cp, hv, hcp⟩ := hR.slice_form
  rw [hv] at hR
  obtain ⟨b1, b2, b3, b4⟩ := hb
  have hcut := hR.cut hr (l := l.toNat) (h := h.toNat) (by omega) (by omega) (by omega)
  refine ⟨_, H, n, .slice (if m.toNat = l.toNat then ad else ad.map (·.add (l.toNat * s'))) (h.toNat - l.toNat) (m.toNat - l.toNat), w, S, ?_, hH, Ext.refl _ _ _, .d ?_, k⟩
  · have e1 : ((h.toNat : Nat) : Int) = h := by omega
    have e2 : ((m.toNat : Nat) : Int) = m := by omega
    simp only [execOp, hv, h1, h2, h3, Option.map_some]
    unfold Instr.sliceAt
    simp only [Sem.run_bind, run_underlying (E.X.facts hty).slice, Result.andThen_ok]
    have hsz := (E.X.facts hte).sizeOf
    simp only at hsz
    simp [Instr.slice, Instr.sliceBounds, Instr.sliceBound, asIntOf, run_underlying (E.X.facts hty).slice, hsz, b1, show 0 ≤ h by omega, show 0 ≤ m by omega, show m ≤ (cp : Int) by omega, b3, e1, e2, show ¬ h < l by omega, show ¬ m < h by omega, b2]
  · by_cases h0 : h.toNat - l.toNat = 0
    · rw [h0, List.take_zero]; exact .sl0 _ _
    · rw [if_neg (by omega)] at hcut ⊢
      have hlen : ((xs.drop l.toNat).take (h.toNat - l.toNat)).length = h.toNat - l.toNat := by rw [List.length_take, List.length_drop]; omega
      generalize (xs.drop l.toNat).take (h.toNat - l.toNat) = ys at *
      cases ys with
      | nil => simp at hlen; omega
      | cons y ys =>
        rw [← hlen] at hcut ⊢
        generalize hA : Option.map (fun x => x.add (l.toNat * s')) ad = A at *
        cases hcut with
        | sl _ sz b o cap u hl hb hO hz hc hr => exact .sl _ sz b o _ u (by rw [hlen]; omega) hb hO hz hc hr

/-- A full slice expression whose value nobody uses. -/
theorem sem_slice3n {e : TypeId} {s b s' b' : Nat} {z z' : List D} {sh : Sh} {x y1 y2 y3 : Operand} {id off len : Nat} {k1 k2 k3 : IntKind} {l h m : Int} {bx : Box} (hx : bare (evO fr x) = .sl id off len) (hn : needs (evO fr x)) (hbx : H id = some bx) (hty : E.X.ty t = some ⟨.slice e, s, b, z⟩) (hte : E.X.ty e = some ⟨sh, s', b', z'⟩)
    (hy1 : bare (evO fr y1) = .d (.int k1 l)) (hn1 : needs (evO fr y1)) (hy2 : bare (evO fr y2) = .d (.int k2 h)) (hn2 : needs (evO fr y2)) (hy3 : bare (evO fr y3) = .d (.int k3 m)) (hn3 : needs (evO fr y3)) (hb : 0 ≤ l ∧ l ≤ h ∧ h ≤ m ∧ m ≤ len)
    (k : K ⟨putD d .any fr, H, n⟩) : SemO W0 M0 E ⟨d, .slice t x (some y1) (some y2) (some y3), t', p, af, none⟩ ⟨fr, H, n⟩ K := by
  refine .value (fun c h => by cases h) fun a w S hH hop => ?_
  have hR := (hop x (by simp [Op.operands])).bare_of hn
  have h1 := (hop y1 (by simp [Op.operands])).bare_of hn1
  have h2 := (hop y2 (by simp [Op.operands])).bare_of hn2
  have h3 := (hop y3 (by simp [Op.operands])).bare_of hn3
  rw [hx] at hR
  rw [hy1, R.int_iff] at h1
  rw [hy2, R.int_iff] at h2
  rw [hy3, R.int_iff] at h3
  obtain ⟨lay, o, hS, _, hv, hcap, _, _⟩ := hR.sl_live hH hbx
  obtain ⟨b1, b2, b3, b4⟩ := hb
  generalize lay.blk.map (fun b => (⟨b, o, none⟩ : Addr)) = ad at hv
  generalize hcp : lay.cap - off = cp at hv
  refine ⟨_, H, n, .slice (if m.toNat = l.toNat then ad else ad.map (·.add (l.toNat * s'))) (h.toNat - l.toNat) (m.toNat - l.toNat), w, S, ?_, hH, Ext.refl _ _ _, .any _, k⟩
  have e1 : ((h.toNat : Nat) : Int) = h := by omega
  have e2 : ((m.toNat : Nat) : Int) = m := by omega
  simp only [execOp, hv, h1, h2, h3, Option.map_some]
  unfold Instr.sliceAt
  simp only [Sem.run_bind, run_underlying (E.X.facts hty).slice, Result.andThen_ok]
  have hsz := (E.X.facts hte).sizeOf
  simp only at hsz
  simp [Instr.slice, Instr.sliceBounds, Instr.sliceBound, asIntOf, run_underlying (E.X.facts hty).slice, hsz, b1, show 0 ≤ h by omega, show 0 ≤ m by omega, show m ≤ (cp : Int) by omega, b3, e1, e2, show ¬ h < l by omega, show ¬ m < h by omega, b2]

/-- A slice beyond the length, within the row. -/
theorem sem_sliceX {e : TypeId} {s b s' b' : Nat} {z z' : List D} {sh : Sh} {x y1 y2 : Operand} {id off len tb sz : Nat} {xs : List (List D)} {k1 k2 : IntKind} {l h : Int} (hx : bare (evO fr x) = .sl id off len) (hn : needs (evO fr x)) (hbx : H id = some (.vec tb sz xs)) (hty : E.X.ty t = some ⟨.slice e, s, b, z⟩) (hte : E.X.ty e = some ⟨sh, s', b', z'⟩) (hsz : s' = sz)
    (hy1 : bare (evO fr y1) = .d (.int k1 l)) (hn1 : needs (evO fr y1)) (hy2 : bare (evO fr y2) = .d (.int k2 h)) (hn2 : needs (evO fr y2)) (hb : 0 ≤ l ∧ l ≤ h ∧ off + h ≤ xs.length)
    (k : K ⟨putD d (.sl id (off + l.toNat) (h.toNat - l.toNat)) fr, H, n⟩) : SemO W0 M0 E ⟨d, .slice t x (some y1) (some y2) none, t', p, af, none⟩ ⟨fr, H, n⟩ K := by
  refine .value (fun c h => by cases h) fun a w S hH hop => ?_
  have hR := (hop x (by simp [Op.operands])).bare_of hn
  have h1 := (hop y1 (by simp [Op.operands])).bare_of hn1
  have h2 := (hop y2 (by simp [Op.operands])).bare_of hn2
  rw [hx] at hR
  rw [hy1, R.int_iff] at h1
  rw [hy2, R.int_iff] at h2
  obtain ⟨lay, o, hS, hbox, hv, hcap, ho, h0⟩ := hR.sl_live hH hbx
  obtain ⟨b1, b2, b3⟩ := hb
  have hxl := hbox.2.2.1
  have hes : s' = lay.sz := by rw [hsz]; exact hbox.1.symm
  refine ⟨_, H, n, .slice (lay.blk.map fun b => ⟨b, if lay.cap - off = l.toNat then o else o + l.toNat * lay.sz, none⟩) (h.toNat - l.toNat) (lay.cap - off - l.toNat), w, S, ?_, hH, Ext.refl _ _ _, ?_, k⟩
  · have e1 : ((h.toNat : Nat) : Int) = h := by omega
    simp only [execOp, hv, h1, h2, Option.map_some, Option.map_none]
    unfold Instr.sliceAt
    simp only [Sem.run_bind, run_underlying (E.X.facts hty).slice, Result.andThen_ok]
    have hsz := (E.X.facts hte).sizeOf
    simp only at hsz
    simp [Instr.slice, Instr.sliceBounds, Instr.sliceBound, asIntOf, run_underlying (E.X.facts hty).slice, hsz, b1, show 0 ≤ h by omega, show h ≤ ((lay.cap - off : Nat) : Int) by omega, e1, show ¬ h < l by omega, b2, hes]
    cases lay.blk <;> simp [add_none] <;> split <;> simp
  · rw [show lay.cap - off - l.toNat = lay.cap - (off + l.toNat) by omega]
    refine .sl id (off + l.toNat) (h.toNat - l.toNat) _ lay (hH.lt hS) hS (by omega) (fun hlt => ?_) (fun he => ?_)
    · rw [if_neg (by omega), ho (by omega), Nat.add_mul]
    · have h2 : l.toNat = 0 := by omega
      rw [h2]
      simp [h0 (by omega)]

/-! ### rows written in their place -/
theorem write_rows (hH : HeapOk W0 M0 H n w S) {id k tb sz : Nat} {l : Lay} {xs : List (List D)} {cur : Array Value} (hb : H id = some (.vec tb sz xs)) (hS : S id = some l) (hk : l.blk = some k) (hcur : w.heap[k]? = some (.cells cur tb (0, 0)))
    {ys : List (List D)} {news : List Value} {e0 : Nat} (hr : Rect sz ys) (hnl : news.length = ys.length * sz) (he : e0 ≤ xs.length) (hfit : e0 + ys.length ≤ l.cap) (hc : ∀ e f c, at2 ys e f = some c → ∃ u, news[e * sz + f]? = some u ∧ RD w (own S) c u) :
    HeapOk W0 M0 (upd H id (some (.vec tb sz (splice xs e0 ys)))) n (w.setRow k (splice cur.toList (e0 * sz) news).toArray) S ∧ Ext w S n (w.setRow k (splice cur.toList (e0 * sz) news).toArray) S n := by
  obtain ⟨l', hl', hsz, hcm, hxl, hz, hnil, hbk⟩ := hH.box id _ hb
  rw [hS] at hl'; cases hl'
  obtain ⟨cur', hcur', hsize, hcell⟩ := hbk k hk
  rw [hcur] at hcur'; cases hcur'
  subst hsz
  have hcs : cur.size = l.cap * l.sz := hsize
  have hmul : e0 * l.sz + news.length ≤ cur.size := by
    rw [hcs, hnl, ← Nat.add_mul]; exact Nat.mul_le_mul_right _ hfit
  refine hH.write (w' := w.setRow k (splice cur.toList (e0 * l.sz) news).toArray) hS hk _ (by rw [hb]; rfl) (by simp) rfl rfl (setRow_same_size _ _ _) (fun d hd => setRow_other w k d _ hd) (fun hE => ?_)
  refine ⟨rfl, hcm, ?_, fun y hy => ?_, hnil, fun k' hk' => ?_⟩
  · simp only [splice, List.length_append, List.length_take, List.length_drop]; omega
  · simp only [splice, List.mem_append] at hy
    rcases hy with (hy | hy) | hy
    · exact hz y (List.mem_of_mem_take hy)
    · exact hr y hy
    · exact hz y (List.mem_of_mem_drop hy)
  · rw [hk] at hk'; cases hk'
    refine ⟨_, setRow_heap w k cur _ tb (0, 0) hcur, ?_, fun e' f' c hh => ?_⟩
    · simp only [List.size_toArray]
      rw [splice_length (by simpa using hmul)]
      simpa using hsize
    · obtain ⟨row', hrow', hf'⟩ := at2_some hh
      simp only [List.getElem?_toArray]
      rw [splice_get (by simpa using hmul)]
      have hl1 : (xs.take e0).length = e0 := by rw [List.length_take]; omega
      have hrl : row'.length = l.sz := by
        have : row' ∈ splice xs e0 ys := List.mem_of_getElem? hrow'
        simp only [splice, List.mem_append] at this
        rcases this with (hy | hy) | hy
        · exact hz _ (List.mem_of_mem_take hy)
        · exact hr _ hy
        · exact hz _ (List.mem_of_mem_drop hy)
      have hfl : f' < l.sz := by rw [← hrl]; exact (List.getElem?_eq_some_iff.1 hf').1
      unfold splice at hrow'
      by_cases h1 : e' < e0
      · rw [List.append_assoc, List.getElem?_append_left (by omega), List.getElem?_take, if_pos h1] at hrow'
        have : e' * l.sz + f' < e0 * l.sz := by
          have := Nat.mul_le_mul_right l.sz (show e' + 1 ≤ e0 from h1); rw [Nat.add_mul] at this; omega
        rw [if_neg (by omega), Array.getElem?_toList]
        obtain ⟨u, hu, hR⟩ := hcell e' f' c (by simp [at2, hrow', hf'])
        exact ⟨u, hu, hE.rd hR⟩
      · by_cases h2 : e' < e0 + ys.length
        · rw [List.getElem?_append_left (by rw [List.length_append]; omega), List.getElem?_append_right (by omega), hl1] at hrow'
          obtain ⟨u, hu, hR⟩ := hc (e' - e0) f' c (by simp [at2, hrow', hf'])
          have e1 : e' * l.sz = e0 * l.sz + (e' - e0) * l.sz := by rw [← Nat.add_mul]; congr 1; omega
          have e2 : (e' - e0) * l.sz + f' < news.length := (List.getElem?_eq_some_iff.1 hu).1
          rw [if_pos ⟨by omega, by omega⟩, show e' * l.sz + f' - e0 * l.sz = (e' - e0) * l.sz + f' by omega]
          exact ⟨u, hu, hE.rd hR⟩
        · rw [List.getElem?_append_right (by rw [List.length_append]; omega), List.getElem?_drop, List.length_append, hl1, show e0 + ys.length + (e' - (e0 + ys.length)) = e' by omega] at hrow'
          have : e0 * l.sz + news.length ≤ e' * l.sz := by rw [hnl, ← Nat.add_mul]; exact Nat.mul_le_mul_right _ (by omega)
          rw [if_neg (by omega), Array.getElem?_toList]
          obtain ⟨u, hu, hR⟩ := hcell e' f' c (by simp [at2, hrow', hf'])
          exact ⟨u, hu, hE.rd hR⟩

/-- An append for which there is room in the row. -/
theorem sem_appendI {e : TypeId} {s b s' b' : Nat} {z z' : List D} {sh : Sh} {x y : Operand} {id len sz : Nat} {xs ys : List (List D)} {q : Prop} {c : AV} (hx : bare (evO fr x) = .sl id 0 len) (hn : needs (evO fr x)) (hbx : H id = some (.vec e sz xs)) (hty : E.X.ty t = some ⟨.slice e, s, b, z⟩) (hte : E.X.ty e = some ⟨sh, s', b', z'⟩) (hsz : s' = sz)
    (hy : bare (evO fr y) = c) (hny : needs (evO fr y)) (hsrc : rowsSrc H c = some (q, ys)) (hq : q) (hr : Rect sz ys) (hb : len + ys.length ≤ xs.length)
    (k : K ⟨putD d (.sl id 0 (len + ys.length)) fr, upd H id (some (.vec e sz (splice xs len ys))), n⟩) : SemO W0 M0 E ⟨d, .call ⟨.builtin .append, #[x, y], #[t, t]⟩, t', p, af, none⟩ ⟨fr, H, n⟩ K := by
  refine .value (fun c h => by cases h) fun a w S hH hop => ?_
  have hR := (hop x (by simp [Op.operands, Call.operands])).bare_of hn
  have hY := (hop y (by simp [Op.operands, Call.operands])).bare_of hny
  rw [hx] at hR
  rw [hy] at hY
  obtain ⟨lay, o, hS, hbox, hv, hcap, ho, h0⟩ := hR.sl_live hH hbx
  have hbox' := hbox
  obtain ⟨hsz', hcm, hxl, hz, hnil, hbk⟩ := hbox'
  obtain ⟨A, cx, news, hvy, hs⟩ := rowsSrc_ok hH hsrc hq hr hY
  have ho0 := h0 rfl
  subst ho0
  have hes : s' = lay.sz := by rw [hsz]; exact hsz'.symm
  obtain ⟨i, zv, hi, his, _⟩ := (E.X.facts hte).info
  simp only at his
  have hu := (E.X.facts hty).slice
  have keep : K ⟨putD d (.sl id 0 (len + ys.length)) fr, upd H id (some (.vec e sz (splice xs len ys))), n⟩ := k
  have same : ys = [] → upd H id (some (.vec e sz (splice xs len ys))) = H := by
    rintro rfl
    funext j
    rw [upd_app]
    split
    · rename_i hj; rw [hj, hbx]; simp [splice]
    · rfl
  have hres : R w S n (.sl id 0 (len + ys.length)) (.slice (lay.blk.map fun b => ⟨b, 0, none⟩) (len + ys.length) (lay.cap - 0)) := .sl id 0 _ 0 lay (hH.lt hS) hS (by omega) (fun _ => by simp) (fun _ => rfl)
  have exec : ∀ {r : Value} {w' : World}, (Builtin.append_ #[t, t] t' #[a.eval x, a.eval y]).run P w = .ok r w' → (execOp a.eval ⟨d, .call ⟨.builtin .append, #[x, y], #[t, t]⟩, t', p, af, none⟩).run P w = .ok (.value r) w' := by
    intro r w' hrun
    simp only [execOp, resolve, invoke, builtin, Sem.run_bind, Sem.run_pure, Result.andThen_ok, List.map_toArray, List.map_cons, List.map_nil]
    rw [hrun]; rfl
  cases hk : lay.blk with
  | none =>
    have hc0 := hnil hk
    have hy0 : ys = [] := List.eq_nil_of_length_eq_zero (by omega)
    refine ⟨_, _, n, _, w, S, exec (r := .slice none len (lay.cap - 0)) ?_, by rw [same hy0]; exact hH, Ext.refl _ _ _, ?_, keep⟩
    · subst hy0
      rw [hv, hvy, hk]
      have hn0 : news = [] := List.eq_nil_of_length_eq_zero (by simpa using hs.len)
      cases A with
      | none => simp [Builtin.append_, run_underlying hu, sizeOf, typeInfo, hi, Builtin.lenOf, Builtin.firstCells, show len ≤ lay.cap by omega]
      | some ad => simp [Builtin.append_, run_underlying hu, sizeOf, typeInfo, hi, Builtin.lenOf, Builtin.firstCells, loadCells, loadCellsFrom, show len ≤ lay.cap by omega]
    · rw [hk] at hres
      simpa [hy0] using hres
  | some g =>
    obtain ⟨cur, hcur, hsize, hcell⟩ := hbk g hk
    cases hA : A with
    | none =>
      have hy0 := hs.none_ hA
      refine ⟨_, _, n, _, w, S, exec (r := .slice (some ⟨g, 0, none⟩) (len + ys.length) (lay.cap - 0)) ?_, by rw [same hy0]; exact hH, Ext.refl _ _ _, ?_, keep⟩
      · rw [hv, hvy, hk, hA]
        subst hy0
        simp [Builtin.append_, run_underlying hu, sizeOf, typeInfo, hi, Builtin.lenOf, Builtin.firstCells, storeCells, show len ≤ lay.cap by omega]
      · rw [hk] at hres; exact hres
    | some ad =>
      have hlen : news.length = ys.length * i.size := by rw [hs.len, his, hsz]
      have hrun := run_append_room (P := P) w t t' e i hu hi g len lay.cap cur hcur ad ys.length cx news hlen (hs.cells ad hA) hs.one (by omega) (by
        rw [hlen, ← Nat.add_mul, hsize, his, hsz]; exact Nat.mul_le_mul_right _ (by omega))
      obtain ⟨hH', hE⟩ := write_rows hH hbx hS hk hcur hr hs.len (e0 := len) (by omega) (by omega) hs.rd
      refine ⟨_, _, n, _, _, S, exec (r := .slice (some ⟨g, 0, none⟩) (len + ys.length) lay.cap) ?_, hH', hE, ?_, keep⟩
      · rw [hv, hvy, hk, hA]
        simp only [Option.map_some, Nat.sub_zero]
        rw [hrun, his, hsz]
        rfl
      · rw [hk] at hres; exact hE.r hres

/-- A row seen shorter. -/
theorem BoxOk.short {tb sz : Nat} {xs ys : List (List D)} {l : Lay} (h : BoxOk w S n (.vec tb sz (xs ++ ys)) l) : BoxOk w S n (.vec tb sz xs) l := by
  obtain ⟨h1, h2, h3, h4, h5, h6⟩ := h
  refine ⟨h1, h2, by rw [List.length_append] at h3; omega, fun x hx => h4 x (by simp [hx]), h5, fun b hb => ?_⟩
  obtain ⟨cur, e1, e2, e3⟩ := h6 b hb
  refine ⟨cur, e1, e2, fun e f c hh => e3 e f c ?_⟩
  obtain ⟨x, hx, hf⟩ := at2_some hh
  simp [at2, List.getElem?_append_left (List.getElem?_eq_some_iff.1 hx).1, hx, hf]

theorem HeapOk.short (hH : HeapOk W0 M0 H n w S) {id tb sz : Nat} {xs ys : List (List D)} (hb : H id = some (.vec tb sz (xs ++ ys))) : HeapOk W0 M0 (upd H id (some (.vec tb sz xs))) n w S := by
  refine ⟨hH.bnd, hH.lt_, fun i b h => ?_, hH.inj, fun i l b h1 h2 h3 => ?_, hH.os, hH.tape, hH.output, hH.size, hH.same, hH.far, hH.pin⟩
  · rw [upd_app] at h
    split at h
    · rename_i hi; subst hi; cases h
      obtain ⟨l, h1, h2⟩ := hH.box i _ hb
      exact ⟨l, h1, h2.short⟩
    · exact hH.box i b h
  · rw [upd_app] at h1
    split at h1
    · rename_i hi; subst hi; exact hH.mut_ i l b (by rw [hb]; rfl) h2 h3
    · exact hH.mut_ i l b h1 h2 h3

/-- What lies behind a row is let go. -/
theorem short_sub {N : Nat} {id tb sz : Nat} {xs : List (List D)} (k : Nat) (hb : H id = some (.vec tb sz xs)) {a : Act} (h : Sim W0 M0 N ⟨fr, H, n⟩ a w) : Sim W0 M0 N ⟨fr, upd H id (some (.vec tb sz (xs.take k))), n⟩ a w := by
  obtain ⟨S, hH, hF, hM⟩ := h
  exact ⟨S, hH.short (ys := xs.drop k) (by rw [List.take_append_drop]; exact hb), hF, hM⟩
theorem vc_short {id tb sz : Nat} {xs : List (List D)} (k : Nat) (hb : H id = some (.vec tb sz xs)) {c : Code} {Q : Exit → St → Prop} (h : VC E W0 M0 c ⟨fr, upd H id (some (.vec tb sz (xs.take k))), n⟩ Q) : VC E W0 M0 c ⟨fr, H, n⟩ Q :=
  VC.sub (fun a w hs => short_sub k hb hs) h
end
end Go.Vc
