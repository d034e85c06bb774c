/- The Vc layer, part 6. -/
import Derived.Test.YtmbjnkgpcbpclaaGreatV5
import Derived.MapKept
import Derived.Laws.IdiomRangeMap
/- The Vc layer: own rows frozen to data; rows that own slices, kept own with their slices as data. -/
set_option linter.all false
namespace Go.Vc
open Go Go.RowKit

section
variable [Far] {P : Program} {E : Env P} {W0 : World} {M0 : Nat → Prop} {w : World} {S : Lays} {n m : Nat} {H : Heap} {fr : Nat → AV} {K : St → Prop} {d : Option Tmp} {t t2 t' ty' : TypeId} {p : String} {af : Array Edge} {bl : List (Option Box)} {cd : Code} {Q : Exit → St → Prop}

theorem freeze_ok (hH : HeapOk W0 M0 H n w S) {id ty sz len : Nat} {xs : List (List D)} (hb : H id = some (.vec ty sz xs)) (hlen : len ≤ xs.length) :
  ∃ S', HeapOk W0 M0 (rem [id] n [] H) n w S' ∧ Ext w S n w S' n ∧ ∀ v, R w S n (.sl id 0 len) v → R w S' n (.d (.sl (xs.take len))) v := by
 obtain ⟨l, hS, hbox⟩ := hH.box id _ hb
 have hvec : VecO w (own S) ty sz (xs.take len) l := BoxOk.short (ys := xs.drop len) (by rw [List.take_append_drop]; exact hbox)
 have hnew : ∀ c, c < w.heap.size → ¬ own S c → ¬ own (rem [id] n ([] : List Lay) S) c := fun c _ hno ho => by
  rcases ho with ho | ⟨i, l', g1, g2⟩
  ·exact hno (.inl ho)
  ·by_cases hi : i < n
   ·rw [rem_lt hi] at g1
    split at g1
    ·cases g1
    ·exact hno (.inr ⟨i, l', g1, g2⟩)
   ·rw [rem_ge (by omega)] at g1; simp at g1
 have tr : ∀ v, R w S n (.sl id 0 len) v → R w (rem [id] n [] S) n (.d (.sl (xs.take len))) v := fun v hv => by
  obtain ⟨l', o, hS', _, rfl, hcap, ho, h0⟩ := hv.sl_live hH hb
  rw [hS] at hS'; cases hS'
  have := vec_data hvec hnew (fun c hc => not_own_rem hH hS (.inl hc) (by simp) (fun l' h => by cases h)) o (h0 rfl)
  rw [List.length_take, Nat.min_eq_left hlen] at this
  exact .d this
 have key := hH.redeal [id] [] [] H rfl (fun _ i b l _ h _ => .inl h) (fun _ h => h) (fun l' hl' => by cases hl') (fun i j l1 l2 c hi => by simp at hi) (fun l' hl' => by cases hl') (fun i l' b' hb' => by simp at hb') (fun hE i l' b' hb' => by simp at hb')
 exact ⟨_, key.1, key.2, tr⟩

theorem sem_appendD {x y : Operand} {q : Prop} {id len n' ty sz : Nat} {H' : Heap} {bl2 : List (Option Box)} {xs : List (List D)} (h : aAppend E.X.ty (getB bl) m t (bare (evO fr x)) (bare (evO fr y)) = some (q, .sl id 0 len, H', n')) (hn : nd fr [x, y]) (hq : q)
  (h2 : H' = getB bl2) (hn2 : n' = bl2.length) (hb : getB bl2 id = some (.vec ty sz xs)) (hlen : len ≤ xs.length) (k : K ⟨putD d (.d (.sl (xs.take len))) fr, getB (kilL [id] bl2 0), n'⟩) :
  SemO W0 M0 E ⟨d, .call ⟨.builtin .append, #[x, y], #[t, t]⟩, ty', p, af, none⟩ ⟨fr, getB bl, m⟩ K := by
 subst h2
 refine .value (fun c h => by cases h) fun a w S hH hop => ?_
 have ev : ∀ u ∈ [x, y], R w S m (bare (evO fr u)) (a.eval u) := fun u hu => (hop u (by simpa [Op.operands, Call.operands] using hu)).bare_of (nd_mem hn u hu)
 obtain ⟨r, w', S', hrun, h3, h4, h5⟩ := aAppend_ok (X := E.X) (ty' := ty') hH h hq (ev x (by simp)) (ev y (by simp))
 obtain ⟨S2, h6, h7, h8⟩ := freeze_ok h3 hb hlen
 rw [rem_list _ _ _ hn2] at h6
 simp only [List.map_nil, List.append_nil] at h6
 refine ⟨_, _, _, r, w', S2, ?_, h6, h4.trans h7, h8 r h5, k⟩
 simp only [execOp, resolve, invoke, builtin, Sem.run_bind, Sem.run_pure, Result.andThen_ok, List.map_toArray, List.map_cons, List.map_nil]
 rw [hrun]; rfl

end
end Go.Vc
/- The Vc layer: a closure called with a slice out of a bag, whose result is put back. -/
set_option linter.all false
namespace Go.Vc
open Go Go.RowKit

section
variable [Far] {P : Program} {E : Env P} {W0 : World} {M0 : Nat → Prop} {w : World} {S : Lays} {n m : Nat} {H : Heap} {fr : Nat → AV} {K : St → Prop} {d : Option Tmp} {t t2 t' ty' : TypeId} {p : String} {af : Array Edge} {bl : List (Option Box)} {cd : Code} {Q : Exit → St → Prop}

end
end Go.Vc
/- The Vc layer: maps from numbers to bools, of the function's own. -/
set_option linter.all false
namespace Go.Vc
open Go Go.RowKit

section
variable [Far] {P : Program} {E : Env P} {W0 : World} {M0 : Nat → Prop} {w : World} {S : Lays} {n m : Nat} {H : Heap} {fr : Nat → AV} {K : St → Prop} {d : Option Tmp} {t t2 t' ty' kt et : TypeId} {p : String} {af : Array Edge} {bl : List (Option Box)} {cd : Code} {Q : Exit → St → Prop}

theorem SemO.skip {o : Oper} {st : St} (hd : ∀ c, o.op ≠ .defer c) (h : ∀ (a : Act) (w : World) (S : Lays), HeapOk W0 M0 st.H st.n w S → (∀ x ∈ o.op.operands.toList, R w S st.n (evO st.fr x) (a.eval x)) →
  ∃ H' n' w' S', (execOp a.eval o).run P w = .ok .skip w' ∧ HeapOk W0 M0 H' n' w' S' ∧ Ext w S st.n w' S' n' ∧ K ⟨putD o.dst .any st.fr, H', n'⟩) : SemO W0 M0 E o st K := by
 intro a w S h1 h2 Q
 obtain ⟨H', n', w', S', e1, e2, e3, e4⟩ := h a w S h1 h2
 refine fen_op hd ?_
 rw [e1]
 exact ⟨.any, H', n', undef, S', rfl, e2, e3, .any _, e4⟩

end
end Go.Vc
/- The Vc layer: a row of one's own made shorter, over states by lists. -/
set_option linter.all false
namespace Go.Vc
open Go Go.RowKit
section
variable [Far] {P : Program} {E : Env P} {W0 : World} {M0 : Nat → Prop} {m : Nat} {fr : Nat → AV} {bl : List (Option Box)} {cd : Code} {Q : Exit → St → Prop}
theorem vc_shortL (id k : Nat) {tb sz : Nat} {xs : List (List D)} (hb : getB bl id = some (.vec tb sz xs)) (h : VC E W0 M0 cd ⟨fr, getB (updL bl id (some (.vec tb sz (xs.take k)))), m⟩ Q) : VC E W0 M0 cd ⟨fr, getB bl, m⟩ Q :=
 vc_short k hb (by rw [upd_getB]; exact h)
end
end Go.Vc
/- The Vc layer: a variable as one box of cells; slices that lie in a bag, read and written in place. -/
set_option linter.all false
namespace Go.Vc
open Go Go.RowKit
variable [Far] {P : Program} {E : Env P} {W0 : World} {M0 : Nat → Prop} {fr : Nat → AV} {H : Heap} {n : Nat} {K : St → Prop} {d : Option Tmp} {ty' t : TypeId} {p : String} {af : Array Edge} {cd : Code} {Q : Exit → St → Prop} {bl : List (Option Box)} {m : Nat}

theorem SemV.value {o : Oper} {st : St} {c : AV} (hd : ∀ c, o.op ≠ .defer c) (h : ∀ (H' : Heap) (n' : Nat), HLe st.H H' → ∀ (a : Act) (w : World) (S : Lays), HeapOk W0 M0 H' n' w S → (∀ x ∈ o.op.operands.toList, R w S n' (evO st.fr x) (a.eval x)) →
  ∃ r, (execOp a.eval o).run P w = .ok (.value r) w ∧ R w S n' c r) : SemV W0 M0 E o st c := by
 intro H' n' hle a w S h1 h2 Q
 obtain ⟨r, e1, e2⟩ := h H' n' hle a w S h1 h2
 refine fen_op hd ?_
 rw [e1]
 exact ⟨r, rfl, rfl, e2⟩

end Go.Vc
/- The Vc layer: interfaces that are nil or not; an array variable sliced as a row; recursion. -/
set_option linter.all false
namespace Go.Vc
open Go Go.RowKit

section
variable [Far] {P : Program} {E : Env P} {W0 : World} {M0 : Nat → Prop} {w : World} {S : Lays} {n : Nat} {H : Heap} {fr : Nat → AV} {K : St → Prop} {d : Option Tmp} {t t2 t' ty' : TypeId} {p : String} {af : Array Edge}

theorem SemO.said {o : Oper} {H2 : Heap} (h : ∀ (w : World) (S : Lays), HeapOk W0 M0 H n w S → HeapOk W0 M0 H2 n w S) (hs : SemO W0 M0 E o ⟨fr, H2, n⟩ K) : SemO W0 M0 E o ⟨fr, H, n⟩ K :=
 fun a w S h1 h2 Q => hs a w S (h w S h1) h2 Q
theorem sem_unfull {o : Oper} {id e sz c : Nat} {xs : List (List D)} (hb : H id = some (.ob (.full e sz xs c))) (hs : SemO W0 M0 E o ⟨fr, upd H id (some (.vec e sz xs)), n⟩ K) : SemO W0 M0 E o ⟨fr, H, n⟩ K :=
 hs.said fun w S h => unfull_ok h hb

theorem sem_allocFull {e el : TypeId} {sz m by_ : Nat} {z : List D} {xs : List (List D)} (hty : E.X.ty e = some ⟨.array m el, sz, by_, z⟩) (hz : z.map (fun c => [c]) = xs) (hsz : sz = z.length) (h0 : 0 < sz) (hmx : sz ≤ maxLen)
  (k : K ⟨putD d (.ptr n 0 0) fr, upd H n (some (.ob (.full e 1 xs sz))), n + 1⟩) : SemO W0 M0 E ⟨d, .alloc e, ty', p, af, none⟩ ⟨fr, H, n⟩ K := by
 subst hz
 refine .value (fun c h => by cases h) fun a w S hH hop => ?_
 obtain ⟨i, zv, hi, his, _, hzv, hzs, hzero⟩ := (E.X.facts hty).info
 have hzne : z ≠ [] := fun e => by subst e; simp at hsz; omega
 obtain ⟨hzl', hzr⟩ := hzero hzne
 simp only at hzs hzl' his
 obtain ⟨hH', hE⟩ := hH.alloc (w1 := w) ⟨rfl, rfl, rfl, rfl⟩ zv.cells e (.ob (.full e 1 (z.map fun c => [c]) sz)) 1 sz (fun S' n' hE hnew => by
  refine ⟨rfl, rfl, rfl, hmx, by rw [List.length_map]; exact Nat.le_of_eq hsz.symm, fun x hx => ?_, (fun h => by cases h), fun b hb => ?_⟩
  ·obtain ⟨c, _, rfl⟩ := List.mem_map.1 hx; rfl
  ·cases hb
   refine ⟨zv.cells, hnew, by rw [hzs, Nat.mul_one], fun e' f' c hc => ?_⟩
   obtain ⟨x, hx, hf⟩ := at2_some hc
   rw [List.getElem?_map] at hx
   cases hd : z[e']? with
   | none => rw [hd] at hx; cases hx
   | some dd =>
    rw [hd] at hx; cases hx
    cases f' with
    | succ f' => simp at hf
    | zero =>
     simp at hf; subst hf
     have hlt : e' < zv.cells.size := by have := (List.getElem?_eq_some_iff.1 hd).1; omega
     have hr := hzr (w.alloc (.cells zv.cells e)) (own S') _ _ _ hd (Array.getElem?_eq_getElem hlt)
     exact ⟨_, by rw [Nat.mul_one, Nat.add_zero]; exact Array.getElem?_eq_getElem hlt, hr⟩)
 refine ⟨.ptr n 0 0, _, _, .pointer (some ⟨w.heap.size, 0, none⟩), w.alloc (.cells zv.cells e), _, ?_, hH', hE, HeapOk.ptr_new (W0 := W0) (M0 := M0) (k := 0) S, k⟩
 have hzz : (zeroValue e).run P w = .ok zv w := by simp [zeroValue, typeInfo, hi, hzv]
 have : (Instr.alloc e true (.tuple #[])).run P w = .ok (.pointer (some ⟨w.heap.size, 0, none⟩)) (w.alloc (.cells zv.cells e)) := by
  simp only [Instr.alloc, Sem.run_bind, hzz, Result.andThen_ok, newVar, newRow, newObj]
  simp [Sem.run]
 simp only [execOp, Sem.run_bind, this, Result.andThen_ok, Sem.run_pure]

theorem semv_arr {el : TypeId} {id e sz m by_ c s' b' : Nat} {z z' : List D} {sh : Sh} {xs : List (List D)} {x : Operand} (hx : bare (evO fr x) = .ptr id 0 0) (hn : needs (evO fr x)) (hb : H id = some (.ob (.full e 1 xs c))) (hty : E.X.ty t = some ⟨.array m el, sz, by_, z⟩) (hte : E.X.ty el = some ⟨sh, s', b', z'⟩) (hm : m = c) (h0 : 0 < m) :
  SemV W0 M0 E ⟨d, .slice t x none none none, ty', p, af, none⟩ ⟨fr, H, n⟩ (.sl id 0 m) := by
 refine .value (fun c h => by cases h) fun H' n' hle a w S hH hop => ?_
 have hR := (hop x (by simp [Op.operands])).bare_of hn
 rw [hx] at hR
 obtain ⟨l, k, hS, hbox, hk, hv⟩ := hR.ptr_live hH (hle _ _ hb)
 have hc : l.cap = c := hbox.2.1
 refine ⟨.slice (some ⟨k, 0, none⟩) m m, ?_, ?_⟩
 ·have hsz := (E.X.facts hte).sizeOf
  simp only at hsz
  simp only [execOp, hv, Option.map_none]
  unfold Instr.sliceAt
  simp only [Sem.run_bind, run_underlying (E.X.facts hty).array, Result.andThen_ok]
  simp [Instr.sliceBounds, Instr.sureAddr, hsz, add_none]
 ·have := R.sl (w := w) (S := S) (n := n') id 0 m 0 l (hH.lt hS) hS (by omega) (fun _ => by rw [Nat.zero_mul]) (fun _ => rfl)
  rw [hk, show l.cap - 0 = m by omega] at this
  exact this
end

theorem meets_void {P : Program} {f : FuncId} {g : GFun} (h : ∀ a b p r bf, g a b = some (p, r, bf) → ¬p) : Meets P f (Spec.gen g) := by
 intro args H n p r o hrun hp
 simp only [Spec.gen, genRun] at hrun
 split at hrun
 ·split at hrun
  ·rename_i hg
   split at hrun
   ·simp only [Option.some.injEq, Prod.mk.injEq] at hrun
    obtain ⟨rfl, _⟩ := hrun
    exact absurd hp (h _ _ _ _ _ hg)
   ·cases hrun
  ·cases hrun
 ·cases hrun
theorem meets_voidP {P : Program} {f : FuncId} {g : List AV → Option (Prop × AV)} (h : ∀ a p r, g a = some (p, r) → ¬p) : Meets P f (Spec.pure g) := by
 intro args H n p r o hrun hp
 simp only [Spec.pure] at hrun
 split at hrun
 ·rename_i hg
  simp only [Option.some.injEq, Prod.mk.injEq] at hrun
  obtain ⟨rfl, _⟩ := hrun
  exact absurd hp (h _ _ _ hg)
 ·cases hrun
end Go.Vc
/- The Vc layer: one slice of a bag, which a row holds raw, read as data from now on. -/
set_option linter.all false
namespace Go.Vc
open Go Go.RowKit
section
variable [Far] {P : Program} {E : Env P} {W0 : World} {M0 : Nat → Prop} {fr : Nat → AV} {cd : Code} {Q : Exit → St → Prop} {bl : List (Option Box)} {m : Nat}
end
end Go.Vc
/- The Vc layer: contracts that are proved by hand; builders of strings. -/
set_option linter.all false
namespace Go.Vc
open Go Go.RowKit

theorem meets_hand {P : Program} {f : FuncId} {g : GFun}
  (h : ∀ ia bl p r bf, g ia bl = some (p, r, bf) → p → ∀ [Far] (w : World) (S : Lays) (vs : List Value), Far.np = bl.length → Far.pin = S → Far.marks = true → HeapOk w (fun b => ∃ j l, S j = some l ∧ l.has b) (getB bl) bl.length w S → vs.length = ia.length →
   (∀ (i : Nat) (c : AV) (u : Value), ia[i]? = some c → vs[i]? = some u → R w S bl.length c u) →
   Calls P f vs.toArray w fun e w' => ∃ v S', e = .returned v ∧ HeapOk w (fun b => ∃ j l, S j = some l ∧ l.has b) (getB bf) bf.length w' S' ∧ R w' S' bf.length r v) : Meets P f (Spec.gen g) := by
 intro args H n p r o hrun hp F w S vs hH hl hr
 have hrun' : genRun g (reach args H) args H n = some (p, r, o) := hrun
 unfold genRun at hrun'
 generalize reach args H = ds at hrun'
 split at hrun'
 ·rename_i ia bl hia hbl
  split at hrun'
  ·rename_i p' r' bf hg
   split at hrun'
   ·rename_i hc
    obtain ⟨hnd, hlen, hall⟩ := hc
    simp only [Option.some.injEq, Prod.mk.injEq] at hrun'
    obtain ⟨rfl, rfl, rfl⟩ := hrun'
    have hlt : ∀ b, @own F S b → b < w.heap.size := own_lt hH
    obtain ⟨hbll, _⟩ := ixBs_ok hbl
    obtain ⟨hial, hiaR⟩ := ixA_ok hia
    have hD : Handed F H n w S ds := Handed.mk' hH hnd (ixBs_live hbl)
    have h0 := hH.view (hlt := hlt) hnd hbl
    have hc := @h ia bl p' r' bf hg hp (inner F w S hlt ds) w (pick ds S) vs hbll.symm rfl rfl h0 (by omega) (fun i c u hi hu => by
     rw [hbll]
     obtain ⟨c0, h3, h4⟩ := hiaR i c hi
     exact ix2_ok h4 (hr i c0 _ h3 hu))
    refine hc.mono ?_
    rintro e w' ⟨v, S2, rfl, hX, hR⟩
    exact ⟨v, ouS ds n S S2, rfl, hH.unview hD hlen hall hX, fun h => (by cases h), ou3_ok hD hH hlen hR⟩
   ·cases hrun'
  ·cases hrun'
 ·cases hrun'
#print axioms meets_hand

end Go.Vc
/- The Vc layer: functions that end by a panic. -/
set_option linter.all false
namespace Go.Vc
open Go Go.RowKit

def faultE (t : TypeId) (a b : Int) : List PanicEntry := [{ v := .iface t (.agg #[.int .i64 a, .int .i64 b]), recovered := false }]
def ftA (a b : Int) : AV := .agg [.d (.int .i64 a), .d (.int .i64 b)]

def Panics (P : Program) (f : FuncId) (sp : Spec) (t : TypeId) : Prop :=
 ∀ (args : List AV) (H : Heap) (n : Nat) (p : Prop) (a b : Int) (o : Option (Heap × Nat)), sp.run args H n = some (p, ftA a b, o) → p →
  ∀ [Far] (w : World) (S : Lays) (vs : List Value), HeapOk w (liveB H S) H n w S → vs.length = args.length → (∀ (i : Nat) (c : AV) (u : Value), args[i]? = some c → vs[i]? = some u → R w S n c u) →
   Calls P f vs.toArray w fun e w' => e = .panicked (faultE t a b) ∧ ∃ S', Left H n w S (o.getD (H, n)).1 (o.getD (H, n)).2 w' S'

def panP (t : TypeId) (a b : Int) : Exit → St → Prop := fun e _ => e = .panic (faultE t a b)

section
variable [Far] {w : World} {S : Lays} {n : Nat}
theorem leave_panic {P : Program} {fn : Func} {tmps : Array Value} {Rr : Ending → World → Prop} {ch : List PanicEntry} {W0 : World} {M0 : Nat → Prop} {H : Heap} : ∀ (ds : List Deferred) (w : World), HeapOk W0 M0 H n w S → ds.Pairwise (fun d e => d.target ≠ e.target) → (∀ d ∈ ds, ∃ D, d.target = .collected D ∧ W0.heap.size ≤ D ∧ w.heap[D]? = some (.deferred (some [])) ∧ ¬ own S D) →
  (∀ w', HeapOk W0 M0 H n w' S → Rr (.panicked ch) w') → LeavesInM Fence.wide 0 P fn tmps Rr ds (.panicking ch) w := by
 intro ds
 induction ds with
 | nil => intro w hH _ _ h; exact h w hH
 | cons d ds ih =>
  intro w hH hMa hM h
  obtain ⟨D, e1, e2, e3, e4⟩ := hM d List.mem_cons_self
  refine ⟨by simp, .inl ⟨D, _, e1, run_takeDeferred e3, ?_⟩⟩
  have hc : Cells w (w.putObj D (.deferred none)) := cells_putObj e3
  refine ih _ (hH.shut hc (fun b hb => World.putObj_heap_other (fun e => e4 (e ▸ hb))) (fun b hb => World.putObj_heap_other (by omega)) rfl rfl rfl) (List.pairwise_cons.1 hMa).2 (fun e he => ?_) h
  obtain ⟨D', f1, f2, f3, f4⟩ := hM e (List.mem_cons_of_mem _ he)
  have hne : D' ≠ D := fun hD => by
   have := (List.pairwise_cons.1 hMa).1 e he
   rw [e1, f1, hD] at this
   exact this rfl
  exact ⟨D', f1, f2, (World.putObj_heap_other hne).trans f3, f4⟩
end
theorem mtBs_none (H : Heap) (ρ : Ren) : ∀ (r : Ren) (k : Nat), r.length = k → mtBs ρ H r (List.replicate k none)
 | [], 0, _ => trivial
 | none :: r, k + 1, h => mtBs_none H ρ r k (by simpa using h)
 | some _ :: r, k + 1, h => mtBs_none H ρ r k (by simpa using h)

theorem panics_gen {P : Program} (E : Env P) {f : FuncId} {fn : Func} {c : Code} {t : TypeId} {g : GFun} (hf : P.funcs[f]? = some fn) (hb : fn.body = some c) (hN : fn.ntmps = E.N) (hρ : E.ρ = none)
  (h : ∀ ia bl p r bf, g ia bl = some (p, r, bf) → p → ∃ a b, r = ftA a b ∧ bf = List.replicate bl.length none ∧ apartB ((List.range bl.length).map some) = true ∧ ia.length ≤ E.N ∧ ∀ [Far] (W0 : World) (M0 : Nat → Prop), Far.np = bl.length → Far.marks = true → VC E W0 M0 c (mkSt (enumF 0 ia) bl) (panP t a b)) : Panics P f (Spec.gen g) t := by
 intro args H n p a b o hrun hp F w S vs hH hl hr
 change genRun g (reach args H) args H n = _ at hrun
 unfold genRun at hrun
 generalize reach args H = ds at hrun
 split at hrun
 ·rename_i ia bl hia hbl
  split at hrun
  ·rename_i p' r' bf hg
   split at hrun
   ·rename_i hc
    obtain ⟨hnd, hlen, hall⟩ := hc
    simp only [Option.some.injEq, Prod.mk.injEq] at hrun
    obtain ⟨rfl, hr3, rfl⟩ := hrun
    have hlt : ∀ b, @own F S b → b < w.heap.size := own_lt hH
    obtain ⟨a', b', rfl, rfl, hap, hla, hvc⟩ := h ia bl p' r' bf hg hp
    have hab : a' = a ∧ b' = b := by
     have h0 : ou3 ds n (ftA a' b') = ftA a' b' := rfl
     rw [h0] at hr3
     simp only [ftA, AV.agg.injEq, List.cons.injEq, AV.d.injEq, D.int.injEq, true_and, and_true] at hr3
     exact hr3
    obtain ⟨rfl, rfl⟩ := hab
    obtain ⟨hbll, _⟩ := ixBs_ok hbl
    obtain ⟨hial, hiaR⟩ := ixA_ok hia
    have hD : Handed F H n w S ds := Handed.mk' hH hnd (ixBs_live hbl)
    have hvc := @hvc (inner F w S hlt ds) w (fun b => ∃ j l, pick ds S j = some l ∧ l.has b) hbll.symm rfl
    have h0 := hH.view (hlt := hlt) hnd hbl
    refine callsIn_wide.1 (callsIn_of_wp_marks (n := 0) hf hb trivial ?_)
    have hsim : @Sim (inner F w S hlt ds) w (fun b => ∃ j l, pick ds S j = some l ∧ l.has b) E.N (mkSt (enumF 0 ia) bl) { tmps := vs.toArray ++ Array.replicate (fn.ntmps - vs.toArray.size) undef, defers := [] } w := by
     refine ⟨pick ds S, h0, @FrOk.mk (inner F w S hlt ds) _ _ _ _ _ _ ?_ fun i => ?_, @Marks.nil (inner F w S hlt ds) _ _ _ (fun h => by cases h)⟩
     ·simp only [Array.size_append, Array.size_replicate, List.size_toArray, hN]; omega
     ·show @R (inner F w S hlt ds) w (pick ds S) bl.length (getF (enumF 0 ia) i) _
      rw [getF_enum, if_pos (by omega), Nat.sub_zero, frame_get (by omega), hbll]
      cases hi : ia[i]? with
      | none => exact @R.any (inner F w S hlt ds) _ _ _ _
      | some c =>
       have hlt' : i < ia.length := (List.getElem?_eq_some_iff.1 hi).1
       have hv : vs[i]? = some (vs[i]'(by omega)) := List.getElem?_eq_getElem _
       rw [hv]
       obtain ⟨c0, h3, h4⟩ := hiaR i c hi
       exact ix2_ok h4 (hr i c0 _ h3 hv)
    have hvc2 := hvc _ w hsim
    rw [show fen E.ρ = Fence.wide by rw [hρ]; rfl] at hvc2
    refine wpIn_mono hvc2 ?_
    rintro e a'' w' ⟨st, he, S1, hH1, hF1, hM1⟩
    obtain rfl : e = .panic (faultE t a' b') := he
    refine @leave_panic (inner F w S hlt ds) _ _ _ _ _ _ _ _ _ _ a''.defers w' hH1 (@Marks.apart (inner F w S hlt ds) _ _ _ _ hM1 rfl) (@Marks.at_ (inner F w S hlt ds) _ _ _ _ hM1 rfl) (fun w' hH1 => ?_)
    have hbs := mtBs_none st.H ((List.range bl.length).map some) ((List.range bl.length).map some) bl.length (by simp)
    have hren := @HeapOk.ren (inner F w S hlt ds) w' S1 st.n w _ st.H ((List.range bl.length).map some) (List.replicate bl.length none) hH1 hap (fun i hi => by
     have hi' : i < bl.length := by rw [hbll]; exact hi
     rw [List.getElem?_map, List.getElem?_range hi']; rfl) hbs
    exact ⟨rfl, ouS ds n S (renS ((List.range bl.length).map some) (List.replicate bl.length none) S1), hH.unview hD hlen hall hren⟩
   ·cases hrun
  ·cases hrun
 ·cases hrun

theorem panics_still {P : Program} {f : FuncId} {t : TypeId} {g : GFun}
  (h : ∀ ia bl p r bf, g ia bl = some (p, r, bf) → p → ∃ a b, r = ftA a b ∧ bf = List.replicate bl.length none ∧ apartB ((List.range bl.length).map some) = true ∧ ∀ [Far] (w : World) (S : Lays) (n : Nat) (vs : List Value), vs.length = ia.length → (∀ (i : Nat) (c : AV) (u : Value), ia[i]? = some c → vs[i]? = some u → R w S n c u) →
   Calls P f vs.toArray w fun e w' => e = .panicked (faultE t a b) ∧ w' = w) : Panics P f (Spec.gen g) t := by
 intro args H n p a b o hrun hp F w S vs hH hl hr
 change genRun g (reach args H) args H n = _ at hrun
 unfold genRun at hrun
 generalize reach args H = ds at hrun
 split at hrun
 ·rename_i ia bl hia hbl
  split at hrun
  ·rename_i p' r' bf hg
   split at hrun
   ·rename_i hc
    obtain ⟨hnd, hlen, hall⟩ := hc
    simp only [Option.some.injEq, Prod.mk.injEq] at hrun
    obtain ⟨rfl, hr3, rfl⟩ := hrun
    have hlt : ∀ b, @own F S b → b < w.heap.size := own_lt hH
    obtain ⟨a', b', rfl, rfl, hap, hcall⟩ := h ia bl p' r' bf hg hp
    have hab : a' = a ∧ b' = b := by
     have h0 : ou3 ds n (ftA a' b') = ftA a' b' := rfl
     rw [h0] at hr3
     simp only [ftA, AV.agg.injEq, List.cons.injEq, AV.d.injEq, D.int.injEq, true_and, and_true] at hr3
     exact hr3
    obtain ⟨rfl, rfl⟩ := hab
    obtain ⟨hbll, _⟩ := ixBs_ok hbl
    obtain ⟨hial, hiaR⟩ := ixA_ok hia
    have hD : Handed F H n w S ds := Handed.mk' hH hnd (ixBs_live hbl)
    have h0 := hH.view (hlt := hlt) hnd hbl
    refine Calls.mono (@hcall (inner F w S hlt ds) w (pick ds S) ds.length vs (by omega) fun i c u hi hu => ?_) ?_
    ·obtain ⟨c0, h3, h4⟩ := hiaR i c hi
     exact ix2_ok h4 (hr i c0 _ h3 hu)
    rintro e w' ⟨rfl, rfl⟩
    have hbs := mtBs_none (getB bl) ((List.range bl.length).map some) ((List.range bl.length).map some) bl.length (by simp)
    have hren := @HeapOk.ren (inner F w' S hlt ds) w' (pick ds S) bl.length w' _ (getB bl) ((List.range bl.length).map some) (List.replicate bl.length none) h0 hap (fun i hi => by
     have hi' : i < bl.length := by rw [hbll]; exact hi
     rw [List.getElem?_map, List.getElem?_range hi']; rfl) hbs
    exact ⟨rfl, _, hH.unview hD hlen hall hren⟩
   ·cases hrun
  ·cases hrun
 ·cases hrun

section
variable [Far] {P : Program} {E : Env P} {W0 : World} {M0 : Nat → Prop} {w : World} {S : Lays} {n : Nat} {H : Heap} {fr : Nat → AV} {K : Exit → St → Prop}
def PanO (E : Env P) (o : Oper) (st : St) (K : Exit → St → Prop) : Prop :=
 ∃ (d : Option Tmp) (f : FuncId) (ops : List Operand) (ts : Array TypeId) (t' : TypeId) (p : String) (af : Array Edge) (sp : Spec) (t : TypeId) (q : Prop) (a b : Int) (H' : Heap) (n' : Nat) (D : List Nat), o = ⟨d, .call ⟨.value (.func f), ops.toArray, ts⟩, t', p, af, none⟩ ∧
  Panics P f sp t ∧ enters P f = true ∧ nd st.fr ops ∧ sp.run (ops.map fun x => bare (evO st.fr x)) (restr D st.H) st.n = some (q, ftA a b, some (H', n')) ∧ q ∧ K (.panic (faultE t a b)) ⟨st.fr, merge D st.n st.H H', n'⟩
theorem panO_ok {o : Oper} {st : St} {a : Act} {w : World} (h : PanO E o st K) (hs : Sim W0 M0 E.N st a w) (N : Act → World → Prop) : o.wpIn (fen E.ρ) 0 P a w N (Post E W0 M0 K) := by
 obtain ⟨d, f, ops, ts, t', p, af, sp, t, q, x, y, H', n', D, rfl, hP, hent, hn, hrun, hq, hk⟩ := h
 obtain ⟨S, hH, hF, hM⟩ := hs
 have hE0 := hH.enter D [] (fun i hi => by cases hi)
 have hkl : killL [] S = S := by funext i; simp [killL]
 rw [hkl] at hE0
 have hop : ∀ x ∈ ops, R w S st.n (evO st.fr x) (a.eval x) := fun x _ => evO_ok hH.gl hF.at_ x
 have hvs : ∀ (i : Nat) (c : AV) (u : Value), (ops.map fun x => bare (evO st.fr x))[i]? = some c → (ops.map a.eval)[i]? = some u → R w S st.n c u := fun i c u hc hu => by
  rw [List.getElem?_map] at hc
  rw [List.getElem?_map] at hu
  cases hx : ops[i]? with
  | none => rw [hx] at hc; cases hc
  | some x =>
   rw [hx] at hc hu; cases hc; cases hu
   have hm : x ∈ ops := List.mem_of_getElem? hx
   exact (hop x hm).bare_of (nd_mem hn x hm)
 have hcall := hP _ (restr D st.H) st.n q x y _ hrun hq w S (ops.map a.eval) hE0 (by simp) hvs
 have hex : (execOp a.eval ⟨d, .call ⟨.value (.func f), ops.toArray, ts⟩, t', p, af, none⟩).run P w = .ok (.enter f (ops.map a.eval).toArray) w := by
  simp only [execOp, resolve, Sem.run_bind, show a.eval (.func f) = .func (.func f) #[] #[] from rfl]
  simp [Deferred.ofValue, invoke, enters_run hent]
 refine fen_op (fun c h => by cases h) ?_
 rw [hex, Oper.uponIn_enter]
 refine ⟨fun h => (by cases h), fen_calls (Calls.mono hcall ?_)⟩
 rintro e w' ⟨rfl, S', hL⟩
 have hb := hH.back (D := D) (B := []) (fun i hi => by cases hi) (by rw [hkl]; exact hL)
 rw [show killL [] (merge D st.n st.H (Option.getD (some (H', n')) (restr D st.H, st.n)).1) = merge D st.n st.H H' by funext i; simp [killL]] at hb
 exact ⟨_, hk, S', hb.1, hF.ext hb.2, hM.ext hb.2⟩
theorem AG_pan {calm : List FuncId} {ops : Array Oper} {o : Oper} : ∀ (l : List Oper) (k : Nat) (st : St) (a : Act) (w : World), (∀ j, (l ++ [o])[j]? = some ((l ++ [o]).getD j o) → j < l.length + 1 → ops[k + j]? = (l ++ [o])[j]?) → (∀ o ∈ l, ∀ d, o.dst = some d → d < E.N) → AG W0 M0 false calm E ops (fun st => PanO E o st K) l st → Sim W0 M0 E.N st a w →
  ∀ r, wpOpsIn (fen E.ρ) 0 P ops (Post E W0 M0 K) (List.range' k (l.length + 1 + r)) a w := by
 intro l
 induction l with
 | nil =>
  intro k st a w hl _ h hs r
  have ho : ops[k]? = some o := by have := hl 0 rfl (by simp); simpa using this
  have h : PanO E o st K := h
  have hg : o.guard = none := by obtain ⟨d, f, ops', ts, t', p, af, sp, t, q, x, y, H', n', D, rfl, _⟩ := h; rfl
  have hw : Region.wanted o (yielded ops a.tmps) = true := guard_none (ops := ops) (fr := st.fr) (by rw [hg]; rfl) _
  rw [show [].length + 1 + r = r + 1 by simp; omega, List.range'_succ]
  simp only [wpOpsIn, ho, hw, if_true]
  exact panO_ok h hs _
 | cons o' l ih =>
  intro k st a w hl hd h hs r
  have ho : ops[k]? = some o' := by have := hl 0 rfl (by simp); simpa using this
  have h1 := stepG_ok (h : stepG W0 M0 false calm E ops o' st (AG W0 M0 false calm E ops (fun st => PanO E o st K) l)) (hd o' (by simp)) hs (Post E W0 M0 K)
  have ih' := fun st a w h hs => ih (k + 1) st a w (fun j hj hjl => by
   have := hl (j + 1) (by simpa using hj) (by simpa using hjl)
   rw [show k + (j + 1) = k + 1 + j by omega] at this
   simpa using this) (fun o ho => hd o (by simp [ho])) h hs r
  rw [show (o' :: l).length + 1 + r = (l.length + 1 + r) + 1 by simp; omega, List.range'_succ]
  simp only [wpOpsIn, ho]
  split
  ·rename_i hw
   rw [if_pos hw] at h1
   exact (Oper.wpIn_mono (fun a' w' ⟨st', h2, h3⟩ => ih' _ _ _ h2 h3) h1)
  ·rename_i hw
   rw [if_neg hw] at h1
   obtain ⟨st', h2, h3⟩ := h1
   exact ⟨fun _ _ => trivial, ih' _ _ _ h2 h3⟩
theorem vc_pan (calm : List FuncId) (k : Nat) {id : Nat} {l : List Oper} {o : Oper} (ho : l[k]? = some o) (hok : (l.all fun o => match o.dst with | some d => decide (d < E.N) | none => true) = true) {st : St} {K : Exit → St → Prop} (h : AG W0 M0 false calm E l.toArray (fun st => PanO E o st K) (l.take k) st) : VC E W0 M0 (.region id l.toArray false) st K := by
 intro a w hs
 have hk := (List.getElem?_eq_some_iff.1 ho).1
 have hd : ∀ o ∈ l.take k, ∀ d, o.dst = some d → d < E.N := by
  intro o ho d hd
  have := List.all_eq_true.1 hok o (List.mem_of_mem_take ho)
  rw [hd] at this
  simpa using this
 have ht : l.take k ++ [o] = l.take (k + 1) := by rw [List.take_add_one, ho]; rfl
 refine wpIn_region ?_
 have := AG_pan (E := E) (W0 := W0) (M0 := M0) (ops := l.toArray) (o := o) (l.take k) 0 st a w (fun j _ hj => by
  rw [ht, List.getElem?_take, if_pos (by rw [List.length_take] at hj; omega)]; simp) hd h hs (l.length - (k + 1))
 rw [show (l.take k).length + 1 + (l.length - (k + 1)) = l.length by rw [List.length_take]; omega] at this
 simpa [List.range_eq_range'] using this
end
end Go.Vc
