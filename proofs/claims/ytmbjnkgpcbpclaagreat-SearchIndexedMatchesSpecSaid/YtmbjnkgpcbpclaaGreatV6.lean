/- The Vc layer, part 6. -/
import Derived.Test.YtmbjnkgpcbpclaaGreatV5
import Derived.MapKept
import Derived.Laws.IdiomRangeMap
/- The Vc layer: own rows frozen to data; rows that own slices, kept own with their slices as data. -/
set_option linter.all false
namespace Go.Vc
open Go Go.RowKit
section
variable [Bl] {P : Program} {E : Bq P} {W0 : World} {M0 : Nat → Prop} {w : World} {S : Lays} {n m : Nat} {H : Av} {fr : Nat → AV} {K : St → Prop} {d : Option Tmp} {t t2 t' ty' : TypeId} {p : String} {af : Array Edge} {bl : List (Option B7)} {cd : Code} {Q : Exit → St → Prop}
theorem S9 (hH : Ai W0 M0 H n w S) {id ty sz len : Nat} {xs : List (List D)} (hb : H id = some (.vec ty sz xs)) (hlen : len ≤ xs.length) :
  ∃ S', Ai W0 M0 (rem [id] n [] H) n w S' ∧ Cu w S n w S' n ∧ ∀ v, R w S n (.sl id 0 len) v → R w S' n (.d (.sl (xs.take len))) v := by
 obtain ⟨l, hS, hbox⟩ := hH.box id _ hb
 have hvec : HI w (own S) ty sz (xs.take len) l := BQ.short (ys := xs.drop len) (by rw [List.take_append_drop]; exact hbox)
 have hnew : ∀ c, c < w.heap.size → ¬ own S c → ¬ own (rem [id] n ([] : List Lay) S) c := fun c _ hno ho => by
  rcases ho with ho | ⟨i, l', g1, g2⟩
  ·exact hno (.inl ho)
  ·by_cases hi : i < n
   ·rw [E2 hi] at g1
    split at g1
    ·cases g1
    ·exact hno (.inr ⟨i, l', g1, g2⟩)
   ·rw [Ej (by omega)] at g1; simp at g1
 have tr : ∀ v, R w S n (.sl id 0 len) v → R w (rem [id] n [] S) n (.d (.sl (xs.take len))) v := fun v hv => by
  obtain ⟨l', o, hS', _, rfl, hcap, ho, h0⟩ := hv.sl_live hH hb
  rw [hS] at hS'; cases hS'
  have := Ix hvec hnew (fun c hc => GH hH hS (.inl hc) (by simp) (fun l' h => by cases h)) o (h0 rfl)
  rw [List.length_take, Nat.min_eq_left hlen] at this
  exact .d this
 have key := hH.redeal [id] [] [] H rfl (fun _ i b l _ h _ => .inl h) (fun _ h => h) (fun l' hl' => by cases hl') (fun i j l1 l2 c hi => by simp at hi) (fun l' hl' => by cases hl') (fun i l' b' hb' => by simp at hb') (fun hE i l' b' hb' => by simp at hb')
 exact ⟨_, key.1, key.2, tr⟩
theorem OO {x y : Operand} {q : Prop} {id len n' ty sz : Nat} {H' : Av} {bl2 : List (Option B7)} {xs : List (List D)} (h : E3 E.X.ty (Ax bl) m t (AD (Bc fr x)) (AD (Bc fr y)) = some (q, .sl id 0 len, H', n')) (hn : nd fr [x, y]) (hq : q)
  (h2 : H' = Ax bl2) (hn2 : n' = bl2.length) (hb : Ax bl2 id = some (.vec ty sz xs)) (hlen : len ≤ xs.length) (k : K ⟨putD d (.d (.sl (xs.take len))) fr, Ax (Bk [id] bl2 0), n'⟩) :
  D2 W0 M0 E ⟨d, .call ⟨.builtin .append, #[x, y], #[t, t]⟩, ty', p, af, none⟩ ⟨fr, Ax bl, m⟩ K := by
 subst h2
 refine .value (fun c h => by cases h) fun a w S hH hop => ?_
 have ev : ∀ u ∈ [x, y], R w S m (AD (Bc fr u)) (a.eval u) := fun u hu => (hop u (by simpa [Op.operands, Call.operands] using hu)).bare_of (H8 hn u hu)
 obtain ⟨r, w', S', hrun, h3, h4, h5⟩ := Hx (X := E.X) (ty' := ty') hH h hq (ev x (by simp)) (ev y (by simp))
 obtain ⟨S2, h6, h7, h8⟩ := S9 h3 hb hlen
 rw [Cz _ _ _ hn2] at h6
 simp only [List.map_nil, List.append_nil] at h6
 refine ⟨_, _, _, r, w', S2, ?_, h6, h4.trans h7, h8 r h5, k⟩
 simp only [execOp, resolve, invoke, builtin, Sem.run_bind, Sem.run_pure, Result.andThen_ok, List.map_toArray, List.map_cons, List.map_nil]
 rw [hrun]; rfl
end
end Go.Vc
/- The Vc layer: a closure called with a slice out of a bag, whose result is put back. -/
set_option linter.all false
namespace Go.Vc
open Go Go.RowKit
section
variable [Bl] {P : Program} {E : Bq P} {W0 : World} {M0 : Nat → Prop} {w : World} {S : Lays} {n m : Nat} {H : Av} {fr : Nat → AV} {K : St → Prop} {d : Option Tmp} {t t2 t' ty' : TypeId} {p : String} {af : Array Edge} {bl : List (Option B7)} {cd : Code} {Q : Exit → St → Prop}
end
end Go.Vc
/- The Vc layer: maps from numbers to bools, of the function's own. -/
set_option linter.all false
namespace Go.Vc
open Go Go.RowKit
section
variable [Bl] {P : Program} {E : Bq P} {W0 : World} {M0 : Nat → Prop} {w : World} {S : Lays} {n m : Nat} {H : Av} {fr : Nat → AV} {K : St → Prop} {d : Option Tmp} {t t2 t' ty' kt et : TypeId} {p : String} {af : Array Edge} {bl : List (Option B7)} {cd : Code} {Q : Exit → St → Prop}
theorem D2.skip {o : Oper} {st : St} (hd : ∀ c, o.op ≠ .defer c) (h : ∀ (a : Act) (w : World) (S : Lays), Ai W0 M0 st.H st.n w S → (∀ x ∈ o.op.operands.toList, R w S st.n (Bc st.fr x) (a.eval x)) →
  ∃ H' n' w' S', (execOp a.eval o).run P w = .ok .skip w' ∧ Ai W0 M0 H' n' w' S' ∧ Cu w S st.n w' S' n' ∧ K ⟨putD o.dst .any st.fr, H', n'⟩) : D2 W0 M0 E o st K := by
 intro a w S h1 h2 Q
 obtain ⟨H', n', w', S', e1, e2, e3, e4⟩ := h a w S h1 h2
 refine FY hd ?_
 rw [e1]
 exact ⟨.any, H', n', undef, S', rfl, e2, e3, .any _, e4⟩
end
end Go.Vc
/- The Vc layer: a row of one's own made shorter, over states by lists. -/
set_option linter.all false
namespace Go.Vc
open Go Go.RowKit
section
variable [Bl] {P : Program} {E : Bq P} {W0 : World} {M0 : Nat → Prop} {m : Nat} {fr : Nat → AV} {bl : List (Option B7)} {cd : Code} {Q : Exit → St → Prop}
end
end Go.Vc
/- The Vc layer: a variable as one box of cells; slices that lie in a bag, read and written in place. -/
set_option linter.all false
namespace Go.Vc
open Go Go.RowKit
variable [Bl] {P : Program} {E : Bq P} {W0 : World} {M0 : Nat → Prop} {fr : Nat → AV} {H : Av} {n : Nat} {K : St → Prop} {d : Option Tmp} {ty' t : TypeId} {p : String} {af : Array Edge} {cd : Code} {Q : Exit → St → Prop} {bl : List (Option B7)} {m : Nat}
theorem RU.value {o : Oper} {st : St} {c : AV} (hd : ∀ c, o.op ≠ .defer c) (h : ∀ (H' : Av) (n' : Nat), Ev st.H H' → ∀ (a : Act) (w : World) (S : Lays), Ai W0 M0 H' n' w S → (∀ x ∈ o.op.operands.toList, R w S n' (Bc st.fr x) (a.eval x)) →
  ∃ r, (execOp a.eval o).run P w = .ok (.value r) w ∧ R w S n' c r) : RU W0 M0 E o st c := by
 intro H' n' hle a w S h1 h2 Q
 obtain ⟨r, e1, e2⟩ := h H' n' hle a w S h1 h2
 refine FY hd ?_
 rw [e1]
 exact ⟨r, rfl, rfl, e2⟩
end Go.Vc
/- The Vc layer: interfaces that are nil or not; an array variable sliced as a row; recursion. -/
set_option linter.all false
namespace Go.Vc
open Go Go.RowKit
section
variable [Bl] {P : Program} {E : Bq P} {W0 : World} {M0 : Nat → Prop} {w : World} {S : Lays} {n : Nat} {H : Av} {fr : Nat → AV} {K : St → Prop} {d : Option Tmp} {t t2 t' ty' : TypeId} {p : String} {af : Array Edge}
theorem D2.said {o : Oper} {H2 : Av} (h : ∀ (w : World) (S : Lays), Ai W0 M0 H n w S → Ai W0 M0 H2 n w S) (hs : D2 W0 M0 E o ⟨fr, H2, n⟩ K) : D2 W0 M0 E o ⟨fr, H, n⟩ K :=
 fun a w S h1 h2 Q => hs a w S (h w S h1) h2 Q
theorem KB {o : Oper} {id e sz c : Nat} {xs : List (List D)} (hb : H id = some (.ob (.full e sz xs c))) (hs : D2 W0 M0 E o ⟨fr, CI H id (some (.vec e sz xs)), n⟩ K) : D2 W0 M0 E o ⟨fr, H, n⟩ K :=
 hs.said fun w S h => LP h hb
theorem Hr {e el : TypeId} {sz m by_ : Nat} {z : List D} {xs : List (List D)} (hty : E.X.ty e = some ⟨.array m el, sz, by_, z⟩) (hz : z.map (fun c => [c]) = xs) (hsz : sz = z.length) (h0 : 0 < sz) (hmx : sz ≤ maxLen)
  (k : K ⟨putD d (.ptr n 0 0) fr, CI H n (some (.ob (.full e 1 xs sz))), n + 1⟩) : D2 W0 M0 E ⟨d, .alloc e, ty', p, af, none⟩ ⟨fr, H, n⟩ K := by
 subst hz
 refine .value (fun c h => by cases h) fun a w S hH hop => ?_
 obtain ⟨i, zv, hi, his, _, hzv, hzs, hzero⟩ := (E.X.facts hty).info
 have hzne : z ≠ [] := fun e => by subst e; simp at hsz; omega
 obtain ⟨hzl', hzr⟩ := hzero hzne
 simp only at hzs hzl' his
 obtain ⟨hH', hE⟩ := hH.alloc (w1 := w) ⟨rfl, rfl, rfl, rfl⟩ zv.cells e (.ob (.full e 1 (z.map fun c => [c]) sz)) 1 sz (fun S' n' hE hnew => by
  refine ⟨rfl, rfl, rfl, hmx, by rw [List.length_map]; exact Nat.le_of_eq hsz.symm, fun x hx => ?_, (fun h => by cases h), fun b hb => ?_⟩
  ·obtain ⟨c, _, rfl⟩ := List.mem_map.1 hx; rfl
  ·cases hb
   refine ⟨zv.cells, hnew, by rw [hzs, Nat.mul_one], fun e' f' c hc => ?_⟩
   obtain ⟨x, hx, hf⟩ := B4 hc
   rw [List.getElem?_map] at hx
   cases hd : z[e']? with
   | none => rw [hd] at hx; cases hx
   | some dd =>
    rw [hd] at hx; cases hx
    cases f' with
    | succ f' => simp at hf
    | zero =>
     simp at hf; subst hf
     have hlt : e' < zv.cells.size := by have := (List.getElem?_eq_some_iff.1 hd).1; omega
     have hr := hzr (w.alloc (.cells zv.cells e)) (own S') _ _ _ hd (Array.getElem?_eq_getElem hlt)
     exact ⟨_, by rw [Nat.mul_one, Nat.add_zero]; exact Array.getElem?_eq_getElem hlt, hr⟩)
 refine ⟨.ptr n 0 0, _, _, .pointer (some ⟨w.heap.size, 0, none⟩), w.alloc (.cells zv.cells e), _, ?_, hH', hE, Ai.ptr_new (W0 := W0) (M0 := M0) (k := 0) S, k⟩
 have hzz : (zeroValue e).run P w = .ok zv w := by simp [zeroValue, typeInfo, hi, hzv]
 have : (Instr.alloc e true (.tuple #[])).run P w = .ok (.pointer (some ⟨w.heap.size, 0, none⟩)) (w.alloc (.cells zv.cells e)) := by
  simp only [Instr.alloc, Sem.run_bind, hzz, Result.andThen_ok, newVar, newRow, newObj]
  simp [Sem.run]
 simp only [execOp, Sem.run_bind, this, Result.andThen_ok, Sem.run_pure]
theorem OQ {el : TypeId} {id e sz m by_ c s' b' : Nat} {z z' : List D} {sh : Sh} {xs : List (List D)} {x : Operand} (hx : AD (Bc fr x) = .ptr id 0 0) (hn : Bw (Bc fr x)) (hb : H id = some (.ob (.full e 1 xs c))) (hty : E.X.ty t = some ⟨.array m el, sz, by_, z⟩) (hte : E.X.ty el = some ⟨sh, s', b', z'⟩) (hm : m = c) (h0 : 0 < m) :
  RU W0 M0 E ⟨d, .slice t x none none none, ty', p, af, none⟩ ⟨fr, H, n⟩ (.sl id 0 m) := by
 refine .value (fun c h => by cases h) fun H' n' hle a w S hH hop => ?_
 have hR := (hop x (by simp [Op.operands])).bare_of hn
 rw [hx] at hR
 obtain ⟨l, k, hS, hbox, hk, hv⟩ := hR.ptr_live hH (hle _ _ hb)
 have hc : l.cap = c := hbox.2.1
 refine ⟨.slice (some ⟨k, 0, none⟩) m m, ?_, ?_⟩
 ·have hsz := (E.X.facts hte).sizeOf
  simp only at hsz
  simp only [execOp, hv, Option.map_none]
  unfold Instr.sliceAt
  simp only [Sem.run_bind, run_underlying (E.X.facts hty).array, Result.andThen_ok]
  simp [Instr.sliceBounds, Instr.sureAddr, hsz, Ck]
 ·have := R.sl (w := w) (S := S) (n := n') id 0 m 0 l (hH.lt hS) hS (by omega) (fun _ => by rw [Nat.zero_mul]) (fun _ => rfl)
  rw [hk, show l.cap - 0 = m by omega] at this
  exact this
end
theorem Ks {P : Program} {f : FuncId} {g : DP} (h : ∀ a b p r bf, g a b = some (p, r, bf) → ¬p) : A5 P f (Spec.gen g) := by
 intro args H n p r o hrun hp
 simp only [Spec.gen, Ft] at hrun
 split at hrun
 ·split at hrun
  ·rename_i hg
   split at hrun
   ·simp only [Option.some.injEq, Prod.mk.injEq] at hrun
    obtain ⟨rfl, _⟩ := hrun
    exact absurd hp (h _ _ _ _ _ hg)
   ·cases hrun
  ·cases hrun
 ·cases hrun
theorem O2 {P : Program} {f : FuncId} {g : List AV → Option (Prop × AV)} (h : ∀ a p r, g a = some (p, r) → ¬p) : A5 P f (Spec.pure g) := by
 intro args H n p r o hrun hp
 simp only [Spec.pure] at hrun
 split at hrun
 ·rename_i hg
  simp only [Option.some.injEq, Prod.mk.injEq] at hrun
  obtain ⟨rfl, _⟩ := hrun
  exact absurd hp (h _ _ _ hg)
 ·cases hrun
end Go.Vc
/- The Vc layer: one slice of a bag, which a row holds raw, read as data from now on. -/
set_option linter.all false
namespace Go.Vc
open Go Go.RowKit
section
variable [Bl] {P : Program} {E : Bq P} {W0 : World} {M0 : Nat → Prop} {fr : Nat → AV} {cd : Code} {Q : Exit → St → Prop} {bl : List (Option B7)} {m : Nat}
theorem QC (id b k : Nat) (hm : m = bl.length) {ty ety esz : Nat} {v : Value} {xs ys : List (List D)} (hb : Ax bl id = some (.vec ty 1 xs)) (hk : xs[k]? = some [.raw v]) (hbg : Ax bl b = some (.ob (.bag ety esz [(v, ys)]))) (hne : b ≠ id)
  (h : VC E W0 M0 cd ⟨fr, Ax (Cc (Bk [b] bl 0) id (some (.vec ty 1 (xs.set k [.sl ys])))), m⟩ Q) : VC E W0 M0 cd ⟨fr, Ax bl, m⟩ Q := by
 subst hm
 refine VC.sub ?_ h
 rintro a w ⟨S, hH, hF, hM⟩
 obtain ⟨lb, hSb, hb0, ls, h3, h4, h5⟩ := hH.box b _ hbg
 have hnew : ∀ c, c < w.heap.size → ¬ own S c → ¬ own (rem [b] bl.length ([] : List Lay) S) c := fun c _ hno ho => by
  rcases ho with ho | ⟨i, l', g1, g2⟩
  ·exact hno (.inl ho)
  ·by_cases hi : i < bl.length
   ·rw [E2 hi] at g1
    split at g1
    ·cases g1
    ·exact hno (.inr ⟨i, l', g1, g2⟩)
   ·rw [Ej (by omega)] at g1; simp at g1
 have A9 : RD w (own (rem [b] bl.length ([] : List Lay) S)) (.sl ys) v := by
  have hkl : 0 < ls.length := by rw [h3]; simp
  obtain ⟨g1, g2, g3⟩ := h5 0 ls[0] (v, ys) (List.getElem?_eq_getElem hkl) rfl
  simp only at g2 g3
  rw [g3]
  exact Ix g2 hnew (fun c hc => GH hH hSb (.inr (by rw [h4]; exact List.mem_filterMap.2 ⟨_, List.getElem_mem hkl, hc⟩)) (by simp) (fun l' h => by cases h)) 0 rfl
 have key := hH.redeal [b] [] [] (Ax bl) rfl (fun _ i b l _ h _ => .inl h) (fun _ h => h) (fun l' hl' => by cases hl') (fun i j l1 l2 c hi => by simp at hi) (fun l' hl' => by cases hl') (fun i l' b' hb' => by simp at hb') (fun hE i l' b' hb' => by simp at hb')
 have h1 := key.1
 rw [Cz _ _ _ rfl] at h1
 simp only [List.map_nil, List.append_nil, List.length_nil, Nat.add_zero] at h1
 have hid : Ax (Bk [b] bl 0) id = some (.vec ty 1 xs) := by
  have e := congrFun (Cz bl [b] ([] : List B7) rfl) id
  simp only [List.map_nil, List.append_nil] at e
  rw [← e]
  have hil : id < bl.length := by
   rcases Nat.lt_or_ge id bl.length with hi | hi
   ·exact hi
   ·have : Ax bl id = none := by unfold Ax; rw [List.getElem?_eq_none hi]; rfl
    rw [this] at hb; cases hb
  rw [E2 hil, if_neg (by simpa using fun e => hne e.symm)]
  exact hb
 refine ⟨_, ?_, hF.ext key.2, hM.ext key.2⟩
 rw [← Es]
 refine h1.rebox hid fun l hl hbx hf => ⟨?_, fun _ => hf rfl⟩
 obtain ⟨q1, q2, q3, q4, q5, q6⟩ := hbx
 refine ⟨q1, q2, by rw [List.length_set]; exact q3, fun x hx => ?_, q5, fun c hc => ?_⟩
 ·rcases List.mem_or_eq_of_mem_set hx with hx | rfl
  ·exact q4 x hx
  ·rfl
 ·obtain ⟨cur, e1, e2, e3⟩ := q6 c hc
  refine ⟨cur, e1, e2, fun e f d hh => ?_⟩
  obtain ⟨row, hrow, hf'⟩ := B4 hh
  rw [List.getElem?_set] at hrow
  split at hrow
  ·rename_i hke
   subst hke
   split at hrow
   ·cases hrow
    cases f with
    | succ f => simp at hf'
    | zero =>
     simp at hf'
     subst hf'
     obtain ⟨u, hu, hR⟩ := e3 k 0 (.raw v) (by simp [D4, hk])
     refine ⟨u, hu, ?_⟩
     cases hR
     exact A9
   ·cases hrow
  ·exact e3 e f d (by simp [D4, hrow, hf'])
end
end Go.Vc
/- The Vc layer: contracts that are proved by hand; builders of strings. -/
set_option linter.all false
namespace Go.Vc
open Go Go.RowKit
theorem Gc {P : Program} {f : FuncId} {g : DP}
  (h : ∀ ia bl p r bf, g ia bl = some (p, r, bf) → p → ∀ [Bl] (w : World) (S : Lays) (vs : List Value), Bl.np = bl.length → Bl.pin = S → Bl.marks = true → Ai w (fun b => ∃ j l, S j = some l ∧ l.has b) (Ax bl) bl.length w S → vs.length = ia.length →
   (∀ (i : Nat) (c : AV) (u : Value), ia[i]? = some c → vs[i]? = some u → R w S bl.length c u) →
   Calls P f vs.toArray w fun e w' => ∃ v S', e = .returned v ∧ Ai w (fun b => ∃ j l, S j = some l ∧ l.has b) (Ax bf) bf.length w' S' ∧ R w' S' bf.length r v) : A5 P f (Spec.gen g) := by
 intro args H n p r o hrun hp F w S vs hH hl hr
 have hrun' : Ft g (Jh args H) args H n = some (p, r, o) := hrun
 unfold Ft at hrun'
 generalize Jh args H = ds at hrun'
 split at hrun'
 ·rename_i ia bl hia hbl
  split at hrun'
  ·rename_i p' r' bf hg
   split at hrun'
   ·rename_i hc
    obtain ⟨hnd, hlen, hall⟩ := hc
    simp only [Option.some.injEq, Prod.mk.injEq] at hrun'
    obtain ⟨rfl, rfl, rfl⟩ := hrun'
    have hlt : ∀ b, @own F S b → b < w.heap.size := MO hH
    obtain ⟨hbll, _⟩ := MC hbl
    obtain ⟨hial, hiaR⟩ := UH hia
    have hD : Handed F H n w S ds := Handed.mk' hH hnd (L3 hbl)
    have h0 := hH.view (hlt := hlt) hnd hbl
    have hc := @h ia bl p' r' bf hg hp (A9 F w S hlt ds) w (pick ds S) vs hbll.symm rfl rfl h0 (by omega) (fun i c u hi hu => by
     rw [hbll]
     obtain ⟨c0, h3, h4⟩ := hiaR i c hi
     exact UF h4 (hr i c0 _ h3 hu))
    refine hc.mono ?_
    rintro e w' ⟨v, S2, rfl, hX, hR⟩
    exact ⟨v, Ih ds n S S2, rfl, hH.unview hD hlen hall hX, fun h => (by cases h), Vy hD hH hlen hR⟩
   ·cases hrun'
  ·cases hrun'
 ·cases hrun'
#print axioms Gc
end Go.Vc
/- The Vc layer: functions that end by a panic. -/
set_option linter.all false
namespace Go.Vc
open Go Go.RowKit
section
variable [Bl] {w : World} {S : Lays} {n : Nat}
end
section
variable [Bl] {P : Program} {E : Bq P} {W0 : World} {M0 : Nat → Prop} {w : World} {S : Lays} {n : Nat} {H : Av} {fr : Nat → AV} {K : Exit → St → Prop}
end
