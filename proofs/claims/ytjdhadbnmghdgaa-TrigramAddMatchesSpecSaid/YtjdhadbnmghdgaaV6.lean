/- The Vc layer, part 6. -/
import Derived.Test.YtjdhadbnmghdgaaV5
/- The Vc layer: own rows frozen to data; rows that own slices, kept own with their slices as data. -/
set_option linter.all false
namespace Go.Vc
open Go Go.RowKit

section
variable [Far] {P : Program} {E : Env P} {W0 : World} {M0 : Nat → Prop} {w : World} {S : Lays} {n m : Nat} {H : Heap} {fr : Nat → AV} {K : St → Prop} {d : Option Tmp} {t t2 t' ty' : TypeId} {p : String} {af : Array Edge} {bl : List (Option Box)} {cd : Code} {Q : Exit → St → Prop}

/-- An own row becomes data. -/
theorem freeze_ok (hH : HeapOk W0 M0 H n w S) {id ty sz len : Nat} {xs : List (List D)} (hb : H id = some (.vec ty sz xs)) (hlen : len ≤ xs.length) :
  ∃ S', HeapOk W0 M0 (rem [id] n [] H) n w S' ∧ Ext w S n w S' n ∧ ∀ v, R w S n (.sl id 0 len) v → R w S' n (.d (.sl (xs.take len))) v := by
 obtain ⟨l, hS, hbox⟩ := hH.box id _ hb
 have hvec : VecO w (own S) ty sz (xs.take len) l := BoxOk.short (ys := xs.drop len) (by rw [List.take_append_drop]; exact hbox)
 have hnew : ∀ c, c < w.heap.size → ¬ own S c → ¬ own (rem [id] n ([] : List Lay) S) c := fun c _ hno ho => by
  rcases ho with ho | ⟨i, l', g1, g2⟩
  ·exact hno (.inl ho)
  ·by_cases hi : i < n
   ·rw [rem_lt hi] at g1
    split at g1
    ·cases g1
    ·exact hno (.inr ⟨i, l', g1, g2⟩)
   ·rw [rem_ge (by omega)] at g1; simp at g1
 have tr : ∀ v, R w S n (.sl id 0 len) v → R w (rem [id] n [] S) n (.d (.sl (xs.take len))) v := fun v hv => by
  obtain ⟨l', o, hS', _, rfl, hcap, ho, h0⟩ := hv.sl_live hH hb
  rw [hS] at hS'; cases hS'
  have := vec_data hvec hnew (fun c hc => not_own_rem hH hS (.inl hc) (by simp) (fun l' h => by cases h)) o (h0 rfl)
  rw [List.length_take, Nat.min_eq_left hlen] at this
  exact .d this
 have key := hH.redeal [id] [] [] H rfl (fun _ i b l _ h _ => .inl h) (fun _ h => h) (fun l' hl' => by cases hl') (fun i j l1 l2 c hi => by simp at hi) (fun l' hl' => by cases hl') (fun i l' b' hb' => by simp at hb') (fun hE i l' b' hb' => by simp at hb')
 exact ⟨_, key.1, key.2, tr⟩

/-- append whose result is read as data from now on. -/
theorem sem_appendD {x y : Operand} {q : Prop} {id len n' ty sz : Nat} {H' : Heap} {bl2 : List (Option Box)} {xs : List (List D)} (h : aAppend E.X.ty (getB bl) m t (bare (evO fr x)) (bare (evO fr y)) = some (q, .sl id 0 len, H', n')) (hn : nd fr [x, y]) (hq : q)
  (h2 : H' = getB bl2) (hn2 : n' = bl2.length) (hb : getB bl2 id = some (.vec ty sz xs)) (hlen : len ≤ xs.length) (k : K ⟨putD d (.d (.sl (xs.take len))) fr, getB (kilL [id] bl2 0), n'⟩) :
  SemO W0 M0 E ⟨d, .call ⟨.builtin .append, #[x, y], #[t, t]⟩, ty', p, af, none⟩ ⟨fr, getB bl, m⟩ K := by
 subst h2
 refine .value (fun c h => by cases h) fun a w S hH hop => ?_
 have ev : ∀ u ∈ [x, y], R w S m (bare (evO fr u)) (a.eval u) := fun u hu => (hop u (by simpa [Op.operands, Call.operands] using hu)).bare_of (nd_mem hn u hu)
 obtain ⟨r, w', S', hrun, h3, h4, h5⟩ := aAppend_ok (X := E.X) (ty' := ty') hH h hq (ev x (by simp)) (ev y (by simp))
 obtain ⟨S2, h6, h7, h8⟩ := freeze_ok h3 hb hlen
 rw [rem_list _ _ _ hn2] at h6
 simp only [List.map_nil, List.append_nil] at h6
 refine ⟨_, _, _, r, w', S2, ?_, h6, h4.trans h7, h8 r h5, k⟩
 simp only [execOp, resolve, invoke, builtin, Sem.run_bind, Sem.run_pure, Result.andThen_ok, List.map_toArray, List.map_cons, List.map_nil]
 rw [hrun]; rfl

/-- A row that owns slices, as an own row whose slices are data. -/
theorem plain_ok (hH : HeapOk W0 M0 H n w S) (G : Heap) (hGl : ∀ i, (G i).isSome = true → (H i).isSome = true) {id ty sz f ety esz off len : Nat} {ps : List (List D × List (List D))} (hb : H id = some (.ob (.uv ty sz f ety esz ps)))
  (hG : ∀ S', Turns H G [id] w S S' n (n + 1) (.sl id off len) (.sl n off len)) :
  ∃ S', HeapOk W0 M0 (rem [id] n [.vec ty sz (dataR f ps)] G) (n + 1) w S' ∧ Ext w S n w S' (n + 1) ∧ ∀ v, R w S n (.sl id off len) v → R w S' (n + 1) (.sl n off len) v := by
 obtain ⟨l, hS, vs, h1, h2, ls, h3, h4, h5⟩ := hH.box id _ hb
 have hnd := hH.nod id l hS
 have tr : ∀ v, R w S n (.sl id off len) v → R w (rem [id] n [⟨l.blk, l.sz, l.cap, []⟩] S) (n + 1) (.sl n off len) v := fun v hv => by
  obtain ⟨l', o, hS', _, rfl, hcap, ho, h0⟩ := hv.sl_live hH hb
  rw [hS] at hS'; cases hS'
  exact .sl n off len o ⟨l.blk, l.sz, l.cap, []⟩ (by omega) (by rw [rem_ge (Nat.le_refl _)]; simp) hcap ho h0
 have nown : ∀ c, c ∈ l.subs → ¬ own (rem [id] n [(⟨l.blk, l.sz, l.cap, []⟩ : Lay)] S) c := fun c hc => not_own_rem hH hS (.inr hc) (by simp) (fun l' h => by
  simp only [List.mem_cons, List.not_mem_nil, or_false] at h
  subst h
  rintro (h | h)
  ·exact hnd.2 c h hc
  ·cases h)
 have hnew : ∀ c, c < w.heap.size → ¬ own S c → ¬ own (rem [id] n [(⟨l.blk, l.sz, l.cap, []⟩ : Lay)] S) c := fun c _ hno ho => by
  rcases ho with ho | ⟨i, l', g1, g2⟩
  ·exact hno (.inl ho)
  ·by_cases hi : i < n
   ·rw [rem_lt hi] at g1
    split at g1
    ·cases g1
    ·exact hno (.inr ⟨i, l', g1, g2⟩)
   ·rw [rem_ge (by omega)] at g1
    have hm := List.mem_of_getElem? g1
    simp only [List.mem_cons, List.not_mem_nil, or_false] at hm
    subst hm
    exact hno (.inr ⟨id, l, hS, .inl (g2.elim (fun h => h) (fun h => by cases h))⟩)
 have inner : ∀ (k : Nat) (q : List D × List (List D)) (v : Value), ps[k]? = some q → vs[k]? = some v → RD w (own (rem [id] n [(⟨l.blk, l.sz, l.cap, []⟩ : Lay)] S)) (.sl q.2) v := fun k q v hq hv => by
  have hm : (rawB ps vs)[k]? = some (v, q.2) := by simp [rawB, List.getElem?_zipWith, hq, hv]
  have hkl : k < ls.length := by rw [h3]; exact (List.getElem?_eq_some_iff.1 hm).1
  obtain ⟨g1, g2, g3⟩ := h5 k ls[k] (v, q.2) (List.getElem?_eq_getElem hkl) hm
  simp only at g2 g3
  rw [g3]
  exact vec_data g2 hnew (fun c hc => nown c (by rw [h4]; exact List.mem_filterMap.2 ⟨_, List.getElem_mem hkl, hc⟩)) 0 rfl
 have hrl : (rawR f ps vs).length = ps.length := by simp [rawR, h1]
 have hdl : (dataR f ps).length = ps.length := by simp [dataR]
 have outer : VecO w (own (rem [id] n [(⟨l.blk, l.sz, l.cap, []⟩ : Lay)] S)) ty sz (dataR f ps) l := by
  obtain ⟨q1, q2, q3, q4, q5, q6⟩ := h2
  refine ⟨q1, q2, by omega, fun x hx => ?_, q5, fun c hc => ?_⟩
  ·obtain ⟨q, hq, rfl⟩ := List.mem_map.1 hx
   obtain ⟨k, hk⟩ := List.getElem?_of_mem hq
   obtain ⟨v, hv⟩ : ∃ v, vs[k]? = some v := ⟨_, List.getElem?_eq_getElem (by rw [h1]; exact (List.getElem?_eq_some_iff.1 hk).1)⟩
   have := q4 (q.1.set f (.raw v)) (List.mem_of_getElem? (i := k) (by simp [rawR, List.getElem?_zipWith, hk, hv]))
   simpa using this
  ·obtain ⟨cur, e1, e2, e3⟩ := q6 c hc
   refine ⟨cur, e1, e2, fun e g x hh => ?_⟩
   obtain ⟨row, hrow, hg⟩ := at2_some hh
   obtain ⟨q, hq, rfl⟩ : ∃ q, ps[e]? = some q ∧ q.1.set f (.sl q.2) = row := by
    simp only [dataR, List.getElem?_map, Option.map_eq_some_iff] at hrow; exact hrow
   obtain ⟨v, hv⟩ : ∃ v, vs[e]? = some v := ⟨_, List.getElem?_eq_getElem (by rw [h1]; exact (List.getElem?_eq_some_iff.1 hq).1)⟩
   have hraw : (rawR f ps vs)[e]? = some (q.1.set f (.raw v)) := by simp [rawR, List.getElem?_zipWith, hq, hv]
   rw [List.getElem?_set] at hg
   split at hg
   ·rename_i hfg
    subst hfg
    split at hg
    ·rename_i hlt
     cases hg
     obtain ⟨u, hu, hR⟩ := e3 e f (.raw v) (by simp [at2, hraw, List.getElem?_set, hlt])
     cases hR
     exact ⟨_, hu, inner e q _ hq hv⟩
    ·cases hg
   ·rename_i hfg
    obtain ⟨u, hu, hR⟩ := e3 e g x (by simp [at2, hraw, List.getElem?_set, hfg, hg])
    exact ⟨u, hu, hR.extC (Nat.le_refl _) (fun _ _ _ _ _ h => h) hnew⟩
 have key := hH.redeal [id] [.vec ty sz (dataR f ps)] [⟨l.blk, l.sz, l.cap, []⟩] G rfl (fun hE => hG _ tr hE) hGl (fun l' hl' c hc => ?_) (fun i j l1 l2 c hi hj g1 g2 => ?_) (fun l' hl' => ?_) (fun i l' b' hb' hl' hf => ?_) (fun hE i l' b' hb' hl' => ?_)
 ·exact ⟨_, key.1, key.2, tr⟩
 ·simp only [List.mem_cons, List.not_mem_nil, or_false] at hl'
  subst hl'
  exact ⟨id, by simp, l, hS, .inl (hc.elim (fun h => h) (fun h => by cases h)), by rw [hb]; rfl⟩
 ·have := (List.getElem?_eq_some_iff.1 hi).1
  have := (List.getElem?_eq_some_iff.1 hj).1
  simp at *; omega
 ·simp only [List.mem_cons, List.not_mem_nil, or_false] at hl'
  subst hl'; exact ⟨List.nodup_nil, fun _ _ h => by cases h⟩
 ·have : i < 1 := (List.getElem?_eq_some_iff.1 hl').1
  obtain rfl : i = 0 := by omega
  simp only [List.getElem?_cons_zero, Option.some.injEq] at hl'; subst hl'; rfl
 ·have : i < 1 := (List.getElem?_eq_some_iff.1 hl').1
  obtain rfl : i = 0 := by omega
  simp only [List.getElem?_cons_zero, Option.some.injEq] at hb' hl'; subst hb'; subst hl'
  exact outer

theorem vc_plain1 (x g : Nat) (hm : m = bl.length) {id tx ty sz f ety esz len : Nat} {ps : List (List D × List (List D))} {cells : List AV} (hx : getB bl x = some (.one tx cells)) (hg : cells[g]? = some (.sl id 0 len)) (hb : getB bl id = some (.ob (.uv ty sz f ety esz ps)))
  (h : VC E W0 M0 cd ⟨fr, getB (kilL [id] (updL bl x (some (.one tx (cells.set g (.sl m 0 len))))) 0 ++ [some (.vec ty sz (dataR f ps))]), m + 1⟩ Q) : VC E W0 M0 cd ⟨fr, getB bl, m⟩ Q := by
 refine VC.sub ?_ h
 rintro a w ⟨S, hH, hF, hM⟩
 obtain ⟨S', h2, h3, _⟩ := plain_ok hH (upd (getB bl) x (some (.one tx (cells.set g (.sl m 0 len))))) (live_cell hx) hb (fun S' => turns_cell hH hx hg [id] S' (m + 1))
 refine ⟨S', ?_, hF.ext h3, hM.ext h3⟩
 rw [upd_getB, rem_list _ _ _ (by rw [updL_length _ _ _ (getB_lt hx)]; exact hm)] at h2
 exact h2
end
end Go.Vc
/- The Vc layer: a closure called with a slice out of a bag, whose result is put back. -/
set_option linter.all false
namespace Go.Vc
open Go Go.RowKit

section
variable [Far] {P : Program} {E : Env P} {W0 : World} {M0 : Nat → Prop} {w : World} {S : Lays} {n m : Nat} {H : Heap} {fr : Nat → AV} {K : St → Prop} {d : Option Tmp} {t t2 t' ty' : TypeId} {p : String} {af : Array Edge} {bl : List (Option Box)} {cd : Code} {Q : Exit → St → Prop}

theorem sem_clo_bag (b : Nat) (D0 : List Nat) (hm : m = bl.length) {f : FuncId} {sp : Spec} (hf : E.Γ f = some sp) {x : Operand} {cap : List AV} (hcl : bare (evO fr x) = .clo (.func f) cap) (hnx : needs (evO fr x)) {ops : List Operand} {ts : Array TypeId} {args : List AV} (ha : (ops.map fun x => bare (evO fr x)) = args) (hn : nd fr ops) {ety esz : Nat} {m1 m2 : List (Value × List (List D))} {v : Value} {ys : List (List D)} {mb : List (Value × List (List D))} (hb0 : getB bl b = some (.ob (.bag ety esz mb))) (hmb : mb = m1 ++ (v, ys) :: m2)
  (ai : Nat) (hai : args[ai]? = some (.d (.raw v))) {bl1 : List (Option Box)} (hb1 : kilL [b] bl 0 ++ [some (.vec ety esz ys), some (.ob (.bag ety esz (m1 ++ m2)))] = bl1)
  {q : Prop} {H' : Heap} {n' j len : Nat} {bl2 : List (Option Box)} {xs : List (List D)}
  (hrun : sp.run (args.set ai (.sl m 0 ys.length) ++ cap) (restr (m :: D0) (getB bl1)) (m + 2) = some (q, .sl j 0 len, some (H', n'))) (hq : q) (h2 : merge (m :: D0) (m + 2) (getB bl1) H' = getB bl2) (hn2 : n' = bl2.length) (hj : getB bl2 j = some (.vec ety esz xs)) (hb : getB bl2 (m + 1) = some (.ob (.bag ety esz (m1 ++ m2)))) (hbj : m + 1 ≠ j) (hlen : len ≤ xs.length)
  (k : ∀ v', K ⟨putD d (.d (.raw v')) fr, getB (kilL [m + 1, j] bl2 0 ++ [some (.ob (.bag ety esz (m1 ++ (v', xs.take len) :: m2)))]), n' + 1⟩) : SemO W0 M0 E ⟨d, .call ⟨.value x, ops.toArray, ts⟩, t', p, af, none⟩ ⟨fr, getB bl, m⟩ K := by
 subst hmb
 intro a w S hH hop Q
 obtain ⟨S1, hH1, hE1, hR1⟩ := steal_ok hH hb0
 rw [rem_list _ _ _ hm] at hH1
 simp only [List.map_cons, List.map_nil] at hH1
 rw [hb1] at hH1
 have rf := (hop x (by simp [Op.operands, Call.operands])).bare_of hnx
 rw [hcl] at rf
 generalize hvf : a.eval x = vf at rf
 cases rf with | clo _ _ us hul hur =>
 have hvs : ∀ (i : Nat) (c : AV) (u : Value), (args.set ai (.sl m 0 ys.length) ++ cap)[i]? = some c → (ops.map a.eval ++ us)[i]? = some u → R w S1 (m + 2) c u := fun i c u hc hu => by
  have hal : args.length = ops.length := by rw [← ha]; simp
  by_cases hi : i < ops.length
  ·rw [List.getElem?_append_left (by simpa [hal] using hi)] at hc
   rw [List.getElem?_append_left (by simpa using hi)] at hu
   have base : ∀ c0, args[i]? = some c0 → R w S m c0 u := fun c0 h0 => by
    rw [← ha, List.getElem?_map] at h0
    rw [List.getElem?_map] at hu
    cases hx : ops[i]? with
    | none => rw [hx] at h0; cases h0
    | some x =>
     rw [hx] at h0 hu; cases h0; cases hu
     have hm : x ∈ ops := List.mem_of_getElem? hx
     exact (hop x (by simp only [Op.operands, Call.operands, Array.toList_append, List.mem_append]; exact .inr (by simpa using hm))).bare_of (nd_mem hn x hm)
   rw [List.getElem?_set] at hc
   split at hc
   ·rename_i hi
    subst hi
    split at hc
    ·cases hc
     have := base _ hai
     cases this with | d h =>
     cases h
     exact hR1
    ·cases hc
   ·exact hE1.r (base c hc)
  ·rw [List.getElem?_append_right (by simpa [hal] using hi)] at hc
   rw [List.getElem?_append_right (by simpa using hi)] at hu
   simp only [List.length_set, List.length_map, hal] at hc hu
   exact hE1.r (hur _ c u hc hu)
 have hcall := run_callD hH1 hf (m :: D0) (vals := ops.map a.eval ++ us) (by rw [← ha]; simp [hul]) hvs hrun hq
 have hex : (execOp a.eval ⟨d, .call ⟨.value x, ops.toArray, ts⟩, t', p, af, none⟩).run P w = .ok (.enter f (ops.map a.eval ++ us).toArray) w := by
  simp only [execOp, resolve, Sem.run_bind, hvf]
  simp [Deferred.ofValue, invoke, enters_run (E.ent f sp hf)]
 refine fen_op (fun c h => by cases h) ?_
 rw [hex, Oper.uponIn_enter]
 refine ⟨fun h => (by cases h), fen_calls (Calls.mono hcall ?_)⟩
 rintro e w' ⟨v, S', rfl, h3, h4, h5⟩
 rw [h2] at h3
 obtain ⟨h6, S2, h7, h8⟩ := put_ok h3 hbj hb hj h5 hlen
 rw [rem_list _ _ _ hn2] at h7
 exact ⟨_, _, _, v, S2, rfl, h7, (hE1.trans h4).trans h8, .d (.raw v h6), k v⟩
end
end Go.Vc
