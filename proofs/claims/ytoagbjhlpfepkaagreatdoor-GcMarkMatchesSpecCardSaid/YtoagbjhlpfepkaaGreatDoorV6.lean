/- The Vc layer, part 6. -/
import Derived.Test.YtoagbjhlpfepkaaGreatDoorV5
import Derived.MapKept
import Derived.Laws.IdiomRangeMap
/- The Vc layer: own rows frozen to data; rows that own slices, kept own with their slices as data. -/
set_option linter.all false
namespace Go.Vc
open Go Go.RowKit

section
variable [Far] {P : Program} {E : Env P} {W0 : World} {M0 : Nat → Prop} {w : World} {S : Lays} {n m : Nat} {H : Heap} {fr : Nat → AV} {K : St → Prop} {d : Option Tmp} {t t2 t' ty' : TypeId} {p : String} {af : Array Edge} {bl : List (Option Box)} {cd : Code} {Q : Exit → St → Prop}

/-- An own row becomes data. -/
theorem freeze_ok (hH : HeapOk W0 M0 H n w S) {id ty sz len : Nat} {xs : List (List D)} (hb : H id = some (.vec ty sz xs)) (hlen : len ≤ xs.length) :
    ∃ S', HeapOk W0 M0 (rem [id] n [] H) n w S' ∧ Ext w S n w S' n ∧ ∀ v, R w S n (.sl id 0 len) v → R w S' n (.d (.sl (xs.take len))) v := by
  obtain ⟨l, hS, hbox⟩ := hH.box id _ hb
  have hvec : VecO w (own S) ty sz (xs.take len) l := BoxOk.short (ys := xs.drop len) (by rw [List.take_append_drop]; exact hbox)
  have hnew : ∀ c, c < w.heap.size → ¬ own S c → ¬ own (rem [id] n ([] : List Lay) S) c := fun c _ hno ho => by
    rcases ho with ho | ⟨i, l', g1, g2⟩
    · exact hno (.inl ho)
    · by_cases hi : i < n
      · rw [rem_lt hi] at g1
        split at g1
        · cases g1
        · exact hno (.inr ⟨i, l', g1, g2⟩)
      · rw [rem_ge (by omega)] at g1; simp at g1
  have tr : ∀ v, R w S n (.sl id 0 len) v → R w (rem [id] n [] S) n (.d (.sl (xs.take len))) v := fun v hv => by
    obtain ⟨l', o, hS', _, rfl, hcap, ho, h0⟩ := hv.sl_live hH hb
    rw [hS] at hS'; cases hS'
    have := vec_data hvec hnew (fun c hc => not_own_rem hH hS (.inl hc) (by simp) (fun l' h => by cases h)) o (h0 rfl)
    rw [List.length_take, Nat.min_eq_left hlen] at this
    exact .d this
  have key := hH.redeal [id] [] [] H rfl (fun _ i b l _ h _ => .inl h) (fun _ h => h) (fun l' hl' => by cases hl') (fun i j l1 l2 c hi => by simp at hi) (fun l' hl' => by cases hl') (fun i l' b' hb' => by simp at hb') (fun hE i l' b' hb' => by simp at hb')
  exact ⟨_, key.1, key.2, tr⟩

/-- append whose result is read as data from now on. -/
theorem sem_appendD {x y : Operand} {q : Prop} {id len n' ty sz : Nat} {H' : Heap} {bl2 : List (Option Box)} {xs : List (List D)} (h : aAppend E.X.ty (getB bl) m t (bare (evO fr x)) (bare (evO fr y)) = some (q, .sl id 0 len, H', n')) (hn : nd fr [x, y]) (hq : q)
    (h2 : H' = getB bl2) (hn2 : n' = bl2.length) (hb : getB bl2 id = some (.vec ty sz xs)) (hlen : len ≤ xs.length) (k : K ⟨putD d (.d (.sl (xs.take len))) fr, getB (kilL [id] bl2 0), n'⟩) :
    SemO W0 M0 E ⟨d, .call ⟨.builtin .append, #[x, y], #[t, t]⟩, ty', p, af, none⟩ ⟨fr, getB bl, m⟩ K := by
  subst h2
  refine .value (fun c h => by cases h) fun a w S hH hop => ?_
  have ev : ∀ u ∈ [x, y], R w S m (bare (evO fr u)) (a.eval u) := fun u hu => (hop u (by simpa [Op.operands, Call.operands] using hu)).bare_of (nd_mem hn u hu)
  obtain ⟨r, w', S', hrun, h3, h4, h5⟩ := aAppend_ok (X := E.X) (ty' := ty') hH h hq (ev x (by simp)) (ev y (by simp))
  obtain ⟨S2, h6, h7, h8⟩ := freeze_ok h3 hb hlen
  rw [rem_list _ _ _ hn2] at h6
  simp only [List.map_nil, List.append_nil] at h6
  refine ⟨_, _, _, r, w', S2, ?_, h6, h4.trans h7, h8 r h5, k⟩
  simp only [execOp, resolve, invoke, builtin, Sem.run_bind, Sem.run_pure, Result.andThen_ok, List.map_toArray, List.map_cons, List.map_nil]
  rw [hrun]; rfl

/-- A row that owns slices, as an own row whose slices are data. -/
theorem plain_ok (hH : HeapOk W0 M0 H n w S) (G : Heap) (hGl : ∀ i, (G i).isSome = true → (H i).isSome = true) {id ty sz f ety esz off len : Nat} {ps : List (List D × List (List D))} (hb : H id = some (.ob (.uv ty sz f ety esz ps)))
    (hG : ∀ S', Turns H G [id] w S S' n (n + 1) (.sl id off len) (.sl n off len)) :
    ∃ S', HeapOk W0 M0 (rem [id] n [.vec ty sz (dataR f ps)] G) (n + 1) w S' ∧ Ext w S n w S' (n + 1) ∧ ∀ v, R w S n (.sl id off len) v → R w S' (n + 1) (.sl n off len) v := by
  obtain ⟨l, hS, vs, h1, h2, ls, h3, h4, h5⟩ := hH.box id _ hb
  have hnd := hH.nod id l hS
  have tr : ∀ v, R w S n (.sl id off len) v → R w (rem [id] n [⟨l.blk, l.sz, l.cap, []⟩] S) (n + 1) (.sl n off len) v := fun v hv => by
    obtain ⟨l', o, hS', _, rfl, hcap, ho, h0⟩ := hv.sl_live hH hb
    rw [hS] at hS'; cases hS'
    exact .sl n off len o ⟨l.blk, l.sz, l.cap, []⟩ (by omega) (by rw [rem_ge (Nat.le_refl _)]; simp) hcap ho h0
  have nown : ∀ c, c ∈ l.subs → ¬ own (rem [id] n [(⟨l.blk, l.sz, l.cap, []⟩ : Lay)] S) c := fun c hc => not_own_rem hH hS (.inr hc) (by simp) (fun l' h => by
    simp only [List.mem_cons, List.not_mem_nil, or_false] at h
    subst h
    rintro (h | h)
    · exact hnd.2 c h hc
    · cases h)
  have hnew : ∀ c, c < w.heap.size → ¬ own S c → ¬ own (rem [id] n [(⟨l.blk, l.sz, l.cap, []⟩ : Lay)] S) c := fun c _ hno ho => by
    rcases ho with ho | ⟨i, l', g1, g2⟩
    · exact hno (.inl ho)
    · by_cases hi : i < n
      · rw [rem_lt hi] at g1
        split at g1
        · cases g1
        · exact hno (.inr ⟨i, l', g1, g2⟩)
      · rw [rem_ge (by omega)] at g1
        have hm := List.mem_of_getElem? g1
        simp only [List.mem_cons, List.not_mem_nil, or_false] at hm
        subst hm
        exact hno (.inr ⟨id, l, hS, .inl (g2.elim (fun h => h) (fun h => by cases h))⟩)
  have inner : ∀ (k : Nat) (q : List D × List (List D)) (v : Value), ps[k]? = some q → vs[k]? = some v → RD w (own (rem [id] n [(⟨l.blk, l.sz, l.cap, []⟩ : Lay)] S)) (.sl q.2) v := fun k q v hq hv => by
    have hm : (rawB ps vs)[k]? = some (v, q.2) := by simp [rawB, List.getElem?_zipWith, hq, hv]
    have hkl : k < ls.length := by rw [h3]; exact (List.getElem?_eq_some_iff.1 hm).1
    obtain ⟨g1, g2, g3⟩ := h5 k ls[k] (v, q.2) (List.getElem?_eq_getElem hkl) hm
    simp only at g2 g3
    rw [g3]
    exact vec_data g2 hnew (fun c hc => nown c (by rw [h4]; exact List.mem_filterMap.2 ⟨_, List.getElem_mem hkl, hc⟩)) 0 rfl
  have hrl : (rawR f ps vs).length = ps.length := by simp [rawR, h1]
  have hdl : (dataR f ps).length = ps.length := by simp [dataR]
  have outer : VecO w (own (rem [id] n [(⟨l.blk, l.sz, l.cap, []⟩ : Lay)] S)) ty sz (dataR f ps) l := by
    obtain ⟨q1, q2, q3, q4, q5, q6⟩ := h2
    refine ⟨q1, q2, by omega, fun x hx => ?_, q5, fun c hc => ?_⟩
    · obtain ⟨q, hq, rfl⟩ := List.mem_map.1 hx
      obtain ⟨k, hk⟩ := List.getElem?_of_mem hq
      obtain ⟨v, hv⟩ : ∃ v, vs[k]? = some v := ⟨_, List.getElem?_eq_getElem (by rw [h1]; exact (List.getElem?_eq_some_iff.1 hk).1)⟩
      have := q4 (q.1.set f (.raw v)) (List.mem_of_getElem? (i := k) (by simp [rawR, List.getElem?_zipWith, hk, hv]))
      simpa using this
    · obtain ⟨cur, e1, e2, e3⟩ := q6 c hc
      refine ⟨cur, e1, e2, fun e g x hh => ?_⟩
      obtain ⟨row, hrow, hg⟩ := at2_some hh
      obtain ⟨q, hq, rfl⟩ : ∃ q, ps[e]? = some q ∧ q.1.set f (.sl q.2) = row := by
        simp only [dataR, List.getElem?_map, Option.map_eq_some_iff] at hrow; exact hrow
      obtain ⟨v, hv⟩ : ∃ v, vs[e]? = some v := ⟨_, List.getElem?_eq_getElem (by rw [h1]; exact (List.getElem?_eq_some_iff.1 hq).1)⟩
      have hraw : (rawR f ps vs)[e]? = some (q.1.set f (.raw v)) := by simp [rawR, List.getElem?_zipWith, hq, hv]
      rw [List.getElem?_set] at hg
      split at hg
      · rename_i hfg
        subst hfg
        split at hg
        · rename_i hlt
          cases hg
          obtain ⟨u, hu, hR⟩ := e3 e f (.raw v) (by simp [at2, hraw, List.getElem?_set, hlt])
          cases hR
          exact ⟨_, hu, inner e q _ hq hv⟩
        · cases hg
      · rename_i hfg
        obtain ⟨u, hu, hR⟩ := e3 e g x (by simp [at2, hraw, List.getElem?_set, hfg, hg])
        exact ⟨u, hu, hR.extC (Nat.le_refl _) (fun _ _ _ _ _ h => h) hnew⟩
  have key := hH.redeal [id] [.vec ty sz (dataR f ps)] [⟨l.blk, l.sz, l.cap, []⟩] G rfl (fun hE => hG _ tr hE) hGl (fun l' hl' c hc => ?_) (fun i j l1 l2 c hi hj g1 g2 => ?_) (fun l' hl' => ?_) (fun i l' b' hb' hl' hf => ?_) (fun hE i l' b' hb' hl' => ?_)
  · exact ⟨_, key.1, key.2, tr⟩
  · simp only [List.mem_cons, List.not_mem_nil, or_false] at hl'
    subst hl'
    exact ⟨id, by simp, l, hS, .inl (hc.elim (fun h => h) (fun h => by cases h)), by rw [hb]; rfl⟩
  · have := (List.getElem?_eq_some_iff.1 hi).1
    have := (List.getElem?_eq_some_iff.1 hj).1
    simp at *; omega
  · simp only [List.mem_cons, List.not_mem_nil, or_false] at hl'
    subst hl'; exact ⟨List.nodup_nil, fun _ _ h => by cases h⟩
  · have : i < 1 := (List.getElem?_eq_some_iff.1 hl').1
    obtain rfl : i = 0 := by omega
    simp only [List.getElem?_cons_zero, Option.some.injEq] at hl'; subst hl'; rfl
  · have : i < 1 := (List.getElem?_eq_some_iff.1 hl').1
    obtain rfl : i = 0 := by omega
    simp only [List.getElem?_cons_zero, Option.some.injEq] at hb' hl'; subst hb'; subst hl'
    exact outer

theorem vc_plain1 (x g : Nat) (hm : m = bl.length) {id tx ty sz f ety esz len : Nat} {ps : List (List D × List (List D))} {cells : List AV} (hx : getB bl x = some (.one tx cells)) (hg : cells[g]? = some (.sl id 0 len)) (hb : getB bl id = some (.ob (.uv ty sz f ety esz ps)))
    (h : VC E W0 M0 cd ⟨fr, getB (kilL [id] (updL bl x (some (.one tx (cells.set g (.sl m 0 len))))) 0 ++ [some (.vec ty sz (dataR f ps))]), m + 1⟩ Q) : VC E W0 M0 cd ⟨fr, getB bl, m⟩ Q := by
  refine VC.sub ?_ h
  rintro a w ⟨S, hH, hF, hM⟩
  obtain ⟨S', h2, h3, _⟩ := plain_ok hH (upd (getB bl) x (some (.one tx (cells.set g (.sl m 0 len))))) (live_cell hx) hb (fun S' => turns_cell hH hx hg [id] S' (m + 1))
  refine ⟨S', ?_, hF.ext h3, hM.ext h3⟩
  rw [upd_getB, rem_list _ _ _ (by rw [updL_length _ _ _ (getB_lt hx)]; exact hm)] at h2
  exact h2
end
end Go.Vc
/- The Vc layer: a closure called with a slice out of a bag, whose result is put back. -/
set_option linter.all false
namespace Go.Vc
open Go Go.RowKit

section
variable [Far] {P : Program} {E : Env P} {W0 : World} {M0 : Nat → Prop} {w : World} {S : Lays} {n m : Nat} {H : Heap} {fr : Nat → AV} {K : St → Prop} {d : Option Tmp} {t t2 t' ty' : TypeId} {p : String} {af : Array Edge} {bl : List (Option Box)} {cd : Code} {Q : Exit → St → Prop}

theorem sem_clo_bag (b : Nat) (D0 : List Nat) (hm : m = bl.length) {f : FuncId} {sp : Spec} (hf : E.Γ f = some sp) {x : Operand} {cap : List AV} (hcl : bare (evO fr x) = .clo (.func f) cap) (hnx : needs (evO fr x)) {ops : List Operand} {ts : Array TypeId} {args : List AV} (ha : (ops.map fun x => bare (evO fr x)) = args) (hn : nd fr ops) {ety esz : Nat} {m1 m2 : List (Value × List (List D))} {v : Value} {ys : List (List D)} {mb : List (Value × List (List D))} (hb0 : getB bl b = some (.ob (.bag ety esz mb))) (hmb : mb = m1 ++ (v, ys) :: m2)
    (ai : Nat) (hai : args[ai]? = some (.d (.raw v))) {bl1 : List (Option Box)} (hb1 : kilL [b] bl 0 ++ [some (.vec ety esz ys), some (.ob (.bag ety esz (m1 ++ m2)))] = bl1)
    {q : Prop} {H' : Heap} {n' j len : Nat} {bl2 : List (Option Box)} {xs : List (List D)}
    (hrun : sp.run (args.set ai (.sl m 0 ys.length) ++ cap) (restr (m :: D0) (getB bl1)) (m + 2) = some (q, .sl j 0 len, some (H', n'))) (hq : q) (h2 : merge (m :: D0) (m + 2) (getB bl1) H' = getB bl2) (hn2 : n' = bl2.length) (hj : getB bl2 j = some (.vec ety esz xs)) (hb : getB bl2 (m + 1) = some (.ob (.bag ety esz (m1 ++ m2)))) (hbj : m + 1 ≠ j) (hlen : len ≤ xs.length)
    (k : ∀ v', K ⟨putD d (.d (.raw v')) fr, getB (kilL [m + 1, j] bl2 0 ++ [some (.ob (.bag ety esz (m1 ++ (v', xs.take len) :: m2)))]), n' + 1⟩) : SemO W0 M0 E ⟨d, .call ⟨.value x, ops.toArray, ts⟩, t', p, af, none⟩ ⟨fr, getB bl, m⟩ K := by
  subst hmb
  intro a w S hH hop Q
  obtain ⟨S1, hH1, hE1, hR1⟩ := steal_ok hH hb0
  rw [rem_list _ _ _ hm] at hH1
  simp only [List.map_cons, List.map_nil] at hH1
  rw [hb1] at hH1
  have rf := (hop x (by simp [Op.operands, Call.operands])).bare_of hnx
  rw [hcl] at rf
  generalize hvf : a.eval x = vf at rf
  cases rf with | clo _ _ us hul hur =>
  have hvs : ∀ (i : Nat) (c : AV) (u : Value), (args.set ai (.sl m 0 ys.length) ++ cap)[i]? = some c → (ops.map a.eval ++ us)[i]? = some u → R w S1 (m + 2) c u := fun i c u hc hu => by
    have hal : args.length = ops.length := by rw [← ha]; simp
    by_cases hi : i < ops.length
    · rw [List.getElem?_append_left (by simpa [hal] using hi)] at hc
      rw [List.getElem?_append_left (by simpa using hi)] at hu
      have base : ∀ c0, args[i]? = some c0 → R w S m c0 u := fun c0 h0 => by
        rw [← ha, List.getElem?_map] at h0
        rw [List.getElem?_map] at hu
        cases hx : ops[i]? with
        | none => rw [hx] at h0; cases h0
        | some x =>
          rw [hx] at h0 hu; cases h0; cases hu
          have hm : x ∈ ops := List.mem_of_getElem? hx
          exact (hop x (by simp only [Op.operands, Call.operands, Array.toList_append, List.mem_append]; exact .inr (by simpa using hm))).bare_of (nd_mem hn x hm)
      rw [List.getElem?_set] at hc
      split at hc
      · rename_i hi
        subst hi
        split at hc
        · cases hc
          have := base _ hai
          cases this with | d h =>
          cases h
          exact hR1
        · cases hc
      · exact hE1.r (base c hc)
    · rw [List.getElem?_append_right (by simpa [hal] using hi)] at hc
      rw [List.getElem?_append_right (by simpa using hi)] at hu
      simp only [List.length_set, List.length_map, hal] at hc hu
      exact hE1.r (hur _ c u hc hu)
  have hcall := run_callD hH1 hf (m :: D0) (vals := ops.map a.eval ++ us) (by rw [← ha]; simp [hul]) hvs hrun hq
  have hex : (execOp a.eval ⟨d, .call ⟨.value x, ops.toArray, ts⟩, t', p, af, none⟩).run P w = .ok (.enter f (ops.map a.eval ++ us).toArray) w := by
    simp only [execOp, resolve, Sem.run_bind, hvf]
    simp [Deferred.ofValue, invoke, enters_run (E.ent f sp hf)]
  refine fen_op (fun c h => by cases h) ?_
  rw [hex, Oper.uponIn_enter]
  refine ⟨fun h => (by cases h), fen_calls (Calls.mono hcall ?_)⟩
  rintro e w' ⟨v, S', rfl, h3, h4, h5⟩
  rw [h2] at h3
  obtain ⟨h6, S2, h7, h8⟩ := put_ok h3 hbj hb hj h5 hlen
  rw [rem_list _ _ _ hn2] at h7
  exact ⟨_, _, _, v, S2, rfl, h7, (hE1.trans h4).trans h8, .d (.raw v h6), k v⟩
end
end Go.Vc
/- The Vc layer: maps from numbers to bools, of the function's own. -/
set_option linter.all false
namespace Go.Vc
open Go Go.RowKit

def setI : List (Int × Bool) → Int → Bool → List (Int × Bool)
  | [], k, b => [(k, b)]
  | p :: r, k, b => if p.1 = k then (k, b) :: r else p :: setI r k b
def getI (m : List (Int × Bool)) (k : Int) : Option Bool := m.lookup k
theorem nd_inj {α β : Type} {f : α → β} : ∀ {l : List α}, (l.map f).Nodup → ∀ {a b : α}, a ∈ l → b ∈ l → f a = f b → a = b
  | [], _, _, _, h, _, _ => by cases h
  | x :: l, hn, a, b, ha, hb, e => by
    simp only [List.map_cons, List.nodup_cons] at hn
    rcases List.mem_cons.1 ha with h1 | h1 <;> rcases List.mem_cons.1 hb with h2 | h2
    · rw [h1, h2]
    · subst h1; exact absurd (List.mem_map.2 ⟨b, h2, e.symm⟩) hn.1
    · subst h2; exact absurd (List.mem_map.2 ⟨a, h1, e⟩) hn.1
    · exact nd_inj hn.2 h1 h2 e
def eM (p : Int × Bool) : Value × Value := (.int .i64 p.1, .bool p.2)
def eE (e : MapEntry) : Value × Value := (e.key, e.val)

theorem find_ok : ∀ {es : List MapEntry} {m : List (Int × Bool)}, es.map eE = m.map eM → ∀ (k : Int) (i : Nat),
    (Instr.findNow (.int .i64) (.int .i64 k) es i = some none ∧ getI m k = none ∧ (∀ b, setI m k b = m ++ [(k, b)]) ∧ k ∉ m.map (·.1)) ∨
    ∃ j b0, Instr.findNow (.int .i64) (.int .i64 k) es i = some (some (i + j, .bool b0)) ∧ getI m k = some b0 ∧ m[j]? = some (k, b0) ∧ ∀ b, setI m k b = m.set j (k, b)
  | [], [], _, k, i => .inl ⟨rfl, rfl, fun _ => rfl, by simp⟩
  | [], _ :: _, h, _, _ => by simp at h
  | _ :: _, [], h, _, _ => by simp at h
  | e :: es, (a, b0) :: m, h, k, i => by
    simp only [List.map_cons, List.cons.injEq] at h
    obtain ⟨h1, h2⟩ := h
    have hk : e.key = .int .i64 a := congrArg Prod.fst h1
    have hv : e.val = .bool b0 := congrArg Prod.snd h1
    have hs : Instr.sameNow (.int .i64) (.int .i64 k) e.key = some (k == a) := by rw [hk]; rfl
    unfold Instr.findNow
    rw [hs]
    by_cases ha : a = k
    · subst ha
      right
      refine ⟨0, b0, by simp [hv], ?_, rfl, fun b => ?_⟩
      · unfold getI; simp
      · unfold setI; rw [if_pos rfl]; rfl
    · have hka : (k == a) = false := by simpa using fun h => ha h.symm
      rw [hka]
      simp only
      rcases find_ok h2 k (i + 1) with ⟨g1, g2, g3, g4⟩ | ⟨j, b1, g1, g2, g3, g4⟩
      · left
        refine ⟨g1, ?_, fun b => ?_, ?_⟩
        · unfold getI at *; rw [List.lookup_cons, hka]; exact g2
        · unfold setI; rw [if_neg ha, g3 b]; rfl
        · simp only [List.map_cons, List.mem_cons, not_or]; exact ⟨fun h => ha h.symm, g4⟩
      · right
        refine ⟨j + 1, b1, by rw [g1, Nat.add_assoc, Nat.add_comm 1 j], ?_, by simpa using g3, fun b => ?_⟩
        · unfold getI at *; rw [List.lookup_cons, hka]; exact g2
        · unfold setI; rw [if_neg ha, g4 b]; rfl
theorem setI_keys {m : List (Int × Bool)} {k : Int} {b : Bool} (h : (m.map (·.1)).Nodup) : ((setI m k b).map (·.1)).Nodup ∧ ∀ x, x ∈ (setI m k b).map (·.1) ↔ x = k ∨ x ∈ m.map (·.1) := by
  induction m with
  | nil => exact ⟨by simp [setI], fun x => by simp [setI]⟩
  | cons p m ih =>
    simp only [List.map_cons, List.nodup_cons] at h
    obtain ⟨i1, i2⟩ := ih h.2
    unfold setI
    split
    · rename_i hp
      subst hp
      exact ⟨by simpa using h, fun x => by simp⟩
    · rename_i hp
      refine ⟨?_, fun x => ?_⟩
      · simp only [List.map_cons, List.nodup_cons]
        exact ⟨fun hm => by rcases (i2 _).1 hm with e | e; exact hp e; exact h.1 e, i1⟩
      · simp only [List.map_cons, List.mem_cons, i2]
        constructor
        · rintro (h | h | h)
          · exact .inr (.inl h)
          · exact .inl h
          · exact .inr (.inr h)
        · rintro (h | h | h)
          · exact .inr (.inl h)
          · exact .inl h
          · exact .inr (.inr h)

section
variable [Far] {P : Program} {E : Env P} {W0 : World} {M0 : Nat → Prop} {w : World} {S : Lays} {n m : Nat} {H : Heap} {fr : Nat → AV} {K : St → Prop} {d : Option Tmp} {t t2 t' ty' kt et : TypeId} {p : String} {af : Array Edge} {bl : List (Option Box)} {cd : Code} {Q : Exit → St → Prop}

theorem R.mp_live (hH : HeapOk W0 M0 H n w S) {id : Nat} {b : Box} {v : Value} (hb : H id = some b) (h : R w S n (.mp id) v) : ∃ l, S id = some l ∧ BoxOk w S n b l ∧ v = .map l.blk := by
  obtain ⟨l, h1, h2⟩ := hH.box id b hb
  cases h with
  | mpDead _ _ _ hS => rw [h1] at hS; cases hS
  | mp _ l' _ hS => rw [h1] at hS; cases hS; exact ⟨l, h1, h2, rfl⟩

/-- A map made. -/
theorem sem_makeMap {r : Option Operand} (hr : r = none) (k : K ⟨putD d (.mp n) fr, upd H n (some (.ob (.mapI []))), n + 1⟩) : SemO W0 M0 E ⟨d, .makeMap t r, ty', p, af, none⟩ ⟨fr, H, n⟩ K := by
  subst hr
  refine .value (fun c h => by cases h) fun a w S hH hop => ?_
  have hnew : (w.alloc (.map #[] 0)).heap[w.heap.size]? = some (.map #[] 0) := heap_alloc_new w _
  have key := hH.new (w' := w.alloc (.map #[] 0)) none (.ob (.mapI [])) ⟨some w.heap.size, 0, 0, []⟩ (fun id h => by cases h) rfl rfl rfl (by rw [World.size_alloc]; omega)
    (fun c hc _ => heap_alloc_old w _ hc) (fun c hc => by cases hc; exact .inl (Nat.le_refl _)) (fun c hc => by cases hc; rw [World.size_alloc]; omega)
    (fun hE => ⟨rfl, _, _, _, rfl, hnew, rfl, List.nodup_nil, by simp, List.nodup_nil⟩)
  have hk : kill none H = H := by funext i; simp [kill]
  have hks : kill none S = S := by funext i; simp [kill]
  rw [hk, hks] at key
  refine ⟨_, _, _, .map (some w.heap.size), _, _, ?_, key.1, key.2, ?_, k⟩
  · simp only [execOp]
    simp [run_makeMap]
  · exact .mp n ⟨some w.heap.size, 0, 0, []⟩ (Nat.lt_succ_self n) (by rw [upd_app, if_pos rfl])

theorem SemO.skip {o : Oper} {st : St} (hd : ∀ c, o.op ≠ .defer c) (h : ∀ (a : Act) (w : World) (S : Lays), HeapOk W0 M0 st.H st.n w S → (∀ x ∈ o.op.operands.toList, R w S st.n (evO st.fr x) (a.eval x)) →
    ∃ H' n' w' S', (execOp a.eval o).run P w = .ok .skip w' ∧ HeapOk W0 M0 H' n' w' S' ∧ Ext w S st.n w' S' n' ∧ K ⟨putD o.dst .any st.fr, H', n'⟩) : SemO W0 M0 E o st K := by
  intro a w S h1 h2 Q
  obtain ⟨H', n', w', S', e1, e2, e3, e4⟩ := h a w S h1 h2
  refine fen_op hd ?_
  rw [e1]
  exact ⟨.any, H', n', undef, S', rfl, e2, e3, .any _, e4⟩

/-- A look into a map. -/
theorem sem_mapGet {x ix : Operand} {id : Nat} {key : Int} {mm : List (Int × Bool)} {ok : Bool} (hu : P.underlying t = some (.map kt et)) (hk : P.underlying kt = some (.int .i64)) (hz : ∀ w, (zeroValue et).run P w = .ok (.bool false) w)
    (hx : bare (evO fr x) = .mp id) (hnx : needs (evO fr x)) (hi : bare (evO fr ix) = .d (.int .i64 key)) (hni : needs (evO fr ix)) (hb : H id = some (.ob (.mapI mm)))
    (k : K ⟨putD d (if ok then .tup [.d (.bool ((getI mm key).getD false)), .d (.bool (getI mm key).isSome)] else .d (.bool ((getI mm key).getD false))) fr, H, n⟩) : SemO W0 M0 E ⟨d, .lookup t x ix ok, ty', p, af, none⟩ ⟨fr, H, n⟩ K := by
  refine .value (fun c h => by cases h) fun a w S hH hop => ?_
  have hX := (hop x (by simp [Op.operands])).bare_of hnx
  have hI := (hop ix (by simp [Op.operands])).bare_of hni
  rw [hx] at hX
  rw [hi, R.int_iff] at hI
  obtain ⟨l, hS, ⟨_, b, es, clock, h1, h2, h3, _⟩, hv⟩ := R.mp_live hH hb hX
  have hc : ∀ e, (Instr.checkKey e 10000 kt (.int .i64 key)).run P w = .ok () w := fun e => MapKept.run_checkKey (k := .int .i64 key) hk (by simp [MapKept.IsKey]) e 9999
  rw [h1] at hv
  have hrun : ∀ r, Instr.findNow (.int .i64) (.int .i64 key) es.toList 0 = some r → (Instr.lookup t (.map (some b)) (.int .i64 key) ok).run P w = (match r with
      | some (_, v) => .ok (if ok then .tuple #[v, .bool true] else v) w
      | none => .ok (if ok then .tuple #[.bool false, .bool false] else .bool false) w) := fun r hf => by
    cases r with
    | none => simp [Instr.lookup, run_underlying hu, MapKept.run_getObj_map h2, hc, MapKept.run_findKey hk hf, Result.andThen, hz]
    | some q => simp [Instr.lookup, run_underlying hu, MapKept.run_getObj_map h2, hc, MapKept.run_findKey hk hf, Result.andThen]
  rcases find_ok h3 key 0 with ⟨g1, g2, _⟩ | ⟨j, b0, g1, g2, _⟩
  · refine ⟨_, H, n, (if ok then .tuple #[.bool false, .bool false] else .bool false), w, S, ?_, hH, Ext.refl _ _ _, ?_, k⟩
    · simp only [execOp, hv, hI, Sem.run_bind, hrun _ g1, Result.andThen_ok, Sem.run_pure]
    · rw [g2]
      cases ok
      · exact .d (.bool _)
      · refine .tup _ [.bool false, .bool false] rfl (fun i c u hc hu => ?_)
        match i, hc, hu with
        | 0, hc, hu => cases hc; cases hu; exact .d (.bool _)
        | 1, hc, hu => cases hc; cases hu; exact .d (.bool _)
  · refine ⟨_, H, n, (if ok then .tuple #[.bool b0, .bool true] else .bool b0), w, S, ?_, hH, Ext.refl _ _ _, ?_, k⟩
    · simp only [execOp, hv, hI, Sem.run_bind, hrun _ g1, Result.andThen_ok, Sem.run_pure]
    · rw [g2]
      cases ok
      · exact .d (.bool _)
      · refine .tup _ [.bool b0, .bool true] rfl (fun i c u hc hu => ?_)
        match i, hc, hu with
        | 0, hc, hu => cases hc; cases hu; exact .d (.bool _)
        | 1, hc, hu => cases hc; cases hu; exact .d (.bool _)

theorem mapOk_set {es : Array MapEntry} {clock : Nat} {mm : List (Int × Bool)} {key : Int} {b : Bool} (h : MapOk es clock mm) :
    (∃ r, Instr.findNow (.int .i64) (.int .i64 key) es.toList 0 = some r ∧ match r with
      | none => MapOk (es.push { key := .int .i64 key, val := .bool b, born := clock }) (clock + 1) (setI mm key b)
      | some (i, _) => (es[i]?).map (·.key) = some (.int .i64 key) ∧ MapOk (es.modify i fun e => { e with key := .int .i64 key, val := .bool b }) clock (setI mm key b)) := by
  obtain ⟨h1, h2, h3, h4⟩ := h
  have hn := (setI_keys (k := key) (b := b) h2).1
  rcases find_ok (es := es.toList) h1 key 0 with ⟨g1, g2, g3, g4⟩ | ⟨j, b0, g1, g2, g3, g4⟩
  · refine ⟨none, g1, ?_, hn, ?_, ?_⟩
    · rw [g3 b]; simp [h1, eM, eE]
    · intro e he
      simp only [Array.toList_push, List.mem_append, List.mem_singleton] at he
      rcases he with he | rfl
      · have := h3 e he; omega
      · exact Nat.lt_succ_self _
    · simp only [Array.toList_push, List.map_append, List.map_cons, List.map_nil]
      refine List.nodup_append.2 ⟨h4, by simp, fun a ha c hc => ?_⟩
      simp only [List.mem_singleton] at hc
      subst hc
      obtain ⟨x, hx, rfl⟩ := List.mem_map.1 ha
      exact Nat.ne_of_lt (h3 x hx)
  · refine ⟨some (0 + j, .bool b0), g1, ?_⟩
    simp only [Nat.zero_add]
    have hj : (es.toList.map eE)[j]? = some (eM (key, b0)) := by rw [show es.toList.map eE = mm.map eM from h1, List.getElem?_map, g3]; rfl
    have hlt : j < es.size := by have := (List.getElem?_eq_some_iff.1 hj).1; simpa using this
    have hkj : es[j].key = .int .i64 key := by
      rw [List.getElem?_map, Array.getElem?_toList, Array.getElem?_eq_getElem hlt] at hj
      exact congrArg Prod.fst (Option.some.inj hj)
    refine ⟨by rw [Array.getElem?_eq_getElem hlt]; exact congrArg some hkj, ?_, hn, ?_, ?_⟩
    · rw [g4 b]
      apply List.ext_getElem?
      intro i
      rw [List.getElem?_map, List.getElem?_map, List.getElem?_set, Array.getElem?_toList, Array.getElem?_modify]
      have hi : (es.toList.map eE)[i]? = (mm.map eM)[i]? := by rw [show es.toList.map eE = mm.map eM from h1]
      rw [List.getElem?_map, List.getElem?_map, Array.getElem?_toList] at hi
      by_cases hji : j = i
      · subst hji
        have hml : j < mm.length := (List.getElem?_eq_some_iff.1 g3).1
        rw [if_pos rfl, if_pos rfl, if_pos hml, Array.getElem?_eq_getElem hlt]; rfl
      · rw [if_neg hji, if_neg hji]; exact hi
    · intro e he
      obtain ⟨i, hi⟩ := List.getElem?_of_mem he
      rw [Array.getElem?_toList, Array.getElem?_modify] at hi
      split at hi
      · rename_i hji
        rw [← hji, Array.getElem?_eq_getElem hlt] at hi
        simp only [Option.map_some, Option.some.injEq] at hi
        rw [← hi]
        exact h3 es[j] (by simp)
      · exact h3 e (Array.mem_toList_iff.2 (Array.mem_of_getElem? hi))
    · have hborn : (es.modify j fun e => { e with key := .int .i64 key, val := .bool b }).toList.map (·.born) = es.toList.map (·.born) := by
        apply List.ext_getElem?
        intro i
        simp only [List.getElem?_map, Array.getElem?_toList, Array.getElem?_modify]
        by_cases hji : j = i
        · subst hji
          rw [Array.getElem?_eq_getElem hlt]; simp
        · simp [hji]
      rw [hborn]; exact h4

/-- An entry of a map written. -/
theorem sem_mapSet {x ix y : Operand} {id : Nat} {key : Int} {v : Bool} {mm : List (Int × Bool)} (hu : P.underlying t = some (.map kt et)) (hk : P.underlying kt = some (.int .i64))
    (hx : bare (evO fr x) = .mp id) (hnx : needs (evO fr x)) (hi : bare (evO fr ix) = .d (.int .i64 key)) (hni : needs (evO fr ix)) (hy : bare (evO fr y) = .d (.bool v)) (hny : needs (evO fr y)) (hb : H id = some (.ob (.mapI mm)))
    (k : K ⟨putD d .any fr, upd H id (some (.ob (.mapI (setI mm key v)))), n⟩) : SemO W0 M0 E ⟨d, .mapUpdate t x ix y, ty', p, af, none⟩ ⟨fr, H, n⟩ K := by
  refine .skip (fun c h => by cases h) fun a w S hH hop => ?_
  have hX := (hop x (by simp [Op.operands])).bare_of hnx
  have hI := (hop ix (by simp [Op.operands])).bare_of hni
  have hY := (hop y (by simp [Op.operands])).bare_of hny
  rw [hx] at hX
  rw [hi, R.int_iff] at hI
  rw [hy, R.bool_iff] at hY
  obtain ⟨l, hS, ⟨h0, b, es, clock, h1, h2, h3⟩, hv⟩ := R.mp_live hH hb hX
  have hc : ∀ e, (Instr.checkKey e 10000 kt (.int .i64 key)).run P w = .ok () w := fun e => MapKept.run_checkKey (k := .int .i64 key) hk (by simp [MapKept.IsKey]) e 9999
  rw [h1] at hv
  obtain ⟨r, hf, hr⟩ := mapOk_set (key := key) (b := v) h3
  obtain ⟨es', clock', hrun, hok⟩ : ∃ es' clock', (Instr.mapUpdate t (.map (some b)) (.int .i64 key) (.bool v)).run P w = .ok () { w with heap := w.heap.setIfInBounds b (.map es' clock') } ∧ MapOk es' clock' (setI mm key v) := by
    cases r with
    | none => exact ⟨_, _, by simp [Instr.mapUpdate, run_underlying hu, MapKept.run_getObj_map h2, hc, MapKept.run_findKey hk hf, Result.andThen, MapKept.run_setObj_map _ h2], hr⟩
    | some q =>
      obtain ⟨i, v0⟩ := q
      obtain ⟨g1, g2⟩ := hr
      have hsb : ∀ w, (Instr.keyThatStays (.int .i64 key) (.int .i64 key)).run P w = .ok (.int .i64 key) w := fun w => by simp [Instr.keyThatStays, Instr.sameBits]
      exact ⟨_, _, by simp [Instr.mapUpdate, run_underlying hu, MapKept.run_getObj_map h2, hc, MapKept.run_findKey hk hf, Result.andThen, MapKept.run_setObj_map _ h2, g1, hsb], g2⟩
  obtain ⟨hs1, hs2⟩ := MapKept.heap_set (o' := .map es' clock') h2
  have key := hH.write2 (w' := { w with heap := w.heap.setIfInBounds b (.map es' clock') }) hS (.inl h1) (.ob (.mapI (setI mm key v))) (by show (H id).isSome = true; rw [hb]; rfl) rfl rfl rfl (by simp) (fun c hc => hs2 c hc) (fun _ => ⟨h0, b, es', clock', h1, hs1, hok⟩) (fun h => by cases h)
  refine ⟨_, n, _, S, ?_, key.1, key.2, k⟩
  simp only [execOp, hv, hI, hY, Sem.run_bind, hrun, Result.andThen_ok, Sem.run_pure]

/-- A range over a map that the loop does not write: the iterator. -/
theorem sem_rangeMap {x : Operand} {id : Nat} {mm : List (Int × Bool)} (hu : P.underlying t = some (.map kt et)) (hx : bare (evO fr x) = .mp id) (hnx : needs (evO fr x)) (hb : H id = some (.ob (.mapI mm)))
    (k : ∀ bi, K ⟨putD d (.d (.raw (.pointer (some ⟨bi, 0, none⟩)))) fr, upd (kill (some id) H) n (some (.ob (.rng bi mm []))), n + 1⟩) : SemO W0 M0 E ⟨d, .range t x, ty', p, af, none⟩ ⟨fr, H, n⟩ K := by
  refine .value (fun c h => by cases h) fun a w S hH hop => ?_
  have hX := (hop x (by simp [Op.operands])).bare_of hnx
  rw [hx] at hX
  obtain ⟨l, hS, ⟨h0, b, es, clock, h1, h2, h3⟩, hv⟩ := R.mp_live hH hb hX
  rw [h1] at hv
  have hrun : (Instr.range t (.map (some b))).run P w = .ok (.pointer (some ⟨w.heap.size, 0, none⟩)) (w.alloc (.mapIter (some b) clock #[] clock)) := run_range_map w t kt et b es clock hu h2
  have hlt : b < w.heap.size := hH.lt2 id l b hS (.inl h1)
  have hold : (w.alloc (.mapIter (some b) clock #[] clock)).heap[b]? = some (.map es clock) := by rw [heap_alloc_old w _ hlt]; exact h2
  have hnew : (w.alloc (.mapIter (some b) clock #[] clock)).heap[w.heap.size]? = some (.mapIter (some b) clock #[] clock) := heap_alloc_new w _
  have key := hH.new2 (w' := w.alloc (.mapIter (some b) clock #[] clock)) (some id) (.ob (.rng w.heap.size mm [])) ⟨some b, l.sz, l.cap, [w.heap.size]⟩ (fun i h => by cases h; show (H id).isSome = true; rw [hb]; rfl) rfl rfl rfl (by rw [World.size_alloc]; omega)
    (fun c hc _ => heap_alloc_old w _ hc)
    (fun c hc => by
      rcases hc with hc | hc
      · cases hc; exact .inr ⟨id, l, rfl, hS, .inl h1⟩
      · simp only [List.mem_cons, List.not_mem_nil, or_false] at hc; exact .inl (by omega))
    (fun c hc => by
      rw [World.size_alloc]
      rcases hc with hc | hc
      · cases hc; omega
      · simp only [List.mem_cons, List.not_mem_nil, or_false] at hc; omega)
    ⟨by simp, fun c hc hm => by cases hc; simp only [List.mem_cons, List.not_mem_nil, or_false] at hm; omega⟩ (fun h => by cases h)
    (fun hE => ⟨rfl, b, es, clock, clock, #[], rfl, hold, h3, hnew, h3.2.2.1, Nat.le_refl _, fun e he => by simp, fun k hk => by simp at hk⟩)
  refine ⟨_, _, _, .pointer (some ⟨w.heap.size, 0, none⟩), _, _, ?_, key.1, key.2, .d (.raw _ rfl), k _⟩
  simp only [execOp, hv, Sem.run_bind, hrun, Result.andThen_ok, Sem.run_pure]

theorem raw_is {v u : Value} (h : R w S n (.d (.raw v)) u) : u = v := by
  cases h with | d h => cases h; rfl

/-- The next entry, in any order. -/
theorem sem_nextMap {x : Operand} {id bi : Nat} {mm : List (Int × Bool)} {seen : List Int} (hx : bare (evO fr x) = .d (.raw (.pointer (some ⟨bi, 0, none⟩)))) (hnx : needs (evO fr x)) (hb : H id = some (.ob (.rng bi mm seen)))
    (k1 : (∀ q ∈ mm, q.1 ∈ seen) → K ⟨putD d (.tup [.d (.bool false)]) fr, H, n⟩)
    (k2 : ∀ q ∈ mm, q.1 ∉ seen → K ⟨putD d (.tup [.d (.bool true), .d (.int .i64 q.1), .d (.bool q.2)]) fr, upd H id (some (.ob (.rng bi mm (seen ++ [q.1])))), n⟩) : SemO W0 M0 E ⟨d, .next x false, ty', p, af, none⟩ ⟨fr, H, n⟩ K := by
  refine .value (fun c h => by cases h) fun a w S hH hop => ?_
  have hX := (hop x (by simp [Op.operands])).bare_of hnx
  rw [hx] at hX
  have hv := raw_is hX
  obtain ⟨l, hS, h0, b, es, clock, since, sb, h1, h2, h3, h4, h5, h6, h7, h8⟩ := hH.box id _ hb
  obtain ⟨g1, g2, g3, g4⟩ := h3
  have ent : ∀ e ∈ es.toList, ∃ q ∈ mm, e.key = .int .i64 q.1 ∧ e.val = .bool q.2 := fun e he => by
    have : (e.key, e.val) ∈ es.toList.map (fun e => (e.key, e.val)) := List.mem_map.2 ⟨e, he, rfl⟩
    rw [g1] at this
    obtain ⟨q, hq, e1⟩ := List.mem_map.1 this
    exact ⟨q, hq, (congrArg Prod.fst e1).symm, (congrArg Prod.snd e1).symm⟩
  have ent2 : ∀ q ∈ mm, ∃ e ∈ es.toList, e.key = .int .i64 q.1 ∧ e.val = .bool q.2 := fun q hq => by
    have : (Value.int .i64 q.1, Value.bool q.2) ∈ mm.map (fun p => (Value.int .i64 p.1, Value.bool p.2)) := List.mem_map.2 ⟨q, hq, rfl⟩
    rw [← g1] at this
    obtain ⟨e, he, e1⟩ := List.mem_map.1 this
    exact ⟨e, he, congrArg Prod.fst e1, congrArg Prod.snd e1⟩
  have htest := next_test_false sb es since clock h5 h6
  have hmem : ∀ x ∈ (leftOf es sb).toList, x.born < since := fun x hx => h5 x (by unfold leftOf at hx; simp at hx ⊢; exact hx.1)
  have e1 : (leftOf es sb).filter (fun x => decide (x.born < since)) = leftOf es sb := Array.filter_eq_self.2 (fun x hx => by simpa using hmem x (by simpa using hx))
  have e2 : (leftOf es sb).filter (fun x => decide (x.born ≥ since)) = #[] := by
    rw [Array.filter_eq_empty_iff]
    intro x hx
    have := hmem x (by simpa using hx)
    simp; omega
  have hbi : bi < w.heap.size := (Array.getElem?_eq_some_iff.1 h4).1
  by_cases hL : (leftOf es sb).size = 0
  · have hLe : leftOf es sb = #[] := Array.eq_empty_of_size_eq_zero hL
    refine ⟨_, H, n, .tuple #[.bool false], w, S, ?_, hH, Ext.refl _ _ _, ?_, k1 fun q hq => ?_⟩
    · simp only [execOp, hv]
      have : (Instr.next (.pointer (some ⟨bi, 0, none⟩)) false ty').run P w = .ok (.tuple #[.bool false]) w := by
        simp only [Instr.next, getObj, Sem.run_bind, Sem.run, h4, h2, Result.andThen, htest, Bool.false_eq_true, if_false]
        rw [show (Array.filter (fun e => !sb.contains e.born) es) = leftOf es sb from rfl, hLe]
        simp [choose, Sem.run, Question.forced]
      simp only [Sem.run_bind, this, Result.andThen_ok, Sem.run_pure]
    · exact .tup _ [.bool false] rfl (fun i c u hc hu => by
        match i, hc, hu with
        | 0, hc, hu => cases hc; cases hu; exact .d (.bool _))
    · obtain ⟨e, he, e3, _⟩ := ent2 q hq
      have hc : sb.contains e.born = true := by
        cases hc : sb.contains e.born with
        | true => rfl
        | false =>
          have : e ∈ leftOf es sb := by unfold leftOf; rw [Array.mem_filter]; exact ⟨by simpa using he, by rw [hc]; rfl⟩
          rw [hLe] at this; simp at this
      obtain ⟨k', e4, e5⟩ := (h7 e he).1 hc
      rw [e3] at e4; cases e4; exact e5
  · obtain ⟨j, w1, hj, hal, htp, hch⟩ : ∃ (j : Nat) (w1 : World), j < (leftOf es sb).size ∧ w1.Alike w ∧ w1.tape = w.tape ∧ (choose (Question.mapNext (leftOf es sb).size)).run P w = .ok j w1 := by
      by_cases hf : (leftOf es sb).size ≤ 1
      · exact ⟨0, w, by omega, ⟨rfl, rfl, rfl⟩, rfl, by simp [choose, Sem.run, Question.forced, hf]⟩
      · exact ⟨_, w.drew, Nat.mod_lt _ (by omega), ⟨rfl, rfl, rfl⟩, rfl, by
          simp only [choose, Sem.run, Question.forced, decide_eq_true_eq, hf, if_false, Question.cut]
          rfl⟩
    have hne : (leftOf es sb).isEmpty = false := by simp [Array.isEmpty, hL]
    have hall : ∀ x, x ∈ leftOf es sb → x ∈ es.toList ∧ sb.contains x.born = false := fun x hx => by
      unfold leftOf at hx; rw [Array.mem_filter] at hx; exact ⟨by simpa using hx.1, by simpa using hx.2⟩
    obtain ⟨hje, hjn⟩ := hall _ (Array.getElem_mem hj)
    obtain ⟨q, hq, e3, e4⟩ := ent _ hje
    have hqs : q.1 ∉ seen := fun hm => by rw [(h7 _ hje).2 ⟨q.1, e3, hm⟩] at hjn; cases hjn
    have h41 : w1.heap[bi]? = some (.mapIter (some b) since sb clock) := by rw [hal.1]; exact h4
    have h21 : w1.heap[b]? = some (.map es clock) := by rw [hal.1]; exact h2
    have hne2 : b ≠ bi := fun e => by rw [e, h4] at h2; cases h2
    let o' : Obj := .mapIter (some b) since (sb.push (leftOf es sb)[j].born) clock
    let w2 : World := { w1 with heap := w1.heap.setIfInBounds bi o' }
    have hset := MapKept.heap_set (o' := o') h41
    have hs1 : w2.heap[bi]? = some o' := hset.1
    have hs2 : ∀ c, c ≠ bi → w2.heap[c]? = w.heap[c]? := fun c hc => (hset.2 c hc).trans (by rw [hal.1])
    have hrun : (Instr.next (.pointer (some ⟨bi, 0, none⟩)) false ty').run P w = .ok (.tuple #[.bool true, (leftOf es sb)[j].key, (leftOf es sb)[j].val]) w2 := by
      have hst : (setObj bi o').run P w1 = .ok () w2 := by simp [setObj, Sem.run, h41, w2]
      simp only [Instr.next, getObj, Sem.run_bind, Sem.run, h4, h2, Result.andThen, htest, Bool.false_eq_true, if_false]
      rw [show (Array.filter (fun e => !sb.contains e.born) es) = leftOf es sb from rfl, e1, e2]
      simp only [hne, Bool.false_eq_true, if_false, Array.append_empty, Array.empty_append, Array.size_map, hch, Array.getElem?_map, Array.getElem?_eq_getElem hj, Option.map_some]
      rw [Sem.run_bind, hst]; rfl
    have key := hH.write2 (w' := w2) hS (.inr (by rw [h0]; simp)) (.ob (.rng bi mm (seen ++ [q.1]))) (by show (H id).isSome = true; rw [hb]; rfl) hal.2.1 htp hal.2.2 (by show (w1.heap.setIfInBounds bi o').size = _; simp [hal.1]) hs2
      (fun _ => ⟨h0, b, es, clock, since, _, h1, (hs2 b hne2).trans h2, ⟨g1, g2, g3, g4⟩, hs1, h5, h6, fun e he => ?_, fun k hk => ?_⟩) (fun h => by cases h)
    · refine ⟨_, _, n, .tuple #[.bool true, (leftOf es sb)[j].key, (leftOf es sb)[j].val], w2, S, ?_, key.1, key.2, ?_, k2 q hq hqs⟩
      · simp only [execOp, hv, Sem.run_bind, hrun, Result.andThen_ok, Sem.run_pure]
      · rw [e3, e4]
        refine .tup _ [.bool true, .int .i64 q.1, .bool q.2] rfl (fun i c u hc hu => ?_)
        match i, hc, hu with
        | 0, hc, hu => cases hc; cases hu; exact .d (.bool _)
        | 1, hc, hu => cases hc; cases hu; exact .d (.int _ _)
        | 2, hc, hu => cases hc; cases hu; exact .d (.bool _)
    · rw [Array.contains_push, Bool.or_eq_true, h7 e he]
      constructor
      · rintro (⟨k, e5, e6⟩ | hb')
        · exact ⟨k, e5, List.mem_append.2 (.inl e6)⟩
        · have : e = (leftOf es sb)[j] := nd_inj g4 he hje (beq_iff_eq.1 hb')
          exact ⟨q.1, by rw [this]; exact e3, by simp⟩
      · rintro ⟨k, e5, e6⟩
        rcases List.mem_append.1 e6 with e6 | e6
        · exact .inl ⟨k, e5, e6⟩
        · simp only [List.mem_singleton] at e6
          subst e6
          have hkn : (es.toList.map (·.key)).Nodup := by
            have e7 := congrArg (List.map Prod.fst) g1
            rw [List.map_map, List.map_map] at e7
            rw [show es.toList.map (·.key) = mm.map (Prod.fst ∘ fun p => (Value.int .i64 p.1, Value.bool p.2)) from e7]
            have := g2
            rw [List.Nodup, List.pairwise_map] at this ⊢
            exact this.imp fun h e => h (by simpa using e)
          have : e = (leftOf es sb)[j] := nd_inj hkn he hje (e5.trans e3.symm)
          exact .inr (by rw [this]; simp)
    · rw [List.getLast?_append] at hk
      simp only [List.getLast?_singleton, Option.some_or, Option.some.injEq] at hk
      subst hk
      exact ⟨_, hje, e3, by simp⟩
/-- What the entry read last holds. -/
theorem sem_entryMap {x : Operand} {id bi : Nat} {mm : List (Int × Bool)} {seen : List Int} {q : Int × Bool} (hx : bare (evO fr x) = .d (.raw (.pointer (some ⟨bi, 0, none⟩)))) (hnx : needs (evO fr x)) (hb : H id = some (.ob (.rng bi mm (seen ++ [q.1])))) (hq : q ∈ mm)
    (k : K ⟨putD d (.tup [.d (.int .i64 q.1), .d (.bool q.2)]) fr, H, n⟩) : SemO W0 M0 E ⟨d, .entry x, ty', p, af, none⟩ ⟨fr, H, n⟩ K := by
  refine .value (fun c h => by cases h) fun a w S hH hop => ?_
  have hX := (hop x (by simp [Op.operands])).bare_of hnx
  rw [hx] at hX
  have hv := raw_is hX
  obtain ⟨l, hS, h0, b, es, clock, since, sb, h1, h2, h3, h4, h5, h6, h7, h8⟩ := hH.box id _ hb
  obtain ⟨g1, g2, g3, g4⟩ := h3
  obtain ⟨e, he, e1, e2⟩ := h8 q.1 (by simp)
  have e3 : e.val = .bool q.2 := by
    have : (e.key, e.val) ∈ es.toList.map (fun e => (e.key, e.val)) := List.mem_map.2 ⟨e, he, rfl⟩
    rw [g1] at this
    obtain ⟨r, hr, e4⟩ := List.mem_map.1 this
    have e5 : r.1 = q.1 := by have := (congrArg Prod.fst e4).trans e1; simpa using this
    have e6 : Value.bool r.2 = e.val := congrArg Prod.snd e4
    rw [← e6, nd_inj g2 hr hq e5]
  have hf : es.find? (·.born == e.born) = some e := by rw [← Array.find?_toList]; exact find_born e es.toList g4 he
  have hrun : (Instr.entry (.pointer (some ⟨bi, 0, none⟩))).run P w = .ok (.tuple #[e.key, e.val]) w := by
    simp only [Instr.entry, getObj, Sem.run_bind, Sem.run, h4, h2, Result.andThen, e2, bne_self_eq_false, Bool.false_eq_true, if_false, hf]
    rfl
  refine ⟨_, H, n, .tuple #[e.key, e.val], w, S, ?_, hH, Ext.refl _ _ _, ?_, k⟩
  · simp only [execOp, hv, Sem.run_bind, hrun, Result.andThen_ok, Sem.run_pure]
  · rw [e1, e3]
    refine .tup _ [.int .i64 q.1, .bool q.2] rfl (fun i c u hc hu => ?_)
    match i, hc, hu with
    | 0, hc, hu => cases hc; cases hu; exact .d (.int _ _)
    | 1, hc, hu => cases hc; cases hu; exact .d (.bool _)
end
end Go.Vc
/- The Vc layer: a row of one's own made shorter, over states by lists. -/
set_option linter.all false
namespace Go.Vc
open Go Go.RowKit
section
variable [Far] {P : Program} {E : Env P} {W0 : World} {M0 : Nat → Prop} {m : Nat} {fr : Nat → AV} {bl : List (Option Box)} {cd : Code} {Q : Exit → St → Prop}
theorem vc_shortL (id k : Nat) {tb sz : Nat} {xs : List (List D)} (hb : getB bl id = some (.vec tb sz xs)) (h : VC E W0 M0 cd ⟨fr, getB (updL bl id (some (.vec tb sz (xs.take k)))), m⟩ Q) : VC E W0 M0 cd ⟨fr, getB bl, m⟩ Q :=
  vc_short k hb (by rw [upd_getB]; exact h)
end
end Go.Vc
/- The Vc layer: a variable as one box of cells; slices that lie in a bag, read and written in place. -/
set_option linter.all false
namespace Go.Vc
open Go Go.RowKit
variable [Far] {P : Program} {E : Env P} {W0 : World} {M0 : Nat → Prop} {fr : Nat → AV} {H : Heap} {n : Nat} {K : St → Prop} {d : Option Tmp} {ty' t : TypeId} {p : String} {af : Array Edge} {cd : Code} {Q : Exit → St → Prop} {bl : List (Option Box)} {m : Nat}

/-- A new variable as one box of cells, arrays too. -/
theorem sem_allocOne {e : TypeId} {sh : Sh} {sz by_ : Nat} {z : List D} {cs : List AV} (hty : E.X.ty e = some ⟨sh, sz, by_, z⟩) (hz : z.map .d = cs) (hsz : sz = z.length) (h0 : 0 < sz)
    (k : K ⟨putD d (.ptr n 0 0) fr, upd H n (some (.one e cs)), n + 1⟩) : SemO W0 M0 E ⟨d, .alloc e, ty', p, af, none⟩ ⟨fr, H, n⟩ K := by
  subst hz
  refine .value (fun c h => by cases h) fun a w S hH hop => ?_
  obtain ⟨i, zv, hi, his, _, hzv, hzs, hzero⟩ := (E.X.facts hty).info
  have hzne : z ≠ [] := fun e => by subst e; simp at hsz; omega
  obtain ⟨hzl', hzr⟩ := hzero hzne
  simp only at hzs hzl' his
  obtain ⟨hH', hE⟩ := hH.alloc (w1 := w) ⟨rfl, rfl, rfl, rfl⟩ zv.cells e (.one e (z.map .d)) z.length 1 (fun S' n' hE hnew => by
    have := one_of_cells (S := S') (n := n') (cs := z.map .d) hnew (by rw [hzs, List.length_map]; exact hsz) (fun j c hc => by
      rw [List.getElem?_map] at hc
      cases hd : z[j]? with
      | none => rw [hd] at hc; cases hc
      | some d =>
        rw [hd] at hc; cases hc
        have hlt : j < zv.cells.size := by have := (List.getElem?_eq_some_iff.1 hd).1; omega
        have hr := hzr (w.alloc (.cells zv.cells e)) (own S') _ _ _ hd (Array.getElem?_eq_getElem hlt)
        exact ⟨_, Array.getElem?_eq_getElem hlt, hr.one, .d hr⟩)
    simpa using this)
  refine ⟨.ptr n 0 0, _, _, .pointer (some ⟨w.heap.size, 0, none⟩), w.alloc (.cells zv.cells e), _, ?_, hH', hE, HeapOk.ptr_new (W0 := W0) (M0 := M0) (k := 0) S, k⟩
  have hzz : (zeroValue e).run P w = .ok zv w := by simp [zeroValue, typeInfo, hi, hzv]
  have : (Instr.alloc e true (.tuple #[])).run P w = .ok (.pointer (some ⟨w.heap.size, 0, none⟩)) (w.alloc (.cells zv.cells e)) := by
    simp only [Instr.alloc, Sem.run_bind, hzz, Result.andThen_ok, newVar, newRow, newObj]
    simp [Sem.run]
  simp only [execOp, Sem.run_bind, this, Result.andThen_ok, Sem.run_pure]

theorem SemV.value {o : Oper} {st : St} {c : AV} (hd : ∀ c, o.op ≠ .defer c) (h : ∀ (H' : Heap) (n' : Nat), HLe st.H H' → ∀ (a : Act) (w : World) (S : Lays), HeapOk W0 M0 H' n' w S → (∀ x ∈ o.op.operands.toList, R w S n' (evO st.fr x) (a.eval x)) →
    ∃ r, (execOp a.eval o).run P w = .ok (.value r) w ∧ R w S n' c r) : SemV W0 M0 E o st c := by
  intro H' n' hle a w S h1 h2 Q
  obtain ⟨r, e1, e2⟩ := h H' n' hle a w S h1 h2
  refine fen_op hd ?_
  rw [e1]
  exact ⟨r, rfl, rfl, e2⟩

/-- The place of an element of a slice. -/
def ixV (v : Value) (k : Nat) : Value := match v with
  | .slice (some a) _ _ => .pointer (some (a.add k))
  | _ => undef

theorem bag_at {w : World} {O : Nat → Prop} {ety esz : Nat} {mb : List (Value × List (List D))} {subs : List Nat} (h : BagP w O ety esz mb subs) {j : Nat} {v : Value} {xs : List (List D)} (hj : mb[j]? = some (v, xs)) {k : Nat} (hk : k < xs.length) :
    ∃ l b, l.blk = some b ∧ b ∈ subs ∧ l.subs = [] ∧ VecO w O ety esz xs l ∧ v = .slice (some ⟨b, 0, none⟩) xs.length l.cap := by
  obtain ⟨ls, h1, h2, h3⟩ := h
  have hjl : j < ls.length := by rw [h1]; exact (List.getElem?_eq_some_iff.1 hj).1
  obtain ⟨g1, g2, g3⟩ := h3 j ls[j] (v, xs) (List.getElem?_eq_getElem hjl) hj
  cases hb : ls[j].blk with
  | none => have e1 := g2.2.2.2.2.1 hb; have e2 : xs.length ≤ ls[j].cap := g2.2.2.1; omega
  | some b =>
    refine ⟨ls[j], b, hb, ?_, g1, g2, ?_⟩
    · rw [h2]; exact List.mem_filterMap.2 ⟨ls[j], List.getElem_mem _, hb⟩
    · have g4 : v = sval ls[j] xs.length := g3
      rw [g4]; simp [sval, hb]

/-- The place of an element of a slice in a bag. -/
theorem semv_rawIx (b j : Nat) {x i : Operand} {v : Value} {kk : IntKind} {k : Int} {e ety s by_ b' : Nat} {z z' : List D} {sh : Sh} {mb : List (Value × List (List D))} {xs : List (List D)} (hx : bare (evO fr x) = .d (.raw v)) (hnx : needs (evO fr x)) (hi : bare (evO fr i) = .d (.int kk k)) (hni : needs (evO fr i))
    (hb : H b = some (.ob (.bag ety 1 mb))) (hj : mb[j]? = some (v, xs)) (hk : 0 ≤ k ∧ k < xs.length) (hty : E.X.ty t = some ⟨.slice e, s, by_, z⟩) (hte : E.X.ty e = some ⟨sh, 1, b', z'⟩) :
    SemV W0 M0 E ⟨d, .indexAddr t x i, ty', p, af, none⟩ ⟨fr, H, n⟩ (.d (.raw (ixV v k.toNat))) := by
  refine .value (fun c h => by cases h) fun H' n' hle a w S hH hop => ?_
  have hv := raw_is (hx ▸ (hop x (by simp [Op.operands])).bare_of hnx)
  have hi' := hi ▸ (hop i (by simp [Op.operands])).bare_of hni
  rw [R.int_iff] at hi'
  obtain ⟨l, hS, hb0, hbag⟩ := hH.box b _ (hle _ _ hb)
  obtain ⟨l1, c, hc, _, _, hvec, hvv⟩ := bag_at hbag hj (k := k.toNat) (by omega)
  have hrun := run_indexAt_sl (P := P) (ti := ⟨sh, 1, b', z'⟩) (E.X.facts hty).slice (E.X.facts hte).sizeOf (a := ⟨c, 0, none⟩) (len := xs.length) (cap := l1.cap) (kk := kk) hk.1 hk.2 w
  refine ⟨.pointer (some ((⟨c, 0, none⟩ : Addr).add (k.toNat * 1))), ?_, ?_⟩
  · simp only [execOp, hi', hv, hvv, Sem.run_bind, hrun, Result.andThen_ok, Sem.run_pure]
  · rw [hvv, Nat.mul_one]; exact .d (.raw _ rfl)

/-- A load from there. -/
theorem semv_rawLoad (b j k : Nat) {x : Operand} {v : Value} {ety s by_ : Nat} {z : List D} {sh : Sh} {mb : List (Value × List (List D))} {xs : List (List D)} {c : D} (hx : bare (evO fr x) = .d (.raw (ixV v k))) (hnx : needs (evO fr x))
    (hb : H b = some (.ob (.bag ety 1 mb))) (hj : mb[j]? = some (v, xs)) (hk : xs[k]? = some [c]) (hty : E.X.ty t = some ⟨sh, s, by_, z⟩) (hag : tiAgg ⟨sh, s, by_, z⟩ = false) :
    SemV W0 M0 E ⟨d, .load t x, ty', p, af, none⟩ ⟨fr, H, n⟩ (.d c) := by
  refine .value (fun c h => by cases h) fun H' n' hle a w S hH hop => ?_
  have hv := raw_is (hx ▸ (hop x (by simp [Op.operands])).bare_of hnx)
  obtain ⟨l, hS, hb0, hbag⟩ := hH.box b _ (hle _ _ hb)
  have hkl := (List.getElem?_eq_some_iff.1 hk).1
  obtain ⟨l1, bk, hbk, _, _, hvec, hvv⟩ := bag_at hbag hj hkl
  obtain ⟨q1, q2, q3, q4, q5, q6⟩ := hvec
  obtain ⟨cur, c1, c2, c3⟩ := q6 bk hbk
  obtain ⟨u, hu, hr⟩ := c3 k 0 c (by unfold at2; rw [hk]; rfl)
  have hcell : w.cell? ⟨bk, k, none⟩ = some u := by
    have := cell_of_row w bk k cur ety (0, 0) c1
    rw [this]; simpa using hu
  have hrun := run_loadVar_of (w := w) (E.X.facts hty) (b := bk) (o := k) [u] (fun h => by rw [hag] at h; cases h) (fun _ => rfl) (fun j y hj => by
    cases j with
    | zero => cases hj; exact hcell
    | succ j => simp at hj)
  have hp : a.eval x = .pointer (some ⟨bk, k, none⟩) := by
    rw [hv, hvv]
    show Value.pointer (some ((⟨bk, 0, none⟩ : Addr).add k)) = _
    rw [add_none, Nat.zero_add]
  refine ⟨u, ?_, .d hr⟩
  simp only [execOp, hp, Instr.loadAt, Instr.sureAddr, Sem.run_bind, Sem.run_pure, Result.andThen_ok, hrun, hag]
  simp

theorem fm_inj {α β : Type} {f : α → Option β} : ∀ {ls : List α}, (ls.filterMap f).Nodup → ∀ {i j : Nat} {a b : α} {c : β}, ls[i]? = some a → ls[j]? = some b → f a = some c → f b = some c → i = j
  | [], _, i, j, a, b, c, ha, _, _, _ => by simp at ha
  | x :: ls, hn, i, j, a, b, c, ha, hb, fa, fb => by
    have mem : ∀ {k : Nat} {y : α}, ls[k]? = some y → f y = some c → c ∈ ls.filterMap f := fun h1 h2 => List.mem_filterMap.2 ⟨_, List.mem_of_getElem? h1, h2⟩
    cases i with
    | zero =>
      cases j with
      | zero => rfl
      | succ j =>
        simp at ha hb; subst ha
        rw [List.filterMap_cons_some fa, List.nodup_cons] at hn
        exact absurd (mem hb fb) hn.1
    | succ i =>
      cases j with
      | zero =>
        simp at ha hb; subst hb
        rw [List.filterMap_cons_some fb, List.nodup_cons] at hn
        exact absurd (mem ha fa) hn.1
      | succ j =>
        simp at ha hb
        have hn' : (ls.filterMap f).Nodup := by
          cases hx : f x with
          | none => rw [List.filterMap_cons_none hx] at hn; exact hn
          | some y => rw [List.filterMap_cons_some hx, List.nodup_cons] at hn; exact hn.2
        rw [fm_inj hn' ha hb fa fb]

/-- A store there. -/
theorem sem_rawStore (b j k : Nat) {x y : Operand} {v : Value} {ety by_ : Nat} {z : List D} {sh : Sh} {mb : List (Value × List (List D))} {xs : List (List D)} {c : D} (hx : bare (evO fr x) = .d (.raw (ixV v k))) (hnx : needs (evO fr x)) (hy : bare (evO fr y) = .d c) (hny : needs (evO fr y))
    (hb : H b = some (.ob (.bag ety 1 mb))) (hj : mb[j]? = some (v, xs)) (hk : k < xs.length) (hty : E.X.ty t = some ⟨sh, 1, by_, z⟩)
    (kk : K ⟨putD d .any fr, upd H b (some (.ob (.bag ety 1 (mb.set j (v, xs.set k [c]))))), n⟩) : SemO W0 M0 E ⟨d, .store t x y, ty', p, af, none⟩ ⟨fr, H, n⟩ K := by
  refine .skip (fun c h => by cases h) fun a w S hH hop => ?_
  dsimp only at hH hop
  have hv := raw_is (hx ▸ (hop x (by simp [Op.operands])).bare_of hnx)
  have hu := hy ▸ (hop y (by simp [Op.operands])).bare_of hny
  have hrd : RD w (own S) c (a.eval y) := by cases hu with | d h => exact h
  have hone := hrd.one
  have hcells : (a.eval y).cells = #[a.eval y] := by
    generalize a.eval y = u at hone
    cases u <;> first | rfl | cases hone
  obtain ⟨l, hS, hb0, ls, h1, h2, h3⟩ := hH.box b _ hb
  have hjl : j < ls.length := by rw [h1]; exact (List.getElem?_eq_some_iff.1 hj).1
  obtain ⟨g1, g2, g3⟩ := h3 j ls[j] (v, xs) (List.getElem?_eq_getElem hjl) hj
  obtain ⟨q1, q2, q3, q4, q5, q6⟩ := g2
  have q3' : xs.length ≤ ls[j].cap := q3
  cases hbk : ls[j].blk with
  | none => have e1 := q5 hbk; omega
  | some bk =>
    obtain ⟨cur, c1, c2, c3⟩ := q6 bk hbk
    have hvv : v = .slice (some ⟨bk, 0, none⟩) xs.length ls[j].cap := by
      have g4 : v = sval ls[j] xs.length := g3
      rw [g4]; simp [sval, hbk]
    have hmem : bk ∈ l.subs := by rw [h2]; exact List.mem_filterMap.2 ⟨ls[j], List.getElem_mem _, hbk⟩
    have hp : a.eval x = .pointer (some ⟨bk, k, none⟩) := by
      rw [hv, hvv]
      show Value.pointer (some ((⟨bk, 0, none⟩ : Addr).add k)) = _
      rw [add_none, Nat.zero_add]
    have hrun := run_storeAt (P := P) (w := w) (E.X.facts hty) (o := k) (v := a.eval y) c1 (by rw [hcells]; rfl) (by rw [c2]; simp only; omega) (by rw [hcells]; intro u hu; simp at hu; subst hu; exact hone)
    rw [hcells] at hrun
    have hsub := (hH.nod b l hS).1
    obtain ⟨hH2, hE2⟩ := hH.write2 (w' := w.setRow bk (splice cur.toList k [a.eval y]).toArray) hS (.inr hmem) (.ob (.bag ety 1 (mb.set j (v, xs.set k [c])))) (by show (H b).isSome = true; rw [hb]; rfl) (by simp [World.setRow]) (by simp [World.setRow]) (by simp [World.setRow]) (setRow_same_size w bk _)
      (fun d hd => setRow_other w bk d _ hd) (fun hE => ⟨hb0, ls, by rw [List.length_set]; exact h1, h2, fun i l' pp hi hpp => by
        rw [List.getElem?_set] at hpp
        split at hpp
        · rename_i hij; subst hij
          split at hpp
          · cases hpp
            rw [List.getElem?_eq_getElem hjl] at hi; cases hi
            refine ⟨g1, ⟨q1, q2, by rw [List.length_set]; exact q3, fun r hr => ?_, q5, fun b' hb' => ?_⟩, ?_⟩
            · rcases List.mem_or_eq_of_mem_set hr with h | h
              · exact q4 r h
              · subst h; rfl
            · rw [hbk] at hb'; cases hb'
              refine ⟨_, setRow_heap w bk cur _ ety (0, 0) c1, ?_, fun e f c' hh => ?_⟩
              · have hc2 : cur.toList.length = ls[j].cap * 1 := by simpa using c2
                rw [List.size_toArray, splice_length (by rw [hc2]; simp; omega), hc2]
              · obtain ⟨row, r1, r2⟩ := at2_some hh
                rw [List.getElem?_set] at r1
                have hkc : k < cur.toList.length := by
                  have hc2 : cur.toList.length = ls[j].cap * 1 := by simpa using c2
                  omega
                by_cases hek : k = e
                · subst hek
                  rw [if_pos rfl, if_pos hk] at r1
                  cases r1
                  cases f with
                  | succ f => simp at r2
                  | zero =>
                    simp at r2; subst r2
                    refine ⟨a.eval y, ?_, hE.rd hrd⟩
                    simp [splice, List.getElem?_append, hkc, Nat.min_eq_left (Nat.le_of_lt hkc)]
                    try (have hkc' : k < cur.size := by simpa using hkc
                         simp [Nat.min_eq_left (Nat.le_of_lt hkc')])
                · rw [if_neg hek] at r1
                  obtain ⟨u, u1, u2⟩ := c3 e f c' (by unfold at2; rw [r1]; exact r2)
                  have hf0 : f = 0 := by
                    have := q4 row (List.mem_of_getElem? r1)
                    have := (List.getElem?_eq_some_iff.1 r2).1
                    omega
                  subst hf0
                  refine ⟨u, ?_, hE.rd u2⟩
                  simp only [Nat.mul_one, Nat.add_zero] at u1 ⊢
                  rw [List.getElem?_toArray]
                  have u1' : cur.toList[e]? = some u := by simpa using u1
                  unfold splice
                  by_cases hlt : e < k
                  · rw [List.append_assoc, List.getElem?_append_left (by rw [List.length_take]; omega), List.getElem?_take_of_lt hlt]; exact u1'
                  · rw [List.getElem?_append_right (by rw [List.length_append, List.length_take, List.length_singleton]; omega), List.length_append, List.length_take, List.length_singleton, List.getElem?_drop, Nat.min_eq_left (by omega)]
                    rw [show k + 1 + (e - (k + 1)) = e by omega]; exact u1'
            · rw [List.length_set]; exact g3
          · cases hpp
        · rename_i hij
          obtain ⟨k1, k2, k3⟩ := h3 i l' pp hi hpp
          refine ⟨k1, k2.ext (by rw [setRow_same_size]; exact Nat.le_refl _) (fun b' cur' t' z' hno hc => ?_) (fun _ _ h => h) (fun b' hb' => ?_), k3⟩
          · rw [setRow_other w bk b' _ (fun e => hno (by rw [e]; exact .inr ⟨b, l, hS, .inr hmem⟩))]; exact hc
          · refine setRow_other w bk b' _ (fun e => ?_)
            subst e
            rw [h2] at hsub
            exact hij (fm_inj hsub (List.getElem?_eq_getElem hjl) hi hbk hb')⟩) (fun h => by cases h)
    refine ⟨_, _, _, _, ?_, hH2, hE2, kk⟩
    simp only [execOp, hp, Sem.run_bind, hrun, Result.andThen_ok, Sem.run_pure]

theorem kilL_snoc (B : List Nat) {bl : List (Option Box)} {x : Option Box} {r : List (Option Box)} {q : Nat} (hB : q ∉ B) (hq : q = bl.length) : kilL (B ++ [q]) (bl ++ [x]) 0 ++ r = kilL B bl 0 ++ (none :: r) := by
  subst hq
  have key : ∀ (l : List (Option Box)) (i : Nat) (x : Option Box), i + l.length = bl.length → kilL (B ++ [bl.length]) (l ++ [x]) i = kilL B l i ++ [none] := by
    intro l
    induction l with
    | nil => intro i x hi; simp at hi; subst hi; simp [kilL]
    | cons y l ih =>
      intro i x hi
      simp only [List.length_cons] at hi
      have hne : i ≠ bl.length := by omega
      simp only [List.cons_append, kilL, List.mem_append, List.mem_cons, List.not_mem_nil, or_false, hne]
      rw [ih (i + 1) x (by omega)]
  rw [key bl 0 _ (by omega), List.append_assoc]; rfl

/-- 'make' of a slice that goes into a bag at once. -/
theorem sem_makePut (b : Nat) {tt : TypeId} {l c : Operand} {kl kc : IntKind} {ln cp : Int} {ety esz by_ s1 b1 : Nat} {z0 : D} {zs z1 : List D} {sh : Sh} {mb : List (Value × List (List D))} (hl : bare (evO fr l) = .d (.int kl ln)) (hnl : needs (evO fr l)) (hc : bare (evO fr c) = .d (.int kc cp)) (hnc : needs (evO fr c))
    (hty : E.X.ty tt = some ⟨.slice ety, s1, b1, z1⟩) (hte : E.X.ty ety = some ⟨sh, esz, by_, z0 :: zs⟩) (hm : m = bl.length) (hb : getB bl b = some (.ob (.bag ety esz mb))) (hp : 0 ≤ ln ∧ ln ≤ cp ∧ by_ * cp ≤ 140737488355328 ∧ cp ≤ 140737488355328 ∧ esz = (z0 :: zs).length)
    (k : ∀ v, K ⟨putD d (.d (.raw v)) fr, getB (kilL [b] bl 0 ++ [none, some (.ob (.bag ety esz (mb ++ [(v, List.replicate ln.toNat ((z0 :: zs).map cleanD))])))]), m + 2⟩) : SemO W0 M0 E ⟨d, .makeSlice tt l c, ty', p, af, none⟩ ⟨fr, getB bl, m⟩ K := by
  subst hm
  refine .value (fun c h => by cases h) fun a w S hH hop => ?_
  dsimp only at hH hop
  have hvl := (hop l (by simp [Op.operands])).bare_of hnl
  have hvc := (hop c (by simp [Op.operands])).bare_of hnc
  obtain ⟨v, w', S', hrun, h1, h2, h3⟩ := aMake_ok (X := E.X) hH (t := tt) (l := .d (.int kl ln)) (c := .d (.int kc cp)) (vl := a.eval l) (vc := a.eval c) (p := 0 ≤ ln ∧ ln ≤ cp ∧ by_ * cp ≤ 140737488355328 ∧ cp ≤ 140737488355328 ∧ esz = (z0 :: zs).length) (r := .sl bl.length 0 ln.toNat) (H' := upd (getB bl) bl.length (some (.vec ety esz (List.replicate ln.toNat ((z0 :: zs).map cleanD))))) (n' := bl.length + 1) (by simp only [aMake, hty, hte]) hp (hl ▸ hvl) (hc ▸ hvc)
  have hbl : b < bl.length := getB_lt hb
  have hH' : upd (getB bl) bl.length (some (.vec ety esz (List.replicate ln.toNat ((z0 :: zs).map cleanD)))) = getB (bl ++ [some (.vec ety esz (List.replicate ln.toNat ((z0 :: zs).map cleanD)))]) := by
    funext i
    rw [upd_app, getB_app]
    by_cases h : i = bl.length
    · subst h; rw [if_pos rfl, if_neg (by omega), Nat.sub_self]; rfl
    · rw [if_neg h]
      by_cases h' : i < bl.length
      · rw [if_pos h']
      · rw [if_neg h']
        unfold getB
        rw [List.getElem?_eq_none (by omega), List.getElem?_eq_none (by simp; omega)]
  rw [hH'] at h1
  obtain ⟨h6, S2, h7, h8⟩ := put_ok h1 (b := b) (j := bl.length) (m1 := mb) (m2 := []) (by omega) (by rw [getB_app, if_pos hbl, List.append_nil]; exact hb) (by rw [getB_app, if_neg (by omega), Nat.sub_self]; rfl) h3 (by rw [List.length_replicate]; exact Nat.le_refl _)
  rw [rem_list _ _ _ (by rw [List.length_append]; rfl), List.take_of_length_le (by rw [List.length_replicate]; exact Nat.le_refl _)] at h7
  rw [show [b, bl.length] = [b] ++ [bl.length] from rfl, kilL_snoc [b] (q := bl.length) (by simp; omega) rfl] at h7
  refine ⟨_, _, _, v, w', S2, ?_, h7, h2.trans h8, .d (.raw v h6), k v⟩
  simp only [execOp, Sem.run_bind, hrun, Result.andThen_ok, Sem.run_pure]

/-- Rows whose slices lie in a bag, as data. -/
theorem vc_dataT (tm id b : Nat) (hm : m = bl.length) {ty sz f ety esz : Nat} {ps : List (List D × List (List D))} {vs : List Value} {mb : List (Value × List (List D))} {xs : List (List D)} (hN : tm < E.N) (ht : fr tm = .sl id 0 ps.length) (hb : getB bl id = some (.vec ty sz xs)) (hbg : getB bl b = some (.ob (.bag ety esz mb)))
    (hne : b ≠ id) (hvs : vs.length = ps.length) (hxs : xs = rawR f ps vs) (hmb : mb = rawB ps vs)
    (h : VC E W0 M0 cd ⟨putD (some tm) (.d (.sl (dataR f ps))) fr, getB (kilL [id, b] bl 0 ++ [none]), m + 1⟩ Q) : VC E W0 M0 cd ⟨fr, getB bl, m⟩ Q := by
  subst hxs hmb hm
  refine VC.sub ?_ h
  rintro a w ⟨S, hH, hF, hM⟩
  obtain ⟨S1, h2, h3, h4⟩ := close_ok hH (getB bl) (fun _ h => h) (off := 0) (len := ps.length) hne hvs hb hbg (fun S' => turns_same _ _ _ _ _ _ _ _ _)
  rw [rem_list _ _ _ rfl] at h2
  have hlen : (kilL [id, b] bl 0).length = bl.length := kilL_length _ _ _
  obtain ⟨S2, h5, h6, h7⟩ := data_ok h2 (getB (kilL [id, b] bl 0 ++ List.map some [Box.ob (.uv ty sz f ety esz ps)])) (fun _ h => h) (id := bl.length) (by rw [getB_app, if_neg (by omega), hlen, Nat.sub_self]; rfl) (fun S' => turns_same _ _ _ _ _ _ _ _ _)
  rw [rem_list _ _ _ (by rw [List.length_append, hlen]; rfl)] at h5
  have e : kilL [bl.length] (kilL [id, b] bl 0 ++ List.map some [Box.ob (.uv ty sz f ety esz ps)]) 0 ++ List.map some ([] : List Box) = kilL [id, b] bl 0 ++ [none] := by
    have := kilL_snoc [] (bl := kilL [id, b] bl 0) (x := some (Box.ob (.uv ty sz f ety esz ps))) (r := []) (q := bl.length) (by simp) hlen.symm
    rw [List.nil_append] at this
    rw [show List.map some ([] : List Box) = [] from rfl]
    refine this.trans ?_
    rw [kilL_nil]
  rw [e] at h5
  refine ⟨S2, h5, ⟨hF.size, fun i => ?_⟩, (hM.ext h3).ext h6⟩
  simp only [putD, upd_app]
  split
  · rename_i hi
    subst hi
    exact h7 _ (h4 _ (ht ▸ hF.at_ i))
  · exact h6.r (h3.r (hF.at_ i))
end Go.Vc
