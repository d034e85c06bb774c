/- The Vc layer: clear; append of made rows. -/
import Derived.Test.YtaoifpmifpmhmaaVc27
set_option linter.all false
namespace Go.Vc
open Go Go.RowKit
section
variable [Far] {P : Program} {E : Env P} {W0 : World} {M0 : Nat → Prop} {w : World} {S : Lays} {n : Nat} {H : Heap} {fr : Nat → AV} {K : St → Prop} {d : Option Tmp} {t t' ty' : TypeId} {p : String} {af : Array Edge}

theorem zeroCells_get {z : Array Value} {m j : Nat} (hj : j < m * z.size) : ∃ u, (Builtin.zeroCells z m)[j]? = some u ∧ z[j % z.size]? = some u := by
  have hz : 0 < z.size := by
    rcases Nat.eq_zero_or_pos z.size with h | h
    · rw [h] at hj; omega
    · exact h
  have hm := Nat.mod_lt j hz
  refine ⟨z[j % z.size], ?_, by simp [hm]⟩
  simp [Builtin.zeroCells, hj, hm]

/-- What lies from 'off' on is cleared; nobody asks for it. -/
theorem sem_clear {e : TypeId} {s b s' b' sz : Nat} {z z' : List D} {z0 : D} {sh : Sh} {x : Operand} {id off len : Nat} {xs : List (List D)} (hx : bare (evO fr x) = .sl id off len) (hn : needs (evO fr x)) (hbx : H id = some (.vec e sz xs)) (hty : E.X.ty t = some ⟨.slice e, s, b, z⟩)
    (hte : E.X.ty e = some ⟨sh, s', b', z0 :: z'⟩) (hsz : s' = sz) (k : K ⟨putD d .any fr, upd H id (some (.vec e sz (xs.take off))), n⟩) : SemO W0 M0 E ⟨d, .call ⟨.builtin .clear, #[x], #[t]⟩, ty', p, af, none⟩ ⟨fr, H, n⟩ K := by
  refine .value (fun c h => by cases h) fun a w S hH hop => ?_
  have hR := (hop x (by simp [Op.operands, Call.operands])).bare_of hn
  rw [hx] at hR
  obtain ⟨lay, o, hS, hbox, hv, hcap, ho, h0⟩ := hR.sl_live hH hbx
  have hu := (E.X.facts hty).slice
  have hshort : HeapOk W0 M0 (upd H id (some (.vec e sz (xs.take off)))) n w S := hH.short (ys := xs.drop off) (by rw [List.take_append_drop]; exact hbx)
  have exec : ∀ {w' : World}, (Builtin.clear_ #[t] ty' #[a.eval x]).run P w = .ok (.tuple #[]) w' → (execOp a.eval ⟨d, .call ⟨.builtin .clear, #[x], #[t]⟩, ty', p, af, none⟩).run P w = .ok (.value (.tuple #[])) w' := by
    intro w' hrun
    simp only [execOp, resolve, invoke, builtin, Sem.run_bind, Sem.run_pure, Result.andThen_ok, List.map_toArray, List.map_cons, List.map_nil]
    rw [hrun]; rfl
  by_cases hl0 : len = 0
  · subst hl0
    refine ⟨_, _, n, _, w, S, exec ?_, hshort, Ext.refl _ _ _, .any _, k⟩
    rw [hv]
    simp [Builtin.clear_, run_underlying hu]
    cases lay.blk <;> simp
  · have hbox' := hbox
    obtain ⟨hsz', hcm, hxl, hz, hnil, hbk⟩ := hbox'
    cases hk : lay.blk with
    | none => have := hnil hk; omega
    | some g =>
      obtain ⟨cur, hcur, hsize, hcell⟩ := hbk g hk
      obtain ⟨i, zv, hi, his, hib, hzv, hzs, hzero⟩ := (E.X.facts hte).info
      obtain ⟨hzl, hzr⟩ := hzero (by simp)
      simp only at his hzs hzl
      have hes : sz = lay.sz := hsz'.symm
      have ho' := ho (by omega)
      have hzlen : (Builtin.zeroCells zv.cells len).toList.length = len * sz := by simp [Builtin.zeroCells, hzs, hsz]
      have hzsz : (Builtin.zeroCells zv.cells len).size = len * sz := by simpa using hzlen
      have hfit : off * sz + len * sz ≤ cur.size := by rw [hsize, ← Nat.add_mul]; exact Nat.mul_le_mul_right _ hcap
      have hrun := run_storeCells_at (P := P) g (off * sz) e (Builtin.zeroCells zv.cells len).toList 0 cur w hcur (by rw [hzlen]; omega) (fun u hu => by
        obtain ⟨j, hj⟩ := List.getElem?_of_mem hu
        rw [Array.getElem?_toList] at hj
        have hjl : j < len * zv.cells.size := by
          have := (Array.getElem?_eq_some_iff.1 hj).1
          simpa [Builtin.zeroCells] using this
        obtain ⟨u', h1, h2⟩ := zeroCells_get hjl
        rw [hj] at h1; cases h1
        have hlt := (Array.getElem?_eq_some_iff.1 h2).1
        have hlt' : j % zv.cells.size < (z0 :: z').length := by omega
        exact (hzr w (fun _ => False) _ _ _ (List.getElem?_eq_getElem hlt') h2).one)
      simp only [Nat.add_zero] at hrun
      obtain ⟨hH', hE⟩ := hshort.write (w' := w.setRow g (splice cur.toList (off * sz) (Builtin.zeroCells zv.cells len).toList).toArray) hS hk (.vec e sz (xs.take off)) (by rw [upd_app, if_pos rfl]; rfl) rfl rfl rfl (setRow_same_size _ _ _) (fun d hd => setRow_other w g d _ hd) (fun hE => by
        refine ⟨hsz', hcm, by rw [List.length_take]; omega, fun y hy => hz y (List.mem_of_mem_take hy), hnil, fun k' hk' => ?_⟩
        rw [hk] at hk'; cases hk'
        refine ⟨_, setRow_heap w g cur _ e (0, 0) hcur, ?_, fun e1 f1 c1 hh => ?_⟩
        · simp only [List.size_toArray]
          rw [splice_length (by simp only [Array.length_toList]; rw [hzsz]; exact hfit)]
          simpa using hsize
        · obtain ⟨row, hrow, hf⟩ := at2_some hh
          rw [List.getElem?_take] at hrow
          split at hrow
          · rename_i h1
            obtain ⟨u, hu, hR⟩ := hcell e1 f1 c1 (by simp [at2, hrow, hf])
            have hfl : f1 < sz := by rw [← hz row (List.mem_of_getElem? hrow)]; exact (List.getElem?_eq_some_iff.1 hf).1
            have : e1 * sz + f1 < off * sz := by
              have := Nat.mul_le_mul_right sz (show e1 + 1 ≤ off from h1); rw [Nat.add_mul] at this; omega
            refine ⟨u, ?_, hE.rd hR⟩
            simp only [List.getElem?_toArray]
            rw [splice_get (by simp only [Array.length_toList]; rw [hzsz]; exact hfit), if_neg (by omega), Array.getElem?_toList]
            exact hu
          · cases hrow)
      have e2 : upd (upd H id (some (.vec e sz (xs.take off)))) id (some (.vec e sz (xs.take off))) = upd H id (some (.vec e sz (xs.take off))) := by
        funext j; simp only [upd_app]; split <;> rfl
      rw [e2] at hH'
      refine ⟨_, _, n, _, _, S, exec ?_, hH', hE, .any _, k⟩
      rw [hv, hk]
      obtain ⟨m, rfl⟩ : ∃ m, len = m + 1 := ⟨len - 1, by omega⟩
      have hzv' : ∀ w, (zeroValue e).run P w = .ok zv w := fun w => by simp [zeroValue, typeInfo, hi, hzv]
      rw [ho', ← hes]
      simp [Builtin.clear_, run_underlying hu, hzv', hrun, splice]

theorem zeroC_add (z : Array Value) (a b : Nat) : Builtin.zeroCells z a ++ Builtin.zeroCells z b = Builtin.zeroCells z (a + b) := by
  apply Array.ext_getElem?
  intro j
  rw [Array.getElem?_append]
  have hsz : ∀ m, (Builtin.zeroCells z m).size = m * z.size := fun m => by simp [Builtin.zeroCells]
  rw [hsz]
  split
  · rename_i h
    obtain ⟨u, h1, h2⟩ := zeroCells_get h
    obtain ⟨u', h3, h4⟩ := zeroCells_get (z := z) (m := a + b) (j := j) (by rw [Nat.add_mul]; omega)
    rw [h2] at h4; cases h4
    rw [h1, h3]
  · rename_i h
    by_cases hb : j < (a + b) * z.size
    · have hb' : j - a * z.size < b * z.size := by rw [Nat.add_mul] at hb; omega
      obtain ⟨u, h1, h2⟩ := zeroCells_get hb'
      obtain ⟨u', h3, h4⟩ := zeroCells_get hb
      have hm : (j - a * z.size) % z.size = j % z.size := by
        have e0 : a * z.size = z.size * a := Nat.mul_comm _ _
        conv => rhs; rw [show j = (j - a * z.size) + z.size * a by omega]
        rw [Nat.add_mul_mod_self_left]
      rw [hm, h4] at h2; cases h2
      rw [h1, h3]
    · rw [Array.getElem?_eq_none (by rw [hsz, ]; rw [Nat.add_mul] at hb; omega), Array.getElem?_eq_none (by rw [hsz]; omega)]

/-- append(nil, make([]E, m)..): a new row of m zero elements. -/
theorem sem_appendM {e ti : TypeId} {s b s' b' s2 b2 : Nat} {z z' z2 : List D} {z0 : D} {sh : Sh} {x y : Operand} {k2 : IntKind} {m : Int} (hx : bare (evO fr x) = .d .nils) (hn : needs (evO fr x)) (hty : E.X.ty t = some ⟨.slice e, s, b, z⟩)
    (hte : E.X.ty e = some ⟨sh, s', b', z0 :: z'⟩) (hti : E.X.ty ti = some ⟨.int k2, s2, b2, z2⟩) (hy : bare (evO fr y) = .d (.int .i64 m)) (hny : needs (evO fr y)) (hm : 0 < m) (hb : m * b' ≤ 140737488355328) (hb1 : m ≤ 140737488355328)
    (k : K ⟨putD d (.sl n 0 m.toNat) fr, upd H n (some (.vec e s' (List.replicate m.toNat ((z0 :: z').map cleanD)))), n + 1⟩) : SemO W0 M0 E ⟨d, .call ⟨.builtin .append, #[x, y], #[t, ti]⟩, ty', p, af, none⟩ ⟨fr, H, n⟩ K := by
  refine .value (fun c h => by cases h) fun a w S hH hop => ?_
  have hR := (hop x (by simp [Op.operands, Call.operands])).bare_of hn
  have hY := (hop y (by simp [Op.operands, Call.operands])).bare_of hny
  rw [hx] at hR
  rw [hy, R.int_iff] at hY
  cases hR with | d hR =>
  generalize hvx : a.eval x = vx at hR
  cases hR
  have hu := (E.X.facts hty).slice
  have hui := (E.X.facts hti).int
  obtain ⟨i, zv, hi, his, hib, hzv, hzs, hzero⟩ := (E.X.facts hte).info
  obtain ⟨hzl, hzr⟩ := hzero (by simp)
  simp only at his hib hzs hzl
  obtain ⟨N, rfl⟩ : ∃ N : Nat, m = N := ⟨m.toNat, by omega⟩
  have hN : 0 < N := by omega
  simp only [Int.toNat_natCast] at k ⊢
  have hge := grownCap_ge w N 0 e
  have hcm : grownCap w N 0 e ≤ maxLen := grownCap_le_maxLen w N 0 e (by simp only [maxLen]; omega)
  have hbb : N * i.bytes ≤ 140737488355328 := by
    rw [hib]
    have e9 : ((N * b' : Nat) : Int) = (N : Int) * b' := Int.natCast_mul N b'
    show N * b' ≤ _
    omega
  have hs1 : 0 < s' := by rw [← hzl]; simp
  have hrun : (Builtin.append_ #[t, ti] ty' #[.slice none 0 0, .int .i64 N]).run P w = .ok (.slice (some ⟨w.heap.size, 0, none⟩) N (grownCap w N 0 e)) (w.drew.alloc (.cells (Builtin.zeroCells zv.cells (grownCap w N 0 e)) e)) := by
    have h1 : IntKind.i64.wrap (N : Int) = N := wrap_i64_in ⟨by omega, by omega⟩
    have h2 : ¬ ((N : Int) < 0) := by omega
    have h3 : ¬ ((N : Int) * i.bytes > 281474976710656) := by
      have : (N : Int) * i.bytes = ((N * i.bytes : Nat) : Int) := (Int.natCast_mul N i.bytes).symm
      omega
    have h4 : ¬ (N * i.size = 0) := by
      rw [his]; intro h0
      rcases Nat.mul_eq_zero.1 h0 with h | h <;> omega
    have h63 : ¬ (9223372036854775807 < (N : Int)) := by omega
    have h48' : ¬ (281474976710656 < Builtin.nextslicecap N 0 * i.bytes) := by rw [nextslicecap_zero hN]; omega
    have hN0 : N ≠ 0 := by omega
    have hz' : ∀ w, (zeroValue e).run P w = .ok zv w := fun w => by simp [zeroValue, typeInfo, hi, hzv]
    have e3 : Builtin.zeroCells zv.cells N ++ Builtin.zeroCells zv.cells (grownCap w N 0 e - N) = Builtin.zeroCells zv.cells (grownCap w N 0 e) := by rw [zeroC_add]; congr 1; omega
    have h1' : IntKind.wrap .i64 (N : Int) = N := h1
    have hsz0 : i.size ≠ 0 := by rw [his]; omega
    simp only [grownCap] at e3 ⊢
    simp [Builtin.append_, run_underlying hu, run_underlying hui, sizeOf, typeInfo, hi, asInt, asIntOf, h1', h2, h3, hN0, h63, h48', Question.forced, run_firstCells_none, newRow, hz', hsz0, e3]
    exact fun h0 => absurd h0 h4
  obtain ⟨hH', hE⟩ := hH.alloc (w1 := w.drew) ⟨rfl, rfl, rfl, rfl⟩ (Builtin.zeroCells zv.cells (grownCap w N 0 e)) e (.vec e s' (List.replicate N ((z0 :: z').map cleanD))) s' (grownCap w N 0 e) (fun S' n' hE hnew => by
    refine ⟨rfl, hcm, by simp; omega, fun x hx => ?_, by simp, fun b hb => ?_⟩
    · rw [List.mem_replicate] at hx
      rw [hx.2, List.length_map]; exact hzl
    · cases hb
      refine ⟨_, hnew, by simp [Builtin.zeroCells, hzs], fun e1 f1 c1 hh => ?_⟩
      obtain ⟨he1, hf1⟩ := at2_rep hh
      rw [List.getElem?_map] at hf1
      cases hd : (z0 :: z')[f1]? with
      | none => rw [hd] at hf1; cases hf1
      | some d =>
        rw [hd] at hf1; cases hf1
        have hf1l : f1 < s' := by have := (List.getElem?_eq_some_iff.1 hd).1; omega
        have hlt : e1 * s' + f1 < grownCap w N 0 e * zv.cells.size := by
          rw [hzs]
          have := Nat.mul_le_mul_right s' (show e1 + 1 ≤ grownCap w N 0 e by omega)
          rw [Nat.add_mul] at this; omega
        obtain ⟨u, h1, h2⟩ := zeroCells_get hlt
        have hmod : (e1 * s' + f1) % zv.cells.size = f1 := by rw [hzs, Nat.mul_comm, Nat.mul_add_mod]; exact Nat.mod_eq_of_lt hf1l
        rw [hmod] at h2
        exact ⟨u, h1, (hzr _ _ _ _ _ hd h2).clean⟩)
  refine ⟨_, _, _, .slice (some ⟨w.heap.size, 0, none⟩) N (grownCap w N 0 e), _, _, ?_, hH', hE, ?_, k⟩
  · simp only [execOp, resolve, invoke, builtin, Sem.run_bind, Sem.run_pure, Result.andThen_ok, List.map_toArray, List.map_cons, List.map_nil, hvx, hY]
    rw [hrun]; rfl
  · have := R.sl (w := w.drew.alloc (.cells (Builtin.zeroCells zv.cells (grownCap w N 0 e)) e)) (S := upd S n (some ⟨some w.heap.size, s', grownCap w N 0 e⟩)) (n := n + 1) n 0 N 0 ⟨some w.heap.size, s', grownCap w N 0 e⟩ (by omega) (by rw [upd_app, if_pos rfl]) (by simpa using hge) (fun _ => by simp) (fun _ => rfl)
    simpa using this
end
end Go.Vc
