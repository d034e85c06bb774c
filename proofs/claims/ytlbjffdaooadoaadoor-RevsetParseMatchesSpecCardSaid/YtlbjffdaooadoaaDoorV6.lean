/- The Vc layer, part 6. -/
import Derived.Test.YtlbjffdaooadoaaDoorV5
import Derived.MapKept
import Derived.Laws.IdiomRangeMap
/- The Vc layer: own rows frozen to data; rows that own slices, kept own with their slices as data. -/
set_option linter.all false
namespace Go.Vc
open Go Go.RowKit

section
variable [Far] {P : Program} {E : Env P} {W0 : World} {M0 : Nat → Prop} {w : World} {S : Lays} {n m : Nat} {H : Heap} {fr : Nat → AV} {K : St → Prop} {d : Option Tmp} {t t2 t' ty' : TypeId} {p : String} {af : Array Edge} {bl : List (Option Box)} {cd : Code} {Q : Exit → St → Prop}

end
end Go.Vc
/- The Vc layer: a closure called with a slice out of a bag, whose result is put back. -/
set_option linter.all false
namespace Go.Vc
open Go Go.RowKit

section
variable [Far] {P : Program} {E : Env P} {W0 : World} {M0 : Nat → Prop} {w : World} {S : Lays} {n m : Nat} {H : Heap} {fr : Nat → AV} {K : St → Prop} {d : Option Tmp} {t t2 t' ty' : TypeId} {p : String} {af : Array Edge} {bl : List (Option Box)} {cd : Code} {Q : Exit → St → Prop}

end
end Go.Vc
/- The Vc layer: maps from numbers to bools, of the function's own. -/
set_option linter.all false
namespace Go.Vc
open Go Go.RowKit

section
variable [Far] {P : Program} {E : Env P} {W0 : World} {M0 : Nat → Prop} {w : World} {S : Lays} {n m : Nat} {H : Heap} {fr : Nat → AV} {K : St → Prop} {d : Option Tmp} {t t2 t' ty' kt et : TypeId} {p : String} {af : Array Edge} {bl : List (Option Box)} {cd : Code} {Q : Exit → St → Prop}

theorem SemO.skip {o : Oper} {st : St} (hd : ∀ c, o.op ≠ .defer c) (h : ∀ (a : Act) (w : World) (S : Lays), HeapOk W0 M0 st.H st.n w S → (∀ x ∈ o.op.operands.toList, R w S st.n (evO st.fr x) (a.eval x)) →
    ∃ H' n' w' S', (execOp a.eval o).run P w = .ok .skip w' ∧ HeapOk W0 M0 H' n' w' S' ∧ Ext w S st.n w' S' n' ∧ K ⟨putD o.dst .any st.fr, H', n'⟩) : SemO W0 M0 E o st K := by
  intro a w S h1 h2 Q
  obtain ⟨H', n', w', S', e1, e2, e3, e4⟩ := h a w S h1 h2
  refine fen_op hd ?_
  rw [e1]
  exact ⟨.any, H', n', undef, S', rfl, e2, e3, .any _, e4⟩

theorem raw_is {v u : Value} (h : R w S n (.d (.raw v)) u) : u = v := by
  cases h with | d h => cases h; rfl

end
end Go.Vc
/- The Vc layer: a row of one's own made shorter, over states by lists. -/
set_option linter.all false
namespace Go.Vc
open Go Go.RowKit
section
variable [Far] {P : Program} {E : Env P} {W0 : World} {M0 : Nat → Prop} {m : Nat} {fr : Nat → AV} {bl : List (Option Box)} {cd : Code} {Q : Exit → St → Prop}
theorem vc_shortL (id k : Nat) {tb sz : Nat} {xs : List (List D)} (hb : getB bl id = some (.vec tb sz xs)) (h : VC E W0 M0 cd ⟨fr, getB (updL bl id (some (.vec tb sz (xs.take k)))), m⟩ Q) : VC E W0 M0 cd ⟨fr, getB bl, m⟩ Q :=
  vc_short k hb (by rw [upd_getB]; exact h)
end
end Go.Vc
/- The Vc layer: a variable as one box of cells; slices that lie in a bag, read and written in place. -/
set_option linter.all false
namespace Go.Vc
open Go Go.RowKit
variable [Far] {P : Program} {E : Env P} {W0 : World} {M0 : Nat → Prop} {fr : Nat → AV} {H : Heap} {n : Nat} {K : St → Prop} {d : Option Tmp} {ty' t : TypeId} {p : String} {af : Array Edge} {cd : Code} {Q : Exit → St → Prop} {bl : List (Option Box)} {m : Nat}

theorem SemV.value {o : Oper} {st : St} {c : AV} (hd : ∀ c, o.op ≠ .defer c) (h : ∀ (H' : Heap) (n' : Nat), HLe st.H H' → ∀ (a : Act) (w : World) (S : Lays), HeapOk W0 M0 H' n' w S → (∀ x ∈ o.op.operands.toList, R w S n' (evO st.fr x) (a.eval x)) →
    ∃ r, (execOp a.eval o).run P w = .ok (.value r) w ∧ R w S n' c r) : SemV W0 M0 E o st c := by
  intro H' n' hle a w S h1 h2 Q
  obtain ⟨r, e1, e2⟩ := h H' n' hle a w S h1 h2
  refine fen_op hd ?_
  rw [e1]
  exact ⟨r, rfl, rfl, e2⟩

def ixV (v : Value) (k : Nat) : Value := match v with
  | .slice (some a) _ _ => .pointer (some (a.add k))
  | _ => undef

theorem bag_at {w : World} {O : Nat → Prop} {ety esz : Nat} {mb : List (Value × List (List D))} {subs : List Nat} (h : BagP w O ety esz mb subs) {j : Nat} {v : Value} {xs : List (List D)} (hj : mb[j]? = some (v, xs)) {k : Nat} (hk : k < xs.length) :
    ∃ l b, l.blk = some b ∧ b ∈ subs ∧ l.subs = [] ∧ VecO w O ety esz xs l ∧ v = .slice (some ⟨b, 0, none⟩) xs.length l.cap := by
  obtain ⟨ls, h1, h2, h3⟩ := h
  have hjl : j < ls.length := by rw [h1]; exact (List.getElem?_eq_some_iff.1 hj).1
  obtain ⟨g1, g2, g3⟩ := h3 j ls[j] (v, xs) (List.getElem?_eq_getElem hjl) hj
  cases hb : ls[j].blk with
  | none => have e1 := g2.2.2.2.2.1 hb; have e2 : xs.length ≤ ls[j].cap := g2.2.2.1; omega
  | some b =>
    refine ⟨ls[j], b, hb, ?_, g1, g2, ?_⟩
    · rw [h2]; exact List.mem_filterMap.2 ⟨ls[j], List.getElem_mem _, hb⟩
    · have g4 : v = sval ls[j] xs.length := g3
      rw [g4]; simp [sval, hb]

theorem semv_rawIx (b j : Nat) {x i : Operand} {v : Value} {kk : IntKind} {k : Int} {e ety s by_ b' : Nat} {z z' : List D} {sh : Sh} {mb : List (Value × List (List D))} {xs : List (List D)} (hx : bare (evO fr x) = .d (.raw v)) (hnx : needs (evO fr x)) (hi : bare (evO fr i) = .d (.int kk k)) (hni : needs (evO fr i))
    (hb : H b = some (.ob (.bag ety 1 mb))) (hj : mb[j]? = some (v, xs)) (hk : 0 ≤ k ∧ k < xs.length) (hty : E.X.ty t = some ⟨.slice e, s, by_, z⟩) (hte : E.X.ty e = some ⟨sh, 1, b', z'⟩) :
    SemV W0 M0 E ⟨d, .indexAddr t x i, ty', p, af, none⟩ ⟨fr, H, n⟩ (.d (.raw (ixV v k.toNat))) := by
  refine .value (fun c h => by cases h) fun H' n' hle a w S hH hop => ?_
  have hv := raw_is (hx ▸ (hop x (by simp [Op.operands])).bare_of hnx)
  have hi' := hi ▸ (hop i (by simp [Op.operands])).bare_of hni
  rw [R.int_iff] at hi'
  obtain ⟨l, hS, hb0, hbag⟩ := hH.box b _ (hle _ _ hb)
  obtain ⟨l1, c, hc, _, _, hvec, hvv⟩ := bag_at hbag hj (k := k.toNat) (by omega)
  have hrun := run_indexAt_sl (P := P) (ti := ⟨sh, 1, b', z'⟩) (E.X.facts hty).slice (E.X.facts hte).sizeOf (a := ⟨c, 0, none⟩) (len := xs.length) (cap := l1.cap) (kk := kk) hk.1 hk.2 w
  refine ⟨.pointer (some ((⟨c, 0, none⟩ : Addr).add (k.toNat * 1))), ?_, ?_⟩
  · simp only [execOp, hi', hv, hvv, Sem.run_bind, hrun, Result.andThen_ok, Sem.run_pure]
  · rw [hvv, Nat.mul_one]; exact .d (.raw _ rfl)

theorem fm_inj {α β : Type} {f : α → Option β} : ∀ {ls : List α}, (ls.filterMap f).Nodup → ∀ {i j : Nat} {a b : α} {c : β}, ls[i]? = some a → ls[j]? = some b → f a = some c → f b = some c → i = j
  | [], _, i, j, a, b, c, ha, _, _, _ => by simp at ha
  | x :: ls, hn, i, j, a, b, c, ha, hb, fa, fb => by
    have mem : ∀ {k : Nat} {y : α}, ls[k]? = some y → f y = some c → c ∈ ls.filterMap f := fun h1 h2 => List.mem_filterMap.2 ⟨_, List.mem_of_getElem? h1, h2⟩
    cases i with
    | zero =>
      cases j with
      | zero => rfl
      | succ j =>
        simp at ha hb; subst ha
        rw [List.filterMap_cons_some fa, List.nodup_cons] at hn
        exact absurd (mem hb fb) hn.1
    | succ i =>
      cases j with
      | zero =>
        simp at ha hb; subst hb
        rw [List.filterMap_cons_some fb, List.nodup_cons] at hn
        exact absurd (mem ha fa) hn.1
      | succ j =>
        simp at ha hb
        have hn' : (ls.filterMap f).Nodup := by
          cases hx : f x with
          | none => rw [List.filterMap_cons_none hx] at hn; exact hn
          | some y => rw [List.filterMap_cons_some hx, List.nodup_cons] at hn; exact hn.2
        rw [fm_inj hn' ha hb fa fb]

theorem sem_rawStore (b j k : Nat) {x y : Operand} {v : Value} {ety by_ : Nat} {z : List D} {sh : Sh} {mb : List (Value × List (List D))} {xs : List (List D)} {c : D} (hx : bare (evO fr x) = .d (.raw (ixV v k))) (hnx : needs (evO fr x)) (hy : bare (evO fr y) = .d c) (hny : needs (evO fr y))
    (hb : H b = some (.ob (.bag ety 1 mb))) (hj : mb[j]? = some (v, xs)) (hk : k < xs.length) (hty : E.X.ty t = some ⟨sh, 1, by_, z⟩)
    (kk : K ⟨putD d .any fr, upd H b (some (.ob (.bag ety 1 (mb.set j (v, xs.set k [c]))))), n⟩) : SemO W0 M0 E ⟨d, .store t x y, ty', p, af, none⟩ ⟨fr, H, n⟩ K := by
  refine .skip (fun c h => by cases h) fun a w S hH hop => ?_
  dsimp only at hH hop
  have hv := raw_is (hx ▸ (hop x (by simp [Op.operands])).bare_of hnx)
  have hu := hy ▸ (hop y (by simp [Op.operands])).bare_of hny
  have hrd : RD w (own S) c (a.eval y) := by cases hu with | d h => exact h
  have hone := hrd.one
  have hcells : (a.eval y).cells = #[a.eval y] := by
    generalize a.eval y = u at hone
    cases u <;> first | rfl | cases hone
  obtain ⟨l, hS, hb0, ls, h1, h2, h3⟩ := hH.box b _ hb
  have hjl : j < ls.length := by rw [h1]; exact (List.getElem?_eq_some_iff.1 hj).1
  obtain ⟨g1, g2, g3⟩ := h3 j ls[j] (v, xs) (List.getElem?_eq_getElem hjl) hj
  obtain ⟨q1, q2, q3, q4, q5, q6⟩ := g2
  have q3' : xs.length ≤ ls[j].cap := q3
  cases hbk : ls[j].blk with
  | none => have e1 := q5 hbk; omega
  | some bk =>
    obtain ⟨cur, c1, c2, c3⟩ := q6 bk hbk
    have hvv : v = .slice (some ⟨bk, 0, none⟩) xs.length ls[j].cap := by
      have g4 : v = sval ls[j] xs.length := g3
      rw [g4]; simp [sval, hbk]
    have hmem : bk ∈ l.subs := by rw [h2]; exact List.mem_filterMap.2 ⟨ls[j], List.getElem_mem _, hbk⟩
    have hp : a.eval x = .pointer (some ⟨bk, k, none⟩) := by
      rw [hv, hvv]
      show Value.pointer (some ((⟨bk, 0, none⟩ : Addr).add k)) = _
      rw [add_none, Nat.zero_add]
    have hrun := run_storeAt (P := P) (w := w) (E.X.facts hty) (o := k) (v := a.eval y) c1 (by rw [hcells]; rfl) (by rw [c2]; simp only; omega) (by rw [hcells]; intro u hu; simp at hu; subst hu; exact hone)
    rw [hcells] at hrun
    have hsub := (hH.nod b l hS).1
    obtain ⟨hH2, hE2⟩ := hH.write2 (w' := w.setRow bk (splice cur.toList k [a.eval y]).toArray) hS (.inr hmem) (.ob (.bag ety 1 (mb.set j (v, xs.set k [c])))) (by show (H b).isSome = true; rw [hb]; rfl) (by simp [World.setRow]) (by simp [World.setRow]) (by simp [World.setRow]) (setRow_same_size w bk _)
      (fun d hd => setRow_other w bk d _ hd) (fun hE => ⟨hb0, ls, by rw [List.length_set]; exact h1, h2, fun i l' pp hi hpp => by
        rw [List.getElem?_set] at hpp
        split at hpp
        · rename_i hij; subst hij
          split at hpp
          · cases hpp
            rw [List.getElem?_eq_getElem hjl] at hi; cases hi
            refine ⟨g1, ⟨q1, q2, by rw [List.length_set]; exact q3, fun r hr => ?_, q5, fun b' hb' => ?_⟩, ?_⟩
            · rcases List.mem_or_eq_of_mem_set hr with h | h
              · exact q4 r h
              · subst h; rfl
            · rw [hbk] at hb'; cases hb'
              refine ⟨_, setRow_heap w bk cur _ ety (0, 0) c1, ?_, fun e f c' hh => ?_⟩
              · have hc2 : cur.toList.length = ls[j].cap * 1 := by simpa using c2
                rw [List.size_toArray, splice_length (by rw [hc2]; simp; omega), hc2]
              · obtain ⟨row, r1, r2⟩ := at2_some hh
                rw [List.getElem?_set] at r1
                have hkc : k < cur.toList.length := by
                  have hc2 : cur.toList.length = ls[j].cap * 1 := by simpa using c2
                  omega
                by_cases hek : k = e
                · subst hek
                  rw [if_pos rfl, if_pos hk] at r1
                  cases r1
                  cases f with
                  | succ f => simp at r2
                  | zero =>
                    simp at r2; subst r2
                    refine ⟨a.eval y, ?_, hE.rd hrd⟩
                    simp [splice, List.getElem?_append, hkc, Nat.min_eq_left (Nat.le_of_lt hkc)]
                    try (have hkc' : k < cur.size := by simpa using hkc
                         simp [Nat.min_eq_left (Nat.le_of_lt hkc')])
                · rw [if_neg hek] at r1
                  obtain ⟨u, u1, u2⟩ := c3 e f c' (by unfold at2; rw [r1]; exact r2)
                  have hf0 : f = 0 := by
                    have := q4 row (List.mem_of_getElem? r1)
                    have := (List.getElem?_eq_some_iff.1 r2).1
                    omega
                  subst hf0
                  refine ⟨u, ?_, hE.rd u2⟩
                  simp only [Nat.mul_one, Nat.add_zero] at u1 ⊢
                  rw [List.getElem?_toArray]
                  have u1' : cur.toList[e]? = some u := by simpa using u1
                  unfold splice
                  by_cases hlt : e < k
                  · rw [List.append_assoc, List.getElem?_append_left (by rw [List.length_take]; omega), List.getElem?_take_of_lt hlt]; exact u1'
                  · rw [List.getElem?_append_right (by rw [List.length_append, List.length_take, List.length_singleton]; omega), List.length_append, List.length_take, List.length_singleton, List.getElem?_drop, Nat.min_eq_left (by omega)]
                    rw [show k + 1 + (e - (k + 1)) = e by omega]; exact u1'
            · rw [List.length_set]; exact g3
          · cases hpp
        · rename_i hij
          obtain ⟨k1, k2, k3⟩ := h3 i l' pp hi hpp
          refine ⟨k1, k2.ext (by rw [setRow_same_size]; exact Nat.le_refl _) (fun b' cur' t' z' hno hc => ?_) (fun _ _ h => h) (fun b' hb' => ?_), k3⟩
          · rw [setRow_other w bk b' _ (fun e => hno (by rw [e]; exact .inr ⟨b, l, hS, .inr hmem⟩))]; exact hc
          · refine setRow_other w bk b' _ (fun e => ?_)
            subst e
            rw [h2] at hsub
            exact hij (fm_inj hsub (List.getElem?_eq_getElem hjl) hi hbk hb')⟩) (fun h => by cases h)
    refine ⟨_, _, _, _, ?_, hH2, hE2, kk⟩
    simp only [execOp, hp, Sem.run_bind, hrun, Result.andThen_ok, Sem.run_pure]

theorem kilL_snoc (B : List Nat) {bl : List (Option Box)} {x : Option Box} {r : List (Option Box)} {q : Nat} (hB : q ∉ B) (hq : q = bl.length) : kilL (B ++ [q]) (bl ++ [x]) 0 ++ r = kilL B bl 0 ++ (none :: r) := by
  subst hq
  have key : ∀ (l : List (Option Box)) (i : Nat) (x : Option Box), i + l.length = bl.length → kilL (B ++ [bl.length]) (l ++ [x]) i = kilL B l i ++ [none] := by
    intro l
    induction l with
    | nil => intro i x hi; simp at hi; subst hi; simp [kilL]
    | cons y l ih =>
      intro i x hi
      simp only [List.length_cons] at hi
      have hne : i ≠ bl.length := by omega
      simp only [List.cons_append, kilL, List.mem_append, List.mem_cons, List.not_mem_nil, or_false, hne]
      rw [ih (i + 1) x (by omega)]
  rw [key bl 0 _ (by omega), List.append_assoc]; rfl

theorem sem_makePut (b : Nat) {tt : TypeId} {l c : Operand} {kl kc : IntKind} {ln cp : Int} {ety esz by_ s1 b1 : Nat} {z0 : D} {zs z1 : List D} {sh : Sh} {mb : List (Value × List (List D))} (hl : bare (evO fr l) = .d (.int kl ln)) (hnl : needs (evO fr l)) (hc : bare (evO fr c) = .d (.int kc cp)) (hnc : needs (evO fr c))
    (hty : E.X.ty tt = some ⟨.slice ety, s1, b1, z1⟩) (hte : E.X.ty ety = some ⟨sh, esz, by_, z0 :: zs⟩) (hm : m = bl.length) (hb : getB bl b = some (.ob (.bag ety esz mb))) (hp : 0 ≤ ln ∧ ln ≤ cp ∧ by_ * cp ≤ 140737488355328 ∧ cp ≤ 140737488355328 ∧ esz = (z0 :: zs).length)
    (k : ∀ v, K ⟨putD d (.d (.raw v)) fr, getB (kilL [b] bl 0 ++ [none, some (.ob (.bag ety esz (mb ++ [(v, List.replicate ln.toNat ((z0 :: zs).map cleanD))])))]), m + 2⟩) : SemO W0 M0 E ⟨d, .makeSlice tt l c, ty', p, af, none⟩ ⟨fr, getB bl, m⟩ K := by
  subst hm
  refine .value (fun c h => by cases h) fun a w S hH hop => ?_
  dsimp only at hH hop
  have hvl := (hop l (by simp [Op.operands])).bare_of hnl
  have hvc := (hop c (by simp [Op.operands])).bare_of hnc
  obtain ⟨v, w', S', hrun, h1, h2, h3⟩ := aMake_ok (X := E.X) hH (t := tt) (l := .d (.int kl ln)) (c := .d (.int kc cp)) (vl := a.eval l) (vc := a.eval c) (p := 0 ≤ ln ∧ ln ≤ cp ∧ by_ * cp ≤ 140737488355328 ∧ cp ≤ 140737488355328 ∧ esz = (z0 :: zs).length) (r := .sl bl.length 0 ln.toNat) (H' := upd (getB bl) bl.length (some (.vec ety esz (List.replicate ln.toNat ((z0 :: zs).map cleanD))))) (n' := bl.length + 1) (by simp only [aMake, hty, hte]) hp (hl ▸ hvl) (hc ▸ hvc)
  have hbl : b < bl.length := getB_lt hb
  have hH' : upd (getB bl) bl.length (some (.vec ety esz (List.replicate ln.toNat ((z0 :: zs).map cleanD)))) = getB (bl ++ [some (.vec ety esz (List.replicate ln.toNat ((z0 :: zs).map cleanD)))]) := by
    funext i
    rw [upd_app, getB_app]
    by_cases h : i = bl.length
    · subst h; rw [if_pos rfl, if_neg (by omega), Nat.sub_self]; rfl
    · rw [if_neg h]
      by_cases h' : i < bl.length
      · rw [if_pos h']
      · rw [if_neg h']
        unfold getB
        rw [List.getElem?_eq_none (by omega), List.getElem?_eq_none (by simp; omega)]
  rw [hH'] at h1
  obtain ⟨h6, S2, h7, h8⟩ := put_ok h1 (b := b) (j := bl.length) (m1 := mb) (m2 := []) (by omega) (by rw [getB_app, if_pos hbl, List.append_nil]; exact hb) (by rw [getB_app, if_neg (by omega), Nat.sub_self]; rfl) h3 (by rw [List.length_replicate]; exact Nat.le_refl _)
  rw [rem_list _ _ _ (by rw [List.length_append]; rfl), List.take_of_length_le (by rw [List.length_replicate]; exact Nat.le_refl _)] at h7
  rw [show [b, bl.length] = [b] ++ [bl.length] from rfl, kilL_snoc [b] (q := bl.length) (by simp; omega) rfl] at h7
  refine ⟨_, _, _, v, w', S2, ?_, h7, h2.trans h8, .d (.raw v h6), k v⟩
  simp only [execOp, Sem.run_bind, hrun, Result.andThen_ok, Sem.run_pure]

end Go.Vc
/- The Vc layer: interfaces that are nil or not; an array variable sliced as a row; recursion. -/
set_option linter.all false
namespace Go.Vc
open Go Go.RowKit

section
variable [Far] {P : Program} {E : Env P} {W0 : World} {M0 : Nat → Prop} {w : World} {S : Lays} {n : Nat} {H : Heap} {fr : Nat → AV} {K : St → Prop} {d : Option Tmp} {t t2 t' ty' : TypeId} {p : String} {af : Array Edge}

def ifcB (P : Program) (t : TypeId) : Bool := match P.underlying t with | some (.interface _) => true | _ => false
theorem sem_ifcne {x : Operand} {b : Bool} (hx : bare (evO fr x) = .d (.ifc b)) (hn : needs (evO fr x)) (hty : ifcB P t = true)
    (k : K ⟨putD d (.d (.bool (!b))) fr, H, n⟩) : SemO W0 M0 E ⟨d, .binOp .neq t x (.const .nilIface) ty', t', p, af, none⟩ ⟨fr, H, n⟩ K := by
  refine .value (fun c h => by cases h) fun a w S hH hop => ?_
  have hR := (hop x (by simp [Op.operands])).bare_of hn
  rw [hx] at hR
  have hu : ∃ ms, P.underlying t = some (.interface ms) := by
    unfold ifcB at hty
    split at hty
    · exact ⟨_, by assumption⟩
    · cases hty
  obtain ⟨ms, hu⟩ := hu
  generalize hv : a.eval x = v at hR
  refine ⟨_, H, n, .bool (!b), w, S, ?_, hH, Ext.refl _ _ _, R.mkBool _, k⟩
  simp only [execOp, hv, show a.eval (.const .nilIface) = .nilIface from rfl]
  cases hR with | d hR =>
  cases hR with
  | ifc0 =>
    have h : ∀ d : Nat, (Op.equalIn (d + 1) t .nilIface .nilIface).run P w = .ok true w := fun d => by simp [Op.equalIn, run_underlying hu]
    simp [eqGuard, binOp, Op.equal, Op.maxDepth, h 9999]
  | ifc1 te pe =>
    have h : ∀ d : Nat, (Op.equalIn (d + 1) t (.iface te pe) .nilIface).run P w = .ok false w := fun d => by simp [Op.equalIn, run_underlying hu]
    simp [eqGuard, binOp, Op.equal, Op.maxDepth, h 9999]

theorem SemO.said {o : Oper} {H2 : Heap} (h : ∀ (w : World) (S : Lays), HeapOk W0 M0 H n w S → HeapOk W0 M0 H2 n w S) (hs : SemO W0 M0 E o ⟨fr, H2, n⟩ K) : SemO W0 M0 E o ⟨fr, H, n⟩ K :=
  fun a w S h1 h2 Q => hs a w S (h w S h1) h2 Q
theorem sem_unfull {o : Oper} {id e sz c : Nat} {xs : List (List D)} (hb : H id = some (.ob (.full e sz xs c))) (hs : SemO W0 M0 E o ⟨fr, upd H id (some (.vec e sz xs)), n⟩ K) : SemO W0 M0 E o ⟨fr, H, n⟩ K :=
  hs.said fun w S h => unfull_ok h hb

theorem sem_allocFull {e el : TypeId} {sz m by_ : Nat} {z : List D} {xs : List (List D)} (hty : E.X.ty e = some ⟨.array m el, sz, by_, z⟩) (hz : z.map (fun c => [c]) = xs) (hsz : sz = z.length) (h0 : 0 < sz) (hmx : sz ≤ maxLen)
    (k : K ⟨putD d (.ptr n 0 0) fr, upd H n (some (.ob (.full e 1 xs sz))), n + 1⟩) : SemO W0 M0 E ⟨d, .alloc e, ty', p, af, none⟩ ⟨fr, H, n⟩ K := by
  subst hz
  refine .value (fun c h => by cases h) fun a w S hH hop => ?_
  obtain ⟨i, zv, hi, his, _, hzv, hzs, hzero⟩ := (E.X.facts hty).info
  have hzne : z ≠ [] := fun e => by subst e; simp at hsz; omega
  obtain ⟨hzl', hzr⟩ := hzero hzne
  simp only at hzs hzl' his
  obtain ⟨hH', hE⟩ := hH.alloc (w1 := w) ⟨rfl, rfl, rfl, rfl⟩ zv.cells e (.ob (.full e 1 (z.map fun c => [c]) sz)) 1 sz (fun S' n' hE hnew => by
    refine ⟨rfl, rfl, rfl, hmx, by rw [List.length_map]; exact Nat.le_of_eq hsz.symm, fun x hx => ?_, (fun h => by cases h), fun b hb => ?_⟩
    · obtain ⟨c, _, rfl⟩ := List.mem_map.1 hx; rfl
    · cases hb
      refine ⟨zv.cells, hnew, by rw [hzs, Nat.mul_one], fun e' f' c hc => ?_⟩
      obtain ⟨x, hx, hf⟩ := at2_some hc
      rw [List.getElem?_map] at hx
      cases hd : z[e']? with
      | none => rw [hd] at hx; cases hx
      | some dd =>
        rw [hd] at hx; cases hx
        cases f' with
        | succ f' => simp at hf
        | zero =>
          simp at hf; subst hf
          have hlt : e' < zv.cells.size := by have := (List.getElem?_eq_some_iff.1 hd).1; omega
          have hr := hzr (w.alloc (.cells zv.cells e)) (own S') _ _ _ hd (Array.getElem?_eq_getElem hlt)
          exact ⟨_, by rw [Nat.mul_one, Nat.add_zero]; exact Array.getElem?_eq_getElem hlt, hr⟩)
  refine ⟨.ptr n 0 0, _, _, .pointer (some ⟨w.heap.size, 0, none⟩), w.alloc (.cells zv.cells e), _, ?_, hH', hE, HeapOk.ptr_new (W0 := W0) (M0 := M0) (k := 0) S, k⟩
  have hzz : (zeroValue e).run P w = .ok zv w := by simp [zeroValue, typeInfo, hi, hzv]
  have : (Instr.alloc e true (.tuple #[])).run P w = .ok (.pointer (some ⟨w.heap.size, 0, none⟩)) (w.alloc (.cells zv.cells e)) := by
    simp only [Instr.alloc, Sem.run_bind, hzz, Result.andThen_ok, newVar, newRow, newObj]
    simp [Sem.run]
  simp only [execOp, Sem.run_bind, this, Result.andThen_ok, Sem.run_pure]

theorem semv_arr {el : TypeId} {id e sz m by_ c s' b' : Nat} {z z' : List D} {sh : Sh} {xs : List (List D)} {x : Operand} (hx : bare (evO fr x) = .ptr id 0 0) (hn : needs (evO fr x)) (hb : H id = some (.ob (.full e 1 xs c))) (hty : E.X.ty t = some ⟨.array m el, sz, by_, z⟩) (hte : E.X.ty el = some ⟨sh, s', b', z'⟩) (hm : m = c) (h0 : 0 < m) :
    SemV W0 M0 E ⟨d, .slice t x none none none, ty', p, af, none⟩ ⟨fr, H, n⟩ (.sl id 0 m) := by
  refine .value (fun c h => by cases h) fun H' n' hle a w S hH hop => ?_
  have hR := (hop x (by simp [Op.operands])).bare_of hn
  rw [hx] at hR
  obtain ⟨l, k, hS, hbox, hk, hv⟩ := hR.ptr_live hH (hle _ _ hb)
  have hc : l.cap = c := hbox.2.1
  refine ⟨.slice (some ⟨k, 0, none⟩) m m, ?_, ?_⟩
  · have hsz := (E.X.facts hte).sizeOf
    simp only at hsz
    simp only [execOp, hv, Option.map_none]
    unfold Instr.sliceAt
    simp only [Sem.run_bind, run_underlying (E.X.facts hty).array, Result.andThen_ok]
    simp [Instr.sliceBounds, Instr.sureAddr, hsz, add_none]
  · have := R.sl (w := w) (S := S) (n := n') id 0 m 0 l (hH.lt hS) hS (by omega) (fun _ => by rw [Nat.zero_mul]) (fun _ => rfl)
    rw [hk, show l.cap - 0 = m by omega] at this
    exact this
end

theorem meets_void {P : Program} {f : FuncId} {g : GFun} (h : ∀ a b p r bf, g a b = some (p, r, bf) → ¬p) : Meets P f (Spec.gen g) := by
  intro args H n p r o hrun hp
  simp only [Spec.gen, genRun] at hrun
  split at hrun
  · split at hrun
    · rename_i hg
      split at hrun
      · simp only [Option.some.injEq, Prod.mk.injEq] at hrun
        obtain ⟨rfl, _⟩ := hrun
        exact absurd hp (h _ _ _ _ _ hg)
      · cases hrun
    · cases hrun
  · cases hrun
theorem meets_voidP {P : Program} {f : FuncId} {g : List AV → Option (Prop × AV)} (h : ∀ a p r, g a = some (p, r) → ¬p) : Meets P f (Spec.pure g) := by
  intro args H n p r o hrun hp
  simp only [Spec.pure] at hrun
  split at hrun
  · rename_i hg
    simp only [Option.some.injEq, Prod.mk.injEq] at hrun
    obtain ⟨rfl, _⟩ := hrun
    exact absurd hp (h _ _ _ hg)
  · cases hrun
theorem meets_union {P : Program} {f : FuncId} {g : Nat → GFun} (k : List AV → List (Option Box) → Nat) (h : ∀ n, Meets P f (Spec.gen (g n))) : Meets P f (Spec.gen fun a b => g (k a b) a b) := by
  intro args H n p r o hrun hp
  intro F w S vs h1 h2 h3
  have hr := hrun
  simp only [Spec.gen, genRun] at hr
  split at hr
  · rename_i ia bl hia hbl
    refine h (k ia bl) args H n p r o ?_ hp w S vs h1 h2 h3
    simp only [Spec.gen, genRun, hia, hbl]
    exact hr
  · cases hr
end Go.Vc
/- The Vc layer: one slice of a bag, which a row holds raw, read as data from now on. -/
set_option linter.all false
namespace Go.Vc
open Go Go.RowKit
section
variable [Far] {P : Program} {E : Env P} {W0 : World} {M0 : Nat → Prop} {fr : Nat → AV} {cd : Code} {Q : Exit → St → Prop} {bl : List (Option Box)} {m : Nat}
theorem vc_freeze1 (id b k : Nat) (hm : m = bl.length) {ty ety esz : Nat} {v : Value} {xs ys : List (List D)} (hb : getB bl id = some (.vec ty 1 xs)) (hk : xs[k]? = some [.raw v]) (hbg : getB bl b = some (.ob (.bag ety esz [(v, ys)]))) (hne : b ≠ id)
    (h : VC E W0 M0 cd ⟨fr, getB (updL (kilL [b] bl 0) id (some (.vec ty 1 (xs.set k [.sl ys])))), m⟩ Q) : VC E W0 M0 cd ⟨fr, getB bl, m⟩ Q := by
  subst hm
  refine VC.sub ?_ h
  rintro a w ⟨S, hH, hF, hM⟩
  obtain ⟨lb, hSb, hb0, ls, h3, h4, h5⟩ := hH.box b _ hbg
  have hnew : ∀ c, c < w.heap.size → ¬ own S c → ¬ own (rem [b] bl.length ([] : List Lay) S) c := fun c _ hno ho => by
    rcases ho with ho | ⟨i, l', g1, g2⟩
    · exact hno (.inl ho)
    · by_cases hi : i < bl.length
      · rw [rem_lt hi] at g1
        split at g1
        · cases g1
        · exact hno (.inr ⟨i, l', g1, g2⟩)
      · rw [rem_ge (by omega)] at g1; simp at g1
  have inner : RD w (own (rem [b] bl.length ([] : List Lay) S)) (.sl ys) v := by
    have hkl : 0 < ls.length := by rw [h3]; simp
    obtain ⟨g1, g2, g3⟩ := h5 0 ls[0] (v, ys) (List.getElem?_eq_getElem hkl) rfl
    simp only at g2 g3
    rw [g3]
    exact vec_data g2 hnew (fun c hc => not_own_rem hH hSb (.inr (by rw [h4]; exact List.mem_filterMap.2 ⟨_, List.getElem_mem hkl, hc⟩)) (by simp) (fun l' h => by cases h)) 0 rfl
  have key := hH.redeal [b] [] [] (getB bl) rfl (fun _ i b l _ h _ => .inl h) (fun _ h => h) (fun l' hl' => by cases hl') (fun i j l1 l2 c hi => by simp at hi) (fun l' hl' => by cases hl') (fun i l' b' hb' => by simp at hb') (fun hE i l' b' hb' => by simp at hb')
  have h1 := key.1
  rw [rem_list _ _ _ rfl] at h1
  simp only [List.map_nil, List.append_nil, List.length_nil, Nat.add_zero] at h1
  have hid : getB (kilL [b] bl 0) id = some (.vec ty 1 xs) := by
    have e := congrFun (rem_list bl [b] ([] : List Box) rfl) id
    simp only [List.map_nil, List.append_nil] at e
    rw [← e]
    have hil : id < bl.length := by
      rcases Nat.lt_or_ge id bl.length with hi | hi
      · exact hi
      · have : getB bl id = none := by unfold getB; rw [List.getElem?_eq_none hi]; rfl
        rw [this] at hb; cases hb
    rw [rem_lt hil, if_neg (by simpa using fun e => hne e.symm)]
    exact hb
  refine ⟨_, ?_, hF.ext key.2, hM.ext key.2⟩
  rw [← upd_getB]
  refine h1.rebox hid fun l hl hbx hf => ⟨?_, fun _ => hf rfl⟩
  obtain ⟨q1, q2, q3, q4, q5, q6⟩ := hbx
  refine ⟨q1, q2, by rw [List.length_set]; exact q3, fun x hx => ?_, q5, fun c hc => ?_⟩
  · rcases List.mem_or_eq_of_mem_set hx with hx | rfl
    · exact q4 x hx
    · rfl
  · obtain ⟨cur, e1, e2, e3⟩ := q6 c hc
    refine ⟨cur, e1, e2, fun e f d hh => ?_⟩
    obtain ⟨row, hrow, hf'⟩ := at2_some hh
    rw [List.getElem?_set] at hrow
    split at hrow
    · rename_i hke
      subst hke
      split at hrow
      · cases hrow
        cases f with
        | succ f => simp at hf'
        | zero =>
          simp at hf'
          subst hf'
          obtain ⟨u, hu, hR⟩ := e3 k 0 (.raw v) (by simp [at2, hk])
          refine ⟨u, hu, ?_⟩
          cases hR
          exact inner
      · cases hrow
    · exact e3 e f d (by simp [at2, hrow, hf'])
end
end Go.Vc
