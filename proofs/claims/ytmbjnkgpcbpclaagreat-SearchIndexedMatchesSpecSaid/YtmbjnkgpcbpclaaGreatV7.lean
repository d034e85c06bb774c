/- The Vc layer, part 7. -/
import Derived.Test.YtmbjnkgpcbpclaaGreatV6
/- The Vc layer: tables of slices whose last one stays own: make, append, store, load, freezing. -/
set_option linter.all false
namespace Go.Vc
open Go Go.RowKit
section
variable [Bl] {P : Program} {E : Bq P} {W0 : World} {M0 : Nat → Prop} {w : World} {S : Lays} {n m : Nat} {H : Av} {fr : Nat → AV} {K : St → Prop} {d : Option Tmp} {t t2 t' ty' : TypeId} {p : String} {af : Array Edge} {bl : List (Option B7)} {cd : Code} {Q : Exit → St → Prop}
theorem Wo (bl : List (Option B7)) (b : Option B7) : CI (Ax bl) bl.length b = Ax (bl ++ [b]) := by
 funext i
 rw [AA, G9]
 by_cases h : i = bl.length
 ·subst h; rw [if_pos rfl, if_neg (by omega), Nat.sub_self]; unfold Ax; rfl
 ·rw [if_neg h]
  by_cases h' : i < bl.length
  ·rw [if_pos h']
  ·rw [if_neg h']
   unfold Ax
   rw [List.getElem?_eq_none (by omega), List.getElem?_eq_none (by simp; omega)]
theorem Pd (b : Option B7) (r : List (Option B7)) : ∀ (l : List (Option B7)) (i : Nat), i < l.length → Cc (l ++ r) i b = Cc l i b ++ r
 | [], i, h => by simp at h
 | _ :: l, 0, _ => rfl
 | x :: l, i + 1, h => by simp only [List.cons_append, Cc]; rw [Pd b r l i (by simpa using h)]
theorem T1 {tt : TypeId} {l c : Operand} {kl kc : IntKind} {ln cp : Int} {ety by_ s1 b1 : Nat} {z1 : List D} {sh : Sh} (hl : AD (Bc fr l) = .d (.int kl ln)) (hnl : Bw (Bc fr l)) (hc : AD (Bc fr c) = .d (.int kc cp)) (hnc : Bw (Bc fr c))
  (hty : E.X.ty tt = some ⟨.slice ety, s1, b1, z1⟩) (hte : E.X.ty ety = some ⟨sh, 1, by_, [.nils]⟩) (hm : m = bl.length) (hp : 0 ≤ ln ∧ ln ≤ cp ∧ by_ * cp ≤ 140737488355328 ∧ cp ≤ 140737488355328)
  (k : K ⟨putD d (.sl m 0 ln.toNat) fr, Ax (bl ++ [some (.vec ety 1 (List.replicate ln.toNat [.raw GF]))]), m + 1⟩) : D2 W0 M0 E ⟨d, .makeSlice tt l c, ty', p, af, none⟩ ⟨fr, Ax bl, m⟩ K := by
 subst hm
 refine .value (fun c h => by cases h) fun a w S hH hop => ?_
 dsimp only at hH hop
 have hvl := hl ▸ (hop l (by simp [Op.operands])).bare_of hnl
 have hvc := hc ▸ (hop c (by simp [Op.operands])).bare_of hnc
 have hvl := R.int_iff.1 hvl
 have hvc := R.int_iff.1 hvc
 obtain ⟨h0, hlc, hb, hcm⟩ := hp
 obtain ⟨i, zv, hi, his, hib, hzv, hzs, hzero⟩ := (E.X.facts hte).info
 obtain ⟨hzl', hzr⟩ := hzero (by simp)
 have hu := (E.X.facts hty).slice
 simp only at his hib hzs hzl'
 have hrun := run_make (P := P) w tt ety i zv hu hi hzv kl kc ln cp h0 hlc (by rw [hib]; omega) (by omega)
 rw [his] at hrun
 obtain ⟨hH', hE⟩ := hH.alloc (w1 := w) ⟨rfl, rfl, rfl, rfl⟩ (madeCells zv.cells (cp.toNat * 1)) ety (.vec ety 1 (List.replicate ln.toNat [.raw GF])) 1 cp.toNat (fun S' n' hE hnew => by
  refine ⟨rfl, by simp [maxLen]; omega, by simp; omega, fun x hx => ?_, by simp, fun b hb => ?_⟩
  ·rw [List.mem_replicate] at hx
   rw [hx.2]; rfl
  ·cases hb
   refine ⟨_, hnew, by simp [madeCells], fun e1 f1 c1 hh => ?_⟩
   obtain ⟨he1, hf1⟩ := J7 hh
   have hf0 : f1 = 0 := by have := (List.getElem?_eq_some_iff.1 hf1).1; simp at this; omega
   subst hf0
   cases hf1
   have hlt : 0 < zv.cells.size := by omega
   refine ⟨_, by rw [Oz hzs (by omega) (by omega)]; exact Array.getElem?_eq_getElem hlt, ?_⟩
   have hr := hzr (w.alloc (.cells (madeCells zv.cells (cp.toNat * 1)) ety)) (fun _ => False) 0 .nils zv.cells[0] rfl (Array.getElem?_eq_getElem hlt)
   generalize zv.cells[0] = z at hr
   cases hr
   exact .raw GF rfl)
 rw [Wo] at hH'
 refine ⟨_, _, _, .slice (some ⟨w.heap.size, 0, none⟩) ln.toNat cp.toNat, _, _, ?_, hH', hE, ?_, k⟩
 ·simp only [execOp, Sem.run_bind, hvl, hvc, hrun, Result.andThen_ok, Sem.run_pure]
 ·have := R.sl (w := w.alloc (.cells (madeCells zv.cells (cp.toNat * 1)) ety)) (S := CI S bl.length (some ⟨some w.heap.size, 1, cp.toNat, []⟩)) (n := bl.length + 1) bl.length 0 ln.toNat 0 ⟨some w.heap.size, 1, cp.toNat, []⟩ (by omega) (by rw [AA, if_pos rfl]) (by simp; omega) (fun _ => by simp) (fun _ => rfl)
  simpa using this
theorem UN (bl : List (Option B7)) (b : B7) {m : Nat} (hm : m < bl.length) : CI (CI (Ax bl) m none) bl.length (some b) = Ax (Bk [m] bl 0 ++ [some b]) := by
 funext i
 rw [AA, AA, G9, D6, FM]
 by_cases h : i = bl.length
 ·subst h; rw [if_pos rfl, if_neg (by omega), Nat.sub_self]; rfl
 ·rw [if_neg h]
  by_cases h' : i < bl.length
  ·rw [if_pos h']
   simp
  ·rw [if_neg h']
   unfold Ax
   rw [if_neg (by omega), List.getElem?_eq_none (by omega), List.getElem?_eq_none (by simp; omega)]
theorem GM (b : Nat) (hm : m = bl.length) {x y : Operand} {v : Value} {c : AV} {ety s1 b1 esz by_ : Nat} {z1 ze : List D} {sh : Sh} {ys xs : List (List D)} {m1 m2 mb : List (Value × List (List D))} {q : Prop} {bl1 : List (Option B7)}
  (hx : AD (Bc fr x) = .d (.raw v)) (hnx : Bw (Bc fr x)) (hy : AD (Bc fr y) = c) (hny : Bw (Bc fr y)) (hty : E.X.ty t = some ⟨.slice ety, s1, b1, z1⟩) (hte : E.X.ty ety = some ⟨sh, esz, by_, ze⟩)
  (hb : Ax bl b = some (.ob (.bag ety esz mb))) (hmb : mb = m1 ++ (v, xs) :: m2) (hb1 : Bk [b] bl 0 ++ [some (.vec ety esz xs), some (.ob (.bag ety esz (m1 ++ m2)))] = bl1) (hsrc : C7 (Ax bl1) c = some (q, ys))
  (hz : ¬(esz = 0 ∨ by_ = 0)) (hq : q) (hp : CW esz ys ∧ (xs.length + ys.length) * by_ ≤ 140737488355328)
  (k : K ⟨putD d (.sl (m + 2) 0 (xs.length + ys.length)) fr, Ax (Bk [m] bl1 0 ++ [some (.vec ety esz (xs ++ ys))]), m + 3⟩) : D2 W0 M0 E ⟨d, .call ⟨.builtin .append, #[x, y], #[t, t]⟩, ty', p, af, none⟩ ⟨fr, Ax bl, m⟩ K := by
 subst hmb
 refine .value (fun c h => by cases h) fun a w S hH hop => ?_
 dsimp only at hH hop
 have hvx := hx ▸ (hop x (by simp [Op.operands, Call.operands])).bare_of hnx
 have hvy := hy ▸ (hop y (by simp [Op.operands, Call.operands])).bare_of hny
 obtain ⟨S1, hH1, hE1, hR1⟩ := KC hH hb
 rw [Cz _ _ _ hm] at hH1
 simp only [List.map_cons, List.map_nil] at hH1
 rw [hb1] at hH1
 have hl1 : bl1.length = m + 2 := by rw [← hb1, List.length_append, D6]; simp [hm]
 have hg : Ax bl1 m = some (.vec ety esz xs) := by rw [← hb1, G9, D6, if_neg (by omega), hm, Nat.sub_self]; rfl
 have hv : a.eval x = v := by
  cases hvx with | d h =>
  generalize a.eval x = u at h
  cases h; rfl
 have h : E3 E.X.ty (Ax bl1) (m + 2) t (.sl m 0 xs.length) c = some (q ∧ CW esz ys ∧ xs.length ≤ xs.length ∧ (xs.length + ys.length) * by_ ≤ 140737488355328, .sl (m + 2) 0 (xs.length + ys.length), CI (CI (Ax bl1) m none) (m + 2) (some (.vec ety esz (xs.take xs.length ++ ys))), m + 3) := by
  unfold E3
  rw [hty]
  dsimp only
  rw [hte]
  dsimp only
  rw [if_neg hz, hsrc]
  dsimp only
  rw [hg]
  dsimp only
  rw [if_pos ⟨rfl, rfl, rfl⟩]
 obtain ⟨r, w', S', hrun, h3, h4, h5⟩ := Hx (X := E.X) (ty' := ty') hH1 h ⟨hq, hp.1, Nat.le_refl _, hp.2⟩ (hv ▸ hR1) (hE1.r hvy)
 rw [← hl1, List.take_length, UN bl1 _ (by omega)] at h3
 refine ⟨_, _, _, r, w', S', ?_, h3, hE1.trans h4, h5, k⟩
 simp only [execOp, resolve, invoke, builtin, Sem.run_bind, Sem.run_pure, Result.andThen_ok, List.map_toArray, List.map_cons, List.map_nil]
 rw [hrun]; rfl
theorem En (b : Nat) (hm : m = bl.length) {x y : Operand} {id i j len ty ety esz by_ : Nat} {sh : Sh} {z : List D} {c0 : D} {xs ys : List (List D)} {mb : List (Value × List (List D))} (hx : AD (Bc fr x) = .ptr id i 0) (hnx : Bw (Bc fr x)) (hy : AD (Bc fr y) = .sl j 0 len) (hny : Bw (Bc fr y))
  (hid : Ax bl id = some (.vec ty 1 xs)) (hj : Ax bl j = some (.vec ety esz ys)) (hb : Ax bl b = some (.ob (.bag ety esz mb))) (hty : E.X.ty t = some ⟨sh, 1, by_, z⟩) (hne : b ≠ j) (hn2 : id ≠ b) (hn3 : id ≠ j) (hi : xs[i]? = some [c0]) (hlen : len ≤ ys.length)
  (k : ∀ v', K ⟨putD d .any fr, Ax (Cc (Bk [b, j] bl 0) id (some (.vec ty 1 (xs.set i [.raw v']))) ++ [some (.ob (.bag ety esz (mb ++ [(v', ys.take len)])))]), m + 1⟩) : D2 W0 M0 E ⟨d, .store t x y, ty', p, af, none⟩ ⟨fr, Ax bl, m⟩ K := by
 refine .skip (fun c h => by cases h) fun a w S hH hop => ?_
 dsimp only at hH hop
 have hvx := hx ▸ (hop x (by simp [Op.operands])).bare_of hnx
 have hvy := hy ▸ (hop y (by simp [Op.operands])).bare_of hny
 obtain ⟨h6, S2, h7, h8⟩ := Qp hH (m1 := mb) (m2 := []) hne (by rw [List.append_nil]; exact hb) hj hvy hlen
 rw [Cz _ _ _ hm] at h7
 simp only [List.map_cons, List.map_nil] at h7
 have hlt := HU hid
 have hg : Ax (Bk [b, j] bl 0 ++ [some (.ob (.bag ety esz (mb ++ [(a.eval y, ys.take len)])))]) id = some (.vec ty 1 xs) := by
  rw [G9, D6, if_pos hlt, FM, if_neg (by simp; exact ⟨hn2, hn3⟩), hid]
 have h : G0 E.X.ty (Ax (Bk [b, j] bl 0 ++ [some (.ob (.bag ety esz (mb ++ [(a.eval y, ys.take len)])))])) t (.ptr id i 0) (.d (.raw (a.eval y))) = some ((True ∧ True) ∧ 0 + 1 ≤ 1, CI (Ax (Bk [b, j] bl 0 ++ [some (.ob (.bag ety esz (mb ++ [(a.eval y, ys.take len)])))])) id (some (.vec ty 1 (xs.set i [.raw (a.eval y)])))) := by
  unfold G0
  rw [hty]
  dsimp only
  rw [hg]
  simp only [Bu, fz, XR, Bi, hi, hg]
  rfl
 obtain ⟨w', S', hrun, h1, h2⟩ := Lo (X := E.X) h7 h ⟨⟨trivial, trivial⟩, by omega⟩ (h8.r hvx) (.d (.raw _ h6))
 rw [Es] at h1
 have e : Cc (Bk [b, j] bl 0 ++ [some (.ob (.bag ety esz (mb ++ [(a.eval y, ys.take len)])))]) id (some (.vec ty 1 (xs.set i [.raw (a.eval y)]))) = Cc (Bk [b, j] bl 0) id (some (.vec ty 1 (xs.set i [.raw (a.eval y)]))) ++ [some (.ob (.bag ety esz (mb ++ [(a.eval y, ys.take len)])))] := by
  exact Pd _ _ _ _ (by rw [D6]; exact hlt)
 rw [e] at h1
 refine ⟨_, _, w', S', ?_, h1, h8.trans h2, k _⟩
 simp only [execOp, Sem.run_bind, hrun, Result.andThen_ok, Sem.run_pure]
theorem Ld (b : Nat) (hm : m = bl.length) {x : Operand} {q : Prop} {v : Value} {ety esz : Nat} {ys : List (List D)} {m1 m2 mb : List (Value × List (List D))} (h : FJ E.X.ty (Ax bl) t (AD (Bc fr x)) = some (q, .d (.raw v))) (hnx : Bw (Bc fr x)) (hq : q)
  (hb : Ax bl b = some (.ob (.bag ety esz mb))) (hmb : mb = m1 ++ (v, ys) :: m2)
  (k : K ⟨putD d (.sl m 0 ys.length) fr, Ax (Bk [b] bl 0 ++ [some (.vec ety esz ys), some (.ob (.bag ety esz (m1 ++ m2)))]), m + 2⟩) : D2 W0 M0 E ⟨d, .load t x, ty', p, af, none⟩ ⟨fr, Ax bl, m⟩ K := by
 subst hmb
 refine .value (fun c h => by cases h) fun a w S hH hop => ?_
 dsimp only at hH hop
 have hvx := (hop x (by simp [Op.operands])).bare_of hnx
 obtain ⟨r, hrun, hR⟩ := JU (X := E.X) hH h hq hvx
 have hr : r = v := by
  cases hR with | d h =>
  cases h; rfl
 subst hr
 obtain ⟨S1, hH1, hE1, hR1⟩ := KC hH hb
 rw [Cz _ _ _ hm] at hH1
 simp only [List.map_cons, List.map_nil] at hH1
 refine ⟨_, _, _, r, w, S1, ?_, hH1, hE1, hR1, k⟩
 simp only [execOp, Sem.run_bind, hrun, Result.andThen_ok, Sem.run_pure]
theorem QE (ety esz : Nat) (hm : m = bl.length) (h : VC E W0 M0 cd ⟨fr, Ax (bl ++ [some (.ob (.bag ety esz [(GF, [])]))]), m + 1⟩ Q) : VC E W0 M0 cd ⟨fr, Ax bl, m⟩ Q := by
 refine VC.sub ?_ h
 rintro a w ⟨S, hH, hF, hM⟩
 have no : ∀ c, ¬ (⟨none, 0, 0, []⟩ : Lay).has c := fun c h => h.elim (fun h => by cases h) (fun h => by cases h)
 have key := hH.redeal [] [.ob (.bag ety esz [(GF, [])])] [⟨none, 0, 0, []⟩] (Ax bl) rfl (fun _ i b l _ h _ => .inl h) (fun _ h => h) (fun l' hl' c hc => by
   simp only [List.mem_cons, List.not_mem_nil, or_false] at hl'
   subst hl'; exact (no c hc).elim) (fun i j l1 l2 c hi hj g1 g2 => by
   have := (List.getElem?_eq_some_iff.1 hi).1
   have := (List.getElem?_eq_some_iff.1 hj).1
   simp at *; omega) (fun l' hl' => by
   simp only [List.mem_cons, List.not_mem_nil, or_false] at hl'
   subst hl'; exact ⟨List.nodup_nil, fun _ h => by cases h⟩) (fun i l' b' hb' hl' hf => by
   have : i < 1 := (List.getElem?_eq_some_iff.1 hl').1
   obtain rfl : i = 0 := by omega
   simp at hb'; subst hb'; cases hf) (fun hE i l' b' hb' hl' => by
   have : i < 1 := (List.getElem?_eq_some_iff.1 hl').1
   obtain rfl : i = 0 := by omega
   simp at hb' hl'; subst hb'; subst hl'
   refine ⟨rfl, [⟨none, esz, 0, []⟩], rfl, rfl, fun i l p hi hp => ?_⟩
   have hi0 : i = 0 := by have := (List.getElem?_eq_some_iff.1 hi).1; simp at this; omega
   subst hi0
   simp at hi hp
   subst hi hp
   exact ⟨rfl, ⟨rfl, by simp [maxLen], by simp, by simp, fun _ => rfl, fun b hb => by cases hb⟩, rfl⟩)
 obtain ⟨h2, h3⟩ := key
 refine ⟨_, ?_, hF.ext h3, hM.ext h3⟩
 rw [Cz _ _ _ hm, Ko] at h2
 exact h2
theorem XE (b : Nat) (hm : m = bl.length) (h : VC E W0 M0 cd ⟨fr, Ax (Bk [b] bl 0), m⟩ Q) : VC E W0 M0 cd ⟨fr, Ax bl, m⟩ Q := by
 subst hm
 refine VC.sub ?_ h
 rintro a w ⟨S, hH, hF, hM⟩
 have key := hH.redeal [b] [] [] (Ax bl) rfl (fun _ i b l _ h _ => .inl h) (fun _ h => h) (fun l' hl' => by cases hl') (fun i j l1 l2 c hi => by simp at hi) (fun l' hl' => by cases hl') (fun i l' b' hb' => by simp at hb') (fun hE i l' b' hb' => by simp at hb')
 have h1 := key.1
 rw [Cz _ _ _ rfl] at h1
 simp only [List.map_nil, List.append_nil, List.length_nil, Nat.add_zero] at h1
 exact ⟨_, h1, hF.ext key.2, hM.ext key.2⟩
theorem QD (id b k : Nat) (hm : m = bl.length) {ty ety esz : Nat} {xs xs' : List (List D)} {mb : List (Value × List (List D))} (hb : Ax bl id = some (.vec ty 1 xs)) (hbg : Ax bl b = some (.ob (.bag ety esz mb))) (hne : b ≠ id)
  (hc : (mb = [] ∧ xs' = xs) ∨ ∃ v ys, mb = [(v, ys)] ∧ xs[k]? = some [.raw v] ∧ xs' = xs.set k [.sl ys])
  (h : VC E W0 M0 cd ⟨fr, Ax (Cc (Bk [b] bl 0) id (some (.vec ty 1 xs'))), m⟩ Q) : VC E W0 M0 cd ⟨fr, Ax bl, m⟩ Q := by
 rcases hc with ⟨rfl, rfl⟩ | ⟨v, ys, rfl, hk, rfl⟩
 ·refine XE b hm ?_
  have e : Ax (Cc (Bk [b] bl 0) id (some (.vec ty 1 xs'))) = Ax (Bk [b] bl 0) := by
   rw [← Es]
   funext i
   rw [AA]
   split
   ·rename_i hi
    subst hi
    rw [FM, if_neg (by simp; exact fun e => hne e.symm), hb]
   ·rfl
  rw [e] at h
  exact h
 ·exact QC id b k hm hb hk hbg hne h
end
