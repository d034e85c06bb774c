/- Walks, printed by wip/gen/walk.py. -/
import Derived.Test.YtmbjnkgpcbpclaaGreatT66
import Derived.Test.YtmbjnkgpcbpclaaGreatV5
set_option linter.all false
set_option maxRecDepth 100000
set_option maxHeartbeats 4000000
namespace Go.Proofs.YtmbjnkgpcbpclaaGreat
open Go Go.Vc Go.RowKit
abbrev PR := Option (Nat × List Sn × Nat)
def bndR (r : PR) (k : Nat → List Sn → Nat → PR) : PR := match r with
  | some (a, ns, x) => k a ns x
  | none => none
def skS (t : Bs) (a : Nat) : Nat := a + ((t.drop a).takeWhile (· = 32)).length
theorem skS_le {t : Bs} {a : Nat} (h : a ≤ t.length) : a ≤ skS t a ∧ skS t a ≤ t.length := by
  unfold skS
  have h1 := (List.takeWhile_sublist (· = 32) (l := t.drop a)).length_le
  rw [List.length_drop] at h1
  omega
theorem skS_step {t : Bs} {i : Nat} (h : t[i]? = some 32) : skS t (i + 1) = skS t i := by
 obtain ⟨hl, he⟩ := List.getElem?_eq_some_iff.1 h
 unfold skS
 rw [List.drop_eq_getElem_cons hl, he, List.takeWhile_cons]
 simp; omega
theorem skS_stop {t : Bs} {i : Nat} (h : t[i]? ≠ some 32) : skS t i = i := by
  unfold skS
  by_cases hl : i < t.length
  · rw [List.drop_eq_getElem_cons hl, List.takeWhile_cons]
    rw [List.getElem?_eq_getElem hl] at h
    simp only [ne_eq, Option.some.injEq] at h
    simp [h]
  · rw [List.drop_of_length_le (by omega)]; rfl
def qd (t : Bs) : Nat → Nat → Bs → Option (Nat × Bs)
  | 0, _, _ => none
  | f + 1, a, s => match t[a]? with
    | none => none
    | some c => if c = 34 then some (a, s) else if c = 10 then none else if c = 92 then match t[a + 1]? with
      | none => none
      | some d => if d = 34 ∨ d = 92 then qd t f (a + 2) (s ++ [d]) else none
      else qd t f (a + 1) (s ++ [c])
def qtR (t : Bs) (a : Nat) (ns : List Sn) : PR := match qd t (t.length + 1) (a + 1) [] with
  | some (e, s) => if okT s = true then some (e + 1, ns ++ [⟨1, s, 0, 0⟩], ns.length) else none
  | none => none
def sgn (m : Nat) : UInt8 := if m = 1 then 38 else 124
def kdm (m : Nat) : Int := if m = 1 then 2 else 3
def lpR (sub : Nat → List Sn → PR) (t : Bs) (m : Nat) : Nat → Nat → List Sn → Nat → PR
  | 0, _, _, _ => none
  | g + 1, a, ns, x => if t.getD (skS t a) 0 = sgn m then bndR (sub (skS t a + 1) ns) fun a' ns' y => lpR sub t m g a' (ns' ++ [⟨kdm m, [], x, y⟩]) ns'.length else some (skS t a, ns, x)
def unR (un qu : Nat → List Sn → PR) (t : Bs) (a : Nat) (ns : List Sn) : PR :=
  if t.getD (skS t a) 0 = 33 then bndR (un (skS t a + 1) ns) fun a' ns' x => some (a', ns' ++ [⟨4, [], x, 0⟩], ns'.length)
  else if t.getD (skS t a) 0 = 40 then bndR (qu (skS t a + 1) ns) fun a' ns' x => if t.getD (skS t a') 0 = 41 then some (skS t a' + 1, ns', x) else none
  else if t.getD (skS t a) 0 = 34 then qtR t (skS t a) ns else none
def rdP (t : Bs) : Nat → Nat → Nat → List Sn → PR
  | 0, _, _, _ => none
  | f + 1, m, a, ns => if m = 3 then unR (rdP t f 3) (rdP t f 0) t a ns else if m = 2 then rdP t f 3 a ns else bndR (rdP t f (m + 1) a ns) fun a' ns' x => lpR (rdP t f (m + 1)) t m (t.length + 1) a' ns' x
theorem getD_lt {t : Bs} {i : Nat} {c : UInt8} (h : t.getD i 0 = c) (hc : c ≠ 0) : i < t.length ∧ t[i]? = some c := by
  by_cases hl : i < t.length
  · rw [List.getD_eq_getElem?_getD, List.getElem?_eq_getElem hl] at h
    exact ⟨hl, by rw [List.getElem?_eq_getElem hl, ← h]; rfl⟩
  · rw [List.getD_eq_getElem?_getD, List.getElem?_eq_none (by omega)] at h
    exact absurd h.symm hc
theorem qd_fit {t : Bs} : ∀ {f a : Nat} {s : Bs} {e : Nat} {r : Bs}, qd t f a s = some (e, r) → a ≤ e ∧ e < t.length ∧ r.length ≤ s.length + (e - a)
  | 0, _, _, _, _, h => by cases h
  | f + 1, a, s, e, r, h => by
    unfold qd at h
    split at h
    · cases h
    · rename_i c hc
      have hl := (List.getElem?_eq_some_iff.1 hc).1
      split at h
      · cases h; exact ⟨Nat.le_refl _, hl, by omega⟩
      · split at h
        · cases h
        · split at h
          · split at h
            · cases h
            · split at h
              · have := qd_fit h; simp at this; omega
              · cases h
          · have := qd_fit h; simp at this; omega
def relP (t : Bs) (a : Nat) (ns : List Sn) (a' : Nat) (ns' : List Sn) : Prop := a ≤ a' ∧ a' ≤ t.length ∧ ns'.length + a ≤ ns.length + a'
def Fit (t : Bs) (sub : Nat → List Sn → PR) : Prop := ∀ a ns, a ≤ t.length → ∀ a' ns' x, sub a ns = some (a', ns', x) → relP t a ns a' ns' ∧ a + 1 ≤ a'
theorem qt_fit {t : Bs} {a : Nat} {ns : List Sn} (hl : a < t.length) {a' : Nat} {ns' : List Sn} {x : Nat} (h : qtR t a ns = some (a', ns', x)) : relP t a ns a' ns' ∧ a + 1 ≤ a' := by
  unfold qtR at h
  split at h
  · rename_i e s he
    have := qd_fit he
    split at h
    · cases h
      refine ⟨⟨by omega, by omega, ?_⟩, by omega⟩
      simp; omega
    · cases h
  · cases h
theorem bnd_some {r : PR} {k : Nat → List Sn → Nat → PR} {z : Nat × List Sn × Nat} (h : bndR r k = some z) : ∃ a ns x, r = some (a, ns, x) ∧ k a ns x = some z := by
  match r, h with
  | some (a, ns, x), h => exact ⟨a, ns, x, rfl, h⟩
theorem sgn_ne (m : Nat) : sgn m ≠ 0 := by unfold sgn; split <;> decide
theorem lp_fit {sub : Nat → List Sn → PR} {t : Bs} {m : Nat} (hs : Fit t sub) : ∀ {g a : Nat} {ns : List Sn} {x : Nat} {a' : Nat} {ns' : List Sn} {x' : Nat}, a ≤ t.length → lpR sub t m g a ns x = some (a', ns', x') → relP t a ns a' ns'
  | 0, _, _, _, _, _, _, _, h => by cases h
  | g + 1, a, ns, x, a', ns', x', hf, h => by
    unfold lpR at h
    have hk := skS_le hf
    split at h
    · rename_i hc
      have hlt := (getD_lt hc (sgn_ne m)).1
      obtain ⟨a1, n1, y, h1, h2⟩ := bnd_some h
      obtain ⟨⟨f1, f2, f3⟩, _⟩ := hs _ _ (by omega) _ _ _ h1
      obtain ⟨g1, g2, g3⟩ := lp_fit hs f2 h2
      rw [List.length_append, List.length_singleton] at g3
      exact ⟨by omega, g2, by omega⟩
    · cases h
      exact ⟨hk.1, hk.2, by omega⟩
theorem un_fit {un qu : Nat → List Sn → PR} {t : Bs} (hu : Fit t un) (hq : Fit t qu) : Fit t (unR un qu t) := by
  intro a ns ha a' ns' x h
  unfold unR at h
  have hk := skS_le ha
  split at h
  · rename_i hc
    have hlt := (getD_lt hc (by decide)).1
    obtain ⟨a1, n1, y, h1, h2⟩ := bnd_some h
    obtain ⟨⟨f1, f2, f3⟩, f4⟩ := hu _ _ (by omega) _ _ _ h1
    cases h2
    refine ⟨⟨by omega, f2, ?_⟩, by omega⟩
    rw [List.length_append, List.length_singleton]; omega
  · split at h
    · rename_i hc
      have hlt := (getD_lt hc (by decide)).1
      obtain ⟨a1, n1, y, h1, h2⟩ := bnd_some h
      obtain ⟨⟨f1, f2, f3⟩, f4⟩ := hq _ _ (by omega) _ _ _ h1
      have hk2 := skS_le f2
      split at h2
      · rename_i hc2
        have hlt2 := (getD_lt hc2 (by decide)).1
        cases h2
        exact ⟨⟨by omega, by omega, by omega⟩, by omega⟩
      · cases h2
    · split at h
      · rename_i hc
        have hlt := (getD_lt hc (by decide)).1
        obtain ⟨⟨f1, f2, f3⟩, f4⟩ := qt_fit hlt h
        exact ⟨⟨by omega, f2, by omega⟩, by omega⟩
      · cases h
theorem rd_fit (t : Bs) : ∀ f m, Fit t (rdP t f m)
  | 0, _ => fun _ _ _ _ _ _ h => by cases h
  | f + 1, m => fun a ns ha a' ns' x h => by
    unfold rdP at h
    split at h
    · exact un_fit (rd_fit t f 3) (rd_fit t f 0) a ns ha a' ns' x h
    · split at h
      · exact rd_fit t f 3 a ns ha a' ns' x h
      · obtain ⟨a1, n1, y, h1, h2⟩ := bnd_some h
        obtain ⟨⟨f1, f2, f3⟩, f4⟩ := rd_fit t f (m + 1) _ _ ha _ _ _ h1
        obtain ⟨g1, g2, g3⟩ := lp_fit (rd_fit t f (m + 1)) f2 h2
        exact ⟨⟨by omega, g2, by omega⟩, by omega⟩
def rdS (t : Bs) (a : Int) (nd : AV) : Option Box := some (.one 75 [.d (.str t), .d (.int .i64 a), nd])
def preS (ty vt sz : Nat) (n : Nat) (t : Bs) (a : Int) (xs : List (List D)) : Prop := ty = 75 ∧ vt = 55 ∧ sz = 4 ∧ xs = rows eSn (dSn xs) ∧ n = (dSn xs).length ∧ 0 ≤ a ∧ a ≤ t.length ∧ t.length ≤ 1000 ∧ ((dSn xs).length : Int) ≤ a
theorem preS_ok {t : Bs} {m : Nat} {q : List Sn} (h1 : q.length ≤ m) (h2 : m ≤ t.length) (h3 : t.length ≤ 1000) : preS 75 55 4 q.length t (m : Nat) (rows eSn q) :=
  ⟨rfl, rfl, rfl, by rw [dSn_rows], by rw [dSn_rows], by omega, by omega, h3, by rw [dSn_rows]; omega⟩
def blkG : GFun
  | [.ptr 0 0 0], [some (.one ty [.d (.str t), .d (.int .i64 a), .sl 1 0 n]), some (.vec vt sz xs)] => some (preS ty vt sz n t a xs, .tup [], [rdS t (skS t a.toNat : Nat) (.sl 1 0 n), some (.vec vt sz xs)])
  | _, _ => none
def nxtG : GFun
  | [.ptr 0 0 0], [some (.one ty [.d (.str t), .d (.int .i64 a), .sl 1 0 n]), some (.vec vt sz xs)] => some (preS ty vt sz n t a xs, .d (.int .u8 ((t.getD (skS t a.toNat) 0).toNat : Int)), [rdS t (skS t a.toNat : Nat) (.sl 1 0 n), some (.vec vt sz xs)])
  | _, _ => none
def addG : GFun
  | [.ptr 0 0 0, .agg [.d (.int .i64 f), .d (.str g), .d (.int .i64 h), .d (.int .i64 i)]], [some (.one ty [.d (.str t), .d (.int .i64 a), .sl 1 0 n]), some (.vec vt sz xs)] => some (ty = 75 ∧ vt = 55 ∧ sz = 4 ∧ xs = rows eSn (dSn xs) ∧ n = (dSn xs).length ∧ (dSn xs).length ≤ 1000000, .d (.int .i64 ((dSn xs).length : Nat)), [rdS t a (.sl 2 0 ((dSn xs).length + 1)), none, some (.vec 55 4 (rows eSn (dSn xs ++ [⟨f, g, h, i⟩])))])
  | _, _ => none
theorem addS_rows (l : List Sn) (f : Int) (g : Bs) (h i : Int) : rows eSn l ++ [[.int .i64 f, .str g, .int .i64 h, .int .i64 i]] = rows eSn (l ++ [⟨f, g, h, i⟩]) := by simp [rows, eSn]

theorem blk_meets : Meets Tryz.prog 43 (Spec.gen blkG) := by
 refine meets_handed (E_fmt.at_ 31) Tryz.func43 rfl rfl rfl ?_
 intro args bl p r bf hg hp
 unfold blkG at hg
 split at hg
 rename_i ty t a n vt sz xs
 simp only [Option.some.injEq, Prod.mk.injEq] at hg
 obtain ⟨rfl, rfl, rfl⟩ := hg
 obtain ⟨rfl, rfl, rfl, he, rfl, ha0, hal, htl, hqa⟩ := hp
 generalize dSn xs = q at *
 subst he
 obtain ⟨a, rfl⟩ := Int.eq_ofNat_of_zero_le ha0
 simp only [Int.toNat_natCast] at *
 have hal : a ≤ t.length := by omega
 have hqa : q.length ≤ a := by omega
 obtain ⟨k1, k2⟩ := skS_le hal
 have hT : (E_fmt).X = T := rfl
 have hx0 := And.intro @dec_t (And.intro @dec_f (And.intro @Int.toNat_natCast (And.intro @rdS.eq_1 (And.intro @dSn_rows (And.intro @rect_eSn @Tryz.results43)))))
 have hx := hx0
 refine ⟨Nat.le_of_ble_eq_true rfl, ?_⟩
 intro F W0 M0 hnp hmk
 have hnp : Far.np = 2 := hnp
 refine vc_block ?_
 refine vc_loop_mk (σ := Nat) (fun s => (fun i => a ≤ i ∧ i ≤ t.length ∧ skS t i = skS t a) s)
  (fun s => (fun i => [(0, .ptr 0 0 0)]) s)
  (fun s => (fun i => [some (.one 75 [.d (.str t), .d (.int .i64 (i : Nat)), .sl 1 0 q.length]), some (.vec 55 4 (rows eSn q))]) s) (fun s => (fun i => t.length - i) s) hnp a ?_ [some 0, some 1] ?_ ?_
 dsimp only
 exact ⟨Nat.le_refl _, hal, rfl⟩
 dsimp only
 refine ⟨by rfl, ?_, ?_⟩
 refine fin_ ?_
 exact cl_
 refine fin_ ?_
 exact cl_
 rintro i hinv N1 h1
 dsimp only at hinv ⊢
 obtain ⟨i1, i2, i3⟩ := hinv
 refine vc_seq_k fun N2 h2 => ?_
 refine vc_seq_k fun N3 h3 => ?_
 rcases Nat.lt_or_ge i t.length with hit | hit
 obtain ⟨c, hc⟩ := getE (l := t) (i := i) hit
 have f1 : ((i : Int) < (t.length : Int)) = True := eq_true (by omega)
 have hx := And.intro @f1 (And.intro @hc hx0)
 refine u_reg ?_
 try refine lg_mk ?_
 refine u_mv ?_
 refine u_nl ?_
 refine u_pt ?_
 refine u_ld ?_
 refine u_mv ?_
 refine u_nl ?_
 refine u_pt ?_
 refine u_ld ?_
 refine u_ln ?_
 refine u_bn ?_
 refine u_mv ?_
 refine v_mv ?_
 refine v_nl ?_
 refine v_pt ?_
 refine v_ld ?_
 refine v_mv ?_
 refine v_nl ?_
 refine v_pt ?_
 refine v_ld ?_
 refine v_pt ?_
 refine v_bn ?_
 refine u_pk ?_
 refine lg_nil ?_
 have hx := hx0
 refine h3 _ ?_; clear h3; try clear N3
 refine u_cond (fun hb4 => ?_) (fun hb4 => ?_)
 have h32 : c = 32 := by have := hb4; first | exact UInt8.toNat_inj.1 (show c.toNat = 32 by (try simp at this); omega) | (simpa using this)
 subst h32
 have hst := skS_step hc
 refine vc_skip ?_
 try simp only [k_rules]
 refine h2 _ ?_; clear h2; try clear N2
 refine vc_block ?_
 refine u_reg ?_
 try refine lg_mk ?_
 refine u_mv ?_
 refine u_nl ?_
 refine u_pt ?_
 refine u_ld ?_
 refine u_bn ?_
 refine u_nl ?_
 refine u_pt ?_
 refine u_st ?_
 refine lg_nil ?_
 refine h1 _ ⟨i + 1, ?_, ?_, [some 0, some 1], ?_⟩
 dsimp only
 exact ⟨by omega, by omega, by rw [hst]; exact i3⟩
 dsimp only
 omega
 dsimp only
 refine ⟨by rfl, ?_, ?_⟩
 refine fin_ ?_
 exact cl_
 refine fin_ ?_
 exact cl_
 have hst := skS_stop (t := t) (i := i) (by rw [hc]; intro he; cases he; have := hb4; simp at this)
 refine vc_exit ?_
 simp only [k_rules, Nat.reduceEqDiff, reduceIte, eq_self]
 rw [← i3, hst]
 refine fin_ ?_
 refine ⟨[some 0, some 1], by rfl, ?_, ?_⟩
 refine fin_ ?_
 exact cl_
 refine fin_ ?_
 exact cl_
 have f1 : ((i : Int) < (t.length : Int)) = False := eq_false (by omega)
 have hc := f1
 have hx := And.intro @f1 (And.intro @hc hx0)
 refine u_reg ?_
 try refine lg_mk ?_
 refine u_mv ?_
 refine u_nl ?_
 refine u_pt ?_
 refine u_ld ?_
 refine u_mv ?_
 refine u_nl ?_
 refine u_pt ?_
 refine u_ld ?_
 refine u_ln ?_
 refine u_bn ?_
 refine u_mv ?_
 refine lg_g0 ?_ ?_
 focus (exact gt_)
 refine lg_g0 ?_ ?_
 focus (exact gt_)
 refine lg_g0 ?_ ?_
 focus (exact gt_)
 refine lg_g0 ?_ ?_
 focus (exact gt_)
 refine lg_g0 ?_ ?_
 focus (exact gt_)
 refine lg_g0 ?_ ?_
 focus (exact gt_)
 refine lg_g0 ?_ ?_
 focus (exact gt_)
 refine lg_g0 ?_ ?_
 focus (exact gt_)
 refine lg_g0 ?_ ?_
 focus (exact gt_)
 refine lg_g0 ?_ ?_
 focus (exact gt_)
 refine u_pk ?_
 refine lg_nil ?_
 have hx := hx0
 refine h3 _ ?_; clear h3; try clear N3
 refine u_cond (fun hb5 => ?_) (fun hb5 => ?_)
 ·first | omega | exact absurd trivial hb5 | contradiction | (simp_all; done)
 have hst := skS_stop (t := t) (i := i) (by rw [List.getElem?_eq_none hit]; intro h; cases h)
 refine vc_exit ?_
 simp only [k_rules, Nat.reduceEqDiff, reduceIte, eq_self]
 rw [← i3, hst]
 refine fin_ ?_
 refine ⟨[some 0, some 1], by rfl, ?_, ?_⟩
 refine fin_ ?_
 exact cl_
 refine fin_ ?_
 exact cl_
 cases hg

def E_blk : Env Tryz.prog := E_fmt.add 43 (Spec.gen blkG) blk_meets (by kernel_rfl)

theorem nxt_meets : Meets Tryz.prog 64 (Spec.gen nxtG) := by
 refine meets_handed (E_blk.at_ 24) Tryz.func64 rfl rfl rfl ?_
 intro args bl p r bf hg hp
 unfold nxtG at hg
 split at hg
 rename_i ty t a n vt sz xs
 simp only [Option.some.injEq, Prod.mk.injEq] at hg
 obtain ⟨rfl, rfl, rfl⟩ := hg
 obtain ⟨rfl, rfl, rfl, he, rfl, ha0, hal, htl, hqa⟩ := hp
 generalize dSn xs = q at *
 subst he
 obtain ⟨a, rfl⟩ := Int.eq_ofNat_of_zero_le ha0
 simp only [Int.toNat_natCast] at *
 have hal : a ≤ t.length := by omega
 have hqa : q.length ≤ a := by omega
 obtain ⟨k1, k2⟩ := skS_le hal
 have hpr := preS_ok hqa hal htl
 generalize hB : skS t a = B at *
 have hT : (E_blk).X = T := rfl
 have hx0 := And.intro @dec_t (And.intro @dec_f (And.intro @Int.toNat_natCast (And.intro @rdS.eq_1 (And.intro @dSn_rows (And.intro @rect_eSn @Tryz.results64)))))
 have hx := hx0
 refine ⟨Nat.le_of_ble_eq_true rfl, ?_⟩
 intro F W0 M0 hnp hmk
 have hnp : Far.np = 2 := hnp
 refine vc_seq_k fun N1 h1 => ?_
 refine u_reg ?_
 try refine lg_mk ?_
 refine u_mv ?_
 refine lg_nil ?_
 refine h1 _ ?_; clear h1; try clear N1
 refine vc_seq_k fun N2 h2 => ?_
 refine vc_seq_k fun N3 h3 => ?_
 have hx := And.intro @hB hx0
 refine u_reg ?_
 try refine lg_mk ?_
 refine u_mv ?_
 have hc := call_rule (E := (E_blk.at_ 24)) (f := 43) (sp := Spec.gen blkG) rfl
 have hs := @blkG.eq_1
 refine u_hg (hq := by (first | (exact hpr) | exact sd_)) ?_
 refine lg_nil ?_
 have hx := hx0
 refine h3 _ ?_; clear h3; try clear N3
 refine vc_seq_k fun N4 h4 => ?_
 refine u_reg ?_
 try refine lg_mk ?_
 refine u_mv ?_
 refine u_nl ?_
 refine u_pt ?_
 refine u_ld ?_
 refine u_mv ?_
 refine u_nl ?_
 refine u_pt ?_
 refine u_ld ?_
 refine u_ln ?_
 refine u_bn ?_
 refine lg_nil ?_
 refine h4 _ ?_; clear h4; try clear N4
 refine u_cond (fun hb5 => ?_) (fun hb5 => ?_)
 have hbl : B < t.length := by have := hb5; (try simp at this); omega
 obtain ⟨c, hc⟩ := getE (l := t) (i := B) hbl
 have hgd : t.getD B 0 = c := by rw [List.getD_eq_getElem?_getD, hc]; rfl
 rw [hgd]
 refine vc_seq_k fun N6 h6 => ?_
 have hx := And.intro @hc hx0
 refine u_reg ?_
 try refine lg_mk ?_
 refine u_mv ?_
 refine u_nl ?_
 refine u_pt ?_
 refine u_ld ?_
 refine u_mv ?_
 refine u_nl ?_
 refine u_pt ?_
 refine u_ld ?_
 refine u_pt ?_
 refine u_mv ?_
 refine lg_nil ?_
 have hx := hx0
 refine h6 _ ?_; clear h6; try clear N6
 refine vc_ret ?_
 try simp only [k_rules]
 refine fin_ ?_
 refine ⟨[some 0, some 1], by rfl, ?_, ?_⟩
 refine fin_ ?_
 ·(repeat' apply And.intro) <;> (first | (first | rfl | exact Or.inl rfl | trivial | (rw [hgd]; exact Or.inl rfl) | exact cl_ | omega) | exact cl_)
 refine fin_ ?_
 ·(repeat' apply And.intro) <;> (first | (first | rfl | exact Or.inl rfl | trivial | (rw [hgd]; exact Or.inl rfl) | exact cl_ | omega) | exact cl_)
 have hgd : t.getD B 0 = 0 := by rw [List.getD_eq_getElem?_getD, List.getElem?_eq_none (by have := hb5; (try simp at this); omega)]; rfl
 rw [hgd]
 refine vc_skip ?_
 try simp only [k_rules]
 refine h2 _ ?_; clear h2; try clear N2
 refine vc_seq_k fun N7 h7 => ?_
 refine u_reg ?_
 try refine lg_mk ?_
 refine u_mv ?_
 refine lg_nil ?_
 refine h7 _ ?_; clear h7; try clear N7
 refine vc_ret ?_
 try simp only [k_rules]
 refine fin_ ?_
 refine ⟨[some 0, some 1], by rfl, ?_, ?_⟩
 refine fin_ ?_
 ·(repeat' apply And.intro) <;> (first | (first | rfl | exact Or.inl rfl | trivial | (rw [hgd]; exact Or.inl rfl) | exact cl_ | omega) | exact cl_)
 refine fin_ ?_
 ·(repeat' apply And.intro) <;> (first | (first | rfl | exact Or.inl rfl | trivial | (rw [hgd]; exact Or.inl rfl) | exact cl_ | omega) | exact cl_)
 cases hg

def E_nxt : Env Tryz.prog := E_blk.add 64 (Spec.gen nxtG) nxt_meets (by kernel_rfl)

theorem addr_meets : Meets Tryz.prog 65 (Spec.gen addG) := by
 refine meets_handed (E_nxt.at_ 21) Tryz.func65 rfl rfl rfl ?_
 intro args bl p r bf hg hp
 unfold addG at hg
 split at hg
 rename_i f g h i ty t a n vt sz xs
 simp only [Option.some.injEq, Prod.mk.injEq] at hg
 obtain ⟨rfl, rfl, rfl⟩ := hg
 obtain ⟨rfl, rfl, rfl, he, rfl, hl⟩ := hp
 generalize dSn xs = q at *
 subst he
 have hap := addS_rows q f g h i
 have hT : (E_nxt).X = T := rfl
 have hx0 := And.intro @dec_t (And.intro @dec_f (And.intro @dSn_rows (And.intro @rect_eSn (And.intro @rdS.eq_1 @Tryz.results65))))
 have hx := hx0
 refine ⟨Nat.le_of_ble_eq_true rfl, ?_⟩
 intro F W0 M0 hnp hmk
 have hnp : Far.np = 2 := hnp
 refine vc_seq_k fun N1 h1 => ?_
 refine u_reg ?_
 try refine lg_mk ?_
 refine u_bx (hq := by exact so_) ?_
 refine u_mv (hq := by exact so_) ?_
 refine lg_nil ?_
 refine h1 _ ?_; clear h1; try clear N1
 refine vc_seq_k fun N2 h2 => ?_
 refine u_reg ?_
 try refine lg_mk ?_
 iterate 2 refine u_mv (hq := by exact so_) ?_
 refine u_nl (hq := by exact so_) ?_
 refine u_pt (hq := by exact so_) ?_
 iterate 2 refine u_ld (hq := by exact so_) ?_
 refine u_bs (hq := by exact so_) ?_
 refine u_ap (hq := by exact so_) ?_
 refine u_nl (hq := by exact so_) ?_
 refine u_pt (hq := by exact so_) ?_
 refine u_st (hq := by exact so_) ?_
 refine lg_nil ?_
 refine h2 _ ?_; clear h2; try clear N2
 refine vc_seq_k fun N3 h3 => ?_
 refine u_reg ?_
 try refine lg_mk ?_
 refine u_mv (hq := by exact so_) ?_
 refine u_nl (hq := by exact so_) ?_
 refine u_pt (hq := by exact so_) ?_
 refine u_ld (hq := by exact so_) ?_
 refine u_ln (hq := by exact so_) ?_
 refine u_bn (hq := by exact so_) ?_
 refine u_mv (hq := by exact so_) ?_
 refine lg_nil ?_
 refine h3 _ ?_; clear h3; try clear N3
 refine vc_ret ?_
 try simp only [k_rules]
 refine fin_ ?_
 refine ⟨[some 0, some 1, some 4], by rfl, ?_, ?_⟩
 refine fin_ ?_
 ·(repeat' apply And.intro) <;> (first | (first | rfl | (rw [hap]; done) | (rw [List.take_length, hap]; done) | (rw [List.take_of_length_le (Nat.le_refl _), hap]; done) | omega) | exact cl_)
 refine fin_ ?_
 ·(repeat' apply And.intro) <;> (first | (first | rfl | (rw [hap]; done) | (rw [List.take_length, hap]; done) | (rw [List.take_of_length_le (Nat.le_refl _), hap]; done) | omega) | exact cl_)
 cases hg

def E_addr : Env Tryz.prog := E_nxt.add 65 (Spec.gen addG) addr_meets (by kernel_rfl)
end Go.Proofs.YtmbjnkgpcbpclaaGreat
