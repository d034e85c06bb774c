/- Walks, printed by wip/gen/walk.py. -/
import Derived.Test.YtmbjnkgpcbpclaaGreatT70
import Derived.Test.YtmbjnkgpcbpclaaGreatV5
import Derived.Test.YtmbjnkgpcbpclaaGreatT69
import Derived.Test.YtmbjnkgpcbpclaaGreatV6
import Derived.Tactics
import Derived.Tactics2
import Derived.Calls
set_option linter.all false
set_option maxRecDepth 100000
set_option maxHeartbeats 4000000
namespace Go.Proofs.YtmbjnkgpcbpclaaGreat
open Go Go.Vc Go.RowKit
abbrev PX := Except (Int × Int) (Nat × List Sn × Nat)
def eC {α : Type} (r : Except (Int × Int) α) : Int := match r with | .error e => e.1 | .ok _ => 0
def eK {α : Type} (r : Except (Int × Int) α) : Int := match r with | .error e => e.2 | .ok _ => 0
theorem eC_e {α : Type} (c k : Int) : eC (.error (c, k) : Except (Int × Int) α) = c := rfl
theorem eK_e {α : Type} (c k : Int) : eK (.error (c, k) : Except (Int × Int) α) = k := rfl
def bndX (r : PX) (k : Nat → List Sn → Nat → PX) : PX := match r with
  | .ok (a, ns, x) => k a ns x
  | .error e => .error e
def qdX (t : Bs) : Nat → Nat → Bs → Except (Int × Int) (Nat × Bs)
  | 0, _, _ => .error (0, 0)
  | f + 1, a, s => match t[a]? with
    | none => .error (1, ((a : Nat) : Int))
    | some c => if c = 34 then .ok (a, s) else if c = 10 then .error (1, ((a : Nat) : Int)) else if c = 92 then match t[a + 1]? with
      | none => .error (1, ((t.length : Nat) : Int))
      | some d => if d = 34 ∨ d = 92 then qdX t f (a + 2) (s ++ [d]) else .error (1, ((a : Nat) : Int))
      else qdX t f (a + 1) (s ++ [c])
def qtX (t : Bs) (a : Nat) (ns : List Sn) : PX := match qdX t (t.length + 1) (a + 1) [] with
  | .ok (e, s) => if okT s = true then .ok (e + 1, ns ++ [⟨1, s, 0, 0⟩], ns.length) else .error (3, ((a : Nat) : Int))
  | .error e => .error e
def lpX (sub : Nat → List Sn → PX) (t : Bs) (m : Nat) : Nat → Nat → List Sn → Nat → PX
  | 0, _, _, _ => .error (0, 0)
  | g + 1, a, ns, x => if t.getD (skS t a) 0 = sgn m then bndX (sub (skS t a + 1) ns) fun a' ns' y => lpX sub t m g a' (ns' ++ [⟨kdm m, [], x, y⟩]) ns'.length else .ok (skS t a, ns, x)
def unX (un qu : Nat → List Sn → PX) (t : Bs) (a : Nat) (ns : List Sn) : PX :=
  if t.getD (skS t a) 0 = 33 then bndX (un (skS t a + 1) ns) fun a' ns' x => .ok (a', ns' ++ [⟨4, [], x, 0⟩], ns'.length)
  else if t.getD (skS t a) 0 = 40 then bndX (qu (skS t a + 1) ns) fun a' ns' x => if t.getD (skS t a') 0 = 41 then .ok (skS t a' + 1, ns', x) else .error (1, ((skS t a' : Nat) : Int))
  else if t.getD (skS t a) 0 = 34 then qtX t (skS t a) ns else .error (1, ((skS t a : Nat) : Int))
def rdX (t : Bs) : Nat → Nat → Nat → List Sn → PX
  | 0, _, _, _ => .error (0, 0)
  | f + 1, m, a, ns => if m = 3 then unX (rdX t f 3) (rdX t f 0) t a ns else if m = 2 then rdX t f 3 a ns else bndX (rdX t f (m + 1) a ns) fun a' ns' x => lpX (rdX t f (m + 1)) t m (t.length + 1) a' ns' x
theorem qdX_ok {t : Bs} : ∀ {f a : Nat} {s : Bs} {z : Nat × Bs}, qdX t f a s = .ok z → qd t f a s = some z
  | 0, _, _, _, h => by cases h
  | f + 1, a, s, z, h => by
    unfold qdX at h
    unfold qd
    split at h
    · cases h
    · rename_i c hc
      rw [hc]
      dsimp only
      split at h
      · rename_i h1; rw [if_pos h1]; cases h; rfl
      · rename_i h1
        rw [if_neg h1]
        split at h
        · cases h
        · rename_i h2
          rw [if_neg h2]
          split at h
          · rename_i h3
            rw [if_pos h3]
            split at h
            · cases h
            · rename_i d hd
              rw [hd]
              dsimp only
              split at h
              · rename_i h4; rw [if_pos h4]; exact qdX_ok h
              · cases h
          · rename_i h3; rw [if_neg h3]; exact qdX_ok h
theorem qtX_ok {t : Bs} {a : Nat} {ns : List Sn} {z : Nat × List Sn × Nat} (h : qtX t a ns = .ok z) : qtR t a ns = some z := by
  unfold qtX at h
  unfold qtR
  split at h
  · rename_i e s he
    rw [qdX_ok he]
    dsimp only
    split at h
    · rename_i ho; rw [if_pos ho]; cases h; rfl
    · cases h
  · cases h
theorem bndX_ok {r : PX} {k : Nat → List Sn → Nat → PX} {z : Nat × List Sn × Nat} (h : bndX r k = .ok z) : ∃ a ns x, r = .ok (a, ns, x) ∧ k a ns x = .ok z := by
  match r, h with
  | .ok (a, ns, x), h => exact ⟨a, ns, x, rfl, h⟩
theorem lpX_ok {sub : Nat → List Sn → PX} {sub' : Nat → List Sn → PR} (hs : ∀ a ns z, sub a ns = .ok z → sub' a ns = some z) {t : Bs} {m : Nat} : ∀ {g a : Nat} {ns : List Sn} {x : Nat} {z : Nat × List Sn × Nat}, lpX sub t m g a ns x = .ok z → lpR sub' t m g a ns x = some z
  | 0, _, _, _, _, h => by cases h
  | g + 1, a, ns, x, z, h => by
    unfold lpX at h
    unfold lpR
    split at h
    · rename_i hc
      obtain ⟨a1, n1, y, h1, h2⟩ := bndX_ok h
      rw [if_pos hc, hs _ _ _ h1]
      exact lpX_ok hs h2
    · rename_i hc; rw [if_neg hc]; cases h; rfl
theorem rdX_ok {t : Bs} : ∀ {f m a : Nat} {ns : List Sn} {z : Nat × List Sn × Nat}, rdX t f m a ns = .ok z → rdP t f m a ns = some z
  | 0, _, _, _, _, h => by cases h
  | f + 1, m, a, ns, z, h => by
    unfold rdX at h
    unfold rdP
    split at h
    · rename_i hm
      rw [if_pos hm]
      unfold unX at h
      unfold unR
      split at h
      · rename_i hc
        obtain ⟨a1, n1, y, h1, h2⟩ := bndX_ok h
        rw [if_pos hc, rdX_ok h1]; cases h2; rfl
      · rename_i hc
        rw [if_neg hc]
        split at h
        · rename_i hd
          obtain ⟨a1, n1, y, h1, h2⟩ := bndX_ok h
          rw [if_pos hd, rdX_ok h1]
          show (if t.getD (skS t a1) 0 = 41 then _ else _) = _
          split at h2
          · rename_i he; rw [if_pos he]; cases h2; rfl
          · cases h2
        · rename_i hd
          rw [if_neg hd]
          split at h
          · rename_i he; rw [if_pos he]; exact qtX_ok h
          · cases h
    · rename_i hm
      rw [if_neg hm]
      split at h
      · rename_i h2; rw [if_pos h2]; exact rdX_ok h
      · rename_i h2
        rw [if_neg h2]
        obtain ⟨a1, n1, y, h1, h3⟩ := bndX_ok h
        rw [rdX_ok h1]
        exact lpX_ok (fun a ns z h => rdX_ok h) h3
theorem fail_run (p : Value) (c k : Int) (w : World) : Calls Tryz.prog 44 #[p, .int .i64 c, .int .i64 k] w fun e w' => e = .panicked (faultE 29 c k) ∧ w' = w := by
  refine calls_of_wp Tryz.func44 rfl ?_
  simp only [Tryz.ntmps44, List.size_toArray, List.length_cons, List.length_nil, Nat.reduceAdd, Nat.reduceSub, Array.replicate_succ, Array.replicate_zero, List.push_toArray, List.append_toArray, List.nil_append, List.cons_append]
  unfold Tryz.f44
  show Code.wp _ _ _ _ _
  go_wp2
  exact ⟨rfl, rfl, rfl⟩
def failG : GFun
  | [.ptr 0 0 0, .d (.int .i64 c), .d (.int .i64 k)], [_, _] => some (True, ftA c k, [none, none])
  | _, _ => none
theorem fail_pan : Panics Tryz.prog 44 (Spec.gen failG) 29 := by
  refine panics_still fun ia bl p r bf hg hp => ?_
  unfold failG at hg
  split at hg
  · rename_i c k b0 b1
    simp only [Option.some.injEq, Prod.mk.injEq] at hg
    obtain ⟨rfl, rfl, rfl⟩ := hg
    refine ⟨c, k, rfl, rfl, rfl, ?_⟩
    intro F w S n vs hl hr
    match vs, hl with
    | [v0, v1, v2], _ =>
      have h1 := R.int_iff.1 (hr 1 _ _ rfl rfl)
      have h2 := R.int_iff.1 (hr 2 _ _ rfl rfl)
      subst h1 h2
      exact fail_run _ _ _ _
  · cases hg
def unaX (fu : Nat) : GFun
  | [.ptr 0 0 0], [some (.one ty [.d (.str t), .d (.int .i64 a), .sl 1 0 n]), some (.vec vt sz xs)] => some (preS ty vt sz n t a xs ∧ eC (rdX t fu 3 a.toNat (dSn xs)) ≠ 0, ftA (eC (rdX t fu 3 a.toNat (dSn xs))) (eK (rdX t fu 3 a.toNat (dSn xs))), [none, none])
  | _, _ => none
def qryX (fu : Nat) : GFun
  | [.ptr 0 0 0, .d (.int .i64 l)], [some (.one ty [.d (.str t), .d (.int .i64 a), .sl 1 0 n]), some (.vec vt sz xs)] => some (0 ≤ l ∧ l ≤ 2 ∧ preS ty vt sz n t a xs ∧ eC (rdX t fu l.toNat a.toNat (dSn xs)) ≠ 0, ftA (eC (rdX t fu l.toNat a.toNat (dSn xs))) (eK (rdX t fu l.toNat a.toNat (dSn xs))), [none, none])
  | _, _ => none
def quoX : GFun
  | [.ptr 0 0 0], [some (.one ty [.d (.str t), .d (.int .i64 a), .sl 1 0 n]), some (.vec vt sz xs)] => some (preS ty vt sz n t a xs ∧ a < t.length ∧ eC (qtX t a.toNat (dSn xs)) ≠ 0, ftA (eC (qtX t a.toNat (dSn xs))) (eK (qtX t a.toNat (dSn xs))), [none, none])
  | _, _ => none
theorem rdX_un (t : Bs) (f a : Nat) (ns : List Sn) : rdX t (f + 1) 3 a ns = unX (rdX t f 3) (rdX t f 0) t a ns := by rw [rdX]; exact if_pos rfl
theorem bndX_bad {r : PX} {k : Nat → List Sn → Nat → PX} (h : eC (bndX r k) ≠ 0) : (∃ c i, r = .error (c, i) ∧ c ≠ 0 ∧ bndX r k = .error (c, i)) ∨ ∃ a ns x, r = .ok (a, ns, x) ∧ bndX r k = k a ns x := by
  match r, h with
  | .error (c, i), h => exact .inl ⟨c, i, rfl, h, rfl⟩
  | .ok (a, ns, x), _ => exact .inr ⟨a, ns, x, rfl, rfl⟩

theorem unx_step (fu : Nat) (kq : Meets Tryz.prog 42 (Spec.gen (qryG fu))) (ku : Meets Tryz.prog 63 (Spec.gen (unaG fu))) (kx : Panics Tryz.prog 42 (Spec.gen (qryX fu)) 29) (kz : Panics Tryz.prog 63 (Spec.gen (unaX fu)) 29) (ky : Panics Tryz.prog 82 (Spec.gen quoX) 29) : Panics Tryz.prog 63 (Spec.gen (unaX (fu + 1))) 29 := by
 refine panics_gen ((E_rd fu kq ku).at_ 60) Tryz.func63 rfl rfl rfl ?_
 intro args bl p r bf hg hp
 unfold unaX at hg
 split at hg
 rename_i ty t a n vt sz xs
 simp only [Option.some.injEq, Prod.mk.injEq] at hg
 obtain ⟨rfl, rfl, rfl⟩ := hg
 obtain ⟨hpr, hsm⟩ := hp
 obtain ⟨rfl, rfl, rfl, he, rfl, ha0, hal, htl, hqa⟩ := hpr
 generalize dSn xs = q at *
 subst he
 obtain ⟨a, rfl⟩ := Int.eq_ofNat_of_zero_le ha0
 simp only [Int.toNat_natCast] at *
 have hal : a ≤ t.length := by omega
 have hqa : q.length ≤ a := by omega
 obtain ⟨k1, k2⟩ := skS_le hal
 have hps := preS_ok hqa hal htl
 rw [rdX_un] at hsm ⊢
 unfold unX at hsm ⊢
 generalize hB : skS t a = B at *
 generalize hC : t.getD B 0 = C at *
 have hb1 : ((B : Int) + 1).toNat = B + 1 := by omega
 have hT : ((E_rd fu kq ku)).X = T := rfl
 have hx0 := And.intro @dec_t (And.intro @dec_f (And.intro @Int.toNat_natCast (And.intro @rdS.eq_1 (And.intro @dSn_rows (And.intro @rect_eSn (And.intro @rX_s (And.intro @rBx_s (And.intro @eC_e (And.intro @eK_e @Tryz.results63)))))))))
 have hx := hx0
 refine ⟨_, _, rfl, rfl, rfl, Nat.le_of_ble_eq_true rfl, ?_⟩
 intro F W0 M0 hnp hmk
 have hnp : Far.np = 2 := hnp
 refine vc_seq_k fun N1 h1 => ?_
 refine u_reg ?_
 try refine lg_mk ?_
 refine u_mv ?_
 refine lg_nil ?_
 refine h1 _ ?_; clear h1; try clear N1
 refine vc_seq_k fun N2 h2 => ?_
 refine vc_seq_k fun N3 h3 => ?_
 have hx := And.intro @hB (And.intro @hC hx0)
 refine u_reg ?_
 try refine lg_mk ?_
 refine u_mv ?_
 have hc := call_rule (E := ((E_rd fu kq ku).at_ 60)) (f := 64) (sp := Spec.gen nxtG) rfl
 have hs := @nxtG.eq_1
 refine u_hg (hq := by (first | (exact hps) | exact sd_)) ?_
 refine lg_nil ?_
 have hx := hx0
 refine h3 _ ?_; clear h3; try clear N3
 refine vc_block ?_
 refine vc_seq_k fun N4 h4 => ?_
 refine u_reg ?_
 try refine lg_mk ?_
 refine u_bn ?_
 refine u_mv ?_
 refine lg_nil ?_
 refine h4 _ ?_; clear h4; try clear N4
 refine u_cond (fun hb5 => ?_) (fun hb5 => ?_)
 have h33 : C = 33 := by have := hb5; first | exact UInt8.toNat_inj.1 (show C.toNat = 33 by (try simp at this); omega) | (simpa using this)
 subst h33
 have hBl := (getD_lt hC (by decide)).1
 rw [if_pos rfl] at hsm ⊢
 obtain ⟨c, i, hR, hc0, hE⟩ : ∃ c i, rdX t fu 3 (B + 1) q = .error (c, i) ∧ c ≠ 0 ∧ _ = _ := by
  rcases bndX_bad hsm with h | ⟨a1, n1, x, h1, h2⟩
  ·exact h
  ·rw [h2] at hsm; exact absurd rfl hsm
 rw [hE]
 refine vc_seq_k fun N6 h6 => ?_
 refine u_reg ?_
 try refine lg_mk ?_
 refine u_mv ?_
 refine u_nl ?_
 refine u_pt ?_
 refine u_ld ?_
 refine u_bn ?_
 refine u_nl ?_
 refine u_pt ?_
 refine u_st ?_
 refine lg_nil ?_
 refine h6 _ ?_; clear h6; try clear N6
 refine vc_seq_k fun N7 h7 => ?_
 have hx := And.intro @hb1 (And.intro @hR hx0)
 refine vc_pan [] 1 (by rfl) (by rfl) ?_
 simp only [List.take_succ_cons, List.take_zero]
 try refine lg_mk ?_
 refine u_mv ?_
 refine lg_nil ?_
 show PanO _ _ _ _
 have hs := @unaX.eq_1
 refine ⟨_, 63, _, _, _, _, _, Spec.gen (unaX fu), 29, _, _, _, _, _, [0, 1], rfl, kz, by kernel_rfl, (by first | trivial | simp only [wB, eq_self, Nat.reduceEqDiff, reduceIte, and_true]), (by simp only [map_rules, wB, eq_self, Nat.reduceEqDiff, reduceIte, callS, rd_rules, pureL, cleanD, pure_rules, hs, sc_rules, heap_rules, wL, Int.toNat_natCast, Int.reduceToNat, Nat.reduceAdd, Nat.reduceMul, Nat.reduceSub, Nat.reduceLeDiff, List.mem_cons, List.not_mem_nil, dI_rows, dB_rows, dU_rows, hx, wG, Nat.reduceAdd, Nat.reduceSub, Nat.reduceLT, Nat.reduceLeDiff, if_true, if_false, ite_self, List.mem_append, true_implies, Option.bind_some, List.set_cons_zero, List.set_cons_succ, or_false, false_or]; rfl), (by refine ⟨preS_1 (by omega) (by omega) htl, ?_⟩; first | exact hc0 | (rw [hR]; exact hc0) | (simp only [dSn_rows, Int.toNat_natCast, hb1, hR, eC_e]; exact hc0)), ?_⟩
 exact rfl
 have h33 : C ≠ 33 := by intro h; have := hb5; rw [h] at this; simp at this
 rw [if_neg h33] at hsm ⊢
 refine vc_seq_k fun N8 h8 => ?_
 refine u_reg ?_
 try refine lg_mk ?_
 refine u_bn ?_
 refine u_mv ?_
 refine lg_nil ?_
 refine h8 _ ?_; clear h8; try clear N8
 refine u_cond (fun hb9 => ?_) (fun hb9 => ?_)
 have h40 : C = 40 := by have := hb9; first | exact UInt8.toNat_inj.1 (show C.toNat = 40 by (try simp at this); omega) | (simpa using this)
 subst h40
 have hBl := (getD_lt hC (by decide)).1
 rw [if_pos rfl] at hsm ⊢
 refine vc_seq_k fun N10 h10 => ?_
 refine u_reg ?_
 try refine lg_mk ?_
 refine u_mv ?_
 refine u_nl ?_
 refine u_pt ?_
 refine u_ld ?_
 refine u_bn ?_
 refine u_nl ?_
 refine u_pt ?_
 refine u_st ?_
 refine lg_nil ?_
 refine h10 _ ?_; clear h10; try clear N10
 refine vc_seq_k fun N11 h11 => ?_
 rcases bndX_bad hsm with ⟨c, i, hR, hc0, hE⟩ | ⟨a1, n1, x, hR, hE⟩
 rw [hE]
 have hP := hR
 have hx := And.intro @hb1 (And.intro @hP hx0)
 refine vc_pan [] 1 (by rfl) (by rfl) ?_
 simp only [List.take_succ_cons, List.take_zero]
 try refine lg_mk ?_
 refine u_mv ?_
 refine lg_nil ?_
 show PanO _ _ _ _
 have hs := @qryX.eq_1
 refine ⟨_, 42, _, _, _, _, _, Spec.gen (qryX fu), 29, _, _, _, _, _, [0, 1], rfl, kx, by kernel_rfl, (by first | trivial | simp only [wB, eq_self, Nat.reduceEqDiff, reduceIte, and_true]), (by simp only [map_rules, wB, eq_self, Nat.reduceEqDiff, reduceIte, callS, rd_rules, pureL, cleanD, pure_rules, hs, sc_rules, heap_rules, wL, Int.toNat_natCast, Int.reduceToNat, Nat.reduceAdd, Nat.reduceMul, Nat.reduceSub, Nat.reduceLeDiff, List.mem_cons, List.not_mem_nil, dI_rows, dB_rows, dU_rows, hx, wG, Nat.reduceAdd, Nat.reduceSub, Nat.reduceLT, Nat.reduceLeDiff, if_true, if_false, ite_self, List.mem_append, true_implies, Option.bind_some, List.set_cons_zero, List.set_cons_succ, or_false, false_or]; rfl), (by refine ⟨by decide, by decide, preS_1 (by omega) (by omega) htl, ?_⟩; first | exact hc0 | (rw [hR]; exact hc0) | (simp only [dSn_rows, Int.toNat_natCast, Int.toNat_zero, hb1, hR, eC_e]; exact hc0)), ?_⟩
 exact rfl
 rw [hE] at hsm
 have hP := rdX_ok hR
 obtain ⟨⟨f1, f2, f3⟩, f4⟩ := rd_fit t fu 0 (B + 1) q (by omega) a1 n1 x hP
 obtain ⟨k3, k4⟩ := skS_le f2
 have hps2 := preS_ok (t := t) (m := a1) (q := n1) (by omega) f2 htl
 generalize hB1 : skS t a1 = B1 at *
 generalize hC1 : t.getD B1 0 = C1 at *
 have h41 : C1 ≠ 41 := fun h => hsm (by rw [if_pos h]; rfl)
 have hx := And.intro @hb1 (And.intro @hP hx0)
 refine u_reg ?_
 try refine lg_mk ?_
 refine u_mv ?_
 have hc := call_rule (E := ((E_rd fu kq ku).at_ 60)) (f := 42) (sp := Spec.gen (qryG fu)) rfl
 have hs := @qryG.eq_1
 refine u_hg (hq := by (first | (refine ⟨by decide, by decide, preS_1 (by omega) (by omega) htl, ?_⟩; first | rfl | (rw [hP]; rfl) | (simp only [dSn_rows, Int.toNat_natCast, Int.toNat_zero, hb1, hP]; rfl)) | exact sd_)) ?_
 refine u_mv ?_
 refine lg_nil ?_
 have hx := hx0
 refine h11 _ ?_; clear h11; try clear N11
 refine vc_seq_k fun N12 h12 => ?_
 refine vc_seq_k fun N13 h13 => ?_
 have hx := And.intro @hB1 (And.intro @hC1 hx0)
 refine u_reg ?_
 try refine lg_mk ?_
 refine u_mv ?_
 have hc := call_rule (E := ((E_rd fu kq ku).at_ 60)) (f := 64) (sp := Spec.gen nxtG) rfl
 have hs := @nxtG.eq_1
 refine u_hg (hq := by (first | (exact hps2) | exact sd_)) ?_
 refine u_bn ?_
 refine lg_nil ?_
 have hx := hx0
 refine h13 _ ?_; clear h13; try clear N13
 refine u_cond (fun hb14 => ?_) (fun hb14 => ?_)
 refine vc_pan [] 5 (by rfl) (by rfl) ?_
 simp only [List.take_succ_cons, List.take_zero]
 try refine lg_mk ?_
 iterate 2 refine u_mv ?_
 refine u_nl ?_
 refine u_pt ?_
 refine u_ld ?_
 refine lg_nil ?_
 show PanO _ _ _ _
 have hs := @failG.eq_1
 refine ⟨_, 44, _, _, _, _, _, Spec.gen failG, 29, _, _, _, _, _, [0, 2], rfl, fail_pan, by kernel_rfl, (by first | trivial | simp only [wB, eq_self, Nat.reduceEqDiff, reduceIte, and_true]), (by simp only [map_rules, wB, eq_self, Nat.reduceEqDiff, reduceIte, callS, rd_rules, pureL, cleanD, pure_rules, hs, sc_rules, heap_rules, wL, Int.toNat_natCast, Int.reduceToNat, Nat.reduceAdd, Nat.reduceMul, Nat.reduceSub, Nat.reduceLeDiff, List.mem_cons, List.not_mem_nil, dI_rows, dB_rows, dU_rows, hx, wG, Nat.reduceAdd, Nat.reduceSub, Nat.reduceLT, Nat.reduceLeDiff, if_true, if_false, ite_self, List.mem_append, true_implies, Option.bind_some, List.set_cons_zero, List.set_cons_succ, or_false, false_or]; rfl), (by trivial), ?_⟩
 (show Exit.panic _ = Exit.panic _; rw [hE, if_neg h41]; rfl)
 exact absurd (UInt8.toNat_inj.1 (show C1.toNat = 41 by have h := hb14; (try simp at h); omega)) h41
 have h40 : C ≠ 40 := by intro h; have := hb9; rw [h] at this; simp at this
 rw [if_neg h40] at hsm ⊢
 refine vc_seq_k fun N15 h15 => ?_
 refine u_reg ?_
 try refine lg_mk ?_
 refine u_bn ?_
 refine u_mv ?_
 refine lg_nil ?_
 refine h15 _ ?_; clear h15; try clear N15
 refine u_cond (fun hb16 => ?_) (fun hb16 => ?_)
 have h34 : C = 34 := by have := hb16; first | exact UInt8.toNat_inj.1 (show C.toNat = 34 by (try simp at this); omega) | (simpa using this)
 subst h34
 have hBl := (getD_lt hC (by decide)).1
 rw [if_pos rfl] at hsm ⊢
 refine vc_seq_k fun N17 h17 => ?_
 refine vc_pan [] 1 (by rfl) (by rfl) ?_
 simp only [List.take_succ_cons, List.take_zero]
 try refine lg_mk ?_
 refine u_mv ?_
 refine lg_nil ?_
 show PanO _ _ _ _
 have hs := @quoX.eq_1
 refine ⟨_, 82, _, _, _, _, _, Spec.gen quoX, 29, _, _, _, _, _, [0, 1], rfl, ky, by kernel_rfl, (by first | trivial | simp only [wB, eq_self, Nat.reduceEqDiff, reduceIte, and_true]), (by simp only [map_rules, wB, eq_self, Nat.reduceEqDiff, reduceIte, callS, rd_rules, pureL, cleanD, pure_rules, hs, sc_rules, heap_rules, wL, Int.toNat_natCast, Int.reduceToNat, Nat.reduceAdd, Nat.reduceMul, Nat.reduceSub, Nat.reduceLeDiff, List.mem_cons, List.not_mem_nil, dI_rows, dB_rows, dU_rows, hx, wG, Nat.reduceAdd, Nat.reduceSub, Nat.reduceLT, Nat.reduceLeDiff, if_true, if_false, ite_self, List.mem_append, true_implies, Option.bind_some, List.set_cons_zero, List.set_cons_succ, or_false, false_or]; rfl), (by refine ⟨preS_ok (by omega) k2 htl, by omega, ?_⟩; first | exact hsm | (simp only [dSn_rows, Int.toNat_natCast]; exact hsm)), ?_⟩
 exact rfl
 have h34 : C ≠ 34 := by intro h; have := hb16; rw [h] at this; simp at this
 rw [if_neg h34] at hsm ⊢
 refine vc_skip ?_
 try simp only [k_rules]
 refine h2 _ ?_; clear h2; try clear N2
 refine vc_seq_k fun N18 h18 => ?_
 refine vc_pan [] 5 (by rfl) (by rfl) ?_
 simp only [List.take_succ_cons, List.take_zero]
 try refine lg_mk ?_
 iterate 2 refine u_mv ?_
 refine u_nl ?_
 refine u_pt ?_
 refine u_ld ?_
 refine lg_nil ?_
 show PanO _ _ _ _
 have hs := @failG.eq_1
 refine ⟨_, 44, _, _, _, _, _, Spec.gen failG, 29, _, _, _, _, _, [0, 1], rfl, fail_pan, by kernel_rfl, (by first | trivial | simp only [wB, eq_self, Nat.reduceEqDiff, reduceIte, and_true]), (by simp only [map_rules, wB, eq_self, Nat.reduceEqDiff, reduceIte, callS, rd_rules, pureL, cleanD, pure_rules, hs, sc_rules, heap_rules, wL, Int.toNat_natCast, Int.reduceToNat, Nat.reduceAdd, Nat.reduceMul, Nat.reduceSub, Nat.reduceLeDiff, List.mem_cons, List.not_mem_nil, dI_rows, dB_rows, dU_rows, hx, wG, Nat.reduceAdd, Nat.reduceSub, Nat.reduceLT, Nat.reduceLeDiff, if_true, if_false, ite_self, List.mem_append, true_implies, Option.bind_some, List.set_cons_zero, List.set_cons_succ, or_false, false_or]; rfl), (by trivial), ?_⟩
 (show Exit.panic _ = Exit.panic _; rw [if_neg h33, if_neg h40, if_neg h34]; rfl)
 cases hg
end Go.Proofs.YtmbjnkgpcbpclaaGreat
