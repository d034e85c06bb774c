/- Walks, printed by wip/gen/walk.py. -/
import Derived.Test.YtmbjnkgpcbpclaaGreatT68
import Derived.Test.YtmbjnkgpcbpclaaGreatV5
set_option linter.all false
set_option maxRecDepth 100000
set_option maxHeartbeats 4000000
namespace Go.Proofs.YtmbjnkgpcbpclaaGreat
open Go Go.Vc Go.RowKit
def unaG (fu : Nat) : GFun
  | [.ptr 0 0 0], [some (.one ty [.d (.str t), .d (.int .i64 a), .sl 1 0 n]), some (.vec vt sz xs)] => some (preS ty vt sz n t a xs ∧ (rdP t fu 3 a.toNat (dSn xs)).isSome = true, .d (.int .i64 (rX (rdP t fu 3 a.toNat (dSn xs)))), rBx t (rdP t fu 3 a.toNat (dSn xs)))
  | _, _ => none
def qryG (fu : Nat) : GFun
  | [.ptr 0 0 0, .d (.int .i64 l)], [some (.one ty [.d (.str t), .d (.int .i64 a), .sl 1 0 n]), some (.vec vt sz xs)] => some (0 ≤ l ∧ l ≤ 2 ∧ preS ty vt sz n t a xs ∧ (rdP t fu l.toNat a.toNat (dSn xs)).isSome = true, .d (.int .i64 (rX (rdP t fu l.toNat a.toNat (dSn xs)))), rBx t (rdP t fu l.toNat a.toNat (dSn xs)))
  | _, _ => none
def E_rd (n : Nat) (kq : Meets Tryz.prog 42 (Spec.gen (qryG n))) (ku : Meets Tryz.prog 63 (Spec.gen (unaG n))) : Env Tryz.prog :=
  (E_quo.add 42 (Spec.gen (qryG n)) kq (by kernel_rfl)).add 63 (Spec.gen (unaG n)) ku (by kernel_rfl)
theorem rd_un (t : Bs) (f a : Nat) (ns : List Sn) : rdP t (f + 1) 3 a ns = unR (rdP t f 3) (rdP t f 0) t a ns := by rw [rdP]; exact if_pos rfl
theorem rd_q2 (t : Bs) (f a : Nat) (ns : List Sn) : rdP t (f + 1) 2 a ns = rdP t f 3 a ns := by rw [rdP]; rfl
theorem rd_q (t : Bs) (f m a : Nat) (ns : List Sn) (h : m < 2) : rdP t (f + 1) m a ns = bndR (rdP t f (m + 1) a ns) fun a' ns' x => lpR (rdP t f (m + 1)) t m (t.length + 1) a' ns' x := by
  rw [rdP]; rw [if_neg (by omega), if_neg (by omega)]
theorem bndR_s (a : Nat) (ns : List Sn) (x : Nat) (k : Nat → List Sn → Nat → PR) : bndR (some (a, ns, x)) k = k a ns x := rfl
theorem bndR_ok {r : PR} {k : Nat → List Sn → Nat → PR} (h : (bndR r k).isSome = true) : ∃ a ns x, r = some (a, ns, x) := by
  match r, h with
  | some (a, ns, x), _ => exact ⟨a, ns, x, rfl⟩
theorem preS_1 {t : Bs} {m : Nat} {q : List Sn} (h1 : q.length ≤ m + 1) (h2 : m + 1 ≤ t.length) (h3 : t.length ≤ 1000) : preS 75 55 4 q.length t ((m : Int) + 1) (rows eSn q) := preS_ok (m := m + 1) h1 h2 h3
theorem u8_eq {c d : UInt8} (h : (c.toNat : Int) = (d.toNat : Int)) : c = d := UInt8.toNat_inj.1 (by omega)

theorem una_step (fu : Nat) (kq : Meets Tryz.prog 42 (Spec.gen (qryG fu))) (ku : Meets Tryz.prog 63 (Spec.gen (unaG fu))) : Meets Tryz.prog 63 (Spec.gen (unaG (fu + 1))) := by
 refine meets_handed ((E_rd fu kq ku).at_ 60) Tryz.func63 rfl rfl rfl ?_
 intro args bl p r bf hg hp
 unfold unaG at hg
 split at hg
 rename_i ty t a n vt sz xs
 simp only [Option.some.injEq, Prod.mk.injEq] at hg
 obtain ⟨rfl, rfl, rfl⟩ := hg
 obtain ⟨hpr, hsm⟩ := hp
 obtain ⟨rfl, rfl, rfl, he, rfl, ha0, hal, htl, hqa⟩ := hpr
 generalize dSn xs = q at *
 subst he
 obtain ⟨a, rfl⟩ := Int.eq_ofNat_of_zero_le ha0
 simp only [Int.toNat_natCast] at *
 have hal : a ≤ t.length := by omega
 have hqa : q.length ≤ a := by omega
 obtain ⟨k1, k2⟩ := skS_le hal
 have hps := preS_ok hqa hal htl
 rw [rd_un] at hsm ⊢
 unfold unR at hsm ⊢
 generalize hB : skS t a = B at *
 generalize hC : t.getD B 0 = C at *
 have hb1 : ((B : Int) + 1).toNat = B + 1 := by omega
 have hT : ((E_rd fu kq ku)).X = T := rfl
 have hx0 := And.intro @dec_t (And.intro @dec_f (And.intro @Int.toNat_natCast (And.intro @rdS.eq_1 (And.intro @dSn_rows (And.intro @rect_eSn (And.intro @rX_s (And.intro @rBx_s @Tryz.results63)))))))
 have hx := hx0
 refine ⟨Nat.le_of_ble_eq_true rfl, ?_⟩
 intro F W0 M0 hnp hmk
 have hnp : Far.np = 2 := hnp
 refine vc_seq_k fun N1 h1 => ?_
 refine u_reg ?_
 try refine lg_mk ?_
 refine u_mv ?_
 refine lg_nil ?_
 refine h1 _ ?_; clear h1; try clear N1
 refine vc_seq_k fun N2 h2 => ?_
 refine vc_seq_k fun N3 h3 => ?_
 have hx := And.intro @hB (And.intro @hC hx0)
 refine u_reg ?_
 try refine lg_mk ?_
 refine u_mv ?_
 have hc := call_rule (E := ((E_rd fu kq ku).at_ 60)) (f := 64) (sp := Spec.gen nxtG) rfl
 have hs := @nxtG.eq_1
 refine u_hg (hq := by (first | (exact hps) | exact sd_)) ?_
 refine lg_nil ?_
 have hx := hx0
 refine h3 _ ?_; clear h3; try clear N3
 refine vc_block ?_
 refine vc_seq_k fun N4 h4 => ?_
 refine u_reg ?_
 try refine lg_mk ?_
 refine u_bn ?_
 refine u_mv ?_
 refine lg_nil ?_
 refine h4 _ ?_; clear h4; try clear N4
 refine u_cond (fun hb5 => ?_) (fun hb5 => ?_)
 have h33 : C = 33 := by have := hb5; first | exact UInt8.toNat_inj.1 (show C.toNat = 33 by (try simp at this); omega) | (simpa using this)
 subst h33
 have hBl := (getD_lt hC (by decide)).1
 rw [if_pos rfl] at hsm ⊢
 obtain ⟨a1, n1, x, hR⟩ := bndR_ok hsm
 rw [hR, bndR_s]
 obtain ⟨⟨f1, f2, f3⟩, f4⟩ := rd_fit t fu 3 (B + 1) q (by omega) a1 n1 x hR
 refine vc_seq_k fun N6 h6 => ?_
 refine u_reg ?_
 try refine lg_mk ?_
 refine u_mv ?_
 refine u_nl ?_
 refine u_pt ?_
 refine u_ld ?_
 refine u_bn ?_
 refine u_nl ?_
 refine u_pt ?_
 refine u_st ?_
 refine lg_nil ?_
 refine h6 _ ?_; clear h6; try clear N6
 refine vc_seq_k fun N7 h7 => ?_
 have hx := And.intro @hb1 (And.intro @hR hx0)
 refine u_reg ?_
 try refine lg_mk ?_
 refine u_mv ?_
 have hc := call_rule (E := ((E_rd fu kq ku).at_ 60)) (f := 63) (sp := Spec.gen (unaG fu)) rfl
 have hs := @unaG.eq_1
 refine u_hg (hq := by (first | (refine ⟨preS_1 (by omega) (by omega) htl, ?_⟩; first | rfl | (rw [hR]; rfl) | (simp only [dSn_rows, Int.toNat_natCast, hb1, hR]; rfl)) | exact sd_)) ?_
 refine u_mv ?_
 refine lg_nil ?_
 have hx := hx0
 refine h7 _ ?_; clear h7; try clear N7
 refine vc_seq_k fun N8 h8 => ?_
 refine u_reg ?_
 try refine lg_mk ?_
 iterate 2 refine u_mv (hq := by exact so_) ?_
 refine u_bd (hq := by exact so_) ?_
 have hc := call_rule (E := ((E_rd fu kq ku).at_ 60)) (f := 65) (sp := Spec.gen addG) rfl
 have hs := @addG.eq_1
 refine u_hg (hq := by exact so_) ?_
 refine u_mv (hq := by exact so_) ?_
 refine lg_nil ?_
 refine h8 _ ?_; clear h8; try clear N8
 refine vc_ret ?_
 try simp only [k_rules]
 refine fin_ ?_
 refine ⟨[some 0, some 1, some 3], by rfl, ?_, ?_⟩
 refine fin_ ?_
 exact cl_
 refine fin_ ?_
 exact cl_
 have h33 : C ≠ 33 := by intro h; have := hb5; rw [h] at this; simp at this
 rw [if_neg h33] at hsm ⊢
 refine vc_seq_k fun N9 h9 => ?_
 refine u_reg ?_
 try refine lg_mk ?_
 refine u_bn ?_
 refine u_mv ?_
 refine lg_nil ?_
 refine h9 _ ?_; clear h9; try clear N9
 refine u_cond (fun hb10 => ?_) (fun hb10 => ?_)
 have h40 : C = 40 := by have := hb10; first | exact UInt8.toNat_inj.1 (show C.toNat = 40 by (try simp at this); omega) | (simpa using this)
 subst h40
 have hBl := (getD_lt hC (by decide)).1
 rw [if_pos rfl] at hsm ⊢
 obtain ⟨a1, n1, x, hR⟩ := bndR_ok hsm
 rw [hR, bndR_s] at hsm ⊢
 obtain ⟨⟨f1, f2, f3⟩, f4⟩ := rd_fit t fu 0 (B + 1) q (by omega) a1 n1 x hR
 obtain ⟨k3, k4⟩ := skS_le f2
 have hps2 := preS_ok (t := t) (m := a1) (q := n1) (by omega) f2 htl
 generalize hB1 : skS t a1 = B1 at *
 generalize hC1 : t.getD B1 0 = C1 at *
 have h41 : C1 = 41 := by
  by_cases h : C1 = 41
  ·exact h
  ·rw [if_neg h] at hsm; cases hsm
 subst h41
 rw [if_pos rfl]
 have hB1l := (getD_lt hC1 (by decide)).1
 refine vc_seq_k fun N11 h11 => ?_
 refine u_reg ?_
 try refine lg_mk ?_
 refine u_mv ?_
 refine u_nl ?_
 refine u_pt ?_
 refine u_ld ?_
 refine u_bn ?_
 refine u_nl ?_
 refine u_pt ?_
 refine u_st ?_
 refine lg_nil ?_
 refine h11 _ ?_; clear h11; try clear N11
 refine vc_seq_k fun N12 h12 => ?_
 have hx := And.intro @hb1 (And.intro @hR hx0)
 refine u_reg ?_
 try refine lg_mk ?_
 refine u_mv ?_
 have hc := call_rule (E := ((E_rd fu kq ku).at_ 60)) (f := 42) (sp := Spec.gen (qryG fu)) rfl
 have hs := @qryG.eq_1
 refine u_hg (hq := by (first | (refine ⟨by decide, by decide, preS_1 (by omega) (by omega) htl, ?_⟩; first | rfl | (rw [hR]; rfl) | (simp only [dSn_rows, Int.toNat_natCast, Int.toNat_zero, hb1, hR]; rfl)) | exact sd_)) ?_
 refine u_mv ?_
 refine lg_nil ?_
 have hx := hx0
 refine h12 _ ?_; clear h12; try clear N12
 refine vc_seq_k fun N13 h13 => ?_
 refine vc_seq_k fun N14 h14 => ?_
 have hx := And.intro @hB1 (And.intro @hC1 hx0)
 refine u_reg ?_
 try refine lg_mk ?_
 refine u_mv ?_
 have hc := call_rule (E := ((E_rd fu kq ku).at_ 60)) (f := 64) (sp := Spec.gen nxtG) rfl
 have hs := @nxtG.eq_1
 refine u_hg (hq := by (first | (exact hps2) | exact sd_)) ?_
 refine u_bn ?_
 refine lg_nil ?_
 have hx := hx0
 refine h14 _ ?_; clear h14; try clear N14
 refine u_cond (fun hb15 => ?_) (fun hb15 => ?_)
 have h := hb15; simp at h
 refine vc_skip ?_
 try simp only [k_rules]
 refine h13 _ ?_; clear h13; try clear N13
 refine vc_seq_k fun N16 h16 => ?_
 refine u_reg ?_
 try refine lg_mk ?_
 refine u_mv ?_
 refine u_nl ?_
 refine u_pt ?_
 refine u_ld ?_
 refine u_bn ?_
 refine u_nl ?_
 refine u_pt ?_
 refine u_st ?_
 refine lg_nil ?_
 refine h16 _ ?_; clear h16; try clear N16
 refine vc_seq_k fun N17 h17 => ?_
 refine u_reg ?_
 try refine lg_mk ?_
 iterate 2 refine u_mv ?_
 refine lg_nil ?_
 refine h17 _ ?_; clear h17; try clear N17
 refine vc_ret ?_
 try simp only [k_rules]
 refine fin_ ?_
 refine ⟨[some 0, some 1, some 2], by rfl, ?_, ?_⟩
 refine fin_ ?_
 exact cl_
 refine fin_ ?_
 exact cl_
 have h40 : C ≠ 40 := by intro h; have := hb10; rw [h] at this; simp at this
 rw [if_neg h40] at hsm ⊢
 refine vc_seq_k fun N18 h18 => ?_
 refine u_reg ?_
 try refine lg_mk ?_
 refine u_bn ?_
 refine u_mv ?_
 refine lg_nil ?_
 refine h18 _ ?_; clear h18; try clear N18
 refine u_cond (fun hb19 => ?_) (fun hb19 => ?_)
 have h34 : C = 34 := by have := hb19; first | exact UInt8.toNat_inj.1 (show C.toNat = 34 by (try simp at this); omega) | (simpa using this)
 subst h34
 have hBl := (getD_lt hC (by decide)).1
 rw [if_pos rfl] at hsm ⊢
 obtain ⟨a1, n1, x, hR⟩ := someR hsm
 rw [hR]
 refine vc_seq_k fun N20 h20 => ?_
 have hx := And.intro @hR hx0
 refine u_reg ?_
 try refine lg_mk ?_
 refine u_mv ?_
 have hc := call_rule (E := ((E_rd fu kq ku).at_ 60)) (f := 82) (sp := Spec.gen quoG) rfl
 have hs := @quoG.eq_1
 refine u_hg (hq := by (first | (refine ⟨preS_ok (by omega) k2 htl, by omega, ?_⟩; first | rfl | (rw [hR]; rfl) | (simp only [dSn_rows, Int.toNat_natCast, hR]; rfl)) | exact sd_)) ?_
 refine u_mv ?_
 refine lg_nil ?_
 have hx := hx0
 refine h20 _ ?_; clear h20; try clear N20
 refine vc_ret ?_
 try simp only [k_rules]
 refine fin_ ?_
 refine ⟨[some 0, some 1, some 2], by rfl, ?_, ?_⟩
 refine fin_ ?_
 exact cl_
 refine fin_ ?_
 exact cl_
 exfalso
 have h34 : C ≠ 34 := by intro h; have := hb19; rw [h] at this; simp at this
 rw [if_neg h34] at hsm
 cases hsm
 cases hg

theorem sg_cases {m : Nat} (h : m < 2) : (m = 1 ∧ sgn m = 38 ∧ kdm m = 2) ∨ (m = 0 ∧ sgn m = 124 ∧ kdm m = 3) := by
  match m, h with
  | 0, _ => exact .inr ⟨rfl, rfl, rfl⟩
  | 1, _ => exact .inl ⟨rfl, rfl, rfl⟩
theorem lpR_s (sub : Nat → List Sn → PR) (t : Bs) (m g a : Nat) (ns : List Sn) (x : Nat) : lpR sub t m (g + 1) a ns x = if t.getD (skS t a) 0 = sgn m then bndR (sub (skS t a + 1) ns) fun a' ns' y => lpR sub t m g a' (ns' ++ [⟨kdm m, [], x, y⟩]) ns'.length else some (skS t a, ns, x) := rfl
theorem lpR_g {sub : Nat → List Sn → PR} {t : Bs} {m g a : Nat} {ns : List Sn} {x : Nat} {z : Nat × List Sn × Nat} (h : lpR sub t m g a ns x = some z) : ∃ g', g = g' + 1 := by
  match g, h with
  | g + 1, _ => exact ⟨g, rfl⟩

theorem qry_step (fu : Nat) (kq : Meets Tryz.prog 42 (Spec.gen (qryG fu))) (ku : Meets Tryz.prog 63 (Spec.gen (unaG fu))) : Meets Tryz.prog 42 (Spec.gen (qryG (fu + 1))) := by
 refine meets_handed ((E_rd fu kq ku).at_ 53) Tryz.func42 rfl rfl rfl ?_
 intro args bl p r bf hg hp
 unfold qryG at hg
 split at hg
 rename_i l ty t a n vt sz xs
 simp only [Option.some.injEq, Prod.mk.injEq] at hg
 obtain ⟨rfl, rfl, rfl⟩ := hg
 obtain ⟨hl0, hl2, hpr, hsm⟩ := hp
 obtain ⟨m, rfl⟩ := Int.eq_ofNat_of_zero_le hl0
 have hm1 : ((m : Int) + 1).toNat = m + 1 := by omega
 obtain ⟨rfl, rfl, rfl, he, rfl, ha0, hal, htl, hqa⟩ := hpr
 generalize dSn xs = q at *
 subst he
 obtain ⟨a, rfl⟩ := Int.eq_ofNat_of_zero_le ha0
 simp only [Int.toNat_natCast] at *
 have hal : a ≤ t.length := by omega
 have hqa : q.length ≤ a := by omega
 obtain ⟨k1, k2⟩ := skS_le hal
 have hps := preS_ok hqa hal htl
 have hT : ((E_rd fu kq ku)).X = T := rfl
 have hx0 := And.intro @dec_t (And.intro @dec_f (And.intro @Int.toNat_natCast (And.intro @rdS.eq_1 (And.intro @dSn_rows (And.intro @rect_eSn (And.intro @rX_s (And.intro @rBx_s @Tryz.results42)))))))
 have hx := hx0
 refine ⟨Nat.le_of_ble_eq_true rfl, ?_⟩
 intro F W0 M0 hnp hmk
 have hnp : Far.np = 2 := hnp
 refine vc_seq_k fun N1 h1 => ?_
 refine u_reg ?_
 try refine lg_mk ?_
 refine u_mv ?_
 refine lg_nil ?_
 refine h1 _ ?_; clear h1; try clear N1
 refine vc_seq_k fun N2 h2 => ?_
 refine vc_seq_k fun N3 h3 => ?_
 refine u_reg ?_
 try refine lg_mk ?_
 refine u_mv ?_
 refine u_bn ?_
 refine lg_nil ?_
 refine h3 _ ?_; clear h3; try clear N3
 refine u_cond (fun hb4 => ?_) (fun hb4 => ?_)
 obtain rfl : m = 2 := by have := hb4; (try simp at this); omega
 rw [rd_q2] at hsm ⊢
 obtain ⟨a1, n1, x, hR⟩ := someR hsm
 rw [hR]
 refine vc_seq_k fun N5 h5 => ?_
 have hx := And.intro @hR hx0
 refine u_reg ?_
 try refine lg_mk ?_
 refine u_mv ?_
 have hc := call_rule (E := ((E_rd fu kq ku).at_ 53)) (f := 63) (sp := Spec.gen (unaG fu)) rfl
 have hs := @unaG.eq_1
 refine u_hg (hq := by (first | (refine ⟨hps, ?_⟩; first | rfl | (rw [hR]; rfl) | (simp only [dSn_rows, Int.toNat_natCast, hR]; rfl)) | exact sd_)) ?_
 refine u_mv ?_
 refine lg_nil ?_
 have hx := hx0
 refine h5 _ ?_; clear h5; try clear N5
 refine vc_ret ?_
 try simp only [k_rules]
 refine fin_ ?_
 refine ⟨[some 0, some 1, some 2], by rfl, ?_, ?_⟩
 refine fin_ ?_
 exact cl_
 refine fin_ ?_
 exact cl_
 have hm2 : m < 2 := by have := hb4; (try simp at this); omega
 rw [rd_q t fu m a q hm2] at hsm ⊢
 obtain ⟨a0, n0, x0, hR⟩ := bndR_ok hsm
 rw [hR, bndR_s] at hsm ⊢
 obtain ⟨aF, nF, xF, hF⟩ := someR hsm
 have hall : rdP t (fu + 1) m a q = some (aF, nF, xF) := by rw [rd_q t fu m a q hm2, hR, bndR_s, hF]
 obtain ⟨⟨f1, f2, f3⟩, f4⟩ := rd_fit t fu (m + 1) a q hal a0 n0 x0 hR
 have hsc := sg_cases hm2
 refine vc_skip ?_
 try simp only [k_rules]
 refine h2 _ ?_; clear h2; try clear N2
 refine vc_seq_k fun N6 h6 => ?_
 refine u_reg ?_
 try refine lg_mk ?_
 iterate 2 refine u_mv ?_
 refine lg_nil ?_
 refine h6 _ ?_; clear h6; try clear N6
 refine vc_seq_m (σ := Unit) (fun s => (fun u => True) s)
  (fun s => (fun u => [(0, .ptr 0 0 0), (1, .d (.int .i64 (m : Nat))), (5, .d (.int .u8 ((sgn m).toNat : Int))), (6, .d (.int .i64 (kdm m)))]) s)
  (fun s => (fun u => [some (.one 75 [.d (.str t), .d (.int .i64 (a : Nat)), .sl 1 0 q.length]), some (.vec 55 4 (rows eSn q))]) s) hnp ?_ ?_
 rintro u hinv
 dsimp only at hinv ⊢
 refine vc_seq_k fun N8 h8 => ?_
 have hx := And.intro @hm1 (And.intro @hR hx0)
 refine u_reg ?_
 try refine lg_mk ?_
 iterate 2 refine u_mv ?_
 refine u_bn ?_
 have hc := call_rule (E := ((E_rd fu kq ku).at_ 53)) (f := 42) (sp := Spec.gen (qryG fu)) rfl
 have hs := @qryG.eq_1
 refine u_hg (hq := by (first | (refine ⟨by omega, by omega, hps, ?_⟩; first | rfl | (rw [hR]; rfl) | (simp only [dSn_rows, Int.toNat_natCast, hm1, hR]; rfl)) | exact sd_)) ?_
 refine u_mv ?_
 refine lg_nil ?_
 have hx := hx0
 refine h8 _ ?_; clear h8; try clear N8
 refine vc_seq_k fun N9 h9 => ?_
 refine vc_block ?_
 refine vc_loop_mk (σ := Nat × List Sn × Nat × Nat) (fun s => (fun a1 n1 x g => lpR (rdP t fu (m + 1)) t m g a1 n1 x = some (aF, nF, xF) ∧ a1 ≤ t.length ∧ n1.length ≤ a1) (s.1) (s.2.1) (s.2.2.1) (s.2.2.2))
  (fun s => (fun a1 n1 x g => [(0, .ptr 0 0 0), (1, .d (.int .i64 (m : Nat))), (5, .d (.int .u8 ((sgn m).toNat : Int))), (6, .d (.int .i64 (kdm m))), (7, .d (.int .i64 (x : Nat)))]) (s.1) (s.2.1) (s.2.2.1) (s.2.2.2))
  (fun s => (fun a1 n1 x g => [some (.one 75 [.d (.str t), .d (.int .i64 (a1 : Nat)), .sl 2 0 n1.length]), none, some (.vec 55 4 (rows eSn n1))]) (s.1) (s.2.1) (s.2.2.1) (s.2.2.2)) (fun s => (fun a1 n1 x g => g) (s.1) (s.2.1) (s.2.2.1) (s.2.2.2)) hnp (a0, n0, x0, t.length + 1) ?_ [some 0, some 1, some 2] ?_ ?_
 dsimp only
 exact ⟨hF, f2, by omega⟩
 dsimp only
 refine ⟨by rfl, ?_, ?_⟩
 refine fin_ ?_
 exact cl_
 refine fin_ ?_
 exact cl_
 rintro ⟨a1, n1, x, g⟩ hinv N10 h10
 dsimp only at hinv ⊢
 obtain ⟨hI, i2, i3⟩ := hinv
 obtain ⟨g', rfl⟩ := lpR_g hI
 rw [lpR_s] at hI
 have hps2 := preS_ok (t := t) (m := a1) (q := n1) i3 i2 htl
 obtain ⟨k3, k4⟩ := skS_le i2
 generalize hB1 : skS t a1 = B1 at *
 generalize hC1 : t.getD B1 0 = C1 at *
 refine vc_seq_k fun N11 h11 => ?_
 refine vc_seq_k fun N12 h12 => ?_
 by_cases hgo : C1 = sgn m
 rw [if_pos hgo] at hI
 have hB1l := (getD_lt (hC1.trans hgo) (sgn_ne m)).1
 have g1 : ((C1.toNat : Int) = ((sgn m).toNat : Int)) = True := eq_true (by rw [hgo])
 have g2 : ((B1 : Int) < (t.length : Int)) = True := eq_true (by omega)
 obtain ⟨a2, n2, y, hR2, hI2⟩ := bnd_some hI
 obtain ⟨⟨e1, e2, e3⟩, e4⟩ := rd_fit t fu (m + 1) (B1 + 1) n1 (by omega) a2 n2 y hR2
 have hb1 : ((B1 : Int) + 1).toNat = B1 + 1 := by omega
 have hx := And.intro @hB1 (And.intro @hC1 (And.intro @g1 (And.intro @g2 hx0)))
 refine vc_regO [] [0, 2, 1, 3, 4, 5, 6, 7, 8, 9, 10, 11, 12, 13, 14, 15] hmix (by kernel_rfl) ?_
 simp only [pick_rules, list_rules]
 try refine lg_mk ?_
 iterate 2 refine u_mv ?_
 have hc := call_rule (E := ((E_rd fu kq ku).at_ 53)) (f := 64) (sp := Spec.gen nxtG) rfl
 have hs := @nxtG.eq_1
 refine u_hg (hq := by (first | (exact hps2) | exact sd_)) ?_
 refine u_bn ?_
 refine u_mv ?_
 refine v_mv ?_
 refine v_nl ?_
 refine v_pt ?_
 refine v_ld ?_
 refine v_mv ?_
 refine v_nl ?_
 refine v_pt ?_
 refine v_ld ?_
 refine v_ln ?_
 refine v_bn ?_
 refine u_pk ?_
 refine lg_nil ?_
 have hx := hx0
 refine h12 _ ?_; clear h12; try clear N12
 refine u_cond (fun hb13 => ?_) (fun hb13 => ?_)
 refine vc_skip ?_
 try simp only [k_rules]
 refine h11 _ ?_; clear h11; try clear N11
 refine vc_block ?_
 refine vc_seq_k fun N14 h14 => ?_
 refine u_reg ?_
 try refine lg_mk ?_
 refine u_mv ?_
 refine u_nl ?_
 refine u_pt ?_
 refine u_ld ?_
 refine u_bn ?_
 refine u_nl ?_
 refine u_pt ?_
 refine u_st ?_
 refine lg_nil ?_
 refine h14 _ ?_; clear h14; try clear N14
 refine vc_seq_k fun N15 h15 => ?_
 have hx := And.intro @hm1 (And.intro @hb1 (And.intro @hR2 hx0))
 refine u_reg ?_
 try refine lg_mk ?_
 iterate 2 refine u_mv ?_
 refine u_bn ?_
 have hc := call_rule (E := ((E_rd fu kq ku).at_ 53)) (f := 42) (sp := Spec.gen (qryG fu)) rfl
 have hs := @qryG.eq_1
 refine u_hg (hq := by (first | (refine ⟨by omega, by omega, preS_1 (by omega) (by omega) htl, ?_⟩; first | rfl | (rw [hR2]; rfl) | (simp only [dSn_rows, Int.toNat_natCast, hm1, hb1, hR2]; rfl)) | exact sd_)) ?_
 refine u_mv ?_
 refine lg_nil ?_
 have hx := hx0
 refine h15 _ ?_; clear h15; try clear N15
 refine u_reg ?_
 try refine lg_mk ?_
 iterate 4 refine u_mv (hq := by exact so_) ?_
 refine u_bd (hq := by exact so_) ?_
 have hc := call_rule (E := ((E_rd fu kq ku).at_ 53)) (f := 65) (sp := Spec.gen addG) rfl
 have hs := @addG.eq_1
 refine u_hg (hq := by exact so_) ?_
 refine u_mv (hq := by exact so_) ?_
 refine lg_nil ?_
 refine h10 _ ⟨(a2, n2 ++ [⟨kdm m, [], x, y⟩], n2.length, g'), ?_, ?_, [some 0, some 1, some 4], ?_⟩
 dsimp only
 exact ⟨hI2, e2, by rw [List.length_append, List.length_singleton]; omega⟩
 dsimp only
 omega
 dsimp only
 refine ⟨by rfl, ?_, ?_⟩
 refine fin_ ?_
 ·(repeat' apply And.intro) <;> (first | (simp only [List.length_append, List.length_singleton]; exact cl_) | exact cl_)
 refine fin_ ?_
 ·(repeat' apply And.intro) <;> (first | (simp only [List.length_append, List.length_singleton]; exact cl_) | exact cl_)
 ·first | omega | exact absurd trivial hb13 | contradiction | (simp_all; done)
 rw [if_neg hgo] at hI
 have g1 : ((C1.toNat : Int) = ((sgn m).toNat : Int)) = False := eq_false fun h => hgo (u8_eq h)
 have g2 := True.intro
 have hR2 := g2
 have hb1 := g2
 have hx := And.intro @hB1 (And.intro @hC1 (And.intro @g1 (And.intro @g2 hx0)))
 refine vc_regO [] [0, 2, 1, 3, 4, 5, 6, 7, 8, 9, 10, 11, 12, 13, 14, 15] hmix (by kernel_rfl) ?_
 simp only [pick_rules, list_rules]
 try refine lg_mk ?_
 iterate 2 refine u_mv ?_
 have hc := call_rule (E := ((E_rd fu kq ku).at_ 53)) (f := 64) (sp := Spec.gen nxtG) rfl
 have hs := @nxtG.eq_1
 refine u_hg (hq := by (first | (exact hps2) | exact sd_)) ?_
 refine u_bn ?_
 refine u_mv ?_
 refine lg_g0 ?_ ?_
 focus (exact gt_)
 refine lg_g0 ?_ ?_
 focus (exact gt_)
 refine lg_g0 ?_ ?_
 focus (exact gt_)
 refine lg_g0 ?_ ?_
 focus (exact gt_)
 refine lg_g0 ?_ ?_
 focus (exact gt_)
 refine lg_g0 ?_ ?_
 focus (exact gt_)
 refine lg_g0 ?_ ?_
 focus (exact gt_)
 refine lg_g0 ?_ ?_
 focus (exact gt_)
 refine lg_g0 ?_ ?_
 focus (exact gt_)
 refine lg_g0 ?_ ?_
 focus (exact gt_)
 refine u_pk ?_
 refine lg_nil ?_
 have hx := hx0
 refine h12 _ ?_; clear h12; try clear N12
 refine u_cond (fun hb16 => ?_) (fun hb16 => ?_)
 ·first | omega | exact absurd trivial hb16 | contradiction | (simp_all; done)
 obtain ⟨rfl, rfl, rfl⟩ : B1 = aF ∧ n1 = nF ∧ x = xF := by simpa using hI
 refine vc_exit ?_
 simp only [k_rules, Nat.reduceEqDiff, reduceIte, eq_self]
 refine h9 _ ?_; clear h9; try clear N9
 refine vc_seq_k fun N17 h17 => ?_
 refine u_reg ?_
 try refine lg_mk ?_
 iterate 2 refine u_mv ?_
 refine lg_nil ?_
 refine h17 _ ?_; clear h17; try clear N17
 refine vc_ret ?_
 try simp only [k_rules]
 rw [hall]
 refine fin_ ?_
 refine ⟨[some 0, some 1, some 2], by rfl, ?_, ?_⟩
 refine fin_ ?_
 exact cl_
 refine fin_ ?_
 exact cl_
 intro N7 h7
 refine vc_seq_k fun N18 h18 => ?_
 refine u_reg ?_
 try refine lg_mk ?_
 refine u_mv ?_
 refine u_bn ?_
 refine lg_nil ?_
 refine h18 _ ?_; clear h18; try clear N18
 refine u_cond (fun hb19 => ?_) (fun hb19 => ?_)
 refine u_reg ?_
 try refine lg_mk ?_
 iterate 2 refine u_mv ?_
 refine lg_nil ?_
 obtain ⟨rfl, e1, e2⟩ : m = 1 ∧ sgn m = 38 ∧ kdm m = 2 := hsc.resolve_right fun h => by have := hb19; (try simp at this); omega
 refine h7 _ ⟨(), trivial, [some 0, some 1], ?_⟩
 dsimp only
 refine ⟨by rfl, ?_, ?_⟩
 refine fin_ ?_
 ·(repeat' apply And.intro) <;> (first | (first | rfl | (rw [e1]; exact Or.inl rfl) | (rw [e2]; exact Or.inl rfl) | exact cl_) | exact cl_)
 refine fin_ ?_
 ·(repeat' apply And.intro) <;> (first | (first | rfl | (rw [e1]; exact Or.inl rfl) | (rw [e2]; exact Or.inl rfl) | exact cl_) | exact cl_)
 refine vc_skip ?_
 try simp only [k_rules]
 obtain ⟨rfl, e1, e2⟩ : m = 0 ∧ sgn m = 124 ∧ kdm m = 3 := hsc.resolve_left fun h => by have := hb19; (try simp at this); omega
 refine h7 _ ⟨(), trivial, [some 0, some 1], ?_⟩
 dsimp only
 refine ⟨by rfl, ?_, ?_⟩
 refine fin_ ?_
 ·(repeat' apply And.intro) <;> (first | (first | rfl | (rw [e1]; exact Or.inl rfl) | (rw [e2]; exact Or.inl rfl) | exact cl_) | exact cl_)
 refine fin_ ?_
 ·(repeat' apply And.intro) <;> (first | (first | rfl | (rw [e1]; exact Or.inl rfl) | (rw [e2]; exact Or.inl rfl) | exact cl_) | exact cl_)
 cases hg
end Go.Proofs.YtmbjnkgpcbpclaaGreat
