/- Walks, printed by wip/gen/walk.py. -/
import Derived.Test.YtlbjffdaooadoaaDoorT24
import Derived.Test.YtlbjffdaooadoaaDoorV5
set_option linter.all false
set_option maxRecDepth 100000
set_option maxHeartbeats 4000000
namespace Go.Proofs.YtlbjffdaooadoaaDoor
open Go Go.Vc Go.RowKit
theorem pF_q2 (t : Bs) (f : Nat) (s : PS) : pF t (f + 1) 2 s = pF t f 3 s := by rw [pF]; rfl
theorem pF_q (t : Bs) (f j : Nat) (s : PS) (h : j < 2) : pF t (f + 1) j s = bindF (pF t f (j + 1) s) fun x s1 => lpF t (pF t f (j + 1)) j (t.length + 1) x s1 := by rw [pF]; exact if_pos h
theorem lpF_s (t : Bs) (sub : PS → PR) (j g : Nat) (x : Int) (s : PS) : lpF t sub j (g + 1) x s = if opK (tokS t s) j = 0 then some (true, x, s) else bindF (sub (scanS t s)) fun y s1 => lpF t sub j g (s1.ns.length : Int) (addN s1 ⟨opK (tokS t s) j, 0, x, y⟩) := rfl
def ndB : Bool → PS → AV
  | true, s => .sl 2 0 s.ns.length
  | false, _ => .any
def bxB : Bool → PS → Option Box
  | true, s => some (.vec 39 4 (rows eN s.ns))
  | false, _ => none
theorem ndB_t (s : PS) : ndB true s = .sl 2 0 s.ns.length := rfl
theorem ndB_f (s : PS) : ndB false s = .any := rfl
theorem bxB_t (s : PS) : bxB true s = some (.vec 39 4 (rows eN s.ns)) := rfl
theorem bxB_f (s : PS) : bxB false s = none := rfl
def lpI (t : Bs) (r : PR) (sub : PS → PR) (j : Nat) : Bool → Int → PS → Nat → Prop
  | true, x, s, g => r = lpF t sub j g x s ∧ s.p ≤ s.e ∧ s.e ≤ t.length ∧ s.ns.length ≤ s.p
  | false, _, s, _ => r = some (false, 0, s)
theorem op_next {t : Bs} {f j : Nat} {s s2 : PS} {y : Int} (hw : wfS t s) (h0 : tokS t s ≠ []) (hn : s.ns.length ≤ s.p) (h : pF t f j (scanS t s) = some (true, y, s2)) : s2.p ≤ s2.e ∧ s2.e ≤ t.length ∧ s2.ns.length + 1 ≤ s2.p := by
  have p1 := scan_pr1 hw h0
  have p2 := p1.trans (pF_pr f j _ _ _ p1.1 h).1
  exact ⟨p2.1.1, p2.1.2, by have := p2.2.2; omega⟩

theorem qry_step (fu : Nat) (kq : Meets Tryd.prog 57 (Spec.gen (qryG fu))) (ku : Meets Tryd.prog 77 (Spec.gen (prsG fu 3))) (kp : Meets Tryd.prog 85 (Spec.gen (prsG fu 4))) : Meets Tryd.prog 57 (Spec.gen (qryG (fu + 1))) := by
 refine meets_handed ((E_pr fu kq ku kp).at_ 65) Tryd.func57 rfl rfl rfl ?_
 intro args bl p r bf hg hp
 unfold qryG at hg
 split at hg
 rename_i l ty t p e n c vt sz xs
 simp only [Option.some.injEq, Prod.mk.injEq] at hg
 obtain ⟨rfl, rfl, rfl⟩ := hg
 obtain ⟨hl0, hl2, hp1⟩ := hp
 obtain ⟨j, rfl⟩ := Int.eq_ofNat_of_zero_le hl0
 have hj0 : ((j : Nat) : Int).toNat = j := rfl
 have hj1 : ((j : Int) + 1).toNat = j + 1 := by omega
 obtain ⟨⟨rfl, rfl, rfl, he, rfl, hl, hw⟩, hsm⟩ := hp1
 generalize dN xs = q at *
 subst he
 obtain ⟨hp0, hpe, hel, htl⟩ := hw
 obtain ⟨m, rfl⟩ := Int.eq_ofNat_of_zero_le hp0
 obtain ⟨m2, rfl⟩ := Int.eq_ofNat_of_zero_le (by omega : 0 ≤ e)
 have hmt : ((m : Nat) : Int).toNat = m := rfl
 have hmt2 : ((m2 : Nat) : Int).toNat = m2 := rfl
 simp only [Int.toNat_natCast] at hsm ⊢
 have hlq : q.length ≤ m := by omega
 have hws : wfS t ⟨m, m2, q, c⟩ := ⟨by show m ≤ m2; omega, by show m2 ≤ t.length; omega⟩
 have hsc := (scan_pr hws).1
 have hsp : m2 ≤ scnP t m2 := (scnP_le (t := t) (e := m2) (by omega)).1
 have hsl : scnP t m2 ≤ scnE t (scnP t m2) := hsc.1
 have hse : scnE t (scnP t m2) ≤ t.length := hsc.2
 have hT : ((E_pr fu kq ku kp)).X = T := rfl
 have hx0 := And.intro @dec_t (And.intro @dec_f (And.intro @Int.toNat_natCast (And.intro @rdB.eq_1 (And.intro @psB.eq_1 (And.intro @dN_rows (And.intro @rect_eN (And.intro @resX_s (And.intro @resB_s (And.intro @resBx_t (And.intro @resBx_f (And.intro @ps_eta @Tryd.results57)))))))))))
 have hx := hx0
 refine ⟨Nat.le_of_ble_eq_true rfl, ?_⟩
 intro F W0 M0 hnp hmk
 have hnp : Far.np = 2 := hnp
 refine vc_seq_k fun N1 h1 => ?_
 refine u_reg ?_
 try refine lg_mk ?_
 iterate 2 refine u_mv ?_
 refine lg_nil ?_
 refine h1 _ ?_; clear h1; try clear N1
 refine vc_seq_k fun N2 h2 => ?_
 refine vc_seq_k fun N3 h3 => ?_
 refine u_reg ?_
 try refine lg_mk ?_
 refine u_mv ?_
 refine u_bn ?_
 refine lg_nil ?_
 refine h3 _ ?_; clear h3; try clear N3
 refine u_cond (fun hb4 => ?_) (fun hb4 => ?_)
 obtain rfl : j = 2 := by have := hb4; (try simp at this); omega
 have hE := pF_q2 t fu ⟨m, m2, q, c⟩
 rw [hE] at hsm
 refine vc_seq_k fun N5 h5 => ?_
 obtain ⟨b, x, s1, hR⟩ := some_of hsm
 have hsn := fun (h : b = true) => ns_fit (t := t) (f := fu) (j := 3) (s := ⟨m, m2, q, c⟩) (s' := s1) (x := x) hws (h ▸ hR) (by dsimp only; omega) htl
 rcases b with _ | _
 have hsn := hR
 have hx := And.intro @hR hx0
 refine u_reg ?_
 try refine lg_mk ?_
 refine u_mv (hq := by (first | (refine ⟨preP_ok (by omega) (by omega) (by omega) (by omega), ?_⟩; first | rfl | (rw [hR]; rfl) | (simp only [dN_rows, Int.toNat_natCast, hR]; rfl)) | exact sd_)) ?_
 have hc := call_rule (E := ((E_pr fu kq ku kp).at_ 65)) (f := 77) (sp := Spec.gen (prsG fu 3)) rfl
 have hs := @prsG.eq_1
 refine u_hg (hq := by (first | (refine ⟨preP_ok (by omega) (by omega) (by omega) (by omega), ?_⟩; first | rfl | (rw [hR]; rfl) | (simp only [dN_rows, Int.toNat_natCast, hR]; rfl)) | exact sd_)) ?_
 refine u_ex (hq := by (first | (refine ⟨preP_ok (by omega) (by omega) (by omega) (by omega), ?_⟩; first | rfl | (rw [hR]; rfl) | (simp only [dN_rows, Int.toNat_natCast, hR]; rfl)) | exact sd_)) ?_
 refine u_ex (hq := by (first | (refine ⟨preP_ok (by omega) (by omega) (by omega) (by omega), ?_⟩; first | rfl | (rw [hR]; rfl) | (simp only [dN_rows, Int.toNat_natCast, hR]; rfl)) | exact sd_)) ?_
 refine u_mv (hq := by (first | (refine ⟨preP_ok (by omega) (by omega) (by omega) (by omega), ?_⟩; first | rfl | (rw [hR]; rfl) | (simp only [dN_rows, Int.toNat_natCast, hR]; rfl)) | exact sd_)) ?_
 refine u_mv (hq := by (first | (refine ⟨preP_ok (by omega) (by omega) (by omega) (by omega), ?_⟩; first | rfl | (rw [hR]; rfl) | (simp only [dN_rows, Int.toNat_natCast, hR]; rfl)) | exact sd_)) ?_
 refine lg_nil ?_
 have hx := hx0
 refine h5 _ ?_; clear h5; try clear N5
 refine vc_ret ?_
 try simp only [k_rules]
 simp only [hE, hR, bindF_f, bindF_t, putN, resX_s, resB_s, resBx_t, resBx_f, addN_len]
 refine fin_ ?_
 refine ⟨[some 0, some 1], by rfl, ?_, ?_⟩
 refine fin_ ?_
 exact cl_
 refine fin_ ?_
 exact cl_
 obtain ⟨n1, n2, n3, n4, n5⟩ := hsn rfl
 have hx := And.intro @hR hx0
 refine u_reg ?_
 try refine lg_mk ?_
 refine u_mv (hq := by (first | (refine ⟨preP_ok (by omega) (by omega) (by omega) (by omega), ?_⟩; first | rfl | (rw [hR]; rfl) | (simp only [dN_rows, Int.toNat_natCast, hR]; rfl)) | exact sd_)) ?_
 have hc := call_rule (E := ((E_pr fu kq ku kp).at_ 65)) (f := 77) (sp := Spec.gen (prsG fu 3)) rfl
 have hs := @prsG.eq_1
 refine u_hg (hq := by (first | (refine ⟨preP_ok (by omega) (by omega) (by omega) (by omega), ?_⟩; first | rfl | (rw [hR]; rfl) | (simp only [dN_rows, Int.toNat_natCast, hR]; rfl)) | exact sd_)) ?_
 refine u_ex (hq := by (first | (refine ⟨preP_ok (by omega) (by omega) (by omega) (by omega), ?_⟩; first | rfl | (rw [hR]; rfl) | (simp only [dN_rows, Int.toNat_natCast, hR]; rfl)) | exact sd_)) ?_
 refine u_ex (hq := by (first | (refine ⟨preP_ok (by omega) (by omega) (by omega) (by omega), ?_⟩; first | rfl | (rw [hR]; rfl) | (simp only [dN_rows, Int.toNat_natCast, hR]; rfl)) | exact sd_)) ?_
 refine u_mv (hq := by (first | (refine ⟨preP_ok (by omega) (by omega) (by omega) (by omega), ?_⟩; first | rfl | (rw [hR]; rfl) | (simp only [dN_rows, Int.toNat_natCast, hR]; rfl)) | exact sd_)) ?_
 refine u_mv (hq := by (first | (refine ⟨preP_ok (by omega) (by omega) (by omega) (by omega), ?_⟩; first | rfl | (rw [hR]; rfl) | (simp only [dN_rows, Int.toNat_natCast, hR]; rfl)) | exact sd_)) ?_
 refine lg_nil ?_
 have hx := hx0
 refine h5 _ ?_; clear h5; try clear N5
 refine vc_ret ?_
 try simp only [k_rules]
 simp only [hE, hR, bindF_f, bindF_t, putN, resX_s, resB_s, resBx_t, resBx_f, addN_len]
 refine fin_ ?_
 refine ⟨[some 0, some 1, some 2], by rfl, ?_, ?_⟩
 refine fin_ ?_
 exact cl_
 refine fin_ ?_
 exact cl_
 have hj2 : j < 2 := by have := hb4; (try simp at this); omega
 have hE := pF_q t fu j ⟨m, m2, q, c⟩ hj2
 rw [hE] at hsm
 refine vc_skip ?_
 try simp only [k_rules]
 refine h2 _ ?_; clear h2; try clear N2
 refine vc_seq_k fun N6 h6 => ?_
 obtain ⟨b, x, s1, hR⟩ := bindF_some hsm
 have hsn := fun (h : b = true) => ns_fit (t := t) (f := fu) (j := j + 1) (s := ⟨m, m2, q, c⟩) (s' := s1) (x := x) hws (h ▸ hR) (by dsimp only; omega) htl
 rcases b with _ | _
 have hsn := hR
 have hx := And.intro @hj1 (And.intro @hR hx0)
 refine u_reg ?_
 try refine lg_mk ?_
 iterate 2 refine u_mv ?_
 refine u_bn ?_
 have hc := call_rule (E := ((E_pr fu kq ku kp).at_ 65)) (f := 57) (sp := Spec.gen (qryG fu)) rfl
 have hs := @qryG.eq_1
 refine u_hg (hq := by (first | (refine ⟨by omega, by omega, preP_ok (by omega) (by omega) (by omega) (by omega), ?_⟩; first | rfl | (rw [hR]; rfl) | (simp only [dN_rows, Int.toNat_natCast, hj1, hR]; rfl)) | exact sd_)) ?_
 refine u_mv ?_
 iterate 2 refine u_ex ?_
 iterate 2 refine u_mv ?_
 refine lg_nil ?_
 have hx := hx0
 refine h6 _ ?_; clear h6; try clear N6
 refine vc_seq_k fun N7 h7 => ?_
 refine vc_block ?_
 refine vc_loop_mk (σ := Unit) (fun s => (fun u => True) s)
  (fun s => (fun u => [(0, .ptr 0 0 0), (1, .d (.int .i64 (j : Nat))), (7, .d (.bool false))]) s)
  (fun s => (fun u => [some (.one 85 [.d (.str t), .d (.int .i64 (s1.p : Nat)), .d (.int .i64 (s1.e : Nat)), .any, .d (.int .i64 s1.c)]), none]) s) (fun s => (fun u => 0) s) hnp () ?_ [some 0, some 1] ?_ ?_
 dsimp only
 skip
 dsimp only
 refine ⟨by rfl, ?_, ?_⟩
 refine fin_ ?_
 exact cl_
 refine fin_ ?_
 exact cl_
 rintro u hinv N8 h8
 dsimp only at hinv ⊢
 skip
 refine vc_seq_k fun N9 h9 => ?_
 refine vc_seq_k fun N10 h10 => ?_
 refine u_reg ?_
 try refine lg_mk ?_
 refine u_mv ?_
 refine lg_nil ?_
 refine h10 _ ?_; clear h10; try clear N10
 refine u_cond (fun hb11 => ?_) (fun hb11 => ?_)
 ·first | omega | exact absurd trivial hb11 | contradiction | (simp_all; done)
 refine vc_exit ?_
 simp only [k_rules, Nat.reduceEqDiff, reduceIte, eq_self]
 refine h7 _ ?_; clear h7; try clear N7
 refine vc_seq_k fun N12 h12 => ?_
 refine u_reg ?_
 try refine lg_mk ?_
 iterate 2 refine u_mv ?_
 refine lg_nil ?_
 refine h12 _ ?_; clear h12; try clear N12
 refine vc_ret ?_
 try simp only [k_rules]
 simp only [hE, hR, bindF_f, bindF_t, putN, resX_s, resB_s, resBx_t, resBx_f, addN_len]
 refine fin_ ?_
 refine ⟨[some 0, some 1], by rfl, ?_, ?_⟩
 refine fin_ ?_
 exact cl_
 refine fin_ ?_
 exact cl_
 obtain ⟨n1, n2, n3, n4, n5⟩ := hsn rfl
 have hx := And.intro @hj1 (And.intro @hR hx0)
 refine u_reg ?_
 try refine lg_mk ?_
 iterate 2 refine u_mv ?_
 refine u_bn ?_
 have hc := call_rule (E := ((E_pr fu kq ku kp).at_ 65)) (f := 57) (sp := Spec.gen (qryG fu)) rfl
 have hs := @qryG.eq_1
 refine u_hg (hq := by (first | (refine ⟨by omega, by omega, preP_ok (by omega) (by omega) (by omega) (by omega), ?_⟩; first | rfl | (rw [hR]; rfl) | (simp only [dN_rows, Int.toNat_natCast, hj1, hR]; rfl)) | exact sd_)) ?_
 refine u_mv ?_
 iterate 2 refine u_ex ?_
 iterate 2 refine u_mv ?_
 refine lg_nil ?_
 have hx := hx0
 refine h6 _ ?_; clear h6; try clear N6
 refine vc_seq_k fun N13 h13 => ?_
 refine vc_block ?_
 have hsm0 : (pF t (fu + 1) j ⟨m, m2, q, c⟩).isSome = true := by rw [hE]; exact hsm
 simp only [hR, bindF_t] at hE hsm
 refine vc_loop_mk (σ := Bool × Int × PS × Nat) (fun s => (fun b x st g => lpI t (pF t (fu + 1) j ⟨m, m2, q, c⟩) (pF t fu (j + 1)) j b x st g) (s.1) (s.2.1) (s.2.2.1) (s.2.2.2))
  (fun s => (fun b x st g => [(0, .ptr 0 0 0), (1, .d (.int .i64 (j : Nat))), (6, .d (.int .i64 x)), (7, .d (.bool b))]) (s.1) (s.2.1) (s.2.2.1) (s.2.2.2))
  (fun s => (fun b x st g => [some (.one 85 [.d (.str t), .d (.int .i64 (st.p : Nat)), .d (.int .i64 (st.e : Nat)), ndB b st, .d (.int .i64 st.c)]), none, bxB b st]) (s.1) (s.2.1) (s.2.2.1) (s.2.2.2)) (fun s => (fun b x st g => b.toNat * (g + 1)) (s.1) (s.2.1) (s.2.2.1) (s.2.2.2)) hnp (true, x, s1, t.length + 1) ?_ [some 0, some 1, some 2] ?_ ?_
 dsimp only
 exact ⟨hE, n1, n2, n3⟩
 dsimp only
 refine ⟨by rfl, ?_, ?_⟩
 refine fin_ ?_
 exact cl_
 refine fin_ ?_
 exact cl_
 rintro ⟨b, x, st, g⟩ hinv N14 h14
 dsimp only at hinv ⊢
 have hI := hinv
 refine vc_seq_k fun N15 h15 => ?_
 refine vc_seq_k fun N16 h16 => ?_
 rcases b with _ | _
 have hE : pF t (fu + 1) j ⟨m, m2, q, c⟩ = some (false, 0, st) := hI
 simp only [ndB_f, bxB_f]
 refine u_reg ?_
 try refine lg_mk ?_
 refine u_mv ?_
 refine lg_nil ?_
 refine h16 _ ?_; clear h16; try clear N16
 refine u_cond (fun hb17 => ?_) (fun hb17 => ?_)
 ·first | omega | exact absurd trivial hb17 | contradiction | (simp_all; done)
 refine vc_exit ?_
 simp only [k_rules, Nat.reduceEqDiff, reduceIte, eq_self]
 refine h13 _ ?_; clear h13; try clear N13
 refine vc_seq_k fun N18 h18 => ?_
 refine u_reg ?_
 try refine lg_mk ?_
 iterate 2 refine u_mv ?_
 refine lg_nil ?_
 refine h18 _ ?_; clear h18; try clear N18
 refine vc_ret ?_
 try simp only [k_rules]
 simp only [hE, hR, bindF_f, bindF_t, putN, resX_s, resB_s, resBx_t, resBx_f, addN_len]
 refine fin_ ?_
 refine ⟨[some 0, some 1], by rfl, ?_, ?_⟩
 refine fin_ ?_
 exact cl_
 refine fin_ ?_
 exact cl_
 obtain ⟨hE, k1, k2, k3⟩ := hI
 have hsm := hsm0
 rw [hE] at hsm
 rcases g with _ | g
 cases hsm
 rw [lpF_s] at hE hsm
 have hws' : tokS t st = tokN t st.p st.e := rfl
 have hwS : wfS t st := ⟨k1, k2⟩
 have hss : scanS t st = ⟨scnP t st.e, scnE t (scnP t st.e), st.ns, st.c⟩ := rfl
 have hcn := (scan_pr hwS).1
 have hb1 := (scnP_le (t := t) (e := st.e) k2).1
 rw [hws', hss] at hE hsm
 rw [hss] at hcn
 generalize hwd : tokN t st.p st.e = w at *
 generalize hP1 : scnP t st.e = P1 at *
 generalize hE1 : scnE t P1 = E1 at *
 have hc1 := hcn.1
 have hc2 := hcn.2
 dsimp only at hc1 hc2
 simp only [ndB_t, bxB_t]
 refine u_reg ?_
 try refine lg_mk ?_
 refine u_mv ?_
 refine lg_nil ?_
 refine h16 _ ?_; clear h16; try clear N16
 refine u_cond (fun hb19 => ?_) (fun hb19 => ?_)
 refine vc_skip ?_
 try simp only [k_rules]
 refine h15 _ ?_; clear h15; try clear N15
 refine vc_block ?_
 refine vc_seq_k fun N20 h20 => ?_
 refine u_reg ?_
 try refine lg_mk ?_
 refine u_mv ?_
 refine lg_nil ?_
 refine h20 _ ?_; clear h20; try clear N20
 refine vc_seq_k fun N21 h21 => ?_
 refine vc_seq_k fun N22 h22 => ?_
 refine u_reg ?_
 try refine lg_mk ?_
 refine u_mv (hq := by exact so_) ?_
 have hc := call_rule (E := ((E_pr fu kq ku kp).at_ 65)) (f := 78) (sp := Spec.gen tokG) rfl
 have hs := @tokG.eq_1
 refine u_hg (hq := by exact so_) ?_
 refine u_mv (hq := by exact so_) ?_
 refine lg_nil ?_
 simp only [hwd]
 refine h22 _ ?_; clear h22; try clear N22
 refine vc_block ?_
 refine vc_seq_k fun N23 h23 => ?_
 refine u_reg ?_
 try refine lg_mk ?_
 refine u_mv ?_
 refine u_bn ?_
 refine u_mv ?_
 refine g_mv ?_
 refine g_bn ?_
 refine u_pk ?_
 refine u_mv ?_
 refine lg_nil ?_
 refine h23 _ ?_; clear h23; try clear N23
 refine u_cond (fun hb24 => ?_) (fun hb24 => ?_)
 have hk := hb24
 have hop : opK w j = 14 := by unfold opK; exact if_pos (by have hk := hb24; (try simp at hk); exact ⟨hk.1, by omega⟩)
 rw [if_neg (by rw [hop]; decide)] at hE hsm
 simp only [hop] at hE hsm
 have hne : tokS t st ≠ [] := opK_ne (j := j) (by rw [hws', hop]; decide)
 refine u_reg ?_
 try refine lg_mk ?_
 refine u_mv ?_
 refine lg_nil ?_
 refine h21 _ ?_; clear h21; try clear N21
 refine vc_seq_k fun N25 h25 => ?_
 have hx := And.intro @hP1 (And.intro @hE1 hx0)
 refine u_reg ?_
 try refine lg_mk ?_
 refine u_mv (hq := by exact so_) ?_
 have hc := call_rule (E := ((E_pr fu kq ku kp).at_ 65)) (f := 56) (sp := Spec.gen scanG) rfl
 have hs := @scanG.eq_1
 refine u_hg (hq := by exact so_) ?_
 refine lg_nil ?_
 have hx := hx0
 refine h25 _ ?_; clear h25; try clear N25
 refine vc_seq_k fun N26 h26 => ?_
 refine u_reg ?_
 try refine lg_mk ?_
 refine u_mv ?_
 refine lg_nil ?_
 refine h26 _ ?_; clear h26; try clear N26
 refine vc_seq_k fun N27 h27 => ?_
 obtain ⟨b2, y, s2, hR⟩ := bindF_some hsm
 rcases b2 with _ | _
 simp only [hR, bindF_f] at hE
 have hx := And.intro @hj1 (And.intro @hR hx0)
 refine u_reg ?_
 try refine lg_mk ?_
 iterate 2 refine u_mv ?_
 refine u_bn ?_
 have hc := call_rule (E := ((E_pr fu kq ku kp).at_ 65)) (f := 57) (sp := Spec.gen (qryG fu)) rfl
 have hs := @qryG.eq_1
 refine u_hg (hq := by (first | (refine ⟨by omega, by omega, preP_ok (by omega) (by omega) (by omega) (by omega), ?_⟩; first | rfl | (rw [hR]; rfl) | (simp only [dN_rows, Int.toNat_natCast, hj1, hR]; rfl)) | exact sd_)) ?_
 refine u_mv ?_
 iterate 2 refine u_ex ?_
 iterate 2 refine u_mv ?_
 refine lg_nil ?_
 have hx := hx0
 refine h27 _ ?_; clear h27; try clear N27
 refine vc_seq_k fun N28 h28 => ?_
 refine u_reg ?_
 try refine lg_mk ?_
 refine u_mv ?_
 refine lg_nil ?_
 refine h28 _ ?_; clear h28; try clear N28
 refine u_cond (fun hb29 => ?_) (fun hb29 => ?_)
 ·first | omega | exact absurd trivial hb29 | contradiction | (simp_all; done)
 refine vc_skip ?_
 try simp only [k_rules]
 refine h14 _ ⟨(false, x, s2, 0), ?_, ?_, [some 0, some 1, none], ?_⟩
 dsimp only
 exact hE
 dsimp only
 ·first | (simp [Bool.toNat]; done) | (simp [Bool.toNat]; omega)
 dsimp only
 refine ⟨by rfl, ?_, ?_⟩
 refine fin_ ?_
 ·(repeat' apply And.intro) <;> (first | (simp only [ndB_t, ndB_f, bxB_t, bxB_f, addN_len, addN_p, addN_e, addN_c, addN_ns]; exact cl_) | exact cl_)
 refine fin_ ?_
 ·(repeat' apply And.intro) <;> (first | (simp only [ndB_t, ndB_f, bxB_t, bxB_f, addN_len, addN_p, addN_e, addN_c, addN_ns]; exact cl_) | exact cl_)
 simp only [hR, bindF_t] at hE
 obtain ⟨n1, n2, n3⟩ := op_next hwS hne k3 (by rw [hss]; exact hR)
 have hx := And.intro @hj1 (And.intro @hR hx0)
 refine u_reg ?_
 try refine lg_mk ?_
 iterate 2 refine u_mv ?_
 refine u_bn ?_
 have hc := call_rule (E := ((E_pr fu kq ku kp).at_ 65)) (f := 57) (sp := Spec.gen (qryG fu)) rfl
 have hs := @qryG.eq_1
 refine u_hg (hq := by (first | (refine ⟨by omega, by omega, preP_ok (by omega) (by omega) (by omega) (by omega), ?_⟩; first | rfl | (rw [hR]; rfl) | (simp only [dN_rows, Int.toNat_natCast, hj1, hR]; rfl)) | exact sd_)) ?_
 refine u_mv ?_
 iterate 2 refine u_ex ?_
 iterate 2 refine u_mv ?_
 refine lg_nil ?_
 have hx := hx0
 refine h27 _ ?_; clear h27; try clear N27
 refine vc_seq_k fun N30 h30 => ?_
 refine u_reg ?_
 try refine lg_mk ?_
 refine u_mv ?_
 refine lg_nil ?_
 refine h30 _ ?_; clear h30; try clear N30
 refine u_cond (fun hb31 => ?_) (fun hb31 => ?_)
 refine u_reg ?_
 try refine lg_mk ?_
 iterate 4 refine u_mv (hq := by exact so_) ?_
 refine u_bd (hq := by exact so_) ?_
 have hc := call_rule (E := ((E_pr fu kq ku kp).at_ 65)) (f := 79) (sp := Spec.gen addG) rfl
 have hs := @addG.eq_1
 refine u_hg (hq := by exact so_) ?_
 refine u_mv (hq := by exact so_) ?_
 refine lg_nil ?_
 refine h14 _ ⟨(true, (s2.ns.length : Int), addN s2 ⟨14, 0, x, y⟩, g), ?_, ?_, [some 0, some 1, some 4], ?_⟩
 dsimp only
 exact ⟨hE, n1, n2, by rw [addN_len, addN_p]; exact n3⟩
 dsimp only
 ·first | (simp [Bool.toNat]; done) | (simp [Bool.toNat]; omega)
 dsimp only
 refine ⟨by rfl, ?_, ?_⟩
 refine fin_ ?_
 ·(repeat' apply And.intro) <;> (first | (simp only [ndB_t, ndB_f, bxB_t, bxB_f, addN_len, addN_p, addN_e, addN_c, addN_ns]; exact cl_) | exact cl_)
 refine fin_ ?_
 ·(repeat' apply And.intro) <;> (first | (simp only [ndB_t, ndB_f, bxB_t, bxB_f, addN_len, addN_p, addN_e, addN_c, addN_ns]; exact cl_) | exact cl_)
 ·first | omega | exact absurd trivial hb31 | contradiction | (simp_all; done)
 have hk1 : ¬(w = [124] ∧ j = 0) := fun h => by have := hb24; simp [h.1, h.2] at this
 refine vc_seq_k fun N32 h32 => ?_
 refine u_reg ?_
 try refine lg_mk ?_
 refine u_mv ?_
 refine u_bn ?_
 refine u_mv ?_
 refine g_mv ?_
 refine g_bn ?_
 refine u_pk ?_
 refine u_mv ?_
 refine lg_nil ?_
 refine h32 _ ?_; clear h32; try clear N32
 refine u_cond (fun hb33 => ?_) (fun hb33 => ?_)
 have hk := hb33
 have hop : opK w j = 15 := by unfold opK; rw [if_neg hk1]; exact if_pos (by have hk := hb33; (try simp at hk); exact ⟨hk.1, by omega⟩)
 rw [if_neg (by rw [hop]; decide)] at hE hsm
 simp only [hop] at hE hsm
 have hne : tokS t st ≠ [] := opK_ne (j := j) (by rw [hws', hop]; decide)
 refine u_reg ?_
 try refine lg_mk ?_
 refine u_mv ?_
 refine lg_nil ?_
 refine h21 _ ?_; clear h21; try clear N21
 refine vc_seq_k fun N34 h34 => ?_
 have hx := And.intro @hP1 (And.intro @hE1 hx0)
 refine u_reg ?_
 try refine lg_mk ?_
 refine u_mv (hq := by exact so_) ?_
 have hc := call_rule (E := ((E_pr fu kq ku kp).at_ 65)) (f := 56) (sp := Spec.gen scanG) rfl
 have hs := @scanG.eq_1
 refine u_hg (hq := by exact so_) ?_
 refine lg_nil ?_
 have hx := hx0
 refine h34 _ ?_; clear h34; try clear N34
 refine vc_seq_k fun N35 h35 => ?_
 refine u_reg ?_
 try refine lg_mk ?_
 refine u_mv ?_
 refine lg_nil ?_
 refine h35 _ ?_; clear h35; try clear N35
 refine vc_seq_k fun N36 h36 => ?_
 obtain ⟨b2, y, s2, hR⟩ := bindF_some hsm
 rcases b2 with _ | _
 simp only [hR, bindF_f] at hE
 have hx := And.intro @hj1 (And.intro @hR hx0)
 refine u_reg ?_
 try refine lg_mk ?_
 iterate 2 refine u_mv ?_
 refine u_bn ?_
 have hc := call_rule (E := ((E_pr fu kq ku kp).at_ 65)) (f := 57) (sp := Spec.gen (qryG fu)) rfl
 have hs := @qryG.eq_1
 refine u_hg (hq := by (first | (refine ⟨by omega, by omega, preP_ok (by omega) (by omega) (by omega) (by omega), ?_⟩; first | rfl | (rw [hR]; rfl) | (simp only [dN_rows, Int.toNat_natCast, hj1, hR]; rfl)) | exact sd_)) ?_
 refine u_mv ?_
 iterate 2 refine u_ex ?_
 iterate 2 refine u_mv ?_
 refine lg_nil ?_
 have hx := hx0
 refine h36 _ ?_; clear h36; try clear N36
 refine vc_seq_k fun N37 h37 => ?_
 refine u_reg ?_
 try refine lg_mk ?_
 refine u_mv ?_
 refine lg_nil ?_
 refine h37 _ ?_; clear h37; try clear N37
 refine u_cond (fun hb38 => ?_) (fun hb38 => ?_)
 ·first | omega | exact absurd trivial hb38 | contradiction | (simp_all; done)
 refine vc_skip ?_
 try simp only [k_rules]
 refine h14 _ ⟨(false, x, s2, 0), ?_, ?_, [some 0, some 1, none], ?_⟩
 dsimp only
 exact hE
 dsimp only
 ·first | (simp [Bool.toNat]; done) | (simp [Bool.toNat]; omega)
 dsimp only
 refine ⟨by rfl, ?_, ?_⟩
 refine fin_ ?_
 ·(repeat' apply And.intro) <;> (first | (simp only [ndB_t, ndB_f, bxB_t, bxB_f, addN_len, addN_p, addN_e, addN_c, addN_ns]; exact cl_) | exact cl_)
 refine fin_ ?_
 ·(repeat' apply And.intro) <;> (first | (simp only [ndB_t, ndB_f, bxB_t, bxB_f, addN_len, addN_p, addN_e, addN_c, addN_ns]; exact cl_) | exact cl_)
 simp only [hR, bindF_t] at hE
 obtain ⟨n1, n2, n3⟩ := op_next hwS hne k3 (by rw [hss]; exact hR)
 have hx := And.intro @hj1 (And.intro @hR hx0)
 refine u_reg ?_
 try refine lg_mk ?_
 iterate 2 refine u_mv ?_
 refine u_bn ?_
 have hc := call_rule (E := ((E_pr fu kq ku kp).at_ 65)) (f := 57) (sp := Spec.gen (qryG fu)) rfl
 have hs := @qryG.eq_1
 refine u_hg (hq := by (first | (refine ⟨by omega, by omega, preP_ok (by omega) (by omega) (by omega) (by omega), ?_⟩; first | rfl | (rw [hR]; rfl) | (simp only [dN_rows, Int.toNat_natCast, hj1, hR]; rfl)) | exact sd_)) ?_
 refine u_mv ?_
 iterate 2 refine u_ex ?_
 iterate 2 refine u_mv ?_
 refine lg_nil ?_
 have hx := hx0
 refine h36 _ ?_; clear h36; try clear N36
 refine vc_seq_k fun N39 h39 => ?_
 refine u_reg ?_
 try refine lg_mk ?_
 refine u_mv ?_
 refine lg_nil ?_
 refine h39 _ ?_; clear h39; try clear N39
 refine u_cond (fun hb40 => ?_) (fun hb40 => ?_)
 refine u_reg ?_
 try refine lg_mk ?_
 iterate 4 refine u_mv (hq := by exact so_) ?_
 refine u_bd (hq := by exact so_) ?_
 have hc := call_rule (E := ((E_pr fu kq ku kp).at_ 65)) (f := 79) (sp := Spec.gen addG) rfl
 have hs := @addG.eq_1
 refine u_hg (hq := by exact so_) ?_
 refine u_mv (hq := by exact so_) ?_
 refine lg_nil ?_
 refine h14 _ ⟨(true, (s2.ns.length : Int), addN s2 ⟨15, 0, x, y⟩, g), ?_, ?_, [some 0, some 1, some 4], ?_⟩
 dsimp only
 exact ⟨hE, n1, n2, by rw [addN_len, addN_p]; exact n3⟩
 dsimp only
 ·first | (simp [Bool.toNat]; done) | (simp [Bool.toNat]; omega)
 dsimp only
 refine ⟨by rfl, ?_, ?_⟩
 refine fin_ ?_
 ·(repeat' apply And.intro) <;> (first | (simp only [ndB_t, ndB_f, bxB_t, bxB_f, addN_len, addN_p, addN_e, addN_c, addN_ns]; exact cl_) | exact cl_)
 refine fin_ ?_
 ·(repeat' apply And.intro) <;> (first | (simp only [ndB_t, ndB_f, bxB_t, bxB_f, addN_len, addN_p, addN_e, addN_c, addN_ns]; exact cl_) | exact cl_)
 ·first | omega | exact absurd trivial hb40 | contradiction | (simp_all; done)
 have hk2 : ¬(w = [38] ∧ j = 1) := fun h => by have := hb33; simp [h.1, h.2] at this
 refine vc_seq_k fun N41 h41 => ?_
 refine u_reg ?_
 try refine lg_mk ?_
 refine u_mv ?_
 refine u_bn ?_
 refine u_mv ?_
 refine g_mv ?_
 refine g_bn ?_
 refine u_pk ?_
 refine u_mv ?_
 refine lg_nil ?_
 refine h41 _ ?_; clear h41; try clear N41
 refine u_cond (fun hb42 => ?_) (fun hb42 => ?_)
 have hk := hb42
 have hop : opK w j = 16 := by unfold opK; rw [if_neg hk1, if_neg hk2]; exact if_pos (by have hk := hb42; (try simp at hk); exact ⟨hk.1, by omega⟩)
 rw [if_neg (by rw [hop]; decide)] at hE hsm
 simp only [hop] at hE hsm
 have hne : tokS t st ≠ [] := opK_ne (j := j) (by rw [hws', hop]; decide)
 refine u_reg ?_
 try refine lg_mk ?_
 refine u_mv ?_
 refine lg_nil ?_
 refine h21 _ ?_; clear h21; try clear N21
 refine vc_seq_k fun N43 h43 => ?_
 have hx := And.intro @hP1 (And.intro @hE1 hx0)
 refine u_reg ?_
 try refine lg_mk ?_
 refine u_mv (hq := by exact so_) ?_
 have hc := call_rule (E := ((E_pr fu kq ku kp).at_ 65)) (f := 56) (sp := Spec.gen scanG) rfl
 have hs := @scanG.eq_1
 refine u_hg (hq := by exact so_) ?_
 refine lg_nil ?_
 have hx := hx0
 refine h43 _ ?_; clear h43; try clear N43
 refine vc_seq_k fun N44 h44 => ?_
 refine u_reg ?_
 try refine lg_mk ?_
 refine u_mv ?_
 refine lg_nil ?_
 refine h44 _ ?_; clear h44; try clear N44
 refine vc_seq_k fun N45 h45 => ?_
 obtain ⟨b2, y, s2, hR⟩ := bindF_some hsm
 rcases b2 with _ | _
 simp only [hR, bindF_f] at hE
 have hx := And.intro @hj1 (And.intro @hR hx0)
 refine u_reg ?_
 try refine lg_mk ?_
 iterate 2 refine u_mv ?_
 refine u_bn ?_
 have hc := call_rule (E := ((E_pr fu kq ku kp).at_ 65)) (f := 57) (sp := Spec.gen (qryG fu)) rfl
 have hs := @qryG.eq_1
 refine u_hg (hq := by (first | (refine ⟨by omega, by omega, preP_ok (by omega) (by omega) (by omega) (by omega), ?_⟩; first | rfl | (rw [hR]; rfl) | (simp only [dN_rows, Int.toNat_natCast, hj1, hR]; rfl)) | exact sd_)) ?_
 refine u_mv ?_
 iterate 2 refine u_ex ?_
 iterate 2 refine u_mv ?_
 refine lg_nil ?_
 have hx := hx0
 refine h45 _ ?_; clear h45; try clear N45
 refine vc_seq_k fun N46 h46 => ?_
 refine u_reg ?_
 try refine lg_mk ?_
 refine u_mv ?_
 refine lg_nil ?_
 refine h46 _ ?_; clear h46; try clear N46
 refine u_cond (fun hb47 => ?_) (fun hb47 => ?_)
 ·first | omega | exact absurd trivial hb47 | contradiction | (simp_all; done)
 refine vc_skip ?_
 try simp only [k_rules]
 refine h14 _ ⟨(false, x, s2, 0), ?_, ?_, [some 0, some 1, none], ?_⟩
 dsimp only
 exact hE
 dsimp only
 ·first | (simp [Bool.toNat]; done) | (simp [Bool.toNat]; omega)
 dsimp only
 refine ⟨by rfl, ?_, ?_⟩
 refine fin_ ?_
 ·(repeat' apply And.intro) <;> (first | (simp only [ndB_t, ndB_f, bxB_t, bxB_f, addN_len, addN_p, addN_e, addN_c, addN_ns]; exact cl_) | exact cl_)
 refine fin_ ?_
 ·(repeat' apply And.intro) <;> (first | (simp only [ndB_t, ndB_f, bxB_t, bxB_f, addN_len, addN_p, addN_e, addN_c, addN_ns]; exact cl_) | exact cl_)
 simp only [hR, bindF_t] at hE
 obtain ⟨n1, n2, n3⟩ := op_next hwS hne k3 (by rw [hss]; exact hR)
 have hx := And.intro @hj1 (And.intro @hR hx0)
 refine u_reg ?_
 try refine lg_mk ?_
 iterate 2 refine u_mv ?_
 refine u_bn ?_
 have hc := call_rule (E := ((E_pr fu kq ku kp).at_ 65)) (f := 57) (sp := Spec.gen (qryG fu)) rfl
 have hs := @qryG.eq_1
 refine u_hg (hq := by (first | (refine ⟨by omega, by omega, preP_ok (by omega) (by omega) (by omega) (by omega), ?_⟩; first | rfl | (rw [hR]; rfl) | (simp only [dN_rows, Int.toNat_natCast, hj1, hR]; rfl)) | exact sd_)) ?_
 refine u_mv ?_
 iterate 2 refine u_ex ?_
 iterate 2 refine u_mv ?_
 refine lg_nil ?_
 have hx := hx0
 refine h45 _ ?_; clear h45; try clear N45
 refine vc_seq_k fun N48 h48 => ?_
 refine u_reg ?_
 try refine lg_mk ?_
 refine u_mv ?_
 refine lg_nil ?_
 refine h48 _ ?_; clear h48; try clear N48
 refine u_cond (fun hb49 => ?_) (fun hb49 => ?_)
 refine u_reg ?_
 try refine lg_mk ?_
 iterate 4 refine u_mv (hq := by exact so_) ?_
 refine u_bd (hq := by exact so_) ?_
 have hc := call_rule (E := ((E_pr fu kq ku kp).at_ 65)) (f := 79) (sp := Spec.gen addG) rfl
 have hs := @addG.eq_1
 refine u_hg (hq := by exact so_) ?_
 refine u_mv (hq := by exact so_) ?_
 refine lg_nil ?_
 refine h14 _ ⟨(true, (s2.ns.length : Int), addN s2 ⟨16, 0, x, y⟩, g), ?_, ?_, [some 0, some 1, some 4], ?_⟩
 dsimp only
 exact ⟨hE, n1, n2, by rw [addN_len, addN_p]; exact n3⟩
 dsimp only
 ·first | (simp [Bool.toNat]; done) | (simp [Bool.toNat]; omega)
 dsimp only
 refine ⟨by rfl, ?_, ?_⟩
 refine fin_ ?_
 ·(repeat' apply And.intro) <;> (first | (simp only [ndB_t, ndB_f, bxB_t, bxB_f, addN_len, addN_p, addN_e, addN_c, addN_ns]; exact cl_) | exact cl_)
 refine fin_ ?_
 ·(repeat' apply And.intro) <;> (first | (simp only [ndB_t, ndB_f, bxB_t, bxB_f, addN_len, addN_p, addN_e, addN_c, addN_ns]; exact cl_) | exact cl_)
 ·first | omega | exact absurd trivial hb49 | contradiction | (simp_all; done)
 have hk3 : ¬(w = [45] ∧ j = 1) := fun h => by have := hb42; simp [h.1, h.2] at this
 have hop : opK w j = 0 := by unfold opK; rw [if_neg hk1, if_neg hk2, if_neg hk3]
 rw [if_pos hop] at hE
 refine vc_seq_k fun N50 h50 => ?_
 refine u_reg ?_
 try refine lg_mk ?_
 iterate 3 refine u_mv ?_
 refine lg_nil ?_
 refine h50 _ ?_; clear h50; try clear N50
 refine vc_ret ?_
 try simp only [k_rules]
 simp only [hE, hR, bindF_f, bindF_t, putN, resX_s, resB_s, resBx_t, resBx_f, addN_len]
 refine fin_ ?_
 refine ⟨[some 0, some 1, some 2], by rfl, ?_, ?_⟩
 refine fin_ ?_
 exact cl_
 refine fin_ ?_
 exact cl_
 ·first | omega | exact absurd trivial hb19 | contradiction | (simp_all; done)
 cases hg
end Go.Proofs.YtlbjffdaooadoaaDoor
