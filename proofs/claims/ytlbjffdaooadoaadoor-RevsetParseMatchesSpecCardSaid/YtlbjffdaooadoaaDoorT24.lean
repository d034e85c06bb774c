/- Walks, printed by wip/gen/walk.py. -/
import Derived.Test.YtlbjffdaooadoaaDoorT23
import Derived.Test.YtlbjffdaooadoaaDoorV5
set_option linter.all false
set_option maxRecDepth 100000
set_option maxHeartbeats 4000000
namespace Go.Proofs.YtlbjffdaooadoaaDoor
open Go Go.Vc Go.RowKit
def wfS (t : Bs) (s : PS) : Prop := s.p ≤ s.e ∧ s.e ≤ t.length
def Pr (t : Bs) (s s' : PS) : Prop := wfS t s' ∧ s.p ≤ s'.p ∧ s'.ns.length + s.p ≤ s'.p + s.ns.length
def Pr1 (t : Bs) (s s' : PS) : Prop := wfS t s' ∧ s.p + 1 ≤ s'.p ∧ s'.ns.length + 1 + s.p ≤ s'.p + s.ns.length
def Pr2 (t : Bs) (s s' : PS) : Prop := Pr t s s' ∧ s.p + 1 ≤ s'.p
theorem Pr.trans {t : Bs} {a b c : PS} (h : Pr t a b) (k : Pr t b c) : Pr t a c := ⟨k.1, by have := h.2.1; have := k.2.1; omega, by have := h.2.2; have := k.2.2; omega⟩
theorem Pr1.trans {t : Bs} {a b c : PS} (h : Pr1 t a b) (k : Pr t b c) : Pr1 t a c := ⟨k.1, by have := h.2.1; have := k.2.1; omega, by have := h.2.2; have := k.2.2; omega⟩
theorem Pr1.weak {t : Bs} {a b : PS} (h : Pr1 t a b) : Pr t a b := ⟨h.1, by have := h.2.1; omega, by have := h.2.2; omega⟩
theorem Pr1.add {t : Bs} {a b : PS} (h : Pr1 t a b) (n : Nd) : Pr2 t a (addN b n) := ⟨⟨h.1, by have := h.2.1; show a.p ≤ b.p; omega, by have := h.2.2; show (b.ns ++ [n]).length + a.p ≤ b.p + _; rw [List.length_append, List.length_singleton]; omega⟩, h.2.1⟩
theorem scan_pr {t : Bs} {s : PS} (h : wfS t s) : Pr t s (scanS t s) := by
  obtain ⟨h1, h2⟩ := h
  have hp : s.e ≤ (scanS t s).p ∧ (scanS t s).p ≤ t.length := by
    unfold scanS scnP runN
    have := (List.takeWhile_sublist (l := t.drop s.e) (inB 32 32)).length_le
    rw [List.length_drop] at this
    show s.e ≤ s.e + _ ∧ s.e + _ ≤ _
    omega
  have he := scnE_le hp.2
  refine ⟨⟨he.1, he.2⟩, by omega, ?_⟩
  show s.ns.length + s.p ≤ (scanS t s).p + s.ns.length
  omega
theorem scan_pr1 {t : Bs} {s : PS} (h : wfS t s) (h0 : tokS t s ≠ []) : Pr1 t s (scanS t s) := by
  have hs := scan_pr h
  have hl : 1 ≤ (tokS t s).length := List.length_pos_iff.2 h0
  unfold tokS tokN at hl
  rw [List.length_take] at hl
  have hp : s.e ≤ (scanS t s).p := by unfold scanS scnP runN; exact Nat.le_add_right _ _
  refine ⟨hs.1, by omega, ?_⟩
  show s.ns.length + 1 + s.p ≤ (scanS t s).p + s.ns.length
  omega
theorem take_pr1 {t : Bs} {s : PS} {x : Bs} (h : wfS t s) (hb : takeB t s x = true) : Pr1 t s (scanS t s) := by
  have := of_decide_eq_true hb
  exact scan_pr1 h (by rw [this.1]; exact this.2)
theorem numV_ne {w : Bs} {n : Int} (h : numV w = some n) : w ≠ [] := by
  rintro rfl
  cases h
theorem num_pr1 {t : Bs} {s : PS} {k : Int} (h : wfS t s) (hb : numB t s k = true) : Pr1 t s (scanS t s) ∧ numS t s k = scanS t s := by
  unfold numB at hb
  unfold numS
  cases hn : numV (tokS t s) with
  | none => rw [hn] at hb; cases hb
  | some n =>
    rw [hn] at hb
    have hb := of_decide_eq_true hb
    exact ⟨scan_pr1 h (numV_ne hn), if_pos hb⟩
theorem opK_ne {w : Bs} {j : Nat} (h : opK w j ≠ 0) : w ≠ [] := by
  rintro rfl
  exact h (by simp [opK])
theorem kindN_ne {w : Bs} (h : kindN w ≠ 0) : w ≠ [] := by
  rintro rfl
  exact h rfl
theorem bindF_true {r : PR} {k : Int → PS → PR} {x : Int} {s : PS} (h : bindF r k = some (true, x, s)) : ∃ y s1, r = some (true, y, s1) ∧ k y s1 = some (true, x, s) := by
  unfold bindF at h
  split at h
  · cases h
  · cases h
  · exact ⟨_, _, rfl, h⟩
theorem putN_true {s s' : PS} {n : Nd} {b : Bool} {x : Int} (h : putN s n = some (b, x, s')) : s' = addN s n := by
  unfold putN at h; cases h; rfl
theorem takeF_true {t : Bs} {s s' : PS} {x : Bs} {k : PS → PR} {y : Int} (h : takeF t s x k = some (true, y, s')) : takeB t s x = true ∧ k (scanS t s) = some (true, y, s') := by
  unfold takeF at h
  split at h
  · exact ⟨by assumption, h⟩
  · cases h
theorem numF_true {t : Bs} {s s' : PS} {k : Int} {f : Int → PS → PR} {y : Int} (h : numF t s k f = some (true, y, s')) : numB t s k = true ∧ f (numX t s k) (numS t s k) = some (true, y, s') := by
  unfold numF at h
  split at h
  · exact ⟨by assumption, h⟩
  · cases h
theorem lpF_pr {t : Bs} {sub : PS → PR} {j : Nat} (hsub : ∀ s x s', wfS t s → sub s = some (true, x, s') → Pr2 t s s') : ∀ (g : Nat) (x : Int) (s : PS) (y : Int) (s' : PS), wfS t s → lpF t sub j g x s = some (true, y, s') → Pr t s s'
  | 0, _, _, _, _, _, h => by cases h
  | g + 1, x, s, y, s', hw, h => by
    unfold lpF at h
    split at h
    · cases h; exact ⟨hw, Nat.le_refl _, by omega⟩
    · rename_i ho
      obtain ⟨z, s1, h1, h2⟩ := bindF_true h
      have p1 := scan_pr1 hw (opK_ne ho)
      have p2 := p1.trans (hsub _ _ _ p1.1 h1).1
      have p3 := p2.add ⟨opK (tokS t s) j, 0, x, z⟩
      exact p3.1.trans (lpF_pr hsub g _ _ _ _ p3.1.1 h2)
theorem prF_pr {t : Bs} {qu : PS → PR} (hq : ∀ s x s', wfS t s → qu s = some (true, x, s') → Pr2 t s s') {s s' : PS} {y : Int} (hw : wfS t s) (h : prF t qu s = some (true, y, s')) : Pr2 t s s' := by
  unfold prF at h
  split at h
  · rename_i hk
    obtain ⟨h1, h2⟩ := numF_true h
    have p1 := scan_pr1 hw (by rw [hk]; simp)
    obtain ⟨p2, e2⟩ := num_pr1 p1.1 h1
    rw [putN_true h2, e2]
    exact (p1.trans p2.weak).add _
  · split at h
    · rename_i hk
      have p1 := scan_pr1 hw (by rw [hk]; simp)
      split at h
      · cases h
      · cases h
      · rename_i x s1 h1
        simp only [Option.some.injEq, Prod.mk.injEq] at h
        obtain ⟨h2, _, rfl⟩ := h
        have p2 := p1.trans (hq _ _ _ p1.1 h1).1
        have e : takeS t s1 [41] = scanS t s1 := if_pos h2
        rw [e]
        have p3 := p2.trans (scan_pr p2.1)
        exact ⟨p3.weak, p3.2.1⟩
    · split at h
      · cases h
      · rename_i hk
        have p1 := scan_pr1 hw (kindN_ne hk)
        split at h
        · rw [putN_true h]; exact p1.add _
        · obtain ⟨h1, h2⟩ := takeF_true h
          have p2 := p1.trans (take_pr1 p1.1 h1).weak
          split at h2
          · obtain ⟨h3, h4⟩ := numF_true h2
            obtain ⟨p3, e3⟩ := num_pr1 p2.1 h3
            obtain ⟨h5, h6⟩ := takeF_true h4
            rw [e3] at h5 h6
            have p4 := p2.trans p3.weak
            have p5 := p4.trans (take_pr1 p4.1 h5).weak
            rw [putN_true h6]; exact p5.add _
          · obtain ⟨z, s1, h3, h4⟩ := bindF_true h2
            have p3 := p2.trans (hq _ _ _ p2.1 h3).1
            obtain ⟨h5, h6⟩ := takeF_true h4
            have p5 := p3.trans (take_pr1 p3.1 h5).weak
            rw [putN_true h6]; exact p5.add _
theorem pF_pr {t : Bs} : ∀ (f j : Nat) (s : PS) (x : Int) (s' : PS), wfS t s → pF t f j s = some (true, x, s') → Pr2 t s s'
  | 0, _, _, _, _, _, h => by cases h
  | f + 1, j, s, x, s', hw, h => by
    have ih := pF_pr (t := t) f
    unfold pF at h
    split at h
    · obtain ⟨z, s1, h1, h2⟩ := bindF_true h
      have p1 := ih _ _ _ _ hw h1
      have p2 := lpF_pr (fun s x s' hw h => ih _ s x s' hw h) _ _ _ _ _ p1.1.1 h2
      exact ⟨p1.1.trans p2, by have := p1.2; have := p2.2.1; omega⟩
    · split at h
      · exact ih _ _ _ _ hw h
      · split at h
        · split at h
          · rename_i hk
            obtain ⟨z, s1, h1, h2⟩ := bindF_true h
            have p1 := scan_pr1 hw (by rw [hk]; simp)
            rw [putN_true h2]
            exact (p1.trans (ih _ _ _ _ p1.1 h1).1).add _
          · exact ih _ _ _ _ hw h
        · exact prF_pr (fun s x s' hw h => ih 0 s x s' hw h) hw h

def resX (r : PR) : Int := match r with | some (_, x, _) => x | none => 0
def resB (r : PR) : Bool := match r with | some (b, _, _) => b | none => false
def resBx (t : Bs) (r : PR) : List (Option Box) := match r with
  | some (true, _, s) => [psB t s (.sl 2 0 s.ns.length), none, some (.vec 39 4 (rows eN s.ns))]
  | some (false, _, s) => [psB t s .any, none]
  | none => [none, none]
theorem resX_s (b : Bool) (x : Int) (s : PS) : resX (some (b, x, s)) = x := rfl
theorem resB_s (b : Bool) (x : Int) (s : PS) : resB (some (b, x, s)) = b := rfl
theorem resBx_t (t : Bs) (x : Int) (s : PS) : resBx t (some (true, x, s)) = [psB t s (.sl 2 0 s.ns.length), none, some (.vec 39 4 (rows eN s.ns))] := rfl
theorem resBx_f (t : Bs) (x : Int) (s : PS) : resBx t (some (false, x, s)) = [psB t s .any, none] := rfl
theorem ps_eta (s : PS) : (⟨s.p, s.e, s.ns, s.c⟩ : PS) = s := rfl
theorem addN_len (s : PS) (n : Nd) : (addN s n).ns.length = s.ns.length + 1 := by show (s.ns ++ [n]).length = _; simp
theorem addN_ns (s : PS) (n : Nd) : (addN s n).ns = s.ns ++ [n] := rfl
theorem addN_p (s : PS) (n : Nd) : (addN s n).p = s.p := rfl
theorem addN_e (s : PS) (n : Nd) : (addN s n).e = s.e := rfl
theorem addN_c (s : PS) (n : Nd) : (addN s n).c = s.c := rfl
theorem some_of {r : PR} (h : r.isSome = true) : ∃ b x s, r = some (b, x, s) := by
  match r, h with
  | some (b, x, s), _ => exact ⟨b, x, s, rfl⟩
theorem bindF_some {r : PR} {k : Int → PS → PR} (h : (bindF r k).isSome = true) : ∃ b x s, r = some (b, x, s) := by
  match r, h with
  | some (b, x, s), _ => exact ⟨b, x, s, rfl⟩
theorem bindF_f (x : Int) (s : PS) (k : Int → PS → PR) : bindF (some (false, x, s)) k = some (false, 0, s) := rfl
theorem bindF_t (x : Int) (s : PS) (k : Int → PS → PR) : bindF (some (true, x, s)) k = k x s := rfl
def preP (ty vt sz : Nat) (n : Nat) (t : Bs) (p e : Int) (xs : List (List D)) : Prop := ty = 85 ∧ vt = 39 ∧ sz = 4 ∧ xs = rows eN (dN xs) ∧ n = (dN xs).length ∧ ((dN xs).length : Int) ≤ p ∧ wfR t p e
theorem preP_ok {t : Bs} {m m2 : Nat} {q : List Nd} (hlq : q.length ≤ m) (h1 : m ≤ m2) (h2 : m2 ≤ t.length) (h3 : t.length ≤ 1000000) : preP 85 39 4 q.length t (m : Nat) (m2 : Nat) (rows eN q) :=
  ⟨rfl, rfl, rfl, by rw [dN_rows], by rw [dN_rows], by rw [dN_rows]; omega, by omega, by omega, by omega, h3⟩
def prsG (fu j : Nat) : GFun
  | [.ptr 0 0 0], [some (.one ty [.d (.str t), .d (.int .i64 p), .d (.int .i64 e), .sl 1 0 n, .d (.int .i64 c)]), some (.vec vt sz xs)] => some (preP ty vt sz n t p e xs ∧ (pF t fu j ⟨p.toNat, e.toNat, dN xs, c⟩).isSome = true, .tup [.d (.int .i64 (resX (pF t fu j ⟨p.toNat, e.toNat, dN xs, c⟩))), .d (.bool (resB (pF t fu j ⟨p.toNat, e.toNat, dN xs, c⟩)))], resBx t (pF t fu j ⟨p.toNat, e.toNat, dN xs, c⟩))
  | _, _ => none
def qryG (fu : Nat) : GFun
  | [.ptr 0 0 0, .d (.int .i64 l)], [some (.one ty [.d (.str t), .d (.int .i64 p), .d (.int .i64 e), .sl 1 0 n, .d (.int .i64 c)]), some (.vec vt sz xs)] => some (0 ≤ l ∧ l ≤ 2 ∧ preP ty vt sz n t p e xs ∧ (pF t fu l.toNat ⟨p.toNat, e.toNat, dN xs, c⟩).isSome = true, .tup [.d (.int .i64 (resX (pF t fu l.toNat ⟨p.toNat, e.toNat, dN xs, c⟩))), .d (.bool (resB (pF t fu l.toNat ⟨p.toNat, e.toNat, dN xs, c⟩)))], resBx t (pF t fu l.toNat ⟨p.toNat, e.toNat, dN xs, c⟩))
  | _, _ => none
def E_pr (n : Nat) (hq : Meets Tryd.prog 57 (Spec.gen (qryG n))) (hu : Meets Tryd.prog 77 (Spec.gen (prsG n 3))) (hp : Meets Tryd.prog 85 (Spec.gen (prsG n 4))) : Env Tryd.prog :=
  ((E_num.add 57 (Spec.gen (qryG n)) hq (by kernel_rfl)).add 77 (Spec.gen (prsG n 3)) hu (by kernel_rfl)).add 85 (Spec.gen (prsG n 4)) hp (by kernel_rfl)
theorem pF_un (t : Bs) (f m m2 : Nat) (q : List Nd) (c : Int) : pF t (f + 1) 3 ⟨m, m2, q, c⟩ = if tokN t m m2 = [33] then bindF (pF t f 3 ⟨scnP t m2, scnE t (scnP t m2), q, c⟩) (fun x s1 => putN s1 ⟨7, 0, x, 0⟩) else pF t f 4 ⟨m, m2, q, c⟩ := by
  rw [pF]; rfl
theorem ns_fit {t : Bs} {f j : Nat} {s s' : PS} {x : Int} (hw : wfS t s) (h : pF t f j s = some (true, x, s')) (hn : s.ns.length ≤ s.p) (ht : t.length ≤ 1000000) : s'.p ≤ s'.e ∧ s'.e ≤ t.length ∧ s'.ns.length ≤ s'.p ∧ s'.ns.length ≤ 1000000 ∧ s.p + 1 ≤ s'.p := by
  obtain ⟨⟨⟨h1, h2⟩, h3, h4⟩, h5⟩ := pF_pr f j s x s' hw h
  exact ⟨h1, h2, by omega, by omega, h5⟩

theorem una_step (fu : Nat) (kq : Meets Tryd.prog 57 (Spec.gen (qryG fu))) (ku : Meets Tryd.prog 77 (Spec.gen (prsG fu 3))) (kp : Meets Tryd.prog 85 (Spec.gen (prsG fu 4))) : Meets Tryd.prog 77 (Spec.gen (prsG (fu + 1) 3)) := by
 refine meets_handed ((E_pr fu kq ku kp).at_ 26) Tryd.func77 rfl rfl rfl ?_
 intro args bl p r bf hg hp
 unfold prsG at hg
 split at hg
 rename_i ty t p e n c vt sz xs
 simp only [Option.some.injEq, Prod.mk.injEq] at hg
 obtain ⟨rfl, rfl, rfl⟩ := hg
 obtain ⟨⟨rfl, rfl, rfl, he, rfl, hl, hw⟩, hsm⟩ := hp
 generalize dN xs = q at *
 subst he
 obtain ⟨hp0, hpe, hel, htl⟩ := hw
 obtain ⟨m, rfl⟩ := Int.eq_ofNat_of_zero_le hp0
 obtain ⟨m2, rfl⟩ := Int.eq_ofNat_of_zero_le (by omega : 0 ≤ e)
 have hmt : ((m : Nat) : Int).toNat = m := rfl
 have hmt2 : ((m2 : Nat) : Int).toNat = m2 := rfl
 simp only [Int.toNat_natCast] at hsm ⊢
 have hlq : q.length ≤ m := by omega
 have hws : wfS t ⟨m, m2, q, c⟩ := ⟨by show m ≤ m2; omega, by show m2 ≤ t.length; omega⟩
 have hsc := (scan_pr hws).1
 have hsp : m2 ≤ scnP t m2 := (scnP_le (t := t) (e := m2) (by omega)).1
 have hsl : scnP t m2 ≤ scnE t (scnP t m2) := hsc.1
 have hse : scnE t (scnP t m2) ≤ t.length := hsc.2
 have hE := pF_un t fu m m2 q c
 have hT : ((E_pr fu kq ku kp)).X = T := rfl
 have hx0 := And.intro @dec_t (And.intro @dec_f (And.intro @Int.toNat_natCast (And.intro @rdB.eq_1 (And.intro @psB.eq_1 (And.intro @dN_rows (And.intro @rect_eN (And.intro @resX_s (And.intro @resB_s (And.intro @resBx_t (And.intro @resBx_f (And.intro @ps_eta @Tryd.results77)))))))))))
 have hx := hx0
 refine ⟨Nat.le_of_ble_eq_true rfl, ?_⟩
 intro F W0 M0 hnp hmk
 have hnp : Far.np = 2 := hnp
 refine vc_seq_k fun N1 h1 => ?_
 refine u_reg ?_
 try refine lg_mk ?_
 iterate 2 refine u_mv ?_
 refine lg_nil ?_
 refine h1 _ ?_; clear h1; try clear N1
 refine vc_seq_k fun N2 h2 => ?_
 refine vc_seq_k fun N3 h3 => ?_
 refine u_reg ?_
 try refine lg_mk ?_
 refine u_mv (hq := by exact so_) ?_
 have hc := call_rule (E := ((E_pr fu kq ku kp).at_ 26)) (f := 78) (sp := Spec.gen tokG) rfl
 have hs := @tokG.eq_1
 refine u_hg (hq := by exact so_) ?_
 refine u_bn (hq := by exact so_) ?_
 refine lg_nil ?_
 refine h3 _ ?_; clear h3; try clear N3
 refine u_cond (fun hb4 => ?_) (fun hb4 => ?_)
 have hb := hb4
 rw [if_neg (by simpa using hb)] at hE
 rw [hE] at hsm
 refine vc_seq_k fun N5 h5 => ?_
 obtain ⟨b, x, s1, hR⟩ := some_of hsm
 have hsn := fun (h : b = true) => ns_fit (t := t) (f := fu) (j := 4) (s := ⟨m, m2, q, c⟩) (s' := s1) (x := x) hws (h ▸ hR) (by dsimp only; omega) htl
 rcases b with _ | _
 have hsn := hR
 have hx := And.intro @hR hx0
 refine u_reg ?_
 try refine lg_mk ?_
 refine u_mv (hq := by (first | (refine ⟨preP_ok (by omega) (by omega) (by omega) (by omega), ?_⟩; first | rfl | (rw [hR]; rfl) | (simp only [dN_rows, Int.toNat_natCast, hR]; rfl)) | exact sd_)) ?_
 have hc := call_rule (E := ((E_pr fu kq ku kp).at_ 26)) (f := 85) (sp := Spec.gen (prsG fu 4)) rfl
 have hs := @prsG.eq_1
 refine u_hg (hq := by (first | (refine ⟨preP_ok (by omega) (by omega) (by omega) (by omega), ?_⟩; first | rfl | (rw [hR]; rfl) | (simp only [dN_rows, Int.toNat_natCast, hR]; rfl)) | exact sd_)) ?_
 refine u_ex (hq := by (first | (refine ⟨preP_ok (by omega) (by omega) (by omega) (by omega), ?_⟩; first | rfl | (rw [hR]; rfl) | (simp only [dN_rows, Int.toNat_natCast, hR]; rfl)) | exact sd_)) ?_
 refine u_ex (hq := by (first | (refine ⟨preP_ok (by omega) (by omega) (by omega) (by omega), ?_⟩; first | rfl | (rw [hR]; rfl) | (simp only [dN_rows, Int.toNat_natCast, hR]; rfl)) | exact sd_)) ?_
 refine u_mv (hq := by (first | (refine ⟨preP_ok (by omega) (by omega) (by omega) (by omega), ?_⟩; first | rfl | (rw [hR]; rfl) | (simp only [dN_rows, Int.toNat_natCast, hR]; rfl)) | exact sd_)) ?_
 refine u_mv (hq := by (first | (refine ⟨preP_ok (by omega) (by omega) (by omega) (by omega), ?_⟩; first | rfl | (rw [hR]; rfl) | (simp only [dN_rows, Int.toNat_natCast, hR]; rfl)) | exact sd_)) ?_
 refine lg_nil ?_
 have hx := hx0
 refine h5 _ ?_; clear h5; try clear N5
 refine vc_ret ?_
 try simp only [k_rules]
 simp only [hE, hR, bindF_f, bindF_t, putN, resX_s, resB_s, resBx_t, resBx_f, addN_len]
 refine fin_ ?_
 refine ⟨[some 0, some 1], by rfl, ?_, ?_⟩
 refine fin_ ?_
 exact cl_
 refine fin_ ?_
 exact cl_
 obtain ⟨n1, n2, n3, n4, n5⟩ := hsn rfl
 have hx := And.intro @hR hx0
 refine u_reg ?_
 try refine lg_mk ?_
 refine u_mv (hq := by (first | (refine ⟨preP_ok (by omega) (by omega) (by omega) (by omega), ?_⟩; first | rfl | (rw [hR]; rfl) | (simp only [dN_rows, Int.toNat_natCast, hR]; rfl)) | exact sd_)) ?_
 have hc := call_rule (E := ((E_pr fu kq ku kp).at_ 26)) (f := 85) (sp := Spec.gen (prsG fu 4)) rfl
 have hs := @prsG.eq_1
 refine u_hg (hq := by (first | (refine ⟨preP_ok (by omega) (by omega) (by omega) (by omega), ?_⟩; first | rfl | (rw [hR]; rfl) | (simp only [dN_rows, Int.toNat_natCast, hR]; rfl)) | exact sd_)) ?_
 refine u_ex (hq := by (first | (refine ⟨preP_ok (by omega) (by omega) (by omega) (by omega), ?_⟩; first | rfl | (rw [hR]; rfl) | (simp only [dN_rows, Int.toNat_natCast, hR]; rfl)) | exact sd_)) ?_
 refine u_ex (hq := by (first | (refine ⟨preP_ok (by omega) (by omega) (by omega) (by omega), ?_⟩; first | rfl | (rw [hR]; rfl) | (simp only [dN_rows, Int.toNat_natCast, hR]; rfl)) | exact sd_)) ?_
 refine u_mv (hq := by (first | (refine ⟨preP_ok (by omega) (by omega) (by omega) (by omega), ?_⟩; first | rfl | (rw [hR]; rfl) | (simp only [dN_rows, Int.toNat_natCast, hR]; rfl)) | exact sd_)) ?_
 refine u_mv (hq := by (first | (refine ⟨preP_ok (by omega) (by omega) (by omega) (by omega), ?_⟩; first | rfl | (rw [hR]; rfl) | (simp only [dN_rows, Int.toNat_natCast, hR]; rfl)) | exact sd_)) ?_
 refine lg_nil ?_
 have hx := hx0
 refine h5 _ ?_; clear h5; try clear N5
 refine vc_ret ?_
 try simp only [k_rules]
 simp only [hE, hR, bindF_f, bindF_t, putN, resX_s, resB_s, resBx_t, resBx_f, addN_len]
 refine fin_ ?_
 refine ⟨[some 0, some 1, some 2], by rfl, ?_, ?_⟩
 refine fin_ ?_
 exact cl_
 refine fin_ ?_
 exact cl_
 have hb := hb4
 rw [if_pos (by simpa using hb)] at hE
 rw [hE] at hsm
 refine vc_skip ?_
 try simp only [k_rules]
 refine h2 _ ?_; clear h2; try clear N2
 refine vc_seq_k fun N6 h6 => ?_
 refine u_reg ?_
 try refine lg_mk ?_
 refine u_mv (hq := by exact so_) ?_
 have hc := call_rule (E := ((E_pr fu kq ku kp).at_ 26)) (f := 56) (sp := Spec.gen scanG) rfl
 have hs := @scanG.eq_1
 refine u_hg (hq := by exact so_) ?_
 refine lg_nil ?_
 refine h6 _ ?_; clear h6; try clear N6
 refine vc_seq_k fun N7 h7 => ?_
 obtain ⟨b, x, s1, hR⟩ := bindF_some hsm
 have hsn := fun (h : b = true) => ns_fit (t := t) (f := fu) (j := 3) (s := ⟨scnP t m2, scnE t (scnP t m2), q, c⟩) (s' := s1) (x := x) hsc (h ▸ hR) (by dsimp only; omega) htl
 rcases b with _ | _
 have hsn := hR
 have hx := And.intro @hR hx0
 refine u_reg ?_
 try refine lg_mk ?_
 refine u_mv (hq := by (first | (refine ⟨preP_ok (by omega) (by omega) (by omega) (by omega), ?_⟩; first | rfl | (rw [hR]; rfl) | (simp only [dN_rows, Int.toNat_natCast, hR]; rfl)) | exact sd_)) ?_
 have hc := call_rule (E := ((E_pr fu kq ku kp).at_ 26)) (f := 77) (sp := Spec.gen (prsG fu 3)) rfl
 have hs := @prsG.eq_1
 refine u_hg (hq := by (first | (refine ⟨preP_ok (by omega) (by omega) (by omega) (by omega), ?_⟩; first | rfl | (rw [hR]; rfl) | (simp only [dN_rows, Int.toNat_natCast, hR]; rfl)) | exact sd_)) ?_
 refine u_mv (hq := by (first | (refine ⟨preP_ok (by omega) (by omega) (by omega) (by omega), ?_⟩; first | rfl | (rw [hR]; rfl) | (simp only [dN_rows, Int.toNat_natCast, hR]; rfl)) | exact sd_)) ?_
 refine u_ex (hq := by (first | (refine ⟨preP_ok (by omega) (by omega) (by omega) (by omega), ?_⟩; first | rfl | (rw [hR]; rfl) | (simp only [dN_rows, Int.toNat_natCast, hR]; rfl)) | exact sd_)) ?_
 refine u_ex (hq := by (first | (refine ⟨preP_ok (by omega) (by omega) (by omega) (by omega), ?_⟩; first | rfl | (rw [hR]; rfl) | (simp only [dN_rows, Int.toNat_natCast, hR]; rfl)) | exact sd_)) ?_
 refine u_mv (hq := by (first | (refine ⟨preP_ok (by omega) (by omega) (by omega) (by omega), ?_⟩; first | rfl | (rw [hR]; rfl) | (simp only [dN_rows, Int.toNat_natCast, hR]; rfl)) | exact sd_)) ?_
 refine u_mv (hq := by (first | (refine ⟨preP_ok (by omega) (by omega) (by omega) (by omega), ?_⟩; first | rfl | (rw [hR]; rfl) | (simp only [dN_rows, Int.toNat_natCast, hR]; rfl)) | exact sd_)) ?_
 refine lg_nil ?_
 have hx := hx0
 refine h7 _ ?_; clear h7; try clear N7
 refine vc_seq_k fun N8 h8 => ?_
 refine vc_seq_k fun N9 h9 => ?_
 refine u_reg ?_
 try refine lg_mk ?_
 refine u_mv ?_
 refine u_un ?_
 refine lg_nil ?_
 refine h9 _ ?_; clear h9; try clear N9
 refine u_cond (fun hb10 => ?_) (fun hb10 => ?_)
 refine vc_seq_k fun N11 h11 => ?_
 refine u_reg ?_
 try refine lg_mk ?_
 iterate 2 refine u_mv ?_
 refine lg_nil ?_
 refine h11 _ ?_; clear h11; try clear N11
 refine vc_ret ?_
 try simp only [k_rules]
 simp only [hE, hR, bindF_f, bindF_t, putN, resX_s, resB_s, resBx_t, resBx_f, addN_len]
 refine fin_ ?_
 refine ⟨[some 0, some 1], by rfl, ?_, ?_⟩
 refine fin_ ?_
 exact cl_
 refine fin_ ?_
 exact cl_
 ·first | omega | exact absurd trivial hb10 | contradiction | (simp_all; done)
 obtain ⟨n1, n2, n3, n4, n5⟩ := hsn rfl
 have hx := And.intro @hR hx0
 refine u_reg ?_
 try refine lg_mk ?_
 refine u_mv (hq := by (first | (refine ⟨preP_ok (by omega) (by omega) (by omega) (by omega), ?_⟩; first | rfl | (rw [hR]; rfl) | (simp only [dN_rows, Int.toNat_natCast, hR]; rfl)) | exact sd_)) ?_
 have hc := call_rule (E := ((E_pr fu kq ku kp).at_ 26)) (f := 77) (sp := Spec.gen (prsG fu 3)) rfl
 have hs := @prsG.eq_1
 refine u_hg (hq := by (first | (refine ⟨preP_ok (by omega) (by omega) (by omega) (by omega), ?_⟩; first | rfl | (rw [hR]; rfl) | (simp only [dN_rows, Int.toNat_natCast, hR]; rfl)) | exact sd_)) ?_
 refine u_mv (hq := by (first | (refine ⟨preP_ok (by omega) (by omega) (by omega) (by omega), ?_⟩; first | rfl | (rw [hR]; rfl) | (simp only [dN_rows, Int.toNat_natCast, hR]; rfl)) | exact sd_)) ?_
 refine u_ex (hq := by (first | (refine ⟨preP_ok (by omega) (by omega) (by omega) (by omega), ?_⟩; first | rfl | (rw [hR]; rfl) | (simp only [dN_rows, Int.toNat_natCast, hR]; rfl)) | exact sd_)) ?_
 refine u_ex (hq := by (first | (refine ⟨preP_ok (by omega) (by omega) (by omega) (by omega), ?_⟩; first | rfl | (rw [hR]; rfl) | (simp only [dN_rows, Int.toNat_natCast, hR]; rfl)) | exact sd_)) ?_
 refine u_mv (hq := by (first | (refine ⟨preP_ok (by omega) (by omega) (by omega) (by omega), ?_⟩; first | rfl | (rw [hR]; rfl) | (simp only [dN_rows, Int.toNat_natCast, hR]; rfl)) | exact sd_)) ?_
 refine u_mv (hq := by (first | (refine ⟨preP_ok (by omega) (by omega) (by omega) (by omega), ?_⟩; first | rfl | (rw [hR]; rfl) | (simp only [dN_rows, Int.toNat_natCast, hR]; rfl)) | exact sd_)) ?_
 refine lg_nil ?_
 have hx := hx0
 refine h7 _ ?_; clear h7; try clear N7
 refine vc_seq_k fun N12 h12 => ?_
 refine vc_seq_k fun N13 h13 => ?_
 refine u_reg ?_
 try refine lg_mk ?_
 refine u_mv ?_
 refine u_un ?_
 refine lg_nil ?_
 refine h13 _ ?_; clear h13; try clear N13
 refine u_cond (fun hb14 => ?_) (fun hb14 => ?_)
 ·first | omega | exact absurd trivial hb14 | contradiction | (simp_all; done)
 refine vc_skip ?_
 try simp only [k_rules]
 refine h12 _ ?_; clear h12; try clear N12
 refine vc_seq_k fun N15 h15 => ?_
 refine u_reg ?_
 try refine lg_mk ?_
 iterate 2 refine u_mv (hq := by exact so_) ?_
 refine u_bd (hq := by exact so_) ?_
 have hc := call_rule (E := ((E_pr fu kq ku kp).at_ 26)) (f := 79) (sp := Spec.gen addG) rfl
 have hs := @addG.eq_1
 refine u_hg (hq := by exact so_) ?_
 iterate 2 refine u_mv (hq := by exact so_) ?_
 refine lg_nil ?_
 refine h15 _ ?_; clear h15; try clear N15
 refine vc_ret ?_
 try simp only [k_rules]
 simp only [hE, hR, bindF_f, bindF_t, putN, resX_s, resB_s, resBx_t, resBx_f, addN_len]
 refine fin_ ?_
 refine ⟨[some 0, some 1, some 3], by rfl, ?_, ?_⟩
 refine fin_ ?_
 exact cl_
 refine fin_ ?_
 exact cl_
 cases hg

theorem take_cases (t : Bs) (m m2 : Nat) (c : Int) (ns : List Nd) (x : Bs) : (takeB t (psO (m : Nat) (m2 : Nat) c) x = true ∧ takeS t (psO (m : Nat) (m2 : Nat) c) x = ⟨scnP t m2, scnE t (scnP t m2), [], c⟩ ∧ takeB t ⟨m, m2, ns, c⟩ x = true ∧ takeS t ⟨m, m2, ns, c⟩ x = ⟨scnP t m2, scnE t (scnP t m2), ns, c⟩) ∨ (takeB t (psO (m : Nat) (m2 : Nat) c) x = false ∧ takeS t (psO (m : Nat) (m2 : Nat) c) x = ⟨m, m2, [], failC c 1⟩ ∧ takeB t ⟨m, m2, ns, c⟩ x = false ∧ takeS t ⟨m, m2, ns, c⟩ x = ⟨m, m2, ns, failC c 1⟩) := by
  have e1 : takeB t (psO (m : Nat) (m2 : Nat) c) x = takeB t ⟨m, m2, ns, c⟩ x := rfl
  cases h : takeB t ⟨m, m2, ns, c⟩ x with
  | true => rw [h] at e1; exact .inl ⟨e1, if_pos e1, rfl, if_pos h⟩
  | false => rw [h] at e1; exact .inr ⟨e1, if_neg (by rw [e1]; simp), rfl, if_neg (by rw [h]; simp)⟩
theorem num_cases (t : Bs) (m m2 : Nat) (c : Int) (ns : List Nd) (k : Int) : ∃ X, numX t (psO (m : Nat) (m2 : Nat) c) k = X ∧ numX t ⟨m, m2, ns, c⟩ k = X ∧ ((numB t (psO (m : Nat) (m2 : Nat) c) k = true ∧ numS t (psO (m : Nat) (m2 : Nat) c) k = ⟨scnP t m2, scnE t (scnP t m2), [], c⟩ ∧ numB t ⟨m, m2, ns, c⟩ k = true ∧ numS t ⟨m, m2, ns, c⟩ k = ⟨scnP t m2, scnE t (scnP t m2), ns, c⟩) ∨ ∃ c', numB t (psO (m : Nat) (m2 : Nat) c) k = false ∧ numS t (psO (m : Nat) (m2 : Nat) c) k = ⟨m, m2, [], c'⟩ ∧ numB t ⟨m, m2, ns, c⟩ k = false ∧ numS t ⟨m, m2, ns, c⟩ k = ⟨m, m2, ns, c'⟩) := by
  have e0 : tokS t (psO (m : Nat) (m2 : Nat) c) = tokS t ⟨m, m2, ns, c⟩ := rfl
  refine ⟨_, rfl, rfl, ?_⟩
  unfold numB numS
  rw [e0]
  cases hn : numV (tokS t ⟨m, m2, ns, c⟩) with
  | none => exact .inr ⟨failC c 1, rfl, rfl, rfl, rfl⟩
  | some n =>
    by_cases hk : n ≤ mostN k
    · refine .inl ⟨decide_eq_true hk, ?_, decide_eq_true hk, ?_⟩ <;> (simp only [if_pos hk]; rfl)
    · refine .inr ⟨failC c 3, decide_eq_false hk, ?_, decide_eq_false hk, ?_⟩ <;> (simp only [if_neg hk]; rfl)
theorem scan_mk (t : Bs) (a b : Nat) (ns : List Nd) (c : Int) : scanS t ⟨a, b, ns, c⟩ = ⟨scnP t b, scnE t (scnP t b), ns, c⟩ := rfl
theorem pF_pr4 (t : Bs) (f : Nat) (s : PS) : pF t (f + 1) 4 s = prF t (pF t f 0) s := by rw [pF]; rfl

theorem pri_step (fu : Nat) (kq : Meets Tryd.prog 57 (Spec.gen (qryG fu))) (ku : Meets Tryd.prog 77 (Spec.gen (prsG fu 3))) (kp : Meets Tryd.prog 85 (Spec.gen (prsG fu 4))) : Meets Tryd.prog 85 (Spec.gen (prsG (fu + 1) 4)) := by
 refine meets_handed ((E_pr fu kq ku kp).at_ 100) Tryd.func85 rfl rfl rfl ?_
 intro args bl p r bf hg hp
 unfold prsG at hg
 split at hg
 rename_i ty t p e n c vt sz xs
 simp only [Option.some.injEq, Prod.mk.injEq] at hg
 obtain ⟨rfl, rfl, rfl⟩ := hg
 obtain ⟨⟨rfl, rfl, rfl, he, rfl, hl, hw⟩, hsm⟩ := hp
 generalize dN xs = q at *
 subst he
 obtain ⟨hp0, hpe, hel, htl⟩ := hw
 obtain ⟨m, rfl⟩ := Int.eq_ofNat_of_zero_le hp0
 obtain ⟨m2, rfl⟩ := Int.eq_ofNat_of_zero_le (by omega : 0 ≤ e)
 have hmt : ((m : Nat) : Int).toNat = m := rfl
 have hmt2 : ((m2 : Nat) : Int).toNat = m2 := rfl
 simp only [Int.toNat_natCast] at hsm ⊢
 have hlq : q.length ≤ m := by omega
 have hws : wfS t ⟨m, m2, q, c⟩ := ⟨by show m ≤ m2; omega, by show m2 ≤ t.length; omega⟩
 have hsc := (scan_pr hws).1
 rw [scan_mk] at hsc
 have hsp : m2 ≤ scnP t m2 := (scnP_le (t := t) (e := m2) (by omega)).1
 have hE := pF_pr4 t fu ⟨m, m2, q, c⟩
 rw [hE] at hsm
 have htl2 := tok_len t m m2
 have hts : tokS t ⟨m, m2, q, c⟩ = tokN t m m2 := rfl
 unfold prF at hE hsm
 rw [hts] at hE hsm
 simp only [scan_mk] at hE hsm
 generalize hP1 : scnP t m2 = P1 at *
 generalize hE1 : scnE t P1 = E1 at *
 have ha0 := hsc.1
 have ha1 := hsc.2
 dsimp only at ha0 ha1
 have hsc2 := (scan_pr hsc).1
 have hb2 := (scnP_le (t := t) (e := E1) ha1).1
 rw [scan_mk] at hsc2
 generalize hP2 : scnP t E1 = P2 at *
 generalize hE2 : scnE t P2 = E2 at *
 have ha2 := hsc2.1
 have ha3 := hsc2.2
 dsimp only at ha2 ha3
 have hsc3 := (scan_pr hsc2).1
 have hb3 := (scnP_le (t := t) (e := E2) ha3).1
 rw [scan_mk] at hsc3
 generalize hP3 : scnP t E2 = P3 at *
 generalize hE3 : scnE t P3 = E3 at *
 have ha4 := hsc3.1
 have ha5 := hsc3.2
 dsimp only at ha4 ha5
 generalize hwd : tokN t m m2 = w at *
 have hT : ((E_pr fu kq ku kp)).X = T := rfl
 have hx0 := And.intro @dec_t (And.intro @dec_f (And.intro @Int.toNat_natCast (And.intro @rdB.eq_1 (And.intro @psB.eq_1 (And.intro @dN_rows (And.intro @rect_eN (And.intro @resX_s (And.intro @resB_s (And.intro @resBx_t (And.intro @resBx_f (And.intro @ps_eta (And.intro @hP1 (And.intro @hE1 (And.intro @hP2 (And.intro @hE2 (And.intro @hP3 (And.intro @hE3 @Tryd.results85)))))))))))))))))
 have hx := hx0
 refine ⟨Nat.le_of_ble_eq_true rfl, ?_⟩
 intro F W0 M0 hnp hmk
 have hnp : Far.np = 2 := hnp
 refine vc_seq_k fun N1 h1 => ?_
 refine u_reg ?_
 try refine lg_mk ?_
 iterate 2 refine u_mv ?_
 refine lg_nil ?_
 refine h1 _ ?_; clear h1; try clear N1
 refine vc_seq_k fun N2 h2 => ?_
 refine u_reg ?_
 try refine lg_mk ?_
 refine u_mv (hq := by exact so_) ?_
 have hc := call_rule (E := ((E_pr fu kq ku kp).at_ 100)) (f := 78) (sp := Spec.gen tokG) rfl
 have hs := @tokG.eq_1
 refine u_hg (hq := by exact so_) ?_
 refine u_mv (hq := by exact so_) ?_
 refine lg_nil ?_
 simp only [hwd]
 refine h2 _ ?_; clear h2; try clear N2
 refine vc_seq_k fun N3 h3 => ?_
 refine u_reg ?_
 try refine lg_mk ?_
 refine u_mv (hq := by exact so_) ?_
 have hc := call_rule (E := ((E_pr fu kq ku kp).at_ 100)) (f := 88) (sp := Spec.pure kindG) rfl
 have hs := @kindG.eq_1
 refine u_cp (hq := by exact so_) ?_
 refine u_mv (hq := by exact so_) ?_
 refine lg_nil ?_
 refine h3 _ ?_; clear h3; try clear N3
 refine vc_seq_k fun N4 h4 => ?_
 refine vc_block ?_
 refine vc_seq_k fun N5 h5 => ?_
 refine u_reg ?_
 try refine lg_mk ?_
 refine u_mv ?_
 refine u_bn ?_
 refine u_mv ?_
 refine lg_nil ?_
 refine h5 _ ?_; clear h5; try clear N5
 refine u_cond (fun hb6 => ?_) (fun hb6 => ?_)
 have hk := hb6
 rw [if_pos (by simpa using hk)] at hE hsm
 refine vc_seq_k fun N7 h7 => ?_
 refine u_reg ?_
 try refine lg_mk ?_
 refine u_mv (hq := by exact so_) ?_
 have hc := call_rule (E := ((E_pr fu kq ku kp).at_ 100)) (f := 56) (sp := Spec.gen scanG) rfl
 have hs := @scanG.eq_1
 refine u_hg (hq := by exact so_) ?_
 refine lg_nil ?_
 refine h7 _ ?_; clear h7; try clear N7
 refine vc_seq_k fun N8 h8 => ?_
 obtain ⟨X, hX1, hX2, hNN⟩ := num_cases t (P1) (E1) c q 3
 rcases hNN with ⟨hB1, hB2, hB3, hB4⟩ | ⟨c', hB1, hB2, hB3, hB4⟩
 simp only [numF, takeF, hB3, hX2, hB4, scan_mk, failS, hP1, hE1, hP2, hE2, hP3, hE3, eq_self, if_true, Bool.false_eq_true, if_false] at hE hsm
 have hx := And.intro @hB1 (And.intro @hB2 (And.intro @hX1 hx0))
 refine u_reg ?_
 try refine lg_mk ?_
 refine u_mv ?_
 have hc := call_rule (E := ((E_pr fu kq ku kp).at_ 100)) (f := 89) (sp := Spec.gen numG) rfl
 have hs := @numG.eq_1
 refine u_hg (hq := by (first | (exact ⟨rfl, by omega, by omega, by omega, htl⟩) | exact sd_)) ?_
 refine u_mv ?_
 iterate 2 refine u_ex ?_
 iterate 2 refine u_mv ?_
 refine lg_nil ?_
 have hx := hx0
 refine h8 _ ?_; clear h8; try clear N8
 refine vc_seq_k fun N9 h9 => ?_
 refine vc_seq_k fun N10 h10 => ?_
 refine u_reg ?_
 try refine lg_mk ?_
 refine u_mv ?_
 refine u_un ?_
 refine lg_nil ?_
 refine h10 _ ?_; clear h10; try clear N10
 refine u_cond (fun hb11 => ?_) (fun hb11 => ?_)
 ·first | omega | exact absurd trivial hb11 | contradiction | (simp_all; done)
 refine vc_skip ?_
 try simp only [k_rules]
 refine h9 _ ?_; clear h9; try clear N9
 refine vc_seq_k fun N12 h12 => ?_
 refine u_reg ?_
 try refine lg_mk ?_
 iterate 2 refine u_mv (hq := by exact so_) ?_
 refine u_bd (hq := by exact so_) ?_
 have hc := call_rule (E := ((E_pr fu kq ku kp).at_ 100)) (f := 79) (sp := Spec.gen addG) rfl
 have hs := @addG.eq_1
 refine u_hg (hq := by exact so_) ?_
 iterate 2 refine u_mv (hq := by exact so_) ?_
 refine lg_nil ?_
 refine h12 _ ?_; clear h12; try clear N12
 refine vc_ret ?_
 try simp only [k_rules]
 simp only [hE, putN, resX_s, resB_s, resBx_t, resBx_f, addN_len, addN_ns]
 refine fin_ ?_
 refine ⟨[some 0, some 1, some 2], by rfl, ?_, ?_⟩
 refine fin_ ?_
 exact cl_
 refine fin_ ?_
 exact cl_
 simp only [numF, takeF, hB3, hX2, hB4, scan_mk, failS, hP1, hE1, hP2, hE2, hP3, hE3, eq_self, if_true, Bool.false_eq_true, if_false] at hE hsm
 have hx := And.intro @hB1 (And.intro @hB2 (And.intro @hX1 hx0))
 refine u_reg ?_
 try refine lg_mk ?_
 refine u_mv ?_
 have hc := call_rule (E := ((E_pr fu kq ku kp).at_ 100)) (f := 89) (sp := Spec.gen numG) rfl
 have hs := @numG.eq_1
 refine u_hg (hq := by (first | (exact ⟨rfl, by omega, by omega, by omega, htl⟩) | exact sd_)) ?_
 refine u_mv ?_
 iterate 2 refine u_ex ?_
 iterate 2 refine u_mv ?_
 refine lg_nil ?_
 have hx := hx0
 refine h8 _ ?_; clear h8; try clear N8
 refine vc_seq_k fun N13 h13 => ?_
 refine vc_seq_k fun N14 h14 => ?_
 refine u_reg ?_
 try refine lg_mk ?_
 refine u_mv ?_
 refine u_un ?_
 refine lg_nil ?_
 refine h14 _ ?_; clear h14; try clear N14
 refine u_cond (fun hb15 => ?_) (fun hb15 => ?_)
 refine vc_seq_k fun N16 h16 => ?_
 refine u_reg ?_
 try refine lg_mk ?_
 iterate 2 refine u_mv ?_
 refine lg_nil ?_
 refine h16 _ ?_; clear h16; try clear N16
 refine vc_ret ?_
 try simp only [k_rules]
 simp only [hE, putN, resX_s, resB_s, resBx_t, resBx_f, addN_len, addN_ns]
 refine fin_ ?_
 refine ⟨[some 0, some 1], by rfl, ?_, ?_⟩
 refine fin_ ?_
 exact cl_
 refine fin_ ?_
 exact cl_
 ·first | omega | exact absurd trivial hb15 | contradiction | (simp_all; done)
 have hk := hb6
 rw [if_neg (by simpa using hk)] at hE hsm
 refine vc_seq_k fun N17 h17 => ?_
 refine u_reg ?_
 try refine lg_mk ?_
 refine u_mv ?_
 refine u_bn ?_
 refine u_mv ?_
 refine lg_nil ?_
 refine h17 _ ?_; clear h17; try clear N17
 refine u_cond (fun hb18 => ?_) (fun hb18 => ?_)
 have hk := hb18
 rw [if_pos (by simpa using hk)] at hE hsm
 refine vc_seq_k fun N19 h19 => ?_
 refine u_reg ?_
 try refine lg_mk ?_
 refine u_mv (hq := by exact so_) ?_
 have hc := call_rule (E := ((E_pr fu kq ku kp).at_ 100)) (f := 56) (sp := Spec.gen scanG) rfl
 have hs := @scanG.eq_1
 refine u_hg (hq := by exact so_) ?_
 refine lg_nil ?_
 refine h19 _ ?_; clear h19; try clear N19
 refine vc_seq_k fun N20 h20 => ?_
 obtain ⟨b, x, s1, hR⟩ := (by cases hh : pF t fu 0 ⟨P1, E1, q, c⟩ with
  | none => rw [hh] at hsm; cases hsm
  | some r => exact ⟨r.1, r.2.1, r.2.2, rfl⟩ : ∃ b x s1, pF t fu 0 ⟨P1, E1, q, c⟩ = some (b, x, s1))
 have hsn := fun (h : b = true) => ns_fit (t := t) (f := fu) (j := 0) (s := ⟨P1, E1, q, c⟩) (s' := s1) (x := x) hsc (h ▸ hR) (by dsimp only; omega) htl
 rcases b with _ | _
 have hsn := hR
 have hx := And.intro @hR hx0
 refine u_reg ?_
 try refine lg_mk ?_
 refine u_mv (hq := by (first | (refine ⟨by decide, by decide, preP_ok (by omega) (by omega) (by omega) (by omega), ?_⟩; first | rfl | (rw [hR]; rfl) | (simp only [dN_rows, Int.toNat_natCast, hR]; rfl)) | exact sd_)) ?_
 have hc := call_rule (E := ((E_pr fu kq ku kp).at_ 100)) (f := 57) (sp := Spec.gen (qryG fu)) rfl
 have hs := @qryG.eq_1
 refine u_hg (hq := by (first | (refine ⟨by decide, by decide, preP_ok (by omega) (by omega) (by omega) (by omega), ?_⟩; first | rfl | (rw [hR]; rfl) | (simp only [dN_rows, Int.toNat_natCast, hR]; rfl)) | exact sd_)) ?_
 refine u_mv (hq := by (first | (refine ⟨by decide, by decide, preP_ok (by omega) (by omega) (by omega) (by omega), ?_⟩; first | rfl | (rw [hR]; rfl) | (simp only [dN_rows, Int.toNat_natCast, hR]; rfl)) | exact sd_)) ?_
 refine u_ex (hq := by (first | (refine ⟨by decide, by decide, preP_ok (by omega) (by omega) (by omega) (by omega), ?_⟩; first | rfl | (rw [hR]; rfl) | (simp only [dN_rows, Int.toNat_natCast, hR]; rfl)) | exact sd_)) ?_
 refine u_ex (hq := by (first | (refine ⟨by decide, by decide, preP_ok (by omega) (by omega) (by omega) (by omega), ?_⟩; first | rfl | (rw [hR]; rfl) | (simp only [dN_rows, Int.toNat_natCast, hR]; rfl)) | exact sd_)) ?_
 refine u_mv (hq := by (first | (refine ⟨by decide, by decide, preP_ok (by omega) (by omega) (by omega) (by omega), ?_⟩; first | rfl | (rw [hR]; rfl) | (simp only [dN_rows, Int.toNat_natCast, hR]; rfl)) | exact sd_)) ?_
 refine u_mv (hq := by (first | (refine ⟨by decide, by decide, preP_ok (by omega) (by omega) (by omega) (by omega), ?_⟩; first | rfl | (rw [hR]; rfl) | (simp only [dN_rows, Int.toNat_natCast, hR]; rfl)) | exact sd_)) ?_
 refine lg_nil ?_
 have hx := hx0
 refine h20 _ ?_; clear h20; try clear N20
 refine vc_seq_k fun N21 h21 => ?_
 refine u_reg ?_
 try refine lg_mk ?_
 iterate 3 refine u_mv ?_
 refine g_mv ?_
 refine lg_g0 ?_ ?_
 focus (exact gt_)
 refine u_pk ?_
 iterate 2 refine u_mv ?_
 refine lg_nil ?_
 refine h21 _ ?_; clear h21; try clear N21
 refine vc_ret ?_
 try simp only [k_rules]
 simp only [hR] at hE
 simp only [hE, putN, resX_s, resB_s, resBx_t, resBx_f, addN_len, addN_ns]
 refine fin_ ?_
 refine ⟨[some 0, some 1], by rfl, ?_, ?_⟩
 refine fin_ ?_
 exact cl_
 refine fin_ ?_
 exact cl_
 obtain ⟨n1, n2, n3, n4, n5⟩ := hsn rfl
 have hx := And.intro @hR hx0
 refine u_reg ?_
 try refine lg_mk ?_
 refine u_mv (hq := by (first | (refine ⟨by decide, by decide, preP_ok (by omega) (by omega) (by omega) (by omega), ?_⟩; first | rfl | (rw [hR]; rfl) | (simp only [dN_rows, Int.toNat_natCast, hR]; rfl)) | exact sd_)) ?_
 have hc := call_rule (E := ((E_pr fu kq ku kp).at_ 100)) (f := 57) (sp := Spec.gen (qryG fu)) rfl
 have hs := @qryG.eq_1
 refine u_hg (hq := by (first | (refine ⟨by decide, by decide, preP_ok (by omega) (by omega) (by omega) (by omega), ?_⟩; first | rfl | (rw [hR]; rfl) | (simp only [dN_rows, Int.toNat_natCast, hR]; rfl)) | exact sd_)) ?_
 refine u_mv (hq := by (first | (refine ⟨by decide, by decide, preP_ok (by omega) (by omega) (by omega) (by omega), ?_⟩; first | rfl | (rw [hR]; rfl) | (simp only [dN_rows, Int.toNat_natCast, hR]; rfl)) | exact sd_)) ?_
 refine u_ex (hq := by (first | (refine ⟨by decide, by decide, preP_ok (by omega) (by omega) (by omega) (by omega), ?_⟩; first | rfl | (rw [hR]; rfl) | (simp only [dN_rows, Int.toNat_natCast, hR]; rfl)) | exact sd_)) ?_
 refine u_ex (hq := by (first | (refine ⟨by decide, by decide, preP_ok (by omega) (by omega) (by omega) (by omega), ?_⟩; first | rfl | (rw [hR]; rfl) | (simp only [dN_rows, Int.toNat_natCast, hR]; rfl)) | exact sd_)) ?_
 refine u_mv (hq := by (first | (refine ⟨by decide, by decide, preP_ok (by omega) (by omega) (by omega) (by omega), ?_⟩; first | rfl | (rw [hR]; rfl) | (simp only [dN_rows, Int.toNat_natCast, hR]; rfl)) | exact sd_)) ?_
 refine u_mv (hq := by (first | (refine ⟨by decide, by decide, preP_ok (by omega) (by omega) (by omega) (by omega), ?_⟩; first | rfl | (rw [hR]; rfl) | (simp only [dN_rows, Int.toNat_natCast, hR]; rfl)) | exact sd_)) ?_
 refine lg_nil ?_
 have hx := hx0
 refine h20 _ ?_; clear h20; try clear N20
 refine vc_seq_k fun N22 h22 => ?_
 rcases take_cases t (s1.p) (s1.e) (s1.c) s1.ns [41] with ⟨hB1, hB2, hB3, hB4⟩ | ⟨hB1, hB2, hB3, hB4⟩
 simp only [hR] at hE hsm
 have hB3 : takeB t s1 [41] = true := hB3
 have hB4 : takeS t s1 [41] = ⟨scnP t s1.e, scnE t (scnP t s1.e), s1.ns, s1.c⟩ := hB4
 have hS1 : scanS t s1 = ⟨scnP t s1.e, scnE t (scnP t s1.e), s1.ns, s1.c⟩ := rfl
 simp only [takeF, hB3, hB4, hS1, failS, eq_self, if_true, Bool.false_eq_true, if_false] at hE hsm
 have hx := And.intro @hB1 (And.intro @hB2 hx0)
 refine u_reg ?_
 try refine lg_mk ?_
 iterate 3 refine u_mv ?_
 refine g_mv ?_
 have hc := call_rule (E := ((E_pr fu kq ku kp).at_ 100)) (f := 90) (sp := Spec.gen takeG) rfl
 have hs := @takeG.eq_1
 refine t_hg (hq := by (first | (exact ⟨rfl, by omega, by omega, by omega, htl⟩) | exact sd_)) ?_
 refine u_pk ?_
 iterate 2 refine u_mv ?_
 refine lg_nil ?_
 have hx := hx0
 refine h22 _ ?_; clear h22; try clear N22
 refine vc_ret ?_
 try simp only [k_rules]
 simp only [hE, putN, resX_s, resB_s, resBx_t, resBx_f, addN_len, addN_ns]
 refine fin_ ?_
 refine ⟨[some 0, some 1, some 2], by rfl, ?_, ?_⟩
 refine fin_ ?_
 exact cl_
 refine fin_ ?_
 exact cl_
 simp only [hR] at hE hsm
 have hB3 : takeB t s1 [41] = false := hB3
 have hB4 : takeS t s1 [41] = ⟨s1.p, s1.e, s1.ns, failC s1.c 1⟩ := hB4
 have hS1 : scanS t s1 = ⟨scnP t s1.e, scnE t (scnP t s1.e), s1.ns, s1.c⟩ := rfl
 simp only [takeF, hB3, hB4, hS1, failS, eq_self, if_true, Bool.false_eq_true, if_false] at hE hsm
 have hx := And.intro @hB1 (And.intro @hB2 hx0)
 refine u_reg ?_
 try refine lg_mk ?_
 iterate 3 refine u_mv ?_
 refine g_mv ?_
 have hc := call_rule (E := ((E_pr fu kq ku kp).at_ 100)) (f := 90) (sp := Spec.gen takeG) rfl
 have hs := @takeG.eq_1
 refine t_hg (hq := by (first | (exact ⟨rfl, by omega, by omega, by omega, htl⟩) | exact sd_)) ?_
 refine u_pk ?_
 iterate 2 refine u_mv ?_
 refine lg_nil ?_
 have hx := hx0
 refine h22 _ ?_; clear h22; try clear N22
 refine vc_ret ?_
 try simp only [k_rules]
 simp only [hE, putN, resX_s, resB_s, resBx_t, resBx_f, addN_len, addN_ns]
 refine fin_ ?_
 refine ⟨[some 0, some 1], by rfl, ?_, ?_⟩
 refine fin_ ?_
 exact cl_
 refine fin_ ?_
 exact cl_
 have hk := hb18
 rw [if_neg (by simpa using hk)] at hE hsm
 refine vc_seq_k fun N23 h23 => ?_
 refine u_reg ?_
 try refine lg_mk ?_
 refine u_mv ?_
 refine u_bn ?_
 refine u_mv ?_
 refine lg_nil ?_
 refine h23 _ ?_; clear h23; try clear N23
 refine u_cond (fun hb24 => ?_) (fun hb24 => ?_)
 have hk := hb24
 rw [if_pos (by omega)] at hE hsm
 simp only [failS] at hE
 refine vc_seq_k fun N25 h25 => ?_
 refine u_reg ?_
 try refine lg_mk ?_
 refine u_mv ?_
 have hc := call_rule (E := ((E_pr fu kq ku kp).at_ 100)) (f := 58) (sp := Spec.gen failG) rfl
 have hs := @failG.eq_1
 refine u_hg ?_
 iterate 2 refine u_mv ?_
 refine lg_nil ?_
 refine h25 _ ?_; clear h25; try clear N25
 refine vc_ret ?_
 try simp only [k_rules]
 simp only [hE, putN, resX_s, resB_s, resBx_t, resBx_f, addN_len, addN_ns]
 refine fin_ ?_
 refine ⟨[some 0, some 1], by rfl, ?_, ?_⟩
 refine fin_ ?_
 exact cl_
 refine fin_ ?_
 exact cl_
 have hk := hb24
 rw [if_neg (by omega)] at hE hsm
 refine vc_skip ?_
 try simp only [k_rules]
 refine h4 _ ?_; clear h4; try clear N4
 refine vc_seq_k fun N26 h26 => ?_
 refine u_reg ?_
 try refine lg_mk ?_
 refine u_mv (hq := by exact so_) ?_
 have hc := call_rule (E := ((E_pr fu kq ku kp).at_ 100)) (f := 56) (sp := Spec.gen scanG) rfl
 have hs := @scanG.eq_1
 refine u_hg (hq := by exact so_) ?_
 refine lg_nil ?_
 refine h26 _ ?_; clear h26; try clear N26
 refine vc_seq_k fun N27 h27 => ?_
 refine vc_seq_k fun N28 h28 => ?_
 refine u_reg ?_
 try refine lg_mk ?_
 refine u_mv ?_
 refine u_bn ?_
 refine u_mv ?_
 refine g_mv ?_
 refine g_bn ?_
 refine u_pk ?_
 refine u_mv ?_
 refine g_mv ?_
 refine g_bn ?_
 refine u_pk ?_
 refine lg_nil ?_
 refine h28 _ ?_; clear h28; try clear N28
 refine u_cond (fun hb29 => ?_) (fun hb29 => ?_)
 have hk := hb29
 rw [if_pos (by (try simp at hk); omega)] at hE hsm
 refine vc_seq_k fun N30 h30 => ?_
 refine u_reg ?_
 try refine lg_mk ?_
 iterate 2 refine u_mv (hq := by exact so_) ?_
 refine u_bd (hq := by exact so_) ?_
 have hc := call_rule (E := ((E_pr fu kq ku kp).at_ 100)) (f := 79) (sp := Spec.gen addG) rfl
 have hs := @addG.eq_1
 refine u_hg (hq := by exact so_) ?_
 iterate 2 refine u_mv (hq := by exact so_) ?_
 refine lg_nil ?_
 refine h30 _ ?_; clear h30; try clear N30
 refine vc_ret ?_
 try simp only [k_rules]
 simp only [hE, putN, resX_s, resB_s, resBx_t, resBx_f, addN_len, addN_ns]
 refine fin_ ?_
 refine ⟨[some 0, some 1, some 2], by rfl, ?_, ?_⟩
 refine fin_ ?_
 exact cl_
 refine fin_ ?_
 exact cl_
 have hk := hb29
 rw [if_neg (by (try simp at hk); omega)] at hE hsm
 refine vc_skip ?_
 try simp only [k_rules]
 refine h27 _ ?_; clear h27; try clear N27
 refine vc_seq_k fun N31 h31 => ?_
 refine vc_seq_k fun N32 h32 => ?_
 rcases take_cases t (P1) (E1) (c) q [40] with ⟨hB1, hB2, hB3, hB4⟩ | ⟨hB1, hB2, hB3, hB4⟩
 simp only [takeF, hB3, scan_mk, failS, hP1, hE1, hP2, hE2, hP3, hE3, eq_self, if_true, Bool.false_eq_true, if_false] at hE hsm
 have hx := And.intro @hB1 (And.intro @hB2 hx0)
 refine u_reg ?_
 try refine lg_mk ?_
 refine u_mv ?_
 have hc := call_rule (E := ((E_pr fu kq ku kp).at_ 100)) (f := 90) (sp := Spec.gen takeG) rfl
 have hs := @takeG.eq_1
 refine u_hg (hq := by (first | (exact ⟨rfl, by omega, by omega, by omega, htl⟩) | exact sd_)) ?_
 refine u_un ?_
 refine lg_nil ?_
 have hx := hx0
 refine h32 _ ?_; clear h32; try clear N32
 refine u_cond (fun hb33 => ?_) (fun hb33 => ?_)
 ·first | omega | exact absurd trivial hb33 | contradiction | (simp_all; done)
 refine vc_skip ?_
 try simp only [k_rules]
 refine h31 _ ?_; clear h31; try clear N31
 refine vc_seq_k fun N34 h34 => ?_
 refine u_reg ?_
 try refine lg_mk ?_
 refine u_mv ?_
 refine u_bd ?_
 refine u_al ?_
 refine u_st ?_
 refine lg_nil ?_
 refine h34 _ ?_; clear h34; try clear N34
 refine vc_seq_k fun N35 h35 => ?_
 refine u_reg ?_
 try refine lg_mk ?_
 refine u_mv ?_
 refine lg_nil ?_
 refine h35 _ ?_; clear h35; try clear N35
 refine vc_seq_k fun N36 h36 => ?_
 refine vc_seq_k fun N37 h37 => ?_
 refine u_reg ?_
 try refine lg_mk ?_
 refine u_mv ?_
 have hc := call_rule (E := ((E_pr fu kq ku kp).at_ 100)) (f := 47) (sp := Spec.pure arG) rfl
 have hs := @arG.eq_1
 refine u_cp ?_
 refine u_bn ?_
 refine lg_nil ?_
 refine h37 _ ?_; clear h37; try clear N37
 refine u_cond (fun hb38 => ?_) (fun hb38 => ?_)
 have hk := hb38
 rw [if_pos (by omega)] at hE hsm
 obtain ⟨X, hX1, hX2, hNN⟩ := num_cases t (P2) (E2) c q (kindN w : Nat)
 rcases hNN with ⟨hB1, hB2, hB3, hB4⟩ | ⟨c', hB1, hB2, hB3, hB4⟩
 simp only [numF, takeF, hB3, hX2, hB4, scan_mk, failS, hP1, hE1, hP2, hE2, hP3, hE3, eq_self, if_true, Bool.false_eq_true, if_false] at hE hsm
 have hx := And.intro @hB1 (And.intro @hB2 (And.intro @hX1 hx0))
 refine u_reg ?_
 try refine lg_mk ?_
 iterate 2 refine u_mv ?_
 have hc := call_rule (E := ((E_pr fu kq ku kp).at_ 100)) (f := 89) (sp := Spec.gen numG) rfl
 have hs := @numG.eq_1
 refine u_hg (hq := by (first | (exact ⟨rfl, by omega, by omega, by omega, htl⟩) | exact sd_)) ?_
 refine u_mv ?_
 iterate 2 refine u_ex ?_
 refine u_pt ?_
 refine u_st ?_
 refine u_mv ?_
 refine lg_nil ?_
 have hx := hx0
 refine h36 _ ?_; clear h36; try clear N36
 refine vc_seq_k fun N39 h39 => ?_
 refine vc_seq_k fun N40 h40 => ?_
 rcases take_cases t (P3) (E3) (c) q [41] with ⟨hB1, hB2, hB3, hB4⟩ | ⟨hB1, hB2, hB3, hB4⟩
 simp only [takeF, hB3, scan_mk, failS, hP1, hE1, hP2, hE2, hP3, hE3, eq_self, if_true, Bool.false_eq_true, if_false] at hE hsm
 have hx := And.intro @hB1 (And.intro @hB2 hx0)
 refine u_reg ?_
 try refine lg_mk ?_
 refine u_mv ?_
 refine u_un ?_
 refine u_mv ?_
 refine g_mv ?_
 have hc := call_rule (E := ((E_pr fu kq ku kp).at_ 100)) (f := 90) (sp := Spec.gen takeG) rfl
 have hs := @takeG.eq_1
 refine t_hg (hq := by (first | (exact ⟨rfl, by omega, by omega, by omega, htl⟩) | exact sd_)) ?_
 refine g_un ?_
 refine u_pk ?_
 refine lg_nil ?_
 have hx := hx0
 refine h40 _ ?_; clear h40; try clear N40
 refine u_cond (fun hb41 => ?_) (fun hb41 => ?_)
 ·first | omega | exact absurd trivial hb41 | contradiction | (simp_all; done)
 refine vc_skip ?_
 try simp only [k_rules]
 refine h39 _ ?_; clear h39; try clear N39
 refine vc_seq_k fun N42 h42 => ?_
 refine u_reg ?_
 try refine lg_mk ?_
 refine u_mv (hq := by exact so_) ?_
 refine u_ld (hq := by exact so_) ?_
 have hc := call_rule (E := ((E_pr fu kq ku kp).at_ 100)) (f := 79) (sp := Spec.gen addG) rfl
 have hs := @addG.eq_1
 refine u_hg (hq := by exact so_) ?_
 iterate 2 refine u_mv (hq := by exact so_) ?_
 refine lg_nil ?_
 refine h42 _ ?_; clear h42; try clear N42
 refine vc_ret ?_
 try simp only [k_rules]
 simp only [hE, putN, resX_s, resB_s, resBx_t, resBx_f, addN_len, addN_ns]
 refine fin_ ?_
 refine ⟨[some 0, some 1, some 3], by rfl, ?_, ?_⟩
 refine fin_ ?_
 exact cl_
 refine fin_ ?_
 exact cl_
 simp only [takeF, hB3, scan_mk, failS, hP1, hE1, hP2, hE2, hP3, hE3, eq_self, if_true, Bool.false_eq_true, if_false] at hE hsm
 have hx := And.intro @hB1 (And.intro @hB2 hx0)
 refine u_reg ?_
 try refine lg_mk ?_
 refine u_mv ?_
 refine u_un ?_
 refine u_mv ?_
 refine g_mv ?_
 have hc := call_rule (E := ((E_pr fu kq ku kp).at_ 100)) (f := 90) (sp := Spec.gen takeG) rfl
 have hs := @takeG.eq_1
 refine t_hg (hq := by (first | (exact ⟨rfl, by omega, by omega, by omega, htl⟩) | exact sd_)) ?_
 refine g_un ?_
 refine u_pk ?_
 refine lg_nil ?_
 have hx := hx0
 refine h40 _ ?_; clear h40; try clear N40
 refine u_cond (fun hb43 => ?_) (fun hb43 => ?_)
 refine vc_seq_k fun N44 h44 => ?_
 refine u_reg ?_
 try refine lg_mk ?_
 iterate 2 refine u_mv ?_
 refine lg_nil ?_
 refine h44 _ ?_; clear h44; try clear N44
 refine vc_ret ?_
 try simp only [k_rules]
 simp only [hE, putN, resX_s, resB_s, resBx_t, resBx_f, addN_len, addN_ns]
 refine fin_ ?_
 refine ⟨[some 0, some 1], by rfl, ?_, ?_⟩
 refine fin_ ?_
 exact cl_
 refine fin_ ?_
 exact cl_
 ·first | omega | exact absurd trivial hb43 | contradiction | (simp_all; done)
 simp only [numF, takeF, hB3, hX2, hB4, scan_mk, failS, hP1, hE1, hP2, hE2, hP3, hE3, eq_self, if_true, Bool.false_eq_true, if_false] at hE hsm
 have hx := And.intro @hB1 (And.intro @hB2 (And.intro @hX1 hx0))
 refine u_reg ?_
 try refine lg_mk ?_
 iterate 2 refine u_mv ?_
 have hc := call_rule (E := ((E_pr fu kq ku kp).at_ 100)) (f := 89) (sp := Spec.gen numG) rfl
 have hs := @numG.eq_1
 refine u_hg (hq := by (first | (exact ⟨rfl, by omega, by omega, by omega, htl⟩) | exact sd_)) ?_
 refine u_mv ?_
 iterate 2 refine u_ex ?_
 refine u_pt ?_
 refine u_st ?_
 refine u_mv ?_
 refine lg_nil ?_
 have hx := hx0
 refine h36 _ ?_; clear h36; try clear N36
 refine vc_seq_k fun N45 h45 => ?_
 refine vc_seq_k fun N46 h46 => ?_
 refine u_reg ?_
 try refine lg_mk ?_
 refine u_mv ?_
 refine u_un ?_
 refine u_mv ?_
 refine g_mv ?_
 refine lg_g0 ?_ ?_
 focus (exact gt_)
 refine g_un ?_
 refine u_pk ?_
 refine lg_nil ?_
 refine h46 _ ?_; clear h46; try clear N46
 refine u_cond (fun hb47 => ?_) (fun hb47 => ?_)
 refine vc_seq_k fun N48 h48 => ?_
 refine u_reg ?_
 try refine lg_mk ?_
 iterate 2 refine u_mv ?_
 refine lg_nil ?_
 refine h48 _ ?_; clear h48; try clear N48
 refine vc_ret ?_
 try simp only [k_rules]
 simp only [hE, putN, resX_s, resB_s, resBx_t, resBx_f, addN_len, addN_ns]
 refine fin_ ?_
 refine ⟨[some 0, some 1], by rfl, ?_, ?_⟩
 refine fin_ ?_
 exact cl_
 refine fin_ ?_
 exact cl_
 ·first | omega | exact absurd trivial hb47 | contradiction | (simp_all; done)
 have hk := hb38
 rw [if_neg (by omega)] at hE hsm
 obtain ⟨b, x, s1, hR⟩ := bindF_some hsm
 have hsn := fun (h : b = true) => ns_fit (t := t) (f := fu) (j := 0) (s := ⟨P2, E2, q, c⟩) (s' := s1) (x := x) hsc2 (h ▸ hR) (by dsimp only; omega) htl
 rcases b with _ | _
 have hsn := hR
 have hx := And.intro @hR hx0
 refine u_reg ?_
 try refine lg_mk ?_
 refine u_mv ?_
 have hc := call_rule (E := ((E_pr fu kq ku kp).at_ 100)) (f := 57) (sp := Spec.gen (qryG fu)) rfl
 have hs := @qryG.eq_1
 refine u_hg (hq := by (first | (refine ⟨by decide, by decide, preP_ok (by omega) (by omega) (by omega) (by omega), ?_⟩; first | rfl | (rw [hR]; rfl) | (simp only [dN_rows, Int.toNat_natCast, hR]; rfl)) | exact sd_)) ?_
 refine u_mv ?_
 iterate 2 refine u_ex ?_
 refine u_pt ?_
 refine u_st ?_
 refine u_mv ?_
 refine lg_nil ?_
 have hx := hx0
 refine h36 _ ?_; clear h36; try clear N36
 refine vc_seq_k fun N49 h49 => ?_
 refine vc_seq_k fun N50 h50 => ?_
 refine u_reg ?_
 try refine lg_mk ?_
 refine u_mv ?_
 refine u_un ?_
 refine u_mv ?_
 refine g_mv ?_
 refine lg_g0 ?_ ?_
 focus (exact gt_)
 refine g_un ?_
 refine u_pk ?_
 refine lg_nil ?_
 refine h50 _ ?_; clear h50; try clear N50
 refine u_cond (fun hb51 => ?_) (fun hb51 => ?_)
 refine vc_seq_k fun N52 h52 => ?_
 refine u_reg ?_
 try refine lg_mk ?_
 iterate 2 refine u_mv ?_
 refine lg_nil ?_
 refine h52 _ ?_; clear h52; try clear N52
 refine vc_ret ?_
 try simp only [k_rules]
 simp only [hR, bindF_f] at hE
 simp only [hE, putN, resX_s, resB_s, resBx_t, resBx_f, addN_len, addN_ns]
 refine fin_ ?_
 refine ⟨[some 0, some 1], by rfl, ?_, ?_⟩
 refine fin_ ?_
 exact cl_
 refine fin_ ?_
 exact cl_
 ·first | omega | exact absurd trivial hb51 | contradiction | (simp_all; done)
 obtain ⟨n1, n2, n3, n4, n5⟩ := hsn rfl
 have hx := And.intro @hR hx0
 refine u_reg ?_
 try refine lg_mk ?_
 refine u_mv ?_
 have hc := call_rule (E := ((E_pr fu kq ku kp).at_ 100)) (f := 57) (sp := Spec.gen (qryG fu)) rfl
 have hs := @qryG.eq_1
 refine u_hg (hq := by (first | (refine ⟨by decide, by decide, preP_ok (by omega) (by omega) (by omega) (by omega), ?_⟩; first | rfl | (rw [hR]; rfl) | (simp only [dN_rows, Int.toNat_natCast, hR]; rfl)) | exact sd_)) ?_
 refine u_mv ?_
 iterate 2 refine u_ex ?_
 refine u_pt ?_
 refine u_st ?_
 refine u_mv ?_
 refine lg_nil ?_
 have hx := hx0
 refine h36 _ ?_; clear h36; try clear N36
 refine vc_seq_k fun N53 h53 => ?_
 refine vc_seq_k fun N54 h54 => ?_
 rcases take_cases t (s1.p) (s1.e) (s1.c) s1.ns [41] with ⟨hB1, hB2, hB3, hB4⟩ | ⟨hB1, hB2, hB3, hB4⟩
 simp only [hR, bindF_t] at hE hsm
 have hB3 : takeB t s1 [41] = true := hB3
 have hB4 : takeS t s1 [41] = ⟨scnP t s1.e, scnE t (scnP t s1.e), s1.ns, s1.c⟩ := hB4
 have hS1 : scanS t s1 = ⟨scnP t s1.e, scnE t (scnP t s1.e), s1.ns, s1.c⟩ := rfl
 simp only [takeF, hB3, hB4, hS1, failS, eq_self, if_true, Bool.false_eq_true, if_false] at hE hsm
 have hx := And.intro @hB1 (And.intro @hB2 hx0)
 refine u_reg ?_
 try refine lg_mk ?_
 refine u_mv ?_
 refine u_un ?_
 refine u_mv ?_
 refine g_mv ?_
 have hc := call_rule (E := ((E_pr fu kq ku kp).at_ 100)) (f := 90) (sp := Spec.gen takeG) rfl
 have hs := @takeG.eq_1
 refine t_hg (hq := by (first | (exact ⟨rfl, by omega, by omega, by omega, htl⟩) | exact sd_)) ?_
 refine g_un ?_
 refine u_pk ?_
 refine lg_nil ?_
 have hx := hx0
 refine h54 _ ?_; clear h54; try clear N54
 refine u_cond (fun hb55 => ?_) (fun hb55 => ?_)
 ·first | omega | exact absurd trivial hb55 | contradiction | (simp_all; done)
 refine vc_skip ?_
 try simp only [k_rules]
 refine h53 _ ?_; clear h53; try clear N53
 refine vc_seq_k fun N56 h56 => ?_
 refine u_reg ?_
 try refine lg_mk ?_
 refine u_mv (hq := by exact so_) ?_
 refine u_ld (hq := by exact so_) ?_
 have hc := call_rule (E := ((E_pr fu kq ku kp).at_ 100)) (f := 79) (sp := Spec.gen addG) rfl
 have hs := @addG.eq_1
 refine u_hg (hq := by exact so_) ?_
 iterate 2 refine u_mv (hq := by exact so_) ?_
 refine lg_nil ?_
 refine h56 _ ?_; clear h56; try clear N56
 refine vc_ret ?_
 try simp only [k_rules]
 simp only [hE, putN, resX_s, resB_s, resBx_t, resBx_f, addN_len, addN_ns]
 refine fin_ ?_
 refine ⟨[some 0, some 1, some 4], by rfl, ?_, ?_⟩
 refine fin_ ?_
 exact cl_
 refine fin_ ?_
 exact cl_
 simp only [hR, bindF_t] at hE hsm
 have hB3 : takeB t s1 [41] = false := hB3
 have hB4 : takeS t s1 [41] = ⟨s1.p, s1.e, s1.ns, failC s1.c 1⟩ := hB4
 have hS1 : scanS t s1 = ⟨scnP t s1.e, scnE t (scnP t s1.e), s1.ns, s1.c⟩ := rfl
 simp only [takeF, hB3, hB4, hS1, failS, eq_self, if_true, Bool.false_eq_true, if_false] at hE hsm
 have hx := And.intro @hB1 (And.intro @hB2 hx0)
 refine u_reg ?_
 try refine lg_mk ?_
 refine u_mv ?_
 refine u_un ?_
 refine u_mv ?_
 refine g_mv ?_
 have hc := call_rule (E := ((E_pr fu kq ku kp).at_ 100)) (f := 90) (sp := Spec.gen takeG) rfl
 have hs := @takeG.eq_1
 refine t_hg (hq := by (first | (exact ⟨rfl, by omega, by omega, by omega, htl⟩) | exact sd_)) ?_
 refine g_un ?_
 refine u_pk ?_
 refine lg_nil ?_
 have hx := hx0
 refine h54 _ ?_; clear h54; try clear N54
 refine u_cond (fun hb57 => ?_) (fun hb57 => ?_)
 refine vc_seq_k fun N58 h58 => ?_
 refine u_reg ?_
 try refine lg_mk ?_
 iterate 2 refine u_mv ?_
 refine lg_nil ?_
 refine h58 _ ?_; clear h58; try clear N58
 refine vc_ret ?_
 try simp only [k_rules]
 simp only [hE, putN, resX_s, resB_s, resBx_t, resBx_f, addN_len, addN_ns]
 refine fin_ ?_
 refine ⟨[some 0, some 1], by rfl, ?_, ?_⟩
 refine fin_ ?_
 exact cl_
 refine fin_ ?_
 exact cl_
 ·first | omega | exact absurd trivial hb57 | contradiction | (simp_all; done)
 simp only [takeF, hB3, scan_mk, failS, hP1, hE1, hP2, hE2, hP3, hE3, eq_self, if_true, Bool.false_eq_true, if_false] at hE hsm
 have hx := And.intro @hB1 (And.intro @hB2 hx0)
 refine u_reg ?_
 try refine lg_mk ?_
 refine u_mv ?_
 have hc := call_rule (E := ((E_pr fu kq ku kp).at_ 100)) (f := 90) (sp := Spec.gen takeG) rfl
 have hs := @takeG.eq_1
 refine u_hg (hq := by (first | (exact ⟨rfl, by omega, by omega, by omega, htl⟩) | exact sd_)) ?_
 refine u_un ?_
 refine lg_nil ?_
 have hx := hx0
 refine h32 _ ?_; clear h32; try clear N32
 refine u_cond (fun hb59 => ?_) (fun hb59 => ?_)
 refine vc_seq_k fun N60 h60 => ?_
 refine u_reg ?_
 try refine lg_mk ?_
 iterate 2 refine u_mv ?_
 refine lg_nil ?_
 refine h60 _ ?_; clear h60; try clear N60
 refine vc_ret ?_
 try simp only [k_rules]
 simp only [hE, putN, resX_s, resB_s, resBx_t, resBx_f, addN_len, addN_ns]
 refine fin_ ?_
 refine ⟨[some 0, some 1], by rfl, ?_, ?_⟩
 refine fin_ ?_
 exact cl_
 refine fin_ ?_
 exact cl_
 ·first | omega | exact absurd trivial hb59 | contradiction | (simp_all; done)
 cases hg
end Go.Proofs.YtlbjffdaooadoaaDoor
