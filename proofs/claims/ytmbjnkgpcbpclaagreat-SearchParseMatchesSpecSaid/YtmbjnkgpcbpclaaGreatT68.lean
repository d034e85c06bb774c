/- Walks, printed by wip/gen/walk.py. -/
import Derived.Test.YtmbjnkgpcbpclaaGreatT67
import Derived.Test.YtmbjnkgpcbpclaaGreatV5
set_option linter.all false
set_option maxRecDepth 100000
set_option maxHeartbeats 4000000
namespace Go.Proofs.YtmbjnkgpcbpclaaGreat
open Go Go.Vc Go.RowKit
def rX (r : PR) : Int := match r with | some (_, _, x) => (x : Int) | none => 0
def rBx (t : Bs) (r : PR) : List (Option Box) := match r with
  | some (a, ns, _) => [rdS t (a : Nat) (.sl 2 0 ns.length), none, some (.vec 55 4 (rows eSn ns))]
  | none => [none, none, none]
theorem rX_s (a : Nat) (ns : List Sn) (x : Nat) : rX (some (a, ns, x)) = (x : Int) := rfl
theorem rBx_s (t : Bs) (a : Nat) (ns : List Sn) (x : Nat) : rBx t (some (a, ns, x)) = [rdS t (a : Nat) (.sl 2 0 ns.length), none, some (.vec 55 4 (rows eSn ns))] := rfl
theorem someR {r : PR} (h : r.isSome = true) : ∃ a ns x, r = some (a, ns, x) := by
  match r, h with
  | some (a, ns, x), _ => exact ⟨a, ns, x, rfl⟩
def quoG : GFun
  | [.ptr 0 0 0], [some (.one ty [.d (.str t), .d (.int .i64 a), .sl 1 0 n]), some (.vec vt sz xs)] => some (preS ty vt sz n t a xs ∧ a < t.length ∧ (qtR t a.toNat (dSn xs)).isSome = true, .d (.int .i64 (rX (qtR t a.toNat (dSn xs)))), rBx t (qtR t a.toNat (dSn xs)))
  | _, _ => none
theorem qt_some {t : Bs} {a : Nat} {ns : List Sn} (h : (qtR t a ns).isSome = true) : ∃ e S, qd t (t.length + 1) (a + 1) [] = some (e, S) ∧ okT S = true ∧ e < t.length ∧ a + 1 ≤ e ∧ S.length ≤ e - (a + 1) ∧ qtR t a ns = some (e + 1, ns ++ [⟨1, S, 0, 0⟩], ns.length) := by
  unfold qtR at h
  split at h
  · rename_i e S he
    have := qd_fit he
    split at h
    · rename_i ho
      exact ⟨e, S, he, ho, this.2.1, this.1, by simpa using this.2.2, by unfold qtR; rw [he]; exact if_pos ho⟩
    · cases h
  · cases h
def ndP (i : Nat) : Bool → AV
  | true => .ptr i 0 0
  | false => .d .nilp
theorem ndP_t (i : Nat) : ndP i true = .ptr i 0 0 := rfl
theorem ndP_f (i : Nat) : ndP i false = .d .nilp := rfl
theorem ofN_u (c : UInt8) : UInt8.ofNat c.toNat = c := by simp
theorem qd_s {t : Bs} {f a : Nat} {s : Bs} {c : UInt8} {z : Nat × Bs} (hc : t[a]? = some c) (h : qd t (f + 1) a s = some z) : (c = 34 ∧ z = (a, s)) ∨ (c ≠ 34 ∧ c ≠ 10 ∧ c ≠ 92 ∧ qd t f (a + 1) (s ++ [c]) = some z) ∨ (c = 92 ∧ ∃ d, t[a + 1]? = some d ∧ (d = 34 ∨ d = 92) ∧ qd t f (a + 2) (s ++ [d]) = some z) := by
  unfold qd at h
  rw [hc] at h
  dsimp only at h
  split at h
  · rename_i h34; cases h; exact .inl ⟨h34, rfl⟩
  · rename_i h34
    split at h
    · cases h
    · rename_i h10
      split at h
      · rename_i h92
        split at h
        · cases h
        · rename_i d hd
          split at h
          · rename_i h2; exact .inr (.inr ⟨h92, d, hd, h2, h⟩)
          · cases h
      · rename_i h92; exact .inr (.inl ⟨h34, h10, h92, h⟩)
theorem qd_lt {t : Bs} {f a : Nat} {s : Bs} {z : Nat × Bs} (h : qd t f a s = some z) : ∃ g, f = g + 1 ∧ a < t.length := by
  match f, h with
  | f + 1, h => exact ⟨f, rfl, by have := qd_fit (e := z.1) (r := z.2) h; omega⟩

def E_wb : Env Tryz.prog := E_addr.add 95 (Spec.gen wbG) wb_meets (by kernel_rfl)

def E_bst : Env Tryz.prog := E_wb.add 96 (Spec.gen bstG) bst_meets (by kernel_rfl)

theorem quo_meets : Meets Tryz.prog 82 (Spec.gen quoG) := by
 refine meets_handed (E_bst.at_ 127) Tryz.func82 rfl rfl rfl ?_
 intro args bl p r bf hg hp
 unfold quoG at hg
 split at hg
 rename_i ty t a n vt sz xs
 simp only [Option.some.injEq, Prod.mk.injEq] at hg
 obtain ⟨rfl, rfl, rfl⟩ := hg
 obtain ⟨hpr, hlt, hsm⟩ := hp
 obtain ⟨rfl, rfl, rfl, he, rfl, ha0, hal, htl, hqa⟩ := hpr
 generalize dSn xs = q at *
 subst he
 obtain ⟨a, rfl⟩ := Int.eq_ofNat_of_zero_le ha0
 simp only [Int.toNat_natCast] at *
 have hal : a ≤ t.length := by omega
 have hqa : q.length ≤ a := by omega
 obtain ⟨k1, k2⟩ := skS_le hal
 have hlt : a < t.length := by omega
 obtain ⟨e, S, hq, hok, he, hae, hSl, hR⟩ := qt_some hsm
 rw [hR]
 have hT : (E_bst).X = T := rfl
 have hx0 := And.intro @dec_t (And.intro @dec_f (And.intro @Int.toNat_natCast (And.intro @rdS.eq_1 (And.intro @dSn_rows (And.intro @rect_eSn (And.intro @rX_s (And.intro @rBx_s (And.intro @ofN_u @Tryz.results82))))))))
 have hx := hx0
 refine ⟨Nat.le_of_ble_eq_true rfl, ?_⟩
 intro F W0 M0 hnp hmk
 have hnp : Far.np = 2 := hnp
 refine vc_seq_k fun N1 h1 => ?_
 refine u_reg ?_
 try refine lg_mk ?_
 refine u_mv ?_
 refine lg_nil ?_
 refine h1 _ ?_; clear h1; try clear N1
 refine vc_seq_k fun N2 h2 => ?_
 refine u_reg ?_
 try refine lg_mk ?_
 refine u_mv ?_
 refine u_nl ?_
 refine u_pt ?_
 refine u_ld ?_
 refine u_mv ?_
 refine lg_nil ?_
 refine h2 _ ?_; clear h2; try clear N2
 refine vc_seq_k fun N3 h3 => ?_
 refine u_reg ?_
 try refine lg_mk ?_
 refine u_al ?_
 refine lg_nil ?_
 refine h3 _ ?_; clear h3; try clear N3
 refine vc_seq_k fun N4 h4 => ?_
 refine vc_seq_k fun N5 h5 => ?_
 refine vc_nil1 2 1 (.ob (.bfr 5 [] false)) 1 (fun _ _ _ => ⟨rfl, .inl ⟨rfl, rfl, rfl⟩⟩) rfl rfl rfl ?_
 simp only [updL, List.set, List.cons_append, List.nil_append]
 refine u_reg ?_
 try refine lg_mk ?_
 refine u_mv ?_
 refine u_nl ?_
 refine u_pt ?_
 refine u_ld ?_
 refine u_bn ?_
 refine u_nl ?_
 refine u_pt ?_
 refine u_st ?_
 refine lg_nil ?_
 refine h5 _ ?_; clear h5; try clear N5
 refine vc_block ?_
 refine vc_loop_mk (σ := Nat × Bs × Bool × Nat) (fun s => (fun i s2 b g => qd t g i s2 = some (e, S) ∧ i < t.length ∧ a + 1 ≤ i ∧ s2.length ≤ i) (s.1) (s.2.1) (s.2.2.1) (s.2.2.2))
  (fun s => (fun i s2 b g => [(0, .ptr 0 0 0), (4, .ptr 2 0 0)]) (s.1) (s.2.1) (s.2.2.1) (s.2.2.2))
  (fun s => (fun i s2 b g => [some (.one 75 [.d (.str t), .d (.int .i64 (i : Nat)), .sl 1 0 q.length]), some (.vec 55 4 (rows eSn q)), some (.one 143 [ndP 2 b, .sl 3 0 s2.length]), some (.ob (.bfr 5 s2 false))]) (s.1) (s.2.1) (s.2.2.1) (s.2.2.2)) (fun s => (fun i s2 b g => g) (s.1) (s.2.1) (s.2.2.1) (s.2.2.2)) hnp (a + 1, [], false, t.length + 1) ?_ [some 0, some 1, some 2, some 3] ?_ ?_
 dsimp only
 exact ⟨hq, by omega, by omega, Nat.zero_le _⟩
 dsimp only
 refine ⟨by rfl, ?_, ?_⟩
 refine fin_ ?_
 exact cl_
 refine fin_ ?_
 exact cl_
 rintro ⟨i, s2, b, g⟩ hinv N6 h6
 dsimp only at hinv ⊢
 obtain ⟨hI, i2, i3, i4⟩ := hinv
 obtain ⟨g0, rfl, -⟩ := qd_lt hI
 refine vc_seq_k fun N7 h7 => ?_
 refine vc_block ?_
 refine vc_seq_k fun N8 h8 => ?_
 refine vc_seq_k fun N9 h9 => ?_
 refine u_reg ?_
 try refine lg_mk ?_
 refine u_mv ?_
 refine u_nl ?_
 refine u_pt ?_
 refine u_ld ?_
 refine u_mv ?_
 refine u_nl ?_
 refine u_pt ?_
 refine u_ld ?_
 refine u_ln ?_
 refine u_bn ?_
 refine lg_nil ?_
 refine h9 _ ?_; clear h9; try clear N9
 refine u_cond (fun hb10 => ?_) (fun hb10 => ?_)
 ·first | omega | exact absurd trivial hb10 | contradiction | (simp_all; done)
 obtain ⟨c, hc⟩ := getE (l := t) (i := i) i2
 have hS4 := qd_s hc hI
 refine vc_skip ?_
 try simp only [k_rules]
 refine h8 _ ?_; clear h8; try clear N8
 refine vc_seq_k fun N11 h11 => ?_
 have hx := And.intro @hc hx0
 refine u_reg ?_
 try refine lg_mk ?_
 refine u_mv ?_
 refine u_nl ?_
 refine u_pt ?_
 refine u_ld ?_
 refine u_mv ?_
 refine u_nl ?_
 refine u_pt ?_
 refine u_ld ?_
 refine u_pt ?_
 refine u_mv ?_
 refine lg_nil ?_
 have hx := hx0
 refine h11 _ ?_; clear h11; try clear N11
 refine vc_seq_k fun N12 h12 => ?_
 refine vc_seq_k fun N13 h13 => ?_
 refine u_reg ?_
 try refine lg_mk ?_
 refine u_mv ?_
 refine u_bn ?_
 refine lg_nil ?_
 refine h13 _ ?_; clear h13; try clear N13
 refine u_cond (fun hb14 => ?_) (fun hb14 => ?_)
 have h34 : c = 34 := by have := hb14; first | exact UInt8.toNat_inj.1 (show c.toNat = 34 by (try simp at this); omega) | (simpa using this)
 have hz : (e, S) = (i, s2) := by
  rcases hS4 with ⟨_, h⟩ | ⟨h, _⟩ | ⟨h, _⟩
  ·exact h
  ·exact absurd h34 h
  ·rw [h34] at h; exact absurd h (by decide)
 obtain ⟨rfl, rfl⟩ := Prod.mk.injEq .. ▸ hz
 refine vc_exit ?_
 simp only [k_rules, Nat.reduceEqDiff, reduceIte, eq_self]
 refine h4 _ ?_; clear h4; try clear N4
 refine vc_seq_k fun N15 h15 => ?_
 refine u_reg ?_
 try refine lg_mk ?_
 refine u_mv ?_
 refine u_nl ?_
 refine u_pt ?_
 refine u_ld ?_
 refine u_bn ?_
 refine u_nl ?_
 refine u_pt ?_
 refine u_st ?_
 refine lg_nil ?_
 refine h15 _ ?_; clear h15; try clear N15
 refine vc_seq_k fun N16 h16 => ?_
 refine vc_seq_k fun N17 h17 => ?_
 cases b
 simp only [ndP_f]
 have hx := And.intro @hok hx0
 refine u_reg ?_
 try refine lg_mk ?_
 have hc := call_rule (E := (E_bst.at_ 127)) (f := 96) (sp := Spec.gen bstG) rfl
 have hs := @bstG.eq_1
 refine u_hg ?_
 have hc := call_rule (E := (E_bst.at_ 127)) (f := 62) (sp := Spec.pure isTG) rfl
 have hs := @isTG.eq_1
 refine u_cp ?_
 refine u_un ?_
 refine lg_nil ?_
 have hx := hx0
 refine h17 _ ?_; clear h17; try clear N17
 refine u_cond (fun hb18 => ?_) (fun hb18 => ?_)
 ·first | omega | exact absurd trivial hb18 | contradiction | (simp_all; done)
 refine vc_skip ?_
 try simp only [k_rules]
 refine h16 _ ?_; clear h16; try clear N16
 refine vc_seq_k fun N19 h19 => ?_
 refine u_reg ?_
 try refine lg_mk ?_
 refine u_mv ?_
 have hc := call_rule (E := (E_bst.at_ 127)) (f := 96) (sp := Spec.gen bstG) rfl
 have hs := @bstG.eq_1
 refine u_hg ?_
 refine u_bd ?_
 have hc := call_rule (E := (E_bst.at_ 127)) (f := 65) (sp := Spec.gen addG) rfl
 have hs := @addG.eq_1
 refine u_hg ?_
 refine u_mv ?_
 refine lg_nil ?_
 refine h19 _ ?_; clear h19; try clear N19
 refine vc_ret ?_
 try simp only [k_rules]
 refine fin_ ?_
 refine ⟨[some 0, some 1, some 4], by rfl, ?_, ?_⟩
 refine fin_ ?_
 exact cl_
 refine fin_ ?_
 exact cl_
 simp only [ndP_t]
 have hx := And.intro @hok hx0
 refine u_reg ?_
 try refine lg_mk ?_
 have hc := call_rule (E := (E_bst.at_ 127)) (f := 96) (sp := Spec.gen bstG) rfl
 have hs := @bstG.eq_1
 refine u_hg ?_
 have hc := call_rule (E := (E_bst.at_ 127)) (f := 62) (sp := Spec.pure isTG) rfl
 have hs := @isTG.eq_1
 refine u_cp ?_
 refine u_un ?_
 refine lg_nil ?_
 have hx := hx0
 refine h17 _ ?_; clear h17; try clear N17
 refine u_cond (fun hb20 => ?_) (fun hb20 => ?_)
 ·first | omega | exact absurd trivial hb20 | contradiction | (simp_all; done)
 refine vc_skip ?_
 try simp only [k_rules]
 refine h16 _ ?_; clear h16; try clear N16
 refine vc_seq_k fun N21 h21 => ?_
 refine u_reg ?_
 try refine lg_mk ?_
 refine u_mv ?_
 have hc := call_rule (E := (E_bst.at_ 127)) (f := 96) (sp := Spec.gen bstG) rfl
 have hs := @bstG.eq_1
 refine u_hg ?_
 refine u_bd ?_
 have hc := call_rule (E := (E_bst.at_ 127)) (f := 65) (sp := Spec.gen addG) rfl
 have hs := @addG.eq_1
 refine u_hg ?_
 refine u_mv ?_
 refine lg_nil ?_
 refine h21 _ ?_; clear h21; try clear N21
 refine vc_ret ?_
 try simp only [k_rules]
 refine fin_ ?_
 refine ⟨[some 0, some 1, some 4], by rfl, ?_, ?_⟩
 refine fin_ ?_
 exact cl_
 refine fin_ ?_
 exact cl_
 have h34 : c ≠ 34 := by intro h; have := hb14; subst h; simp at this
 have hS5 := hS4.resolve_left fun h => h34 h.1
 refine vc_skip ?_
 try simp only [k_rules]
 refine h12 _ ?_; clear h12; try clear N12
 refine vc_seq_k fun N22 h22 => ?_
 refine vc_seq_k fun N23 h23 => ?_
 refine u_reg ?_
 try refine lg_mk ?_
 refine u_mv ?_
 refine u_bn ?_
 refine lg_nil ?_
 refine h23 _ ?_; clear h23; try clear N23
 refine u_cond (fun hb24 => ?_) (fun hb24 => ?_)
 exfalso
 rcases hS5 with ⟨_, h, _⟩ | ⟨h, _⟩
 exact h (by have := hb24; first | exact UInt8.toNat_inj.1 (show c.toNat = 10 by (try simp at this); omega) | (simpa using this))
 subst h; have := hb24; simp at this
 refine vc_skip ?_
 try simp only [k_rules]
 refine h22 _ ?_; clear h22; try clear N22
 refine vc_seq_k fun N25 h25 => ?_
 refine vc_seq_k fun N26 h26 => ?_
 refine u_reg ?_
 try refine lg_mk ?_
 refine u_mv ?_
 refine u_bn ?_
 refine lg_nil ?_
 refine h26 _ ?_; clear h26; try clear N26
 refine u_cond (fun hb27 => ?_) (fun hb27 => ?_)
 have h92 : c = 92 := by have := hb27; first | exact UInt8.toNat_inj.1 (show c.toNat = 92 by (try simp at this); omega) | (simpa using this)
 obtain ⟨d, hd, hd2, hn⟩ : ∃ d, t[i + 1]? = some d ∧ (d = 34 ∨ d = 92) ∧ qd t g0 (i + 2) (s2 ++ [d]) = some (e, S) := by
  rcases hS5 with ⟨_, _, h, _⟩ | ⟨_, h⟩
  ·exact absurd h92 h
  ·exact h
 have hd1 := (List.getElem?_eq_some_iff.1 hd).1
 obtain ⟨_, _, hnl⟩ := qd_lt hn
 have hi1 : ((i : Int) + 1).toNat = i + 1 := by omega
 refine vc_seq_k fun N28 h28 => ?_
 refine vc_seq_k fun N29 h29 => ?_
 refine u_reg ?_
 try refine lg_mk ?_
 refine u_mv ?_
 refine u_nl ?_
 refine u_pt ?_
 refine u_ld ?_
 refine u_bn ?_
 refine u_mv ?_
 refine u_nl ?_
 refine u_pt ?_
 refine u_ld ?_
 refine u_ln ?_
 refine u_bn ?_
 refine lg_nil ?_
 refine h29 _ ?_; clear h29; try clear N29
 refine u_cond (fun hb30 => ?_) (fun hb30 => ?_)
 ·first | omega | exact absurd trivial hb30 | contradiction | (simp_all; done)
 refine vc_skip ?_
 try simp only [k_rules]
 refine h28 _ ?_; clear h28; try clear N28
 refine vc_seq_k fun N31 h31 => ?_
 refine vc_seq_k fun N32 h32 => ?_
 have hx := And.intro @hi1 (And.intro @hd hx0)
 refine u_reg ?_
 try refine lg_mk ?_
 refine u_mv ?_
 refine u_nl ?_
 refine u_pt ?_
 refine u_ld ?_
 refine u_mv ?_
 refine u_nl ?_
 refine u_pt ?_
 refine u_ld ?_
 refine u_bn ?_
 refine u_pt ?_
 refine u_mv ?_
 refine lg_nil ?_
 have hx := hx0
 refine h32 _ ?_; clear h32; try clear N32
 refine vc_seq_k fun N33 h33 => ?_
 rcases hd2 with rfl | rfl
 skip
 refine u_reg ?_
 try refine lg_mk ?_
 refine u_mv ?_
 refine u_bn ?_
 refine u_mv ?_
 refine lg_g0 ?_ ?_
 focus (exact gt_)
 refine lg_g0 ?_ ?_
 focus (exact gt_)
 refine u_pk ?_
 refine lg_nil ?_
 refine h33 _ ?_; clear h33; try clear N33
 refine u_cond (fun hb34 => ?_) (fun hb34 => ?_)
 ·first | omega | exact absurd trivial hb34 | contradiction | (simp_all; done)
 refine vc_skip ?_
 try simp only [k_rules]
 refine h31 _ ?_; clear h31; try clear N31
 refine u_reg ?_
 try refine lg_mk ?_
 refine u_mv ?_
 refine u_nl ?_
 refine u_pt ?_
 refine u_ld ?_
 refine u_bn ?_
 refine u_nl ?_
 refine u_pt ?_
 refine u_st ?_
 refine lg_nil ?_
 refine h25 _ ?_; clear h25; try clear N25
 cases b
 simp only [ndP_f]
 refine u_reg ?_
 try refine lg_mk ?_
 refine u_mv ?_
 have hc := call_rule (E := (E_bst.at_ 127)) (f := 95) (sp := Spec.gen wbG) rfl
 have hs := @wbG.eq_1
 refine u_hg (hq := by (first | ((refine ⟨rfl, ?_, ?_, by omega⟩ <;> first | (have := c.toNat_lt; omega) | decide)) | exact sd_)) ?_
 refine lg_nil ?_
 refine h7 _ ?_; clear h7; try clear N7
 refine u_reg ?_
 try refine lg_mk ?_
 refine u_mv ?_
 refine u_nl ?_
 refine u_pt ?_
 refine u_ld ?_
 refine u_bn ?_
 refine u_nl ?_
 refine u_pt ?_
 refine u_st ?_
 refine lg_nil ?_
 refine h6 _ ⟨(i + 2, s2 ++ [34], true, g0), ?_, ?_, [some 0, some 1, some 2, some 4], ?_⟩
 dsimp only
 exact ⟨hn, hnl, by omega, by simp; omega⟩
 dsimp only
 omega
 dsimp only
 refine ⟨by rfl, ?_, ?_⟩
 refine fin_ ?_
 ·(repeat' apply And.intro) <;> (first | (simp only [ndP_t, List.length_append, List.length_singleton]; exact cl_) | exact cl_)
 refine fin_ ?_
 ·(repeat' apply And.intro) <;> (first | (simp only [ndP_t, List.length_append, List.length_singleton]; exact cl_) | exact cl_)
 simp only [ndP_t]
 refine u_reg ?_
 try refine lg_mk ?_
 refine u_mv ?_
 have hc := call_rule (E := (E_bst.at_ 127)) (f := 95) (sp := Spec.gen wbG) rfl
 have hs := @wbG.eq_1
 refine u_hg (hq := by (first | ((refine ⟨rfl, ?_, ?_, by omega⟩ <;> first | (have := c.toNat_lt; omega) | decide)) | exact sd_)) ?_
 refine lg_nil ?_
 refine h7 _ ?_; clear h7; try clear N7
 refine u_reg ?_
 try refine lg_mk ?_
 refine u_mv ?_
 refine u_nl ?_
 refine u_pt ?_
 refine u_ld ?_
 refine u_bn ?_
 refine u_nl ?_
 refine u_pt ?_
 refine u_st ?_
 refine lg_nil ?_
 refine h6 _ ⟨(i + 2, s2 ++ [34], true, g0), ?_, ?_, [some 0, some 1, some 2, some 4], ?_⟩
 dsimp only
 exact ⟨hn, hnl, by omega, by simp; omega⟩
 dsimp only
 omega
 dsimp only
 refine ⟨by rfl, ?_, ?_⟩
 refine fin_ ?_
 ·(repeat' apply And.intro) <;> (first | (simp only [ndP_t, List.length_append, List.length_singleton]; exact cl_) | exact cl_)
 refine fin_ ?_
 ·(repeat' apply And.intro) <;> (first | (simp only [ndP_t, List.length_append, List.length_singleton]; exact cl_) | exact cl_)
 skip
 refine u_reg ?_
 try refine lg_mk ?_
 refine u_mv ?_
 refine u_bn ?_
 refine u_mv ?_
 refine v_mv ?_
 refine v_bn ?_
 refine u_pk ?_
 refine lg_nil ?_
 refine h33 _ ?_; clear h33; try clear N33
 refine u_cond (fun hb35 => ?_) (fun hb35 => ?_)
 ·first | omega | exact absurd trivial hb35 | contradiction | (simp_all; done)
 refine vc_skip ?_
 try simp only [k_rules]
 refine h31 _ ?_; clear h31; try clear N31
 refine u_reg ?_
 try refine lg_mk ?_
 refine u_mv ?_
 refine u_nl ?_
 refine u_pt ?_
 refine u_ld ?_
 refine u_bn ?_
 refine u_nl ?_
 refine u_pt ?_
 refine u_st ?_
 refine lg_nil ?_
 refine h25 _ ?_; clear h25; try clear N25
 cases b
 simp only [ndP_f]
 refine u_reg ?_
 try refine lg_mk ?_
 refine u_mv ?_
 have hc := call_rule (E := (E_bst.at_ 127)) (f := 95) (sp := Spec.gen wbG) rfl
 have hs := @wbG.eq_1
 refine u_hg (hq := by (first | ((refine ⟨rfl, ?_, ?_, by omega⟩ <;> first | (have := c.toNat_lt; omega) | decide)) | exact sd_)) ?_
 refine lg_nil ?_
 refine h7 _ ?_; clear h7; try clear N7
 refine u_reg ?_
 try refine lg_mk ?_
 refine u_mv ?_
 refine u_nl ?_
 refine u_pt ?_
 refine u_ld ?_
 refine u_bn ?_
 refine u_nl ?_
 refine u_pt ?_
 refine u_st ?_
 refine lg_nil ?_
 refine h6 _ ⟨(i + 2, s2 ++ [92], true, g0), ?_, ?_, [some 0, some 1, some 2, some 4], ?_⟩
 dsimp only
 exact ⟨hn, hnl, by omega, by simp; omega⟩
 dsimp only
 omega
 dsimp only
 refine ⟨by rfl, ?_, ?_⟩
 refine fin_ ?_
 ·(repeat' apply And.intro) <;> (first | (simp only [ndP_t, List.length_append, List.length_singleton]; exact cl_) | exact cl_)
 refine fin_ ?_
 ·(repeat' apply And.intro) <;> (first | (simp only [ndP_t, List.length_append, List.length_singleton]; exact cl_) | exact cl_)
 simp only [ndP_t]
 refine u_reg ?_
 try refine lg_mk ?_
 refine u_mv ?_
 have hc := call_rule (E := (E_bst.at_ 127)) (f := 95) (sp := Spec.gen wbG) rfl
 have hs := @wbG.eq_1
 refine u_hg (hq := by (first | ((refine ⟨rfl, ?_, ?_, by omega⟩ <;> first | (have := c.toNat_lt; omega) | decide)) | exact sd_)) ?_
 refine lg_nil ?_
 refine h7 _ ?_; clear h7; try clear N7
 refine u_reg ?_
 try refine lg_mk ?_
 refine u_mv ?_
 refine u_nl ?_
 refine u_pt ?_
 refine u_ld ?_
 refine u_bn ?_
 refine u_nl ?_
 refine u_pt ?_
 refine u_st ?_
 refine lg_nil ?_
 refine h6 _ ⟨(i + 2, s2 ++ [92], true, g0), ?_, ?_, [some 0, some 1, some 2, some 4], ?_⟩
 dsimp only
 exact ⟨hn, hnl, by omega, by simp; omega⟩
 dsimp only
 omega
 dsimp only
 refine ⟨by rfl, ?_, ?_⟩
 refine fin_ ?_
 ·(repeat' apply And.intro) <;> (first | (simp only [ndP_t, List.length_append, List.length_singleton]; exact cl_) | exact cl_)
 refine fin_ ?_
 ·(repeat' apply And.intro) <;> (first | (simp only [ndP_t, List.length_append, List.length_singleton]; exact cl_) | exact cl_)
 have h92 : c ≠ 92 := by intro h; have := hb27; subst h; simp at this
 have hn : qd t g0 (i + 1) (s2 ++ [c]) = some (e, S) := by
  rcases hS5 with ⟨_, _, _, h⟩ | ⟨h, _⟩
  ·exact h
  ·exact absurd h h92
 obtain ⟨_, _, hnl⟩ := qd_lt hn
 refine vc_skip ?_
 try simp only [k_rules]
 refine h25 _ ?_; clear h25; try clear N25
 cases b
 simp only [ndP_f]
 refine u_reg ?_
 try refine lg_mk ?_
 refine u_mv ?_
 have hc := call_rule (E := (E_bst.at_ 127)) (f := 95) (sp := Spec.gen wbG) rfl
 have hs := @wbG.eq_1
 refine u_hg (hq := by (first | ((refine ⟨rfl, ?_, ?_, by omega⟩ <;> first | (have := c.toNat_lt; omega) | decide)) | exact sd_)) ?_
 refine lg_nil ?_
 refine h7 _ ?_; clear h7; try clear N7
 refine u_reg ?_
 try refine lg_mk ?_
 refine u_mv ?_
 refine u_nl ?_
 refine u_pt ?_
 refine u_ld ?_
 refine u_bn ?_
 refine u_nl ?_
 refine u_pt ?_
 refine u_st ?_
 refine lg_nil ?_
 refine h6 _ ⟨(i + 1, s2 ++ [c], true, g0), ?_, ?_, [some 0, some 1, some 2, some 4], ?_⟩
 dsimp only
 exact ⟨hn, hnl, by omega, by simp; omega⟩
 dsimp only
 omega
 dsimp only
 refine ⟨by rfl, ?_, ?_⟩
 refine fin_ ?_
 ·(repeat' apply And.intro) <;> (first | (simp only [ndP_t, List.length_append, List.length_singleton]; exact cl_) | exact cl_)
 refine fin_ ?_
 ·(repeat' apply And.intro) <;> (first | (simp only [ndP_t, List.length_append, List.length_singleton]; exact cl_) | exact cl_)
 simp only [ndP_t]
 refine u_reg ?_
 try refine lg_mk ?_
 refine u_mv ?_
 have hc := call_rule (E := (E_bst.at_ 127)) (f := 95) (sp := Spec.gen wbG) rfl
 have hs := @wbG.eq_1
 refine u_hg (hq := by (first | ((refine ⟨rfl, ?_, ?_, by omega⟩ <;> first | (have := c.toNat_lt; omega) | decide)) | exact sd_)) ?_
 refine lg_nil ?_
 refine h7 _ ?_; clear h7; try clear N7
 refine u_reg ?_
 try refine lg_mk ?_
 refine u_mv ?_
 refine u_nl ?_
 refine u_pt ?_
 refine u_ld ?_
 refine u_bn ?_
 refine u_nl ?_
 refine u_pt ?_
 refine u_st ?_
 refine lg_nil ?_
 refine h6 _ ⟨(i + 1, s2 ++ [c], true, g0), ?_, ?_, [some 0, some 1, some 2, some 4], ?_⟩
 dsimp only
 exact ⟨hn, hnl, by omega, by simp; omega⟩
 dsimp only
 omega
 dsimp only
 refine ⟨by rfl, ?_, ?_⟩
 refine fin_ ?_
 ·(repeat' apply And.intro) <;> (first | (simp only [ndP_t, List.length_append, List.length_singleton]; exact cl_) | exact cl_)
 refine fin_ ?_
 ·(repeat' apply And.intro) <;> (first | (simp only [ndP_t, List.length_append, List.length_singleton]; exact cl_) | exact cl_)
 cases hg

def E_quo : Env Tryz.prog := E_bst.add 82 (Spec.gen quoG) quo_meets (by kernel_rfl)
end Go.Proofs.YtmbjnkgpcbpclaaGreat
