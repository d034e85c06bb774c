/- Walks, printed by wip/gen/walk.py. -/
import Derived.Test.YtjdhadbnmghdgaaT15
import Derived.Test.YtjdhadbnmghdgaaV5
set_option linter.all false
set_option maxRecDepth 100000
set_option maxHeartbeats 4000000
namespace Go.Proofs.Ytjdhadbnmghdgaa
open Go Go.Vc Go.RowKit
/-- slices.Clone as a row of one's own. -/
def cloneF (ty : TypeId) : GFun
  | [.d (.sl xs)], [] => some (Rect 1 xs ∧ xs.length ≤ 1000000000, .sl 0 0 xs.length, [some (.vec ty 1 xs)])
  | _, _ => none
def outC (is : Bool) (k : Int) (P : List Post) (x : Int) : Bool := !(is && decide (x ∈ (P.getD k.toNat ([], [])).2))
def isN (m x : Int) : Bool := decide (x = m)
def delI (Q : Int → Bool) (l : List Int) : List Int := l.filter fun x => !Q x
def cCloG : List AV → Option (Prop × AV)
  | [.d (.int .i64 p), .d (.ptr [.bool b]), .d (.ptr [z, .sl ps]), .d (.ptr [.int .i64 k])] => some (ps = rows eP (dP ps) ∧ smallP (dP ps) ∧ (b = true → 0 ≤ k ∧ k < (dP ps).length), .d (.bool (outC b k (dP ps) p)))
  | _ => none
def rCloG : List AV → Option (Prop × AV)
  | [.d (.int .i64 p), .d (.ptr [.int .i64 m])] => some (True, .d (.bool (isN m p)))
  | _ => none
def ixF2G : List AV → Option (Prop × AV)
  | [.d (.sl xs), .clo (.func 39) [.d (.ptr [.bool b]), .d (.ptr [z, .sl ps]), .d (.ptr [.int .i64 k])]] => some (xs = rows eI (dI xs) ∧ (dI xs).length ≤ 9223372036854775807 ∧ ps = rows eP (dP ps) ∧ smallP (dP ps) ∧ (b = true → 0 ≤ k ∧ k < (dP ps).length), .d (.int .i64 (fidx (outC b k (dP ps)) (dI xs))))
  | [.d (.sl xs), .clo (.func 43) [.d (.ptr [.int .i64 m])]] => some (xs = rows eI (dI xs) ∧ (dI xs).length ≤ 9223372036854775807, .d (.int .i64 (fidx (isN m) (dI xs))))
  | _ => none
def delIG : GFun
  | [.sl 0 0 n, .clo (.func 39) [.ptr 1 0 0, .ptr 2 0 0, .ptr 3 0 0]], [some (.vec t s xs), some (.one tb [.d (.bool b)]), some (.one tx [.d z, .d (.sl ps)]), some (.one ti [.d (.int .i64 k)])] =>
    some (t = 3 ∧ s = 1 ∧ xs = rows eI (dI xs) ∧ n = (dI xs).length ∧ (dI xs).length ≤ 1000000000 ∧ ps = rows eP (dP ps) ∧ smallP (dP ps) ∧ (b = true → 0 ≤ k ∧ k < (dP ps).length),
      .sl 0 0 (delI (outC b k (dP ps)) (dI xs)).length, [some (.vec 3 1 (rows eI (delI (outC b k (dP ps)) (dI xs)))), some (.one tb [.d (.bool b)]), some (.one tx [.d z, .d (.sl ps)]), some (.one ti [.d (.int .i64 k)])])
  | [.sl 0 0 n, .clo (.func 43) [.ptr 1 0 0]], [some (.vec t s xs), some (.one ti [.d (.int .i64 m)])] =>
    some (t = 3 ∧ s = 1 ∧ xs = rows eI (dI xs) ∧ n = (dI xs).length ∧ (dI xs).length ≤ 1000000000,
      .sl 0 0 (delI (isN m) (dI xs)).length, [some (.vec 3 1 (rows eI (delI (isN m) (dI xs)))), some (.one ti [.d (.int .i64 m)])])
  | _, _ => none
theorem fidx_or (Q : Int → Bool) (l : List Int) : (fidx Q l = -1 ∧ ∀ y ∈ l, Q y = false) ∨ ∃ i : Nat, ∃ x, fidx Q l = (i : Int) ∧ l[i]? = some x ∧ Q x = true ∧ ∀ y ∈ l.take i, Q y = false := by
  unfold fidx
  split
  · rename_i h
    have hlt := List.findIdx_lt_length.2 (List.any_eq_true.1 h)
    refine .inr ⟨_, _, rfl, List.getElem?_eq_getElem hlt, List.findIdx_getElem, fun y hy => ?_⟩
    obtain ⟨j, hj⟩ := List.getElem?_of_mem hy
    rw [List.getElem?_take] at hj
    split at hj
    · rename_i hjl
      have := List.not_of_lt_findIdx hjl
      have h2 := (List.getElem?_eq_some_iff.1 hj).2
      rw [h2] at this
      simpa using this
    · cases hj
  · rename_i h
    refine .inl ⟨rfl, fun y hy => ?_⟩
    cases hq : Q y with
    | false => rfl
    | true => exact absurd (List.any_eq_true.2 ⟨y, hy, hq⟩) h
theorem delI_none {Q : Int → Bool} {l : List Int} (h : ∀ y ∈ l, Q y = false) : delI Q l = l := List.filter_eq_self.2 fun x hx => by rw [h x hx]; rfl
/-- DeleteFunc's loop. -/
structure DelInv (Q : Int → Bool) (l m : List Int) (i j : Nat) : Prop where
  len : m.length = l.length
  le : i < j
  jl : j ≤ l.length
  low : m.take i = delI Q (l.take j)
  high : m.drop j = l.drop j
theorem DelInv.start {Q : Int → Bool} {l : List Int} {i : Nat} {x : Int} (hx : l[i]? = some x) (hq : Q x = true) (hn : ∀ y ∈ l.take i, Q y = false) : DelInv Q l l i (i + 1) := by
  refine ⟨rfl, by omega, (List.getElem?_eq_some_iff.1 hx).1, ?_, rfl⟩
  unfold delI
  rw [List.take_add_one, hx, List.filter_append, show List.filter (fun x => !Q x) (Option.toList (some x)) = [] by simp [hq], List.append_nil]
  exact (delI_none hn).symm
theorem DelInv.get {Q : Int → Bool} {l m : List Int} {i j : Nat} (h : DelInv Q l m i j) (hj : j < l.length) : ∃ x, m[j]? = some x ∧ l[j]? = some x := by
  obtain ⟨x, hx⟩ := getE hj
  refine ⟨x, ?_, hx⟩
  have := congrArg (fun z => z[0]?) h.high
  simpa [List.getElem?_drop, hx] using this
theorem DelInv.keep {Q : Int → Bool} {l m : List Int} {i j : Nat} {x : Int} (h : DelInv Q l m i j) (hx : l[j]? = some x) (hq : Q x = false) : DelInv Q l (m.set i x) (i + 1) (j + 1) := by
  have hj := (List.getElem?_eq_some_iff.1 hx).1
  have := h.le; have := h.len
  refine ⟨by simp [h.len], by omega, by omega, ?_, ?_⟩
  · rw [List.take_add_one, List.take_set_of_le (Nat.le_refl _), h.low, List.getElem?_set]
    unfold delI
    rw [List.take_add_one, hx, List.filter_append]
    simp [hq, show i < m.length by omega]
  · rw [List.drop_set_of_lt (by omega), ← List.drop_drop, ← List.drop_drop, h.high]
theorem DelInv.skip {Q : Int → Bool} {l m : List Int} {i j : Nat} {x : Int} (h : DelInv Q l m i j) (hx : l[j]? = some x) (hq : Q x = true) : DelInv Q l m i (j + 1) := by
  have hj := (List.getElem?_eq_some_iff.1 hx).1
  have := h.le
  refine ⟨h.len, by omega, by omega, ?_, by rw [← List.drop_drop, ← List.drop_drop, h.high]⟩
  rw [h.low]; unfold delI
  rw [List.take_add_one, hx, List.filter_append]
  simp [hq]
theorem DelInv.fin {Q : Int → Bool} {l m : List Int} {i : Nat} (h : DelInv Q l m i l.length) : m.take i = delI Q l ∧ (delI Q l).length = i := by
  have h1 := h.low; rw [List.take_length] at h1
  refine ⟨h1, ?_⟩
  rw [← h1, List.length_take]; have := h.le; have := h.len; omega
theorem delI_len (Q : Int → Bool) (l : List Int) : (delI Q l).length ≤ l.length := List.length_filter_le _ _
theorem getD0 {P : List Post} {k : Int} (h : 0 ≤ k ∧ k < P.length) : ∃ g t, P[k.toNat]? = some (g, t) ∧ P.getD k.toNat ([], []) = (g, t) := by
  obtain ⟨⟨g, t⟩, hx⟩ := getE (l := P) (i := k.toNat) (by omega)
  exact ⟨g, t, hx, getD_at hx⟩

theorem cloneI_meets : Meets Try.prog 36 (Spec.fresh (cloneF 3)) := by
 refine meets_fresh (E_conS.at_ 8) Try.func36 rfl rfl rfl ?_
 intro args bl p r bf hg hp
 unfold cloneF at hg
 split at hg
 ·rename_i xs
  simp only [Option.some.injEq, Prod.mk.injEq] at hg
  obtain ⟨rfl, rfl, rfl⟩ := hg
  obtain ⟨hr, hb⟩ := hp
  have hT : (E_conS).X = T := rfl
  have hx0 := @Try.results36
  have hx := hx0
  refine ⟨Nat.le_of_ble_eq_true rfl, ?_⟩
  intro F W0 M0 hnp hmk
  have hnp : Far.np = 0 := hnp
  refine vc_seq_k fun N1 h1 => ?_
  refine u_reg ?_
  try refine lg_mk ?_
  refine u_mv ?_
  refine lg_nil ?_
  refine h1 _ ?_; clear h1; try clear N1
  refine vc_seq_k fun N2 h2 => ?_
  refine vc_seq_k fun N3 h3 => ?_
  refine u_reg ?_
  try refine lg_mk ?_
  refine u_mv ?_
  refine lg_sem (by rfl) (sem_eqnil (by first | (simp only [wB, eq_self, Nat.reduceEqDiff, reduceIte]; done) | (simp only [wB, eq_self, Nat.reduceEqDiff, reduceIte]; rfl)) (by first | trivial | simp only [wB, eq_self, Nat.reduceEqDiff, reduceIte]) (by first | (simp only [wB, eq_self, Nat.reduceEqDiff, reduceIte, env_rules, tys, hT, tiAgg]; done) | (simp only [wB, eq_self, Nat.reduceEqDiff, reduceIte, env_rules, tys, hT, tiAgg]; rfl)) (by first | (simp only [slA, wB, eq_self, Nat.reduceEqDiff, reduceIte]; done) | (simp only [slA, wB, eq_self, Nat.reduceEqDiff, reduceIte]; rfl)) fun z_r1_1 hz_r1_1 hz_r1_1' => ?_)
  refine lg_nil ?_
  refine h3 _ ?_; clear h3; try clear N3
  refine u_cond (fun hb4 => ?_) (fun hb4 => ?_)
  ·have hz := hz_r1_1 hb4
   unfold emptyA at hz
   subst hz
   refine vc_seq_k fun N5 h5 => ?_
   refine u_reg ?_
   try refine lg_mk ?_
   refine u_mv ?_
   refine lg_nil ?_
   refine h5 _ ?_; clear h5; try clear N5
   refine vc_ret ?_
   try simp only [k_rules]
   refine fin_ ?_
   refine ⟨[none], by rfl, ?_, ?_⟩
   ·refine fin_ ?_
    exact cl_
   ·refine fin_ ?_
    exact cl_
  ·refine vc_skip ?_
   try simp only [k_rules]
   refine h2 _ ?_; clear h2; try clear N2
   refine vc_seq_k fun N6 h6 => ?_
   refine u_reg ?_
   try refine lg_mk ?_
   refine u_bs ?_
   refine u_mv ?_
   refine u_ap (hq := by (first | (exact ⟨hr, by omega⟩) | exact sd_)) ?_
   refine u_mv ?_
   refine lg_nil ?_
   refine h6 _ ?_; clear h6; try clear N6
   refine vc_ret ?_
   try simp only [k_rules]
   refine fin_ ?_
   refine ⟨[some 1], by rfl, ?_, ?_⟩
   ·refine fin_ ?_
    exact cl_
   ·refine fin_ ?_
    exact cl_
 ·cases hg

def E_cloneI : Env Try.prog := E_conS.add 36 (Spec.fresh (cloneF 3)) cloneI_meets (by kernel_rfl)

theorem cClo_meets : Meets Try.prog 39 (Spec.pure cCloG) := by
 refine meets_fun (E_cloneI.at_ 19) Try.func39 rfl rfl rfl ?_
 intro args p r hg hp
 unfold cCloG at hg
 split at hg
 ·rename_i p b z ps k
  simp only [Option.some.injEq, Prod.mk.injEq] at hg
  obtain ⟨rfl, rfl⟩ := hg
  obtain ⟨he, hsm, hk⟩ := hp
  generalize dP ps = P at *
  subst he
  have hT : (E_cloneI).X = T := rfl
  have hx0 := And.intro @dI_rows (And.intro @eP_eq (And.intro @dec_t (And.intro @dec_f @Try.results39)))
  have hx := hx0
  refine ⟨by rfl, ?_⟩
  intro F W0 hnp hmk
  refine vc_seq_k fun N1 h1 => ?_
  refine u_reg ?_
  try refine lg_mk ?_
  refine u_mv ?_
  refine lg_nil ?_
  refine h1 _ ?_; clear h1; try clear N1
  refine vc_seq_k fun N2 h2 => ?_
  cases b
  ·have hr : outC false k P p = true := rfl
   have hr2 := hsm
   have hx := And.intro @hr2 (And.intro @rect_eP hx0)
   refine u_reg ?_
   try refine lg_mk ?_
   refine u_ld ?_
   refine u_un ?_
   refine u_mv ?_
   refine g_pt ?_
   refine g_ld ?_
   refine g_ld ?_
   refine g_pt ?_
   refine g_pt ?_
   refine g_ld ?_
   refine g_mv ?_
   have hc := call_rule (E := (E_cloneI.at_ 19)) (f := 35) (sp := Spec.pure containsG) rfl
   have hs := @containsG.eq_1
   refine g_cp ?_
   refine g_un ?_
   refine u_pk ?_
   refine u_mv ?_
   refine lg_nil ?_
   have hx := hx0
   refine h2 _ ?_; clear h2; try clear N2
   refine vc_ret ?_
   try simp only [k_rules]
   rw [hr]
   refine fin2_ ?_
   exact cl_
  ·obtain ⟨g, t, hxe, hxd⟩ := getD0 (hk rfl)
   have hk0 := hk rfl
   have hpm : t.length ≤ 9223372036854775807 := (hsm _ (mem_at hxe)).2
   have hr : outC true k P p = !decide (p ∈ t) := by unfold outC; rw [hxd]; rfl
   have hr2 := hxe
   have hx := And.intro @hr2 (And.intro @rect_eP hx0)
   refine u_reg ?_
   try refine lg_mk ?_
   refine u_ld ?_
   refine u_un ?_
   refine u_mv ?_
   refine g_pt ?_
   refine g_ld ?_
   refine g_ld ?_
   refine g_pt ?_
   refine g_pt ?_
   refine g_ld ?_
   refine g_mv ?_
   have hc := call_rule (E := (E_cloneI.at_ 19)) (f := 35) (sp := Spec.pure containsG) rfl
   have hs := @containsG.eq_1
   refine g_cp ?_
   refine g_un ?_
   refine u_pk ?_
   refine u_mv ?_
   refine lg_nil ?_
   have hx := hx0
   refine h2 _ ?_; clear h2; try clear N2
   refine vc_ret ?_
   try simp only [k_rules]
   rw [hr]
   refine fin2_ ?_
   exact cl_
 ·cases hg

def E_cClo : Env Try.prog := E_cloneI.add 39 (Spec.pure cCloG) cClo_meets (by kernel_rfl)

theorem rClo_meets : Meets Try.prog 43 (Spec.pure rCloG) := by
 refine meets_fun (E_cClo.at_ 7) Try.func43 rfl rfl rfl ?_
 intro args p r hg hp
 unfold rCloG at hg
 split at hg
 ·rename_i p m
  simp only [Option.some.injEq, Prod.mk.injEq] at hg
  obtain ⟨rfl, rfl⟩ := hg
  have hT : (E_cClo).X = T := rfl
  have hx0 := And.intro @isN.eq_1 @Try.results43
  have hx := hx0
  refine ⟨by rfl, ?_⟩
  intro F W0 hnp hmk
  refine vc_seq_k fun N1 h1 => ?_
  refine u_reg ?_
  try refine lg_mk ?_
  refine u_mv ?_
  refine lg_nil ?_
  refine h1 _ ?_; clear h1; try clear N1
  refine vc_seq_k fun N2 h2 => ?_
  refine u_reg ?_
  try refine lg_mk ?_
  refine u_mv ?_
  refine u_ld ?_
  refine u_bn ?_
  refine u_mv ?_
  refine lg_nil ?_
  refine h2 _ ?_; clear h2; try clear N2
  refine vc_ret ?_
  try simp only [k_rules]
  refine fin2_ ?_
  exact cl_
 ·cases hg

def E_rClo : Env Try.prog := E_cClo.add 43 (Spec.pure rCloG) rClo_meets (by kernel_rfl)

theorem ixF2_meets : Meets Try.prog 49 (Spec.pure ixF2G) := by
 refine meets_fun (E_rClo.at_ 19) Try.func49 rfl rfl rfl ?_
 intro args p r hg hp
 unfold ixF2G at hg
 split at hg
 ·rename_i xs b z ps k
  simp only [Option.some.injEq, Prod.mk.injEq] at hg
  obtain ⟨rfl, rfl⟩ := hg
  obtain ⟨he, hl, hf, hsm, hk⟩ := hp
  generalize dI xs = l at *
  generalize dP ps = P at *
  subst he hf
  have hT : (E_rClo).X = T := rfl
  have hx0 := And.intro @dP_rows @Try.results49
  have hx := hx0
  refine ⟨by rfl, ?_⟩
  intro F W0 hnp hmk
  refine vc_seq_k fun N1 h1 => ?_
  refine u_reg ?_
  try refine lg_mk ?_
  refine u_mv ?_
  refine lg_nil ?_
  refine h1 _ ?_; clear h1; try clear N1
  refine vc_seq_k fun N2 h2 => ?_
  refine vc_seq_k fun N3 h3 => ?_
  refine u_reg ?_
  try refine lg_mk ?_
  refine u_mv ?_
  refine u_ln ?_
  refine u_mv ?_
  refine lg_nil ?_
  refine h3 _ ?_; clear h3; try clear N3
  refine vc_block ?_
  refine vc_loop_mk (σ := Nat) (fun s => (fun k' => k' ≤ l.length ∧ ∀ y ∈ l.take k', outC b k P y = false) s)
   (fun s => (fun k' => [(0, .d (.sl (rows eI l))), (1, .clo (.func 39) [.d (.ptr [.bool b]), .d (.ptr [z, .sl (rows eP P)]), .d (.ptr [.int .i64 k])]), (6, .d (.sl (rows eI l))), (7, .d (.int .i64 (l.length : Nat))), (8, .d (.int .i64 (k' : Nat)))]) s)
   (fun s => (fun k' => []) s) (fun s => (fun k' => l.length - k') s) hnp 0 ?_ [] ?_ ?_
  ·dsimp only
   simp
  ·dsimp only
   refine ⟨by rfl, ?_, ?_⟩
   ·refine fin_ ?_
    exact cl_
   ·refine fin_ ?_
    exact cl_
  ·rintro k' hinv N4 h4
   dsimp only at hinv ⊢
   obtain ⟨k1, k2⟩ := hinv
   refine vc_seq_k fun N5 h5 => ?_
   refine u_reg ?_
   try refine lg_mk ?_
   refine u_bn ?_
   refine lg_nil ?_
   refine h5 _ ?_; clear h5; try clear N5
   refine vc_seq_k fun N6 h6 => ?_
   refine u_cond (fun hb7 => ?_) (fun hb7 => ?_)
   ·obtain ⟨x, hxe⟩ := getE (l := l) (i := k') (by omega)
    refine vc_skip ?_
    try simp only [k_rules]
    refine h6 _ ?_; clear h6; try clear N6
    refine vc_seq_k fun N8 h8 => ?_
    refine vc_block ?_
    refine vc_seq_k fun N9 h9 => ?_
    refine u_reg ?_
    try refine lg_mk ?_
    refine u_mv ?_
    refine u_mv ?_
    refine lg_nil ?_
    refine h9 _ ?_; clear h9; try clear N9
    refine vc_seq_k fun N10 h10 => ?_
    have hx := And.intro @hxe (And.intro @eI.eq_1 hx0)
    refine u_reg ?_
    try refine lg_mk ?_
    refine u_mv ?_
    refine u_mv ?_
    refine u_mv ?_
    refine u_pt ?_
    refine u_ld ?_
    have hc := (rfl : ((E_rClo.at_ 19)).Γ 39 = some (Spec.pure cCloG))
    have hs := (@cCloG.eq_1)
    refine u_kp (hq := by (first | (first | exact ⟨hsm, hk⟩ | exact ⟨rfl, hsm, hk⟩ | (rw [dP_rows]; first | exact ⟨rfl, hsm, hk⟩ | exact ⟨⟨trivial, trivial, trivial⟩, rfl, hsm, hk⟩)) | exact sd_)) ?_
    refine lg_nil ?_
    have hx := hx0
    refine h10 _ ?_; clear h10; try clear N10
    refine u_cond (fun hb11 => ?_) (fun hb11 => ?_)
    ·have ht := hb11
     try simp only [dP_rows] at ht
     refine vc_seq_k fun N12 h12 => ?_
     refine u_reg ?_
     try refine lg_mk ?_
     refine u_mv ?_
     refine u_mv ?_
     refine lg_nil ?_
     refine h12 _ ?_; clear h12; try clear N12
     refine vc_ret ?_
     try simp only [k_rules]
     rw [fidx_at hxe (by simpa using ht) k2]
     refine fin2_ ?_
     exact cl_
    ·have ht := hb11
     try simp only [dP_rows] at ht
     refine vc_skip ?_
     try simp only [k_rules]
     refine h8 _ ?_; clear h8; try clear N8
     refine u_reg ?_
     try refine lg_mk ?_
     refine u_bn ?_
     refine u_mv ?_
     refine lg_nil ?_
     refine h4 _ ⟨k' + 1, ?_, ?_, [], ?_⟩
     ·dsimp only
      exact ⟨by omega, all_false_snoc k2 hxe (by simpa using ht)⟩
     ·dsimp only
      omega
     ·dsimp only
      refine ⟨by rfl, ?_, ?_⟩
      ·refine fin_ ?_
       exact cl_
      ·refine fin_ ?_
       exact cl_
   ·refine vc_exit ?_
    simp only [k_rules, Nat.reduceEqDiff, reduceIte, eq_self]
    refine h2 _ ?_; clear h2; try clear N2
    refine vc_seq_k fun N13 h13 => ?_
    refine u_reg ?_
    try refine lg_mk ?_
    refine u_mv ?_
    refine lg_nil ?_
    refine h13 _ ?_; clear h13; try clear N13
    refine vc_ret ?_
    try simp only [k_rules]
    rw [fidx_none (by rw [List.take_of_length_le (by omega)] at k2; exact k2)]
    refine fin2_ ?_
    exact cl_
 ·rename_i xs m
  simp only [Option.some.injEq, Prod.mk.injEq] at hg
  obtain ⟨rfl, rfl⟩ := hg
  obtain ⟨he, hl⟩ := hp
  generalize dI xs = l at *
  subst he
  have hT : (E_rClo).X = T := rfl
  have hx0 := And.intro @dP_rows @Try.results49
  have hx := hx0
  refine ⟨by rfl, ?_⟩
  intro F W0 hnp hmk
  refine vc_seq_k fun N1 h1 => ?_
  refine u_reg ?_
  try refine lg_mk ?_
  refine u_mv ?_
  refine lg_nil ?_
  refine h1 _ ?_; clear h1; try clear N1
  refine vc_seq_k fun N2 h2 => ?_
  refine vc_seq_k fun N3 h3 => ?_
  refine u_reg ?_
  try refine lg_mk ?_
  refine u_mv ?_
  refine u_ln ?_
  refine u_mv ?_
  refine lg_nil ?_
  refine h3 _ ?_; clear h3; try clear N3
  refine vc_block ?_
  refine vc_loop_mk (σ := Nat) (fun s => (fun k' => k' ≤ l.length ∧ ∀ y ∈ l.take k', isN m y = false) s)
   (fun s => (fun k' => [(0, .d (.sl (rows eI l))), (1, .clo (.func 43) [.d (.ptr [.int .i64 m])]), (6, .d (.sl (rows eI l))), (7, .d (.int .i64 (l.length : Nat))), (8, .d (.int .i64 (k' : Nat)))]) s)
   (fun s => (fun k' => []) s) (fun s => (fun k' => l.length - k') s) hnp 0 ?_ [] ?_ ?_
  ·dsimp only
   simp
  ·dsimp only
   refine ⟨by rfl, ?_, ?_⟩
   ·refine fin_ ?_
    exact cl_
   ·refine fin_ ?_
    exact cl_
  ·rintro k' hinv N4 h4
   dsimp only at hinv ⊢
   obtain ⟨k1, k2⟩ := hinv
   refine vc_seq_k fun N5 h5 => ?_
   refine u_reg ?_
   try refine lg_mk ?_
   refine u_bn ?_
   refine lg_nil ?_
   refine h5 _ ?_; clear h5; try clear N5
   refine vc_seq_k fun N6 h6 => ?_
   refine u_cond (fun hb7 => ?_) (fun hb7 => ?_)
   ·obtain ⟨x, hxe⟩ := getE (l := l) (i := k') (by omega)
    refine vc_skip ?_
    try simp only [k_rules]
    refine h6 _ ?_; clear h6; try clear N6
    refine vc_seq_k fun N8 h8 => ?_
    refine vc_block ?_
    refine vc_seq_k fun N9 h9 => ?_
    refine u_reg ?_
    try refine lg_mk ?_
    refine u_mv ?_
    refine u_mv ?_
    refine lg_nil ?_
    refine h9 _ ?_; clear h9; try clear N9
    refine vc_seq_k fun N10 h10 => ?_
    have hx := And.intro @hxe (And.intro @eI.eq_1 hx0)
    refine u_reg ?_
    try refine lg_mk ?_
    refine u_mv ?_
    refine u_mv ?_
    refine u_mv ?_
    refine u_pt ?_
    refine u_ld ?_
    have hc := (rfl : ((E_rClo.at_ 19)).Γ 43 = some (Spec.pure rCloG))
    have hs := (@rCloG.eq_1)
    refine u_kp (hq := by (first | (trivial) | exact sd_)) ?_
    refine lg_nil ?_
    have hx := hx0
    refine h10 _ ?_; clear h10; try clear N10
    refine u_cond (fun hb11 => ?_) (fun hb11 => ?_)
    ·have ht := hb11
     try simp only [dP_rows] at ht
     refine vc_seq_k fun N12 h12 => ?_
     refine u_reg ?_
     try refine lg_mk ?_
     refine u_mv ?_
     refine u_mv ?_
     refine lg_nil ?_
     refine h12 _ ?_; clear h12; try clear N12
     refine vc_ret ?_
     try simp only [k_rules]
     rw [fidx_at hxe (by simpa using ht) k2]
     refine fin2_ ?_
     exact cl_
    ·have ht := hb11
     try simp only [dP_rows] at ht
     refine vc_skip ?_
     try simp only [k_rules]
     refine h8 _ ?_; clear h8; try clear N8
     refine u_reg ?_
     try refine lg_mk ?_
     refine u_bn ?_
     refine u_mv ?_
     refine lg_nil ?_
     refine h4 _ ⟨k' + 1, ?_, ?_, [], ?_⟩
     ·dsimp only
      exact ⟨by omega, all_false_snoc k2 hxe (by simpa using ht)⟩
     ·dsimp only
      omega
     ·dsimp only
      refine ⟨by rfl, ?_, ?_⟩
      ·refine fin_ ?_
       exact cl_
      ·refine fin_ ?_
       exact cl_
   ·refine vc_exit ?_
    simp only [k_rules, Nat.reduceEqDiff, reduceIte, eq_self]
    refine h2 _ ?_; clear h2; try clear N2
    refine vc_seq_k fun N13 h13 => ?_
    refine u_reg ?_
    try refine lg_mk ?_
    refine u_mv ?_
    refine lg_nil ?_
    refine h13 _ ?_; clear h13; try clear N13
    refine vc_ret ?_
    try simp only [k_rules]
    rw [fidx_none (by rw [List.take_of_length_le (by omega)] at k2; exact k2)]
    refine fin2_ ?_
    exact cl_
 ·cases hg

def E_ixF2 : Env Try.prog := E_rClo.add 49 (Spec.pure ixF2G) ixF2_meets (by kernel_rfl)

theorem delIF_meets : Meets Try.prog 38 (Spec.gen delIG) := by
 refine meets_handed (E_ixF2.at_ 42) Try.func38 rfl rfl rfl ?_
 intro args bl p r bf hg hp
 unfold delIG at hg
 split at hg
 ·rename_i n t s xs tb b tx z ps ti k
  simp only [Option.some.injEq, Prod.mk.injEq] at hg
  obtain ⟨rfl, rfl, rfl⟩ := hg
  obtain ⟨rfl, rfl, he, rfl, hl, hf, hsm, hk⟩ := hp
  generalize dI xs = l at *
  generalize dP ps = P at *
  subst he hf
  have hT : (E_ixF2).X = T := rfl
  have hx0 := And.intro @dP_rows @Try.results38
  have hx := hx0
  refine ⟨Nat.le_of_ble_eq_true rfl, ?_⟩
  intro F W0 M0 hnp hmk
  have hnp : Far.np = 4 := hnp
  refine vc_seq_k fun N1 h1 => ?_
  refine u_reg ?_
  try refine lg_mk ?_
  refine u_mv ?_
  refine lg_nil ?_
  refine h1 _ ?_; clear h1; try clear N1
  refine vc_seq_k fun N2 h2 => ?_
  refine u_reg ?_
  try refine lg_mk ?_
  refine u_mv ?_
  refine u_mv ?_
  have hc := call_rule (E := (E_ixF2.at_ 42)) (f := 49) (sp := Spec.pure ixF2G) rfl
  have hs := And.intro @ixF2G.eq_1 @ixF2G.eq_2
  refine u_cp (hq := by (first | (exact ⟨Nat.le_refl _, by simp; omega, hsm, hk⟩) | exact sd_)) ?_
  refine u_mv ?_
  refine lg_nil ?_
  simp only [List.take_length]
  refine h2 _ ?_; clear h2; try clear N2
  refine vc_seq_k fun N3 h3 => ?_
  refine vc_seq_k fun N4 h4 => ?_
  rcases fidx_or (outC b k P) l with ⟨hf1, hf2⟩ | ⟨i0, x0, hf1, hf2, hf3, hf4⟩
  ·have hdl := delI_none hf2
   have hx := And.intro @hf1 hx0
   refine u_reg ?_
   try refine lg_mk ?_
   refine u_mv ?_
   refine u_bn ?_
   refine lg_nil ?_
   have hx := hx0
   refine h4 _ ?_; clear h4; try clear N4
   refine u_cond (fun hb5 => ?_) (fun hb5 => ?_)
   ·refine vc_seq_k fun N6 h6 => ?_
    refine u_reg ?_
    try refine lg_mk ?_
    refine u_mv ?_
    refine u_mv ?_
    refine lg_nil ?_
    refine h6 _ ?_; clear h6; try clear N6
    refine vc_ret ?_
    try simp only [k_rules]
    rw [hdl]
    refine fin_ ?_
    refine ⟨[some 0, some 1, some 2, some 3], by rfl, ?_, ?_⟩
    ·refine fin_ ?_
     exact cl_
    ·refine fin_ ?_
     exact cl_
   ·first | omega | exact absurd trivial hb5 | contradiction | (simp_all; done)
  ·have hst := DelInv.start hf2 hf3 hf4
   have hi0 := (List.getElem?_eq_some_iff.1 hf2).1
   have hx := And.intro @hf1 hx0
   refine u_reg ?_
   try refine lg_mk ?_
   refine u_mv ?_
   refine u_bn ?_
   refine lg_nil ?_
   have hx := hx0
   refine h4 _ ?_; clear h4; try clear N4
   refine u_cond (fun hb7 => ?_) (fun hb7 => ?_)
   ·first | omega | exact absurd trivial hb7 | contradiction | (simp_all; done)
   ·refine vc_skip ?_
    try simp only [k_rules]
    refine h3 _ ?_; clear h3; try clear N3
    refine vc_seq_k fun N8 h8 => ?_
    refine vc_seq_k fun N9 h9 => ?_
    refine u_reg ?_
    try refine lg_mk ?_
    refine u_mv ?_
    refine u_bn ?_
    refine u_mv ?_
    refine lg_nil ?_
    refine h9 _ ?_; clear h9; try clear N9
    refine vc_block ?_
    refine vc_loop_mk (σ := Nat × Nat × List Int) (fun s => (fun i j m => DelInv (outC b k P) l m i j) (s.1) (s.2.1) (s.2.2))
     (fun s => (fun i j m => [(0, .sl 0 0 l.length), (1, .clo (.func 39) [.ptr 1 0 0, .ptr 2 0 0, .ptr 3 0 0]), (5, .d (.int .i64 (i : Nat))), (6, .d (.int .i64 (j : Nat)))]) (s.1) (s.2.1) (s.2.2))
     (fun s => (fun i j m => [some (.vec 3 1 (rows eI m)), some (.one tb [.d (.bool b)]), some (.one tx [.d z, .d (.sl (rows eP P))]), some (.one ti [.d (.int .i64 k)])]) (s.1) (s.2.1) (s.2.2)) (fun s => (fun i j m => l.length - j) (s.1) (s.2.1) (s.2.2)) hnp (i0, i0 + 1, l) ?_ [some 0, some 1, some 2, some 3] ?_ ?_
    ·dsimp only
     exact hst
    ·dsimp only
     refine ⟨by rfl, ?_, ?_⟩
     ·refine fin_ ?_
      exact cl_
     ·refine fin_ ?_
      exact cl_
    ·rintro ⟨i, j, m⟩ hinv N10 h10
     dsimp only at hinv ⊢
     have hiv := hinv
     have hml := hinv.len
     have hij := hinv.le
     have hjl := hinv.jl
     refine vc_seq_k fun N11 h11 => ?_
     refine vc_seq_k fun N12 h12 => ?_
     refine u_reg ?_
     try refine lg_mk ?_
     refine u_mv ?_
     refine u_mv ?_
     refine u_ln ?_
     refine u_bn ?_
     refine lg_nil ?_
     refine h12 _ ?_; clear h12; try clear N12
     refine u_cond (fun hb13 => ?_) (fun hb13 => ?_)
     ·obtain ⟨x, hmx, hlx⟩ := hiv.get (by have := hiv.len; omega)
      refine vc_skip ?_
      try simp only [k_rules]
      refine h11 _ ?_; clear h11; try clear N11
      refine vc_seq_k fun N14 h14 => ?_
      refine vc_block ?_
      refine vc_seq_k fun N15 h15 => ?_
      have hx := And.intro @hmx (And.intro @eI.eq_1 hx0)
      refine u_reg ?_
      try refine lg_mk ?_
      refine u_mv ?_
      refine u_mv ?_
      refine u_pt ?_
      refine u_ld ?_
      refine u_mv ?_
      refine lg_nil ?_
      have hx := hx0
      refine h15 _ ?_; clear h15; try clear N15
      refine vc_seq_k fun N16 h16 => ?_
      refine u_reg ?_
      try refine lg_mk ?_
      refine u_mv ?_
      refine u_mv ?_
      have hc := (rfl : ((E_ixF2.at_ 42)).Γ 39 = some (Spec.pure cCloG))
      have hs := (@cCloG.eq_1)
      refine u_kp (hq := by (first | (first | exact ⟨hsm, hk⟩ | exact ⟨rfl, hsm, hk⟩ | (rw [dP_rows]; first | exact ⟨rfl, hsm, hk⟩ | exact ⟨⟨trivial, trivial, trivial⟩, rfl, hsm, hk⟩)) | exact sd_)) ?_
      refine u_un ?_
      refine lg_nil ?_
      refine h16 _ ?_; clear h16; try clear N16
      refine u_cond (fun hb17 => ?_) (fun hb17 => ?_)
      ·have hq : outC b k P x = false := by have := hb17; (try simp only [dP_rows] at this); simpa using this
       obtain ⟨y, hye⟩ := getE (l := m) (i := i) (by omega)
       refine vc_seq_k fun N18 h18 => ?_
       have hx := And.intro @hye (And.intro @eI.eq_1 hx0)
       refine u_reg ?_
       try refine lg_mk ?_
       refine u_mv ?_
       refine u_mv ?_
       refine u_mv ?_
       refine u_pt ?_
       refine u_st ?_
       refine lg_nil ?_
       have hx := hx0
       refine h18 _ ?_; clear h18; try clear N18
       refine u_reg ?_
       try refine lg_mk ?_
       refine u_mv ?_
       refine u_bn ?_
       refine u_mv ?_
       refine lg_nil ?_
       refine h14 _ ?_; clear h14; try clear N14
       refine u_reg ?_
       try refine lg_mk ?_
       refine u_mv ?_
       refine u_bn ?_
       refine u_mv ?_
       refine lg_nil ?_
       refine h10 _ ⟨(i + 1, j + 1, m.set i x), ?_, ?_, [some 0, some 1, some 2, some 3], ?_⟩
       ·dsimp only
        exact hiv.keep hlx hq
       ·dsimp only
        omega
       ·dsimp only
        refine ⟨by rfl, ?_, ?_⟩
        ·refine fin_ ?_
         (repeat' apply And.intro) <;> (first | (first | rfl | trivial | (simp [rows, eI]; done)) | exact cl_)
        ·refine fin_ ?_
         (repeat' apply And.intro) <;> (first | (first | rfl | trivial | (simp [rows, eI]; done)) | exact cl_)
      ·have hq : outC b k P x = true := by have := hb17; (try simp only [dP_rows] at this); simpa using this
       refine vc_skip ?_
       try simp only [k_rules]
       refine h14 _ ?_; clear h14; try clear N14
       refine u_reg ?_
       try refine lg_mk ?_
       refine u_mv ?_
       refine u_bn ?_
       refine u_mv ?_
       refine lg_nil ?_
       refine h10 _ ⟨(i, j + 1, m), ?_, ?_, [some 0, some 1, some 2, some 3], ?_⟩
       ·dsimp only
        exact hiv.skip hlx hq
       ·dsimp only
        omega
       ·dsimp only
        refine ⟨by rfl, ?_, ?_⟩
        ·refine fin_ ?_
         (repeat' apply And.intro) <;> (first | (first | rfl | trivial | (simp [rows, eI]; done)) | exact cl_)
        ·refine fin_ ?_
         (repeat' apply And.intro) <;> (first | (first | rfl | trivial | (simp [rows, eI]; done)) | exact cl_)
     ·refine vc_exit ?_
      simp only [k_rules, Nat.reduceEqDiff, reduceIte, eq_self]
      refine h8 _ ?_; clear h8; try clear N8
      refine vc_seq_k fun N19 h19 => ?_
      refine u_reg ?_
      try refine lg_mk ?_
      refine u_mv ?_
      refine u_mv ?_
      refine u_sl ?_
      refine lg_sem (by rfl) (sem_clear (by first | (simp only [wB, eq_self, Nat.reduceEqDiff, reduceIte]; done) | (simp only [wB, eq_self, Nat.reduceEqDiff, reduceIte]; rfl)) (by first | trivial | simp only [wB, eq_self, Nat.reduceEqDiff, reduceIte]) (by simp only [wB, eq_self, Nat.reduceEqDiff, reduceIte]; rfl) (by first | (simp only [wB, eq_self, Nat.reduceEqDiff, reduceIte, env_rules, tys, hT, tiAgg]; done) | (simp only [wB, eq_self, Nat.reduceEqDiff, reduceIte, env_rules, tys, hT, tiAgg]; rfl)) (by first | (simp only [wB, eq_self, Nat.reduceEqDiff, reduceIte, env_rules, tys, hT, tiAgg]; done) | (simp only [wB, eq_self, Nat.reduceEqDiff, reduceIte, env_rules, tys, hT, tiAgg]; rfl)) rfl ?_)
      try simp only [wB, eq_self, Nat.reduceEqDiff, reduceIte, wL, Int.toNat_natCast, Int.reduceToNat, Nat.reduceAdd, Nat.reduceMul, Nat.reduceSub, Nat.reduceLeDiff, hx]
      refine lg_nil ?_
      refine h19 _ ?_; clear h19; try clear N19
      refine vc_seq_k fun N20 h20 => ?_
      refine u_reg ?_
      try refine lg_mk ?_
      refine u_mv ?_
      refine u_mv ?_
      refine u_sl ?_
      refine u_mv ?_
      refine lg_nil ?_
      refine h20 _ ?_; clear h20; try clear N20
      refine vc_ret ?_
      try simp only [k_rules]
      obtain rfl : j = l.length := by omega
      obtain ⟨hfi, hfl⟩ := hiv.fin
      rw [hfl, ← hfi]
      refine fin_ ?_
      refine ⟨[some 0, some 1, some 2, some 3], by rfl, ?_, ?_⟩
      ·refine fin_ ?_
       (repeat' apply And.intro) <;> (first | (first | rfl | trivial | omega | (simp [rows, splice, List.map_take]; done) | (simp [rows, splice, List.map_take]; omega)) | exact cl_)
      ·refine fin_ ?_
       (repeat' apply And.intro) <;> (first | (first | rfl | trivial | omega | (simp [rows, splice, List.map_take]; done) | (simp [rows, splice, List.map_take]; omega)) | exact cl_)
 ·rename_i n t s xs ti m'
  simp only [Option.some.injEq, Prod.mk.injEq] at hg
  obtain ⟨rfl, rfl, rfl⟩ := hg
  obtain ⟨rfl, rfl, he, rfl, hl⟩ := hp
  generalize dI xs = l at *
  subst he
  have hT : (E_ixF2).X = T := rfl
  have hx0 := And.intro @dP_rows @Try.results38
  have hx := hx0
  refine ⟨Nat.le_of_ble_eq_true rfl, ?_⟩
  intro F W0 M0 hnp hmk
  have hnp : Far.np = 2 := hnp
  refine vc_seq_k fun N1 h1 => ?_
  refine u_reg ?_
  try refine lg_mk ?_
  refine u_mv ?_
  refine lg_nil ?_
  refine h1 _ ?_; clear h1; try clear N1
  refine vc_seq_k fun N2 h2 => ?_
  refine u_reg ?_
  try refine lg_mk ?_
  refine u_mv ?_
  refine u_mv ?_
  have hc := call_rule (E := (E_ixF2.at_ 42)) (f := 49) (sp := Spec.pure ixF2G) rfl
  have hs := And.intro @ixF2G.eq_1 @ixF2G.eq_2
  refine u_cp (hq := by (first | (first | omega | (simp; omega)) | exact sd_)) ?_
  refine u_mv ?_
  refine lg_nil ?_
  simp only [List.take_length]
  refine h2 _ ?_; clear h2; try clear N2
  refine vc_seq_k fun N3 h3 => ?_
  refine vc_seq_k fun N4 h4 => ?_
  rcases fidx_or (isN m') l with ⟨hf1, hf2⟩ | ⟨i0, x0, hf1, hf2, hf3, hf4⟩
  ·have hdl := delI_none hf2
   have hx := And.intro @hf1 hx0
   refine u_reg ?_
   try refine lg_mk ?_
   refine u_mv ?_
   refine u_bn ?_
   refine lg_nil ?_
   have hx := hx0
   refine h4 _ ?_; clear h4; try clear N4
   refine u_cond (fun hb5 => ?_) (fun hb5 => ?_)
   ·refine vc_seq_k fun N6 h6 => ?_
    refine u_reg ?_
    try refine lg_mk ?_
    refine u_mv ?_
    refine u_mv ?_
    refine lg_nil ?_
    refine h6 _ ?_; clear h6; try clear N6
    refine vc_ret ?_
    try simp only [k_rules]
    rw [hdl]
    refine fin_ ?_
    refine ⟨[some 0, some 1], by rfl, ?_, ?_⟩
    ·refine fin_ ?_
     exact cl_
    ·refine fin_ ?_
     exact cl_
   ·first | omega | exact absurd trivial hb5 | contradiction | (simp_all; done)
  ·have hst := DelInv.start hf2 hf3 hf4
   have hi0 := (List.getElem?_eq_some_iff.1 hf2).1
   have hx := And.intro @hf1 hx0
   refine u_reg ?_
   try refine lg_mk ?_
   refine u_mv ?_
   refine u_bn ?_
   refine lg_nil ?_
   have hx := hx0
   refine h4 _ ?_; clear h4; try clear N4
   refine u_cond (fun hb7 => ?_) (fun hb7 => ?_)
   ·first | omega | exact absurd trivial hb7 | contradiction | (simp_all; done)
   ·refine vc_skip ?_
    try simp only [k_rules]
    refine h3 _ ?_; clear h3; try clear N3
    refine vc_seq_k fun N8 h8 => ?_
    refine vc_seq_k fun N9 h9 => ?_
    refine u_reg ?_
    try refine lg_mk ?_
    refine u_mv ?_
    refine u_bn ?_
    refine u_mv ?_
    refine lg_nil ?_
    refine h9 _ ?_; clear h9; try clear N9
    refine vc_block ?_
    refine vc_loop_mk (σ := Nat × Nat × List Int) (fun s => (fun i j m => DelInv (isN m') l m i j) (s.1) (s.2.1) (s.2.2))
     (fun s => (fun i j m => [(0, .sl 0 0 l.length), (1, .clo (.func 43) [.ptr 1 0 0]), (5, .d (.int .i64 (i : Nat))), (6, .d (.int .i64 (j : Nat)))]) (s.1) (s.2.1) (s.2.2))
     (fun s => (fun i j m => [some (.vec 3 1 (rows eI m)), some (.one ti [.d (.int .i64 m')])]) (s.1) (s.2.1) (s.2.2)) (fun s => (fun i j m => l.length - j) (s.1) (s.2.1) (s.2.2)) hnp (i0, i0 + 1, l) ?_ [some 0, some 1] ?_ ?_
    ·dsimp only
     exact hst
    ·dsimp only
     refine ⟨by rfl, ?_, ?_⟩
     ·refine fin_ ?_
      exact cl_
     ·refine fin_ ?_
      exact cl_
    ·rintro ⟨i, j, m⟩ hinv N10 h10
     dsimp only at hinv ⊢
     have hiv := hinv
     have hml := hinv.len
     have hij := hinv.le
     have hjl := hinv.jl
     refine vc_seq_k fun N11 h11 => ?_
     refine vc_seq_k fun N12 h12 => ?_
     refine u_reg ?_
     try refine lg_mk ?_
     refine u_mv ?_
     refine u_mv ?_
     refine u_ln ?_
     refine u_bn ?_
     refine lg_nil ?_
     refine h12 _ ?_; clear h12; try clear N12
     refine u_cond (fun hb13 => ?_) (fun hb13 => ?_)
     ·obtain ⟨x, hmx, hlx⟩ := hiv.get (by have := hiv.len; omega)
      refine vc_skip ?_
      try simp only [k_rules]
      refine h11 _ ?_; clear h11; try clear N11
      refine vc_seq_k fun N14 h14 => ?_
      refine vc_block ?_
      refine vc_seq_k fun N15 h15 => ?_
      have hx := And.intro @hmx (And.intro @eI.eq_1 hx0)
      refine u_reg ?_
      try refine lg_mk ?_
      refine u_mv ?_
      refine u_mv ?_
      refine u_pt ?_
      refine u_ld ?_
      refine u_mv ?_
      refine lg_nil ?_
      have hx := hx0
      refine h15 _ ?_; clear h15; try clear N15
      refine vc_seq_k fun N16 h16 => ?_
      refine u_reg ?_
      try refine lg_mk ?_
      refine u_mv ?_
      refine u_mv ?_
      have hc := (rfl : ((E_ixF2.at_ 42)).Γ 43 = some (Spec.pure rCloG))
      have hs := (@rCloG.eq_1)
      refine u_kp (hq := by (first | (trivial) | exact sd_)) ?_
      refine u_un ?_
      refine lg_nil ?_
      refine h16 _ ?_; clear h16; try clear N16
      refine u_cond (fun hb17 => ?_) (fun hb17 => ?_)
      ·have hq : isN m' x = false := by have := hb17; (try simp only [dP_rows] at this); simpa using this
       obtain ⟨y, hye⟩ := getE (l := m) (i := i) (by omega)
       refine vc_seq_k fun N18 h18 => ?_
       have hx := And.intro @hye (And.intro @eI.eq_1 hx0)
       refine u_reg ?_
       try refine lg_mk ?_
       refine u_mv ?_
       refine u_mv ?_
       refine u_mv ?_
       refine u_pt ?_
       refine u_st ?_
       refine lg_nil ?_
       have hx := hx0
       refine h18 _ ?_; clear h18; try clear N18
       refine u_reg ?_
       try refine lg_mk ?_
       refine u_mv ?_
       refine u_bn ?_
       refine u_mv ?_
       refine lg_nil ?_
       refine h14 _ ?_; clear h14; try clear N14
       refine u_reg ?_
       try refine lg_mk ?_
       refine u_mv ?_
       refine u_bn ?_
       refine u_mv ?_
       refine lg_nil ?_
       refine h10 _ ⟨(i + 1, j + 1, m.set i x), ?_, ?_, [some 0, some 1], ?_⟩
       ·dsimp only
        exact hiv.keep hlx hq
       ·dsimp only
        omega
       ·dsimp only
        refine ⟨by rfl, ?_, ?_⟩
        ·refine fin_ ?_
         (repeat' apply And.intro) <;> (first | (first | rfl | trivial | (simp [rows, eI]; done)) | exact cl_)
        ·refine fin_ ?_
         (repeat' apply And.intro) <;> (first | (first | rfl | trivial | (simp [rows, eI]; done)) | exact cl_)
      ·have hq : isN m' x = true := by have := hb17; (try simp only [dP_rows] at this); simpa using this
       refine vc_skip ?_
       try simp only [k_rules]
       refine h14 _ ?_; clear h14; try clear N14
       refine u_reg ?_
       try refine lg_mk ?_
       refine u_mv ?_
       refine u_bn ?_
       refine u_mv ?_
       refine lg_nil ?_
       refine h10 _ ⟨(i, j + 1, m), ?_, ?_, [some 0, some 1], ?_⟩
       ·dsimp only
        exact hiv.skip hlx hq
       ·dsimp only
        omega
       ·dsimp only
        refine ⟨by rfl, ?_, ?_⟩
        ·refine fin_ ?_
         (repeat' apply And.intro) <;> (first | (first | rfl | trivial | (simp [rows, eI]; done)) | exact cl_)
        ·refine fin_ ?_
         (repeat' apply And.intro) <;> (first | (first | rfl | trivial | (simp [rows, eI]; done)) | exact cl_)
     ·refine vc_exit ?_
      simp only [k_rules, Nat.reduceEqDiff, reduceIte, eq_self]
      refine h8 _ ?_; clear h8; try clear N8
      refine vc_seq_k fun N19 h19 => ?_
      refine u_reg ?_
      try refine lg_mk ?_
      refine u_mv ?_
      refine u_mv ?_
      refine u_sl ?_
      refine lg_sem (by rfl) (sem_clear (by first | (simp only [wB, eq_self, Nat.reduceEqDiff, reduceIte]; done) | (simp only [wB, eq_self, Nat.reduceEqDiff, reduceIte]; rfl)) (by first | trivial | simp only [wB, eq_self, Nat.reduceEqDiff, reduceIte]) (by simp only [wB, eq_self, Nat.reduceEqDiff, reduceIte]; rfl) (by first | (simp only [wB, eq_self, Nat.reduceEqDiff, reduceIte, env_rules, tys, hT, tiAgg]; done) | (simp only [wB, eq_self, Nat.reduceEqDiff, reduceIte, env_rules, tys, hT, tiAgg]; rfl)) (by first | (simp only [wB, eq_self, Nat.reduceEqDiff, reduceIte, env_rules, tys, hT, tiAgg]; done) | (simp only [wB, eq_self, Nat.reduceEqDiff, reduceIte, env_rules, tys, hT, tiAgg]; rfl)) rfl ?_)
      try simp only [wB, eq_self, Nat.reduceEqDiff, reduceIte, wL, Int.toNat_natCast, Int.reduceToNat, Nat.reduceAdd, Nat.reduceMul, Nat.reduceSub, Nat.reduceLeDiff, hx]
      refine lg_nil ?_
      refine h19 _ ?_; clear h19; try clear N19
      refine vc_seq_k fun N20 h20 => ?_
      refine u_reg ?_
      try refine lg_mk ?_
      refine u_mv ?_
      refine u_mv ?_
      refine u_sl ?_
      refine u_mv ?_
      refine lg_nil ?_
      refine h20 _ ?_; clear h20; try clear N20
      refine vc_ret ?_
      try simp only [k_rules]
      obtain rfl : j = l.length := by omega
      obtain ⟨hfi, hfl⟩ := hiv.fin
      rw [hfl, ← hfi]
      refine fin_ ?_
      refine ⟨[some 0, some 1], by rfl, ?_, ?_⟩
      ·refine fin_ ?_
       (repeat' apply And.intro) <;> (first | (first | rfl | trivial | omega | (simp [rows, splice, List.map_take]; done) | (simp [rows, splice, List.map_take]; omega)) | exact cl_)
      ·refine fin_ ?_
       (repeat' apply And.intro) <;> (first | (first | rfl | trivial | omega | (simp [rows, splice, List.map_take]; done) | (simp [rows, splice, List.map_take]; omega)) | exact cl_)
 ·cases hg

def E_delIF : Env Try.prog := E_ixF2.add 38 (Spec.gen delIG) delIF_meets (by kernel_rfl)
end Go.Proofs.Ytjdhadbnmghdgaa
