/- Walks, printed by wip/gen/walk.py. -/
import Derived.Test.YtjpkgmmmmcgmeaaT11
import Derived.Test.YtjpkgmmmmcgmeaaV6
import Derived.Test.YtjpkgmmmmcgmeaaV5
set_option linter.all false
set_option maxRecDepth 100000
set_option maxHeartbeats 4000000
namespace Go.Proofs.Ytjpkgmmmmcgmeaa
open Go Go.Vc Go.RowKit
def growMG : GFun
  | [.d .nils, .d (.int .i64 n)], [] => some (0 ≤ n ∧ n ≤ 1000000000, .sl 0 0 0, [some (.vec 52 2 [])])
  | _, _ => none
def dMM : List (List D) → List (List Mk) := List.map fun x => match x with | [.sl r] => dM r | _ => []
theorem dMM_rows (l : List (List Mk)) : dMM (rows (eL eM) l) = l := by
  simp only [dMM, rows, List.map_map]
  conv => rhs; rw [← List.map_id l]
  refine List.map_congr_left fun c _ => ?_
  show dM (rows eM c) = c
  exact dM_rows c
theorem take0M (l : List (List D)) : l.take 0 = [] := rfl
theorem take_lenM (l : List Mk) : l.take l.length = l := List.take_length
theorem dMM_two (a b : List Mk) : dMM [[.sl (rows eM a)], [.sl (rows eM b)]] = [a, b] := dMM_rows [a, b]
theorem two_rows (a b : List Mk) : rows (eL eM) [a, b] = [[.sl (rows eM a)], [.sl (rows eM b)]] := rfl
theorem two_flat (a b : List Mk) : [a, b].flatten = a ++ b := by simp
def catMG : List AV → Option (Prop × AV)
  | [.d (.sl xs)] => some (xs = rows (eL eM) (dMM xs) ∧ (dMM xs).flatten.length ≤ 1000000000 ∧ (dMM xs).length ≤ 1000000000, .d (.sl (rows eM (dMM xs).flatten)))
  | _ => none
theorem flat_snocM {ll : List (List Mk)} {k : Nat} {c : List Mk} (h : ll[k]? = some c) : (ll.take (k + 1)).flatten = (ll.take k).flatten ++ c := by
  rw [List.take_add_one, h]; simp
theorem flat_leM {ll : List (List Mk)} (k : Nat) : (ll.take k).flatten.length ≤ ll.flatten.length := by
  conv => rhs; rw [← List.take_append_drop k ll]
  rw [List.flatten_append, List.length_append]; omega
def cmp0G : List AV → Option (Prop × AV)
  | [.agg [.d (.int .i64 a), .d (.sl xs)], .agg [.d (.int .i64 b), .d (.sl ys)]] => some (xs = rows eI (dI xs) ∧ (dI xs).length ≤ 9223372036854775807 ∧ ys = rows eI (dI ys) ∧ (dI ys).length ≤ 9223372036854775807, .d (.bool (decide (cmpK ⟨a, dI xs⟩ ⟨b, dI ys⟩ = 0))))
  | _ => none
def cpMG : GFun
  | [.sl 0 0 n, .clo (.func 34) []], [some (.vec t s xs)] =>
    some (t = 52 ∧ s = 2 ∧ xs = rows eM (dM xs) ∧ n = (dM xs).length ∧ (dM xs).length ≤ 1000000000 ∧ smallM (dM xs), .sl 0 0 (onceN (dM xs) (dM xs).length).length, [some (.vec 52 2 (rows eM (onceN (dM xs) (dM xs).length)))])
  | _, _ => none
theorem onceN_yes {l : List Mk} {k : Nat} {x y : Mk} (hx : l[k]? = some x) (hy : 0 < k → l[k - 1]? = some y) (h : 0 < k → y ≠ x) : onceN l (k + 1) = onceN l k ++ [x] := by
  show (match l[k]? with | none => onceN l k | some x => if 0 < k ∧ l.getD (k - 1) default = x then onceN l k else onceN l k ++ [x]) = _
  rw [hx]; dsimp only
  rw [if_neg]
  rintro ⟨h0, h1⟩
  rw [getD_at (hy h0)] at h1
  exact h h0 h1
theorem onceN_no {l : List Mk} {k : Nat} {x : Mk} (hx : l[k]? = some x) (h0 : 0 < k) (hy : l[k - 1]? = some x) : onceN l (k + 1) = onceN l k := by
  show (match l[k]? with | none => onceN l k | some x => if 0 < k ∧ l.getD (k - 1) default = x then onceN l k else onceN l k ++ [x]) = _
  rw [hx]; dsimp only
  rw [if_pos ⟨h0, getD_at hy⟩]
theorem onceN_all {l : List Mk} : ∀ {k : Nat}, k ≤ l.length → (∀ j, 0 < j → j < k → l.getD (j - 1) default ≠ l.getD j default) → onceN l k = l.take k
  | 0, _, _ => by simp [onceN]
  | k + 1, hk, h => by
    obtain ⟨x, hx⟩ := getE (l := l) (i := k) (by omega)
    have ih := onceN_all (k := k) (by omega) (fun j h0 h1 => h j h0 (by omega))
    rw [List.take_add_one, hx]
    rcases Nat.eq_zero_or_pos k with h0 | h0
    · rw [onceN_yes (y := x) hx (fun h => by omega) (fun h => by omega), ih]; rfl
    · obtain ⟨y, hy⟩ := getE (l := l) (i := k - 1) (by omega)
      have := h k h0 (by omega)
      rw [getD_at hx, getD_at hy] at this
      rw [onceN_yes hx (fun _ => hy) (fun _ => this), ih]; rfl
/-- CompactFunc's inner loop. -/
structure CpI (l m : List Mk) (k w j : Nat) : Prop where
  len : m.length = l.length
  j1 : 1 ≤ j
  jl : k + j ≤ l.length
  wl : w + 1 ≤ k + j
  low : m.take w = onceN l (k + j)
  wn : (onceN l (k + j)).length = w
  high : m.drop (k + j - 1) = l.drop (k + j - 1)
theorem CpI.start {l : List Mk} {k : Nat} {x : Mk} (h0 : 0 < k) (hx : l[k]? = some x) (hy : l[k - 1]? = some x) (hn : ∀ j, 0 < j → j < k → l.getD (j - 1) default ≠ l.getD j default) : CpI l l k k 1 := by
  have hk := (List.getElem?_eq_some_iff.1 hx).1
  have e : onceN l (k + 1) = l.take k := by rw [onceN_no hx h0 hy, onceN_all (by omega) hn]
  exact ⟨rfl, by omega, by omega, by omega, e.symm, by rw [e, List.length_take]; omega, rfl⟩
theorem CpI.at {l m : List Mk} {k w j i : Nat} (h : CpI l m k w j) (hi : k + j - 1 ≤ i) : m[i]? = l[i]? := by
  have := congrArg (fun z => z[i - (k + j - 1)]?) h.high
  simp only [List.getElem?_drop] at this
  rwa [show k + j - 1 + (i - (k + j - 1)) = i by omega] at this
theorem CpI.keep {l m : List Mk} {k w j : Nat} {x y : Mk} (h : CpI l m k w j) (hx : m[k + j]? = some x) (hy : m[k + j - 1]? = some y) (hne : y ≠ x) : CpI l (m.set w x) k (w + 1) (j + 1) := by
  have hlx := h.at (i := k + j) (by omega); have hly := h.at (i := k + j - 1) (by omega)
  rw [hx] at hlx; rw [hy] at hly
  have hj := (List.getElem?_eq_some_iff.1 hx).1
  have := h.wl; have := h.len; have := h.j1
  have e := onceN_yes hlx.symm (fun _ => hly.symm) (fun _ => hne)
  refine ⟨by simp [h.len], by omega, by omega, by omega, ?_, ?_, ?_⟩
  · rw [show k + (j + 1) = k + j + 1 by omega, e, List.take_add_one, List.take_set_of_le (Nat.le_refl _), h.low, List.getElem?_set, if_pos rfl, if_pos (by omega)]; rfl
  · rw [show k + (j + 1) = k + j + 1 by omega, e, List.length_append, h.wn]; rfl
  · rw [show k + (j + 1) - 1 = k + j - 1 + 1 by omega, List.drop_set_of_lt (by omega), ← List.drop_drop, ← List.drop_drop, h.high]
theorem CpI.skip {l m : List Mk} {k w j : Nat} {x : Mk} (h : CpI l m k w j) (hx : m[k + j]? = some x) (hy : m[k + j - 1]? = some x) : CpI l m k w (j + 1) := by
  have hlx := h.at (i := k + j) (by omega); have hly := h.at (i := k + j - 1) (by omega)
  rw [hx] at hlx; rw [hy] at hly
  have hj := (List.getElem?_eq_some_iff.1 hx).1
  have := h.wl; have := h.len; have := h.j1
  have e := onceN_no hlx.symm (by omega) hly.symm
  refine ⟨h.len, by omega, by omega, by omega, ?_, ?_, ?_⟩
  · rw [show k + (j + 1) = k + j + 1 by omega, e]; exact h.low
  · rw [show k + (j + 1) = k + j + 1 by omega, e]; exact h.wn
  · rw [show k + (j + 1) - 1 = k + j - 1 + 1 by omega, ← List.drop_drop, ← List.drop_drop, h.high]
theorem CpI.fin {l m : List Mk} {k w j : Nat} (h : CpI l m k w j) (he : k + j = l.length) : m.take w = onceN l l.length ∧ (onceN l l.length).length = w := by rw [← he]; exact ⟨h.low, h.wn⟩
def mgG : List AV → Option (Prop × AV)
  | [.d (.sl xs), .d (.sl ys)] => some (xs = rows eM (dM xs) ∧ ys = rows eM (dM ys) ∧ (dM xs).length ≤ 9223372036854775807 ∧ (dM ys).length ≤ 9223372036854775807 ∧ smallM (dM xs) ∧ smallM (dM ys), .tup [.d (.sl (rows eM (mgR (dM xs) (dM ys)))), .agg [.d (.int .i64 (mgF (dM xs) (dM ys)).1), .d (.int .i64 (mgF (dM xs) (dM ys)).2)]])
  | _ => none
theorem nw60 {m : Mk} (h : chkR m = true ∧ incB m.nw = true) : m.nw.length ≤ 60 := by
  unfold chkR at h
  rw [Bool.and_eq_true] at h
  refine (vis_of fun j hj => ?_).len
  obtain ⟨x, hx⟩ := getE (l := m.nw) (i := j) hj
  have hr := List.all_eq_true.1 h.1.2 x (mem_at hx)
  rw [visC_ok (y := m.nw.getD (j - 1) 0) hx hr]
  intro h0
  obtain ⟨y, hy⟩ := getE (l := m.nw) (i := j - 1) (by omega)
  rw [getD_at hy]
  refine ⟨hy, ?_⟩
  have := h.2
  unfold incB at this
  have := List.all_eq_true.1 this j (List.mem_range.2 hj)
  simp only [Bool.or_eq_true, beq_iff_eq, decide_eq_true_eq] at this
  rcases this with h1 | h1
  · omega
  · rw [getD_at hx, getD_at hy] at h1; exact h1
theorem unK_mem {a b : List Mk} {m : Mk} (h : m ∈ unK a b) : m ∈ a ∨ m ∈ b := by
  unfold unK at h
  rw [onceN_mem (by rw [sortK_len]; exact Nat.le_refl _), List.take_of_length_le (by rw [sortK_len]; exact Nat.le_refl _), sortK_mem, List.mem_append] at h
  exact h
theorem unK_at (a b : List Mk) : onceN (sortK (a ++ b)) (sortK (a ++ b)).length = unK a b := by unfold unK; rw [sortK_len]
theorem unK_at2 (a b : List Mk) : onceN (sortK (a ++ b)) (a ++ b).length = unK a b := rfl
theorem unK_len (a b : List Mk) : (unK a b).length ≤ a.length + b.length := by
  have := onceN_len (sortK (a ++ b)) (a ++ b).length
  unfold unK; have e : (a ++ b).length = a.length + b.length := List.length_append; omega

theorem growM_meets : Meets Try.prog 50 (Spec.fresh growMG) := by
 refine meets_fresh (E_sortM.at_ 27) Try.func50 rfl rfl rfl ?_
 intro args bl p r bf hg hp
 unfold growMG at hg
 split at hg
 ·rename_i n
  simp only [Option.some.injEq, Prod.mk.injEq] at hg
  obtain ⟨rfl, rfl, rfl⟩ := hg
  obtain ⟨h0, hn⟩ := hp
  have hT : (E_sortM).X = T := rfl
  have hx0 := @Try.results50
  have hx := hx0
  refine ⟨Nat.le_of_ble_eq_true rfl, ?_⟩
  intro F W0 M0 hnp hmk
  have hnp : Far.np = 0 := hnp
  refine vc_seq_k fun N1 h1 => ?_
  refine u_reg ?_
  try refine lg_mk ?_
  refine u_mv ?_
  refine lg_nil ?_
  refine h1 _ ?_; clear h1; try clear N1
  refine vc_seq_k fun N2 h2 => ?_
  refine vc_seq_k fun N3 h3 => ?_
  refine u_reg ?_
  try refine lg_mk ?_
  refine u_mv ?_
  refine u_bn ?_
  refine lg_nil ?_
  refine h3 _ ?_; clear h3; try clear N3
  refine u_cond (fun hb4 => ?_) (fun hb4 => ?_)
  ·first | omega | exact absurd trivial hb4 | contradiction | (simp_all; done)
  ·refine vc_skip ?_
   try simp only [k_rules]
   refine h2 _ ?_; clear h2; try clear N2
   refine vc_seq_k fun N5 h5 => ?_
   refine vc_seq_k fun N6 h6 => ?_
   refine u_reg ?_
   try refine lg_mk ?_
   refine u_mv ?_
   refine u_mv ?_
   refine lg_sem (by rfl) (sem_cap (by first | (simp only [wB, eq_self, Nat.reduceEqDiff, reduceIte]; done) | (simp only [wB, eq_self, Nat.reduceEqDiff, reduceIte]; rfl)) (by first | trivial | simp only [wB, eq_self, Nat.reduceEqDiff, reduceIte]) (by first | (simp only [wB, eq_self, Nat.reduceEqDiff, reduceIte, env_rules, tys, hT, tiAgg]; done) | (simp only [wB, eq_self, Nat.reduceEqDiff, reduceIte, env_rules, tys, hT, tiAgg]; rfl)) (by first | (simp only [slA, wB, eq_self, Nat.reduceEqDiff, reduceIte]; done) | (simp only [slA, wB, eq_self, Nat.reduceEqDiff, reduceIte]; rfl)) fun z_r3_2 hz_r3_2 hz_r3_2' => ?_)
   try (obtain rfl := hz_r3_2' rfl)
   refine u_mv ?_
   refine u_ln ?_
   refine u_bn ?_
   refine u_bn ?_
   refine u_mv ?_
   refine lg_nil ?_
   refine h6 _ ?_; clear h6; try clear N6
   refine vc_seq_k fun N7 h7 => ?_
   refine u_reg ?_
   try refine lg_mk ?_
   refine u_mv ?_
   refine u_bn ?_
   refine lg_nil ?_
   refine h7 _ ?_; clear h7; try clear N7
   refine u_cond (fun hb8 => ?_) (fun hb8 => ?_)
   ·refine u_reg ?_
    try refine lg_mk ?_
    refine u_mv ?_
    refine u_mv ?_
    refine lg_sem (by rfl) (sem_cap (by first | (simp only [wB, eq_self, Nat.reduceEqDiff, reduceIte]; done) | (simp only [wB, eq_self, Nat.reduceEqDiff, reduceIte]; rfl)) (by first | trivial | simp only [wB, eq_self, Nat.reduceEqDiff, reduceIte]) (by first | (simp only [wB, eq_self, Nat.reduceEqDiff, reduceIte, env_rules, tys, hT, tiAgg]; done) | (simp only [wB, eq_self, Nat.reduceEqDiff, reduceIte, env_rules, tys, hT, tiAgg]; rfl)) (by first | (simp only [slA, wB, eq_self, Nat.reduceEqDiff, reduceIte]; done) | (simp only [slA, wB, eq_self, Nat.reduceEqDiff, reduceIte]; rfl)) fun z_r5_2 hz_r5_2 hz_r5_2' => ?_)
    try (obtain rfl := hz_r5_2' rfl)
    refine u_sl ?_
    refine u_mv ?_
    refine lg_sem (by rfl) (sem_appendM (by first | (simp only [wB, eq_self, Nat.reduceEqDiff, reduceIte]; done) | (simp only [wB, eq_self, Nat.reduceEqDiff, reduceIte]; rfl)) (by first | trivial | simp only [wB, eq_self, Nat.reduceEqDiff, reduceIte]) (by first | (simp only [wB, eq_self, Nat.reduceEqDiff, reduceIte, env_rules, tys, hT, tiAgg]; done) | (simp only [wB, eq_self, Nat.reduceEqDiff, reduceIte, env_rules, tys, hT, tiAgg]; rfl)) (by first | (simp only [wB, eq_self, Nat.reduceEqDiff, reduceIte, env_rules, tys, hT, tiAgg]; done) | (simp only [wB, eq_self, Nat.reduceEqDiff, reduceIte, env_rules, tys, hT, tiAgg]; rfl)) (by first | (simp only [wB, eq_self, Nat.reduceEqDiff, reduceIte, env_rules, tys, hT, tiAgg]; done) | (simp only [wB, eq_self, Nat.reduceEqDiff, reduceIte, env_rules, tys, hT, tiAgg]; rfl)) (by first | (simp only [wB, eq_self, Nat.reduceEqDiff, reduceIte]; done) | (simp only [wB, eq_self, Nat.reduceEqDiff, reduceIte]; rfl)) (by first | trivial | simp only [wB, eq_self, Nat.reduceEqDiff, reduceIte]) (by exact sd_) (by exact sd_) (by exact sd_) ?_)
    try simp only [wB, eq_self, Nat.reduceEqDiff, reduceIte, wL, Int.toNat_natCast, Int.reduceToNat, Nat.reduceAdd, Nat.reduceMul, Nat.reduceSub, Nat.reduceLeDiff, hx]
    refine u_mv ?_
    refine u_ln ?_
    refine u_sl ?_
    refine u_mv ?_
    refine lg_nil ?_
    refine h5 _ ?_; clear h5; try clear N5
    refine vc_seq_k fun N9 h9 => ?_
    try refine vc_short (id := 0) 0 (by rfl) ?_
    have hx := And.intro @take0M hx0
    refine u_reg ?_
    try refine lg_mk ?_
    refine u_mv ?_
    refine u_mv ?_
    refine lg_nil ?_
    have hx := hx0
    refine h9 _ ?_; clear h9; try clear N9
    refine vc_ret ?_
    try simp only [k_rules]
    refine fin_ ?_
    refine ⟨[some 0], by rfl, ?_, ?_⟩
    ·refine fin_ ?_
     exact cl_
    ·refine fin_ ?_
     exact cl_
   ·refine vc_skip ?_
    try simp only [k_rules]
    refine h5 _ ?_; clear h5; try clear N5
    refine vc_seq_k fun N10 h10 => ?_
    try refine vc_short (id := 0) 0 (by rfl) ?_
    have hx := And.intro @take0M hx0
    refine u_reg ?_
    try refine lg_mk ?_
    refine u_mv ?_
    refine u_mv ?_
    refine lg_nil ?_
    have hx := hx0
    refine h10 _ ?_; clear h10; try clear N10
    refine vc_ret ?_
    try simp only [k_rules]
    refine fin_ ?_
    refine ⟨[none], by rfl, ?_, ?_⟩
    ·refine fin_ ?_
     exact cl_
    ·refine fin_ ?_
     exact cl_
 ·cases hg

def E_growM : Env Try.prog := E_sortM.add 50 (Spec.fresh growMG) growM_meets (by kernel_rfl)

theorem catM_meets : Meets Try.prog 29 (Spec.pure catMG) := by
 refine meets_fun (E_growM.at_ 36) Try.func29 rfl rfl rfl ?_
 intro args p r hg hp
 unfold catMG at hg
 split at hg
 ·rename_i xs
  simp only [Option.some.injEq, Prod.mk.injEq] at hg
  obtain ⟨rfl, rfl⟩ := hg
  obtain ⟨hx, hb, hb2⟩ := hp
  generalize dMM xs = ll at *
  subst hx
  have hT : (E_growM).X = T := rfl
  have hx0 := And.intro @rect_eM @Try.results29
  have hx := hx0
  refine ⟨by rfl, ?_⟩
  intro F W0 hnp hmk
  refine vc_seq_k fun N1 h1 => ?_
  refine u_reg ?_
  try refine lg_mk ?_
  refine u_mv ?_
  refine lg_nil ?_
  refine h1 _ ?_; clear h1; try clear N1
  refine vc_seq_k fun N2 h2 => ?_
  refine u_reg ?_
  try refine lg_mk ?_
  refine u_mv ?_
  refine lg_nil ?_
  refine h2 _ ?_; clear h2; try clear N2
  refine vc_seq_k fun N3 h3 => ?_
  refine vc_seq_k fun N4 h4 => ?_
  refine u_reg ?_
  try refine lg_mk ?_
  refine u_mv ?_
  refine u_ln ?_
  refine u_mv ?_
  refine lg_nil ?_
  refine h4 _ ?_; clear h4; try clear N4
  refine vc_block ?_
  refine vc_loop_mk (σ := Nat) (fun s => (fun k => k ≤ ll.length) s)
   (fun s => (fun k => [(0, .d (.sl (rows (eL eM) ll))), (3, .d (.int .i64 ((ll.take k).flatten.length : Nat))), (9, .d (.sl (rows (eL eM) ll))), (10, .d (.int .i64 (ll.length : Nat))), (11, .d (.int .i64 (k : Nat)))]) s)
   (fun s => (fun k => []) s) (fun s => (fun k => ll.length - k) s) hnp 0 ?_ [] ?_ ?_
  ·dsimp only
   omega
  ·dsimp only
   refine ⟨by rfl, ?_, ?_⟩
   ·refine fin_ ?_
    exact cl_
   ·refine fin_ ?_
    exact cl_
  ·rintro k hinv N5 h5
   dsimp only at hinv ⊢
   refine vc_seq_k fun N6 h6 => ?_
   refine u_reg ?_
   try refine lg_mk ?_
   refine u_bn ?_
   refine lg_nil ?_
   refine h6 _ ?_; clear h6; try clear N6
   refine vc_seq_k fun N7 h7 => ?_
   refine u_cond (fun hb8 => ?_) (fun hb8 => ?_)
   ·obtain ⟨c, hc⟩ : ∃ c, ll[k]? = some c := ⟨_, List.getElem?_eq_getElem (by omega)⟩
    have hf := flat_snocM hc
    have hle := flat_leM (ll := ll) (k + 1)
    have hfl : ((ll.take (k + 1)).flatten).length = (ll.take k).flatten.length + c.length := by rw [hf, List.length_append]
    refine vc_skip ?_
    try simp only [k_rules]
    refine h7 _ ?_; clear h7; try clear N7
    refine vc_seq_k fun N9 h9 => ?_
    refine vc_block ?_
    refine vc_seq_k fun N10 h10 => ?_
    have hx := And.intro @hc (And.intro @eL.eq_1 hx0)
    refine u_reg ?_
    try refine lg_mk ?_
    refine u_pt ?_
    refine u_ld ?_
    refine u_mv ?_
    refine lg_nil ?_
    have hx := hx0
    refine h10 _ ?_; clear h10; try clear N10
    refine vc_seq_k fun N11 h11 => ?_
    refine u_reg ?_
    try refine lg_mk ?_
    refine u_mv ?_
    refine u_mv ?_
    refine u_ln ?_
    refine u_bn ?_
    refine u_mv ?_
    refine lg_nil ?_
    refine h11 _ ?_; clear h11; try clear N11
    refine vc_seq_k fun N12 h12 => ?_
    refine u_reg ?_
    try refine lg_mk ?_
    refine u_mv ?_
    refine u_bn ?_
    refine lg_nil ?_
    refine h12 _ ?_; clear h12; try clear N12
    refine u_cond (fun hb13 => ?_) (fun hb13 => ?_)
    ·first | omega | exact absurd trivial hb13 | contradiction | (simp_all; done)
    ·refine vc_skip ?_
     try simp only [k_rules]
     refine h9 _ ?_; clear h9; try clear N9
     refine u_reg ?_
     try refine lg_mk ?_
     refine u_bn ?_
     refine u_mv ?_
     refine lg_nil ?_
     refine h5 _ ⟨k + 1, ?_, ?_, [], ?_⟩
     ·dsimp only
      omega
     ·dsimp only
      omega
     ·dsimp only
      refine ⟨by rfl, ?_, ?_⟩
      ·refine fin_ ?_
       (repeat' apply And.intro) <;> (first | (rw [hfl]; simp; done) | exact cl_)
      ·refine fin_ ?_
       (repeat' apply And.intro) <;> (first | (rw [hfl]; simp; done) | exact cl_)
   ·have hk : k = ll.length := by omega
    subst hk
    have hle := flat_leM (ll := ll) ll.length
    refine vc_exit ?_
    simp only [k_rules, Nat.reduceEqDiff, reduceIte, eq_self]
    refine h3 _ ?_; clear h3; try clear N3
    refine vc_seq_k fun N14 h14 => ?_
    refine u_reg ?_
    try refine lg_mk ?_
    refine u_mv ?_
    refine lg_sem (by rfl) (sem_call_raw (f := 50) (sp := Spec.fresh growMG) rfl (by simp only [map_rules, wB, eq_self, Nat.reduceEqDiff, reduceIte]; rfl) (by simp only [wB, eq_self, Nat.reduceEqDiff, reduceIte, and_true]) (by simp only [wB, eq_self, Nat.reduceEqDiff, reduceIte, wG, growMG, Nat.reduceAdd, Nat.reduceSub, Nat.reduceLT, Nat.reduceLeDiff, if_true, if_false, ite_self, List.mem_append, true_implies, Option.bind_some, wL, Int.toNat_natCast, Int.reduceToNat, Nat.reduceAdd, Nat.reduceMul, Nat.reduceSub, Nat.reduceLeDiff, dI_rows, dB_rows, dU_rows, hx]; rfl) (by exact sd_) ?_)
    simp only [wB, eq_self, Nat.reduceEqDiff, reduceIte, wG, growMG, Nat.reduceAdd, Nat.reduceSub, Nat.reduceLT, Nat.reduceLeDiff, if_true, if_false, ite_self, List.mem_append, true_implies, Option.bind_some, wL, Int.toNat_natCast, Int.reduceToNat, Nat.reduceAdd, Nat.reduceMul, Nat.reduceSub, Nat.reduceLeDiff, dI_rows, dB_rows, dU_rows, hx]
    refine u_mv ?_
    refine lg_nil ?_
    refine h14 _ ?_; clear h14; try clear N14
    refine vc_seq_k fun N15 h15 => ?_
    refine vc_seq_k fun N16 h16 => ?_
    refine u_reg ?_
    try refine lg_mk ?_
    refine u_mv ?_
    refine u_ln ?_
    refine u_mv ?_
    refine lg_nil ?_
    refine h16 _ ?_; clear h16; try clear N16
    refine vc_block ?_
    refine vc_loop_mk (σ := Nat) (fun s => (fun k => k ≤ ll.length) s)
     (fun s => (fun k => [(6, .sl 0 0 (ll.take k).flatten.length), (25, .d (.sl (rows (eL eM) ll))), (26, .d (.int .i64 (ll.length : Nat))), (27, .d (.int .i64 (k : Nat)))]) s)
     (fun s => (fun k => [some (.vec 52 2 (rows eM (ll.take k).flatten))]) s) (fun s => (fun k => ll.length - k) s) hnp 0 ?_ [some 0] ?_ ?_
    ·dsimp only
     omega
    ·dsimp only
     refine ⟨by rfl, ?_, ?_⟩
     ·refine fin_ ?_
      exact cl_
     ·refine fin_ ?_
      exact cl_
    ·rintro k hinv N17 h17
     dsimp only at hinv ⊢
     refine vc_seq_k fun N18 h18 => ?_
     refine u_reg ?_
     try refine lg_mk ?_
     refine u_bn ?_
     refine lg_nil ?_
     refine h18 _ ?_; clear h18; try clear N18
     refine vc_seq_k fun N19 h19 => ?_
     refine u_cond (fun hb20 => ?_) (fun hb20 => ?_)
     ·obtain ⟨c, hc⟩ : ∃ c, ll[k]? = some c := ⟨_, List.getElem?_eq_getElem (by omega)⟩
      have hf := flat_snocM hc
      have hle := flat_leM (ll := ll) (k + 1)
      have hfl : ((ll.take (k + 1)).flatten).length = (ll.take k).flatten.length + c.length := by rw [hf, List.length_append]
      refine vc_skip ?_
      try simp only [k_rules]
      refine h19 _ ?_; clear h19; try clear N19
      refine vc_seq_k fun N21 h21 => ?_
      refine vc_block ?_
      refine vc_seq_k fun N22 h22 => ?_
      have hx := And.intro @hc (And.intro @eL.eq_1 hx0)
      refine u_reg ?_
      try refine lg_mk ?_
      refine u_pt ?_
      refine u_ld ?_
      refine u_mv ?_
      refine lg_nil ?_
      have hx := hx0
      refine h22 _ ?_; clear h22; try clear N22
      refine u_reg ?_
      try refine lg_mk ?_
      refine u_mv ?_
      refine u_mv ?_
      refine u_ap ?_
      refine u_mv ?_
      refine lg_nil ?_
      refine h21 _ ?_; clear h21; try clear N21
      refine u_reg ?_
      try refine lg_mk ?_
      refine u_bn ?_
      refine u_mv ?_
      refine lg_nil ?_
      refine h17 _ ⟨k + 1, ?_, ?_, [some 1], ?_⟩
      ·dsimp only
       omega
      ·dsimp only
       omega
      ·dsimp only
       refine ⟨by rfl, ?_, ?_⟩
       ·refine fin_ ?_
        (repeat' apply And.intro) <;> (first | (first | (rw [hfl]; done) | (rw [hf, List.take_length]; done)) | exact cl_)
       ·refine fin_ ?_
        (repeat' apply And.intro) <;> (first | (first | (rw [hfl]; done) | (rw [hf, List.take_length]; done)) | exact cl_)
     ·have hk : k = ll.length := by omega
      subst hk
      refine vc_exit ?_
      simp only [k_rules, Nat.reduceEqDiff, reduceIte, eq_self]
      refine h15 _ ?_; clear h15; try clear N15
      refine vc_seq_k fun N23 h23 => ?_
      refine u_reg ?_
      try refine lg_mk ?_
      refine u_mv ?_
      refine u_mv ?_
      refine lg_nil ?_
      refine h23 _ ?_; clear h23; try clear N23
      refine vc_ret ?_
      try simp only [k_rules]
      refine fin2_ ?_
      (repeat' apply And.intro) <;> (first | (first | rfl | exact Or.inl rfl | trivial | omega | (simp; done) | (simp [rows_take]; done) | (simp only [List.take_length]; done)) | exact cl_)
 ·cases hg

def E_catM : Env Try.prog := E_growM.add 29 (Spec.pure catMG) catM_meets (by kernel_rfl)

theorem cmp0_meets : Meets Try.prog 34 (Spec.pure cmp0G) := by
 refine meets_fun (E_catM.at_ 9) Try.func34 rfl rfl rfl ?_
 intro args p r hg hp
 unfold cmp0G at hg
 split at hg
 ·rename_i a xs b ys
  simp only [Option.some.injEq, Prod.mk.injEq] at hg
  obtain ⟨rfl, rfl⟩ := hg
  obtain ⟨he, hl, he2, hm⟩ := hp
  generalize dI xs = l at *
  generalize dI ys = m at *
  subst he he2
  have hT : (E_catM).X = T := rfl
  have hx0 := And.intro @dI_rows @Try.results34
  have hx := hx0
  refine ⟨by rfl, ?_⟩
  intro F W0 hnp hmk
  refine vc_seq_k fun N1 h1 => ?_
  refine u_reg ?_
  try refine lg_mk ?_
  refine u_bx ?_
  refine u_bx ?_
  refine u_mv ?_
  refine lg_nil ?_
  refine h1 _ ?_; clear h1; try clear N1
  refine vc_seq_k fun N2 h2 => ?_
  refine u_reg ?_
  try refine lg_mk ?_
  refine u_ld ?_
  refine u_ld ?_
  have hc := call_rule (E := (E_catM.at_ 9)) (f := 32) (sp := Spec.pure cmpKG) rfl
  have hs := @cmpKG.eq_1
  refine u_cp (hq := by (first | (exact ⟨rfl, hl, rfl, hm⟩) | exact sd_)) ?_
  refine u_bn ?_
  refine u_mv ?_
  refine lg_nil ?_
  refine h2 _ ?_; clear h2; try clear N2
  refine vc_ret ?_
  try simp only [k_rules]
  refine fin2_ ?_
  exact cl_
 ·cases hg

def E_cmp0 : Env Try.prog := E_catM.add 34 (Spec.pure cmp0G) cmp0_meets (by kernel_rfl)

theorem cpM_meets : Meets Try.prog 33 (Spec.gen cpMG) := by
 refine meets_handed (E_cmp0.at_ 66) Try.func33 rfl rfl rfl ?_
 intro args bl p r bf hg hp
 unfold cpMG at hg
 split at hg
 ·rename_i n t s xs
  simp only [Option.some.injEq, Prod.mk.injEq] at hg
  obtain ⟨rfl, rfl, rfl⟩ := hg
  obtain ⟨rfl, rfl, he, rfl, hl, hsm⟩ := hp
  generalize dM xs = l at *
  subst he
  have hT : (E_cmp0).X = T := rfl
  have hx0 := And.intro @mk_eta (And.intro @rect_eM (And.intro @dI_rows (And.intro @dM_rows @Try.results33)))
  have hx := hx0
  refine ⟨Nat.le_of_ble_eq_true rfl, ?_⟩
  intro F W0 M0 hnp hmk
  have hnp : Far.np = 1 := hnp
  refine vc_seq_k fun N1 h1 => ?_
  refine u_reg ?_
  try refine lg_mk ?_
  refine u_mv ?_
  refine lg_nil ?_
  refine h1 _ ?_; clear h1; try clear N1
  refine vc_seq_k fun N2 h2 => ?_
  refine vc_seq_k fun N3 h3 => ?_
  refine u_reg ?_
  try refine lg_mk ?_
  refine u_mv ?_
  refine u_ln ?_
  refine u_bn ?_
  refine lg_nil ?_
  refine h3 _ ?_; clear h3; try clear N3
  refine u_cond (fun hb4 => ?_) (fun hb4 => ?_)
  ·refine vc_seq_k fun N5 h5 => ?_
   refine u_reg ?_
   try refine lg_mk ?_
   refine u_mv ?_
   refine u_mv ?_
   refine lg_nil ?_
   refine h5 _ ?_; clear h5; try clear N5
   refine vc_ret ?_
   try simp only [k_rules]
   have hon := onceN_all (l := l) (Nat.le_refl _) (fun j h0 h1 => by have := hb4; omega)
   rw [hon, List.take_length]
   refine fin_ ?_
   refine ⟨[some 0], by rfl, ?_, ?_⟩
   ·refine fin_ ?_
    exact cl_
   ·refine fin_ ?_
    exact cl_
  ·refine vc_skip ?_
   try simp only [k_rules]
   refine h2 _ ?_; clear h2; try clear N2
   refine vc_seq_k fun N6 h6 => ?_
   refine vc_seq_k fun N7 h7 => ?_
   refine u_reg ?_
   try refine lg_mk ?_
   refine u_mv ?_
   refine lg_nil ?_
   refine h7 _ ?_; clear h7; try clear N7
   refine vc_block ?_
   refine vc_loop_mk (σ := Nat) (fun s => (fun k => 1 ≤ k ∧ k ≤ l.length ∧ ∀ j, 0 < j → j < k → l.getD (j - 1) default ≠ l.getD j default) s)
    (fun s => (fun k => [(0, .sl 0 0 l.length), (1, .clo (.func 34) []), (5, .d (.int .i64 (k : Nat)))]) s)
    (fun s => (fun k => [some (.vec 52 2 (rows eM l))]) s) (fun s => (fun k => l.length - k) s) hnp 1 ?_ [some 0] ?_ ?_
   ·dsimp only
    exact ⟨by omega, by omega, fun j h0 h1 => by omega⟩
   ·dsimp only
    refine ⟨by rfl, ?_, ?_⟩
    ·refine fin_ ?_
     exact cl_
    ·refine fin_ ?_
     exact cl_
   ·rintro k hinv N8 h8
    dsimp only at hinv ⊢
    obtain ⟨k1, k2, k3⟩ := hinv
    refine vc_seq_k fun N9 h9 => ?_
    refine vc_seq_k fun N10 h10 => ?_
    refine u_reg ?_
    try refine lg_mk ?_
    refine u_mv ?_
    refine u_mv ?_
    refine u_ln ?_
    refine u_bn ?_
    refine lg_nil ?_
    refine h10 _ ?_; clear h10; try clear N10
    refine u_cond (fun hb11 => ?_) (fun hb11 => ?_)
    ·obtain ⟨x, hxe⟩ := getE (l := l) (i := k) (by omega)
     obtain ⟨y, hye⟩ := getE (l := l) (i := k - 1) (by omega)
     have hpm : ((k : Int) - 1).toNat = k - 1 := by omega
     have hxm := hsm x (mem_at hxe)
     have hym := hsm y (mem_at hye)
     refine vc_skip ?_
     try simp only [k_rules]
     refine h9 _ ?_; clear h9; try clear N9
     refine vc_seq_k fun N12 h12 => ?_
     refine vc_block ?_
     refine vc_seq_k fun N13 h13 => ?_
     have hx := And.intro @hxe (And.intro @hye (And.intro @hpm (And.intro @eM.eq_1 hx0)))
     refine u_reg ?_
     try refine lg_mk ?_
     refine u_mv ?_
     refine u_mv ?_
     refine u_mv ?_
     refine u_pt ?_
     refine u_ld ?_
     refine u_mv ?_
     refine u_mv ?_
     refine u_bn ?_
     refine u_pt ?_
     refine u_ld ?_
     have hc := (rfl : ((E_cmp0.at_ 66)).Γ 34 = some (Spec.pure cmp0G))
     have hs := (@cmp0G.eq_1)
     refine u_kp (hq := by (first | (exact ⟨by rw [dI_rows], by rw [dI_rows]; exact hxm, by rw [dI_rows], by rw [dI_rows]; exact hym⟩) | exact sd_)) ?_
     refine lg_nil ?_
     have hx := hx0
     refine h13 _ ?_; clear h13; try clear N13
     refine u_cond (fun hb14 => ?_) (fun hb14 => ?_)
     ·have hxy : x = y := by have := hb14; (try simp only [dI_rows] at this); exact cmpK_zero.1 this
      subst hxy
      have hst := CpI.start (by omega) hxe hye k3
      refine vc_seq_k fun N15 h15 => ?_
      refine u_reg ?_
      try refine lg_mk ?_
      refine u_mv ?_
      refine u_mv ?_
      refine u_sl ?_
      refine u_mv ?_
      refine lg_nil ?_
      refine h15 _ ?_; clear h15; try clear N15
      refine vc_seq_k fun N16 h16 => ?_
      refine vc_seq_k fun N17 h17 => ?_
      refine u_reg ?_
      try refine lg_mk ?_
      refine u_mv ?_
      refine lg_nil ?_
      refine h17 _ ?_; clear h17; try clear N17
      refine vc_block ?_
      refine vc_loop_mk (σ := Nat × Nat × List Mk) (fun s => (fun w j m => CpI l m k w j) (s.1) (s.2.1) (s.2.2))
       (fun s => (fun w j m => [(0, .sl 0 0 l.length), (1, .clo (.func 34) []), (5, .d (.int .i64 (w : Nat))), (6, .sl 0 k (l.length - k)), (7, .d (.int .i64 (j : Nat)))]) (s.1) (s.2.1) (s.2.2))
       (fun s => (fun w j m => [some (.vec 52 2 (rows eM m))]) (s.1) (s.2.1) (s.2.2)) (fun s => (fun w j m => l.length - (k + j)) (s.1) (s.2.1) (s.2.2)) hnp (k, 1, l) ?_ [some 0] ?_ ?_
      ·dsimp only
       exact hst
      ·dsimp only
       refine ⟨by rfl, ?_, ?_⟩
       ·refine fin_ ?_
        exact cl_
       ·refine fin_ ?_
        exact cl_
      ·rintro ⟨w, j, m⟩ hinv N18 h18
       dsimp only at hinv ⊢
       have hiv := hinv
       have hml := hinv.len
       have hj1 := hinv.j1
       have hjl := hinv.jl
       have hwl := hinv.wl
       refine vc_seq_k fun N19 h19 => ?_
       refine vc_seq_k fun N20 h20 => ?_
       refine u_reg ?_
       try refine lg_mk ?_
       refine u_mv ?_
       refine u_mv ?_
       refine u_ln ?_
       refine u_bn ?_
       refine lg_nil ?_
       refine h20 _ ?_; clear h20; try clear N20
       refine u_cond (fun hb21 => ?_) (fun hb21 => ?_)
       ·obtain ⟨p, hpe⟩ := getE (l := m) (i := k + j) (by have := hiv.len; omega)
        obtain ⟨q, hqe⟩ := getE (l := m) (i := k + j - 1) (by have := hiv.len; omega)
        have hqe2 : m[k + (j - 1)]? = some q := by rw [← hqe]; congr 1; omega
        have hpm2 : ((j : Int) - 1).toNat = j - 1 := by omega
        have hpl := hiv.at (i := k + j) (by omega)
        have hql := hiv.at (i := k + j - 1) (by omega)
        rw [hpe] at hpl
        rw [hqe] at hql
        have hpm' := hsm p (mem_at hpl.symm)
        have hqm' := hsm q (mem_at hql.symm)
        refine vc_skip ?_
        try simp only [k_rules]
        refine h19 _ ?_; clear h19; try clear N19
        refine vc_seq_k fun N22 h22 => ?_
        refine vc_block ?_
        refine vc_seq_k fun N23 h23 => ?_
        have hx := And.intro @hpe (And.intro @hqe2 (And.intro @hpm2 (And.intro @eM.eq_1 hx0)))
        refine u_reg ?_
        try refine lg_mk ?_
        refine u_mv ?_
        refine u_mv ?_
        refine u_mv ?_
        refine u_pt ?_
        refine u_ld ?_
        refine u_mv ?_
        refine u_mv ?_
        refine u_bn ?_
        refine u_pt ?_
        refine u_ld ?_
        have hc := (rfl : ((E_cmp0.at_ 66)).Γ 34 = some (Spec.pure cmp0G))
        have hs := (@cmp0G.eq_1)
        refine u_kp (hq := by (first | (exact ⟨by rw [dI_rows], by rw [dI_rows]; exact hpm', by rw [dI_rows], by rw [dI_rows]; exact hqm'⟩) | exact sd_)) ?_
        refine u_un ?_
        refine lg_nil ?_
        have hx := hx0
        refine h23 _ ?_; clear h23; try clear N23
        refine u_cond (fun hb24 => ?_) (fun hb24 => ?_)
        ·have hne : q ≠ p := fun e => by have := hb24; (try simp only [dI_rows] at this); rw [e] at this; exact this (cmpK_zero.2 rfl)
         obtain ⟨z, hze⟩ := getE (l := m) (i := w) (by have := hiv.len; omega)
         refine vc_seq_k fun N25 h25 => ?_
         have hx := And.intro @hpe (And.intro @hze (And.intro @eM.eq_1 hx0))
         refine u_reg ?_
         try refine lg_mk ?_
         refine u_mv ?_
         refine u_mv ?_
         refine u_mv ?_
         refine u_mv ?_
         refine u_pt ?_
         refine u_ld ?_
         refine u_pt ?_
         refine u_st ?_
         refine lg_nil ?_
         have hx := hx0
         refine h25 _ ?_; clear h25; try clear N25
         refine u_reg ?_
         try refine lg_mk ?_
         refine u_mv ?_
         refine u_bn ?_
         refine u_mv ?_
         refine lg_nil ?_
         refine h22 _ ?_; clear h22; try clear N22
         refine u_reg ?_
         try refine lg_mk ?_
         refine u_mv ?_
         refine u_bn ?_
         refine u_mv ?_
         refine lg_nil ?_
         refine h18 _ ⟨(w + 1, j + 1, m.set w p), ?_, ?_, [some 0], ?_⟩
         ·dsimp only
          exact hiv.keep hpe hqe hne
         ·dsimp only
          omega
         ·dsimp only
          refine ⟨by rfl, ?_, ?_⟩
          ·refine fin_ ?_
           (repeat' apply And.intro) <;> (first | (first | (with_reducible rfl) | exact True.intro | (simp [rows, eM]; done)) | exact cl_)
          ·refine fin_ ?_
           (repeat' apply And.intro) <;> (first | (first | (with_reducible rfl) | exact True.intro | (simp [rows, eM]; done)) | exact cl_)
        ·have hpq : p = q := by have := hb24; (try simp only [dI_rows] at this); exact cmpK_zero.1 (by first | exact this | exact Decidable.not_not.1 this)
         subst hpq
         refine vc_skip ?_
         try simp only [k_rules]
         refine h22 _ ?_; clear h22; try clear N22
         refine u_reg ?_
         try refine lg_mk ?_
         refine u_mv ?_
         refine u_bn ?_
         refine u_mv ?_
         refine lg_nil ?_
         refine h18 _ ⟨(w, j + 1, m), ?_, ?_, [some 0], ?_⟩
         ·dsimp only
          exact hiv.skip hpe hqe
         ·dsimp only
          omega
         ·dsimp only
          refine ⟨by rfl, ?_, ?_⟩
          ·refine fin_ ?_
           exact cl_
          ·refine fin_ ?_
           exact cl_
       ·refine vc_exit ?_
        simp only [k_rules, Nat.reduceEqDiff, reduceIte, eq_self]
        refine h16 _ ?_; clear h16; try clear N16
        refine vc_seq_k fun N26 h26 => ?_
        refine u_reg ?_
        try refine lg_mk ?_
        refine u_mv ?_
        refine u_mv ?_
        refine u_sl ?_
        refine lg_sem (by rfl) (sem_clear (by first | (simp only [wB, eq_self, Nat.reduceEqDiff, reduceIte]; done) | (simp only [wB, eq_self, Nat.reduceEqDiff, reduceIte]; rfl)) (by first | trivial | simp only [wB, eq_self, Nat.reduceEqDiff, reduceIte]) (by simp only [wB, eq_self, Nat.reduceEqDiff, reduceIte]; rfl) (by first | (simp only [wB, eq_self, Nat.reduceEqDiff, reduceIte, env_rules, tys, hT, tiAgg]; done) | (simp only [wB, eq_self, Nat.reduceEqDiff, reduceIte, env_rules, tys, hT, tiAgg]; rfl)) (by first | (simp only [wB, eq_self, Nat.reduceEqDiff, reduceIte, env_rules, tys, hT, tiAgg]; done) | (simp only [wB, eq_self, Nat.reduceEqDiff, reduceIte, env_rules, tys, hT, tiAgg]; rfl)) rfl ?_)
        try simp only [wB, eq_self, Nat.reduceEqDiff, reduceIte, wL, Int.toNat_natCast, Int.reduceToNat, Nat.reduceAdd, Nat.reduceMul, Nat.reduceSub, Nat.reduceLeDiff, hx]
        refine lg_nil ?_
        refine h26 _ ?_; clear h26; try clear N26
        refine vc_seq_k fun N27 h27 => ?_
        refine u_reg ?_
        try refine lg_mk ?_
        refine u_mv ?_
        refine u_mv ?_
        refine u_sl ?_
        refine u_mv ?_
        refine lg_nil ?_
        refine h27 _ ?_; clear h27; try clear N27
        refine vc_ret ?_
        try simp only [k_rules]
        obtain ⟨hfi, hfl⟩ := hiv.fin (by omega)
        rw [hfl, ← hfi]
        refine fin_ ?_
        refine ⟨[some 0], by rfl, ?_, ?_⟩
        ·refine fin_ ?_
         (repeat' apply And.intro) <;> (first | (first | rfl | trivial | omega | (simp [rows, List.map_take]; done) | (simp [rows, List.map_take]; omega)) | exact cl_)
        ·refine fin_ ?_
         (repeat' apply And.intro) <;> (first | (first | rfl | trivial | omega | (simp [rows, List.map_take]; done) | (simp [rows, List.map_take]; omega)) | exact cl_)
     ·have hxy : x ≠ y := fun e => by have := hb14; (try simp only [dI_rows] at this); rw [e] at this; exact this (cmpK_zero.2 rfl)
      refine vc_skip ?_
      try simp only [k_rules]
      refine h12 _ ?_; clear h12; try clear N12
      refine u_reg ?_
      try refine lg_mk ?_
      refine u_mv ?_
      refine u_bn ?_
      refine u_mv ?_
      refine lg_nil ?_
      refine h8 _ ⟨k + 1, ?_, ?_, [some 0], ?_⟩
      ·dsimp only
       refine ⟨by omega, by omega, fun j h0 h1 => ?_⟩
       by_cases e : j = k
       ·subst e; rw [getD_at hxe, getD_at hye]; exact fun e => hxy e.symm
       ·exact k3 j h0 (by omega)
      ·dsimp only
       omega
      ·dsimp only
       refine ⟨by rfl, ?_, ?_⟩
       ·refine fin_ ?_
        exact cl_
       ·refine fin_ ?_
        exact cl_
    ·refine vc_exit ?_
     simp only [k_rules, Nat.reduceEqDiff, reduceIte, eq_self]
     refine h6 _ ?_; clear h6; try clear N6
     refine vc_seq_k fun N28 h28 => ?_
     refine u_reg ?_
     try refine lg_mk ?_
     refine u_mv ?_
     refine u_mv ?_
     refine lg_nil ?_
     refine h28 _ ?_; clear h28; try clear N28
     refine vc_ret ?_
     try simp only [k_rules]
     obtain rfl : k = l.length := by omega
     have hon := onceN_all (l := l) (Nat.le_refl _) k3
     rw [hon, List.take_length]
     refine fin_ ?_
     refine ⟨[some 0], by rfl, ?_, ?_⟩
     ·refine fin_ ?_
      exact cl_
     ·refine fin_ ?_
      exact cl_
 ·cases hg

def E_cpM : Env Try.prog := E_cmp0.add 33 (Spec.gen cpMG) cpM_meets (by kernel_rfl)

/-- slices.Clone at elements of sz cells. -/
def cloneG (sz by_ : Nat) : List AV → Option (Prop × AV)
  | [.d (.sl xs)] => some (Rect sz xs ∧ xs.length * by_ ≤ 140737488355328, .d (.sl xs))
  | _ => none

theorem cloneD_meets : Meets Try.prog 30 (Spec.pure (cloneG 1 8)) := by
 refine meets_fun (E_cpM.at_ 8) Try.func30 rfl rfl rfl ?_
 intro args p r hg hp
 unfold cloneG at hg
 split at hg
 ·rename_i xs
  simp only [Option.some.injEq, Prod.mk.injEq] at hg
  obtain ⟨rfl, rfl⟩ := hg
  obtain ⟨hr, hb⟩ := hp
  have hT : (E_cpM).X = T := rfl
  have hx0 := @Try.results30
  have hx := hx0
  refine ⟨by rfl, ?_⟩
  intro F W0 hnp hmk
  refine vc_seq_k fun N1 h1 => ?_
  refine u_reg ?_
  try refine lg_mk ?_
  refine u_mv ?_
  refine lg_nil ?_
  refine h1 _ ?_; clear h1; try clear N1
  refine vc_seq_k fun N2 h2 => ?_
  refine vc_seq_k fun N3 h3 => ?_
  refine u_reg ?_
  try refine lg_mk ?_
  refine u_mv ?_
  refine lg_sem (by rfl) (sem_eqnil (by first | (simp only [wB, eq_self, Nat.reduceEqDiff, reduceIte]; done) | (simp only [wB, eq_self, Nat.reduceEqDiff, reduceIte]; rfl)) (by first | trivial | simp only [wB, eq_self, Nat.reduceEqDiff, reduceIte]) (by first | (simp only [wB, eq_self, Nat.reduceEqDiff, reduceIte, env_rules, tys, hT, tiAgg]; done) | (simp only [wB, eq_self, Nat.reduceEqDiff, reduceIte, env_rules, tys, hT, tiAgg]; rfl)) (by first | (simp only [slA, wB, eq_self, Nat.reduceEqDiff, reduceIte]; done) | (simp only [slA, wB, eq_self, Nat.reduceEqDiff, reduceIte]; rfl)) fun z_r1_1 hz_r1_1 hz_r1_1' => ?_)
  refine lg_nil ?_
  refine h3 _ ?_; clear h3; try clear N3
  refine u_cond (fun hb4 => ?_) (fun hb4 => ?_)
  ·have hz := hz_r1_1 hb4
   unfold emptyA at hz
   subst hz
   refine vc_seq_k fun N5 h5 => ?_
   refine u_reg ?_
   try refine lg_mk ?_
   refine u_mv ?_
   refine lg_nil ?_
   refine h5 _ ?_; clear h5; try clear N5
   refine vc_ret ?_
   try simp only [k_rules]
   refine fin2_ ?_
   exact cl_
  ·refine vc_skip ?_
   try simp only [k_rules]
   refine h2 _ ?_; clear h2; try clear N2
   refine vc_seq_k fun N6 h6 => ?_
   refine u_reg ?_
   try refine lg_mk ?_
   refine u_bs ?_
   refine u_mv ?_
   refine u_ap ?_
   refine u_mv ?_
   refine lg_nil ?_
   refine h6 _ ?_; clear h6; try clear N6
   refine vc_ret ?_
   try simp only [k_rules]
   refine fin2_ ?_
   exact cl_
 ·cases hg

def E_cloneD : Env Try.prog := E_cpM.add 30 (Spec.pure (cloneG 1 8)) cloneD_meets (by kernel_rfl)

theorem mg_meets : Meets Try.prog 10 (Spec.pure mgG) := by
 refine meets_fun (E_cloneD.at_ 57) Try.func10 rfl rfl rfl ?_
 intro args p r hg hp
 unfold mgG at hg
 split at hg
 ·rename_i xs ys
  simp only [Option.some.injEq, Prod.mk.injEq] at hg
  obtain ⟨rfl, rfl⟩ := hg
  obtain ⟨he, he2, hl, hl2, hsa, hsb⟩ := hp
  generalize dM xs = a at *
  generalize dM ys = b at *
  subst he he2
  have hT : (E_cloneD).X = T := rfl
  have hx0 := And.intro @rect_eM (And.intro @rect_eI (And.intro @dMM_two (And.intro @two_rows (And.intro @two_flat (And.intro @dI_rows (And.intro @dM_rows (And.intro @unK_at2 (And.intro @sortK_len @Try.results10))))))))
  have hx := hx0
  refine ⟨by rfl, ?_⟩
  intro F W0 hnp hmk
  refine vc_seq_k fun N1 h1 => ?_
  refine vc_regG [30] hmix (by kernel_rfl) ?_
  try refine lg_mk ?_
  refine u_mv ?_
  refine u_al ?_
  refine lg_nil ?_
  refine h1 _ ?_; clear h1; try clear N1
  refine vc_seq_k fun N2 h2 => ?_
  refine vc_seq_k fun N3 h3 => ?_
  refine vc_regG [30] hmix (by kernel_rfl) ?_
  try refine lg_mk ?_
  refine u_mv ?_
  have hc := call_rule (E := (E_cloneD.at_ 57)) (f := 18) (sp := Spec.pure valKG) rfl
  have hs := @valKG.eq_1
  refine u_cp ?_
  refine u_al ?_
  refine u_st ?_
  refine lg_nil ?_
  refine h3 _ ?_; clear h3; try clear N3
  refine vc_seq_k fun N4 h4 => ?_
  rcases mkF_or a with ⟨hza, hva⟩ | hza
  ·have hz1a : (mkF a).1 = 0 := by rw [hza]
   have hz2a : (mkF a).2 = 0 := by rw [hza]
   have hoka := hva.okM
   have hlena := hva.len
   refine vc_regG [30] hmix (by kernel_rfl) ?_
   try refine lg_mk ?_
   refine u_ld ?_
   refine u_bd ?_
   refine u_bn ?_
   refine lg_nil ?_
   refine h4 _ ?_; clear h4; try clear N4
   refine u_cond (fun hb5 => ?_) (fun hb5 => ?_)
   ·exact absurd (And.intro hz1a hz2a) (by have := hb5; simpa using this)
   ·refine vc_skip ?_
    try simp only [k_rules]
    refine h2 _ ?_; clear h2; try clear N2
    refine vc_seq_k fun N6 h6 => ?_
    refine vc_seq_k fun N7 h7 => ?_
    refine vc_regG [30] hmix (by kernel_rfl) ?_
    try refine lg_mk ?_
    refine u_mv ?_
    have hc := call_rule (E := (E_cloneD.at_ 57)) (f := 18) (sp := Spec.pure valKG) rfl
    have hs := @valKG.eq_1
    refine u_cp ?_
    refine u_al ?_
    refine u_st ?_
    refine lg_nil ?_
    refine h7 _ ?_; clear h7; try clear N7
    refine vc_seq_k fun N8 h8 => ?_
    rcases mkF_or b with ⟨hzb, hvb⟩ | hzb
    ·have hz1b : (mkF b).1 = 0 := by rw [hzb]
     have hz2b : (mkF b).2 = 0 := by rw [hzb]
     have hokb := hvb.okM
     have hlenb := hvb.len
     refine vc_regG [30] hmix (by kernel_rfl) ?_
     try refine lg_mk ?_
     refine u_ld ?_
     refine u_bd ?_
     refine u_bn ?_
     refine lg_nil ?_
     refine h8 _ ?_; clear h8; try clear N8
     refine u_cond (fun hb9 => ?_) (fun hb9 => ?_)
     ·exact absurd (And.intro hz1b hz2b) (by have := hb9; simpa using this)
     ·refine vc_skip ?_
      try simp only [k_rules]
      refine h6 _ ?_; clear h6; try clear N6
      refine vc_seq_k fun N10 h10 => ?_
      refine vc_regG [30] hmix (by kernel_rfl) ?_
      try refine lg_mk ?_
      refine u_mv ?_
      refine lg_nil ?_
      refine h10 _ ?_; clear h10; try clear N10
      refine vc_seq_k fun N11 h11 => ?_
      refine vc_seq_k fun N12 h12 => ?_
      refine vc_regG [30] hmix (by kernel_rfl) ?_
      try refine lg_mk ?_
      refine u_mv ?_
      refine u_mv ?_
      refine u_bs ?_
      have hc := call_rule (E := (E_cloneD.at_ 57)) (f := 29) (sp := Spec.pure catMG) rfl
      have hs := @catMG.eq_1
      refine u_hp (hq := by (first | (exact ⟨by simp; omega, by simp⟩) | exact sd_)) ?_
      refine u_ln ?_
      refine u_mv ?_
      refine lg_nil ?_
      refine h12 _ ?_; clear h12; try clear N12
      refine vc_block ?_
      refine vc_loop_mk (σ := Nat) (fun s => (fun i => i ≤ (a ++ b).length) s)
       (fun s => (fun i => [(0, .d (.sl (rows eM a))), (1, .d (.sl (rows eM b))), (5, .ptr 0 0 0), (8, .sl 1 0 i), (28, .d (.sl (rows eM (a ++ b)))), (29, .d (.int .i64 ((a ++ b).length : Nat))), (30, .d (.int .i64 (i : Nat)))]) s)
       (fun s => (fun i => [some (.one 25 [.d (.int .i64 0), .d (.int .i64 0)]), some (.vec 52 2 (rows eM ((a ++ b).take i)))]) s) (fun s => (fun i => (a ++ b).length - i) s) hnp 0 ?_ [some 0, none] ?_ ?_
      ·dsimp only
       omega
      ·dsimp only
       refine ⟨by rfl, ?_, ?_⟩
       ·refine fin_ ?_
        exact cl_
       ·refine fin_ ?_
        exact cl_
      ·rintro i hinv N13 h13
       dsimp only at hinv ⊢
       have i1 := hinv
       have hll : (a ++ b).length = a.length + b.length := List.length_append
       refine vc_seq_k fun N14 h14 => ?_
       refine vc_regG [30] hmix (by kernel_rfl) ?_
       try refine lg_mk ?_
       refine u_bn ?_
       refine lg_nil ?_
       refine h14 _ ?_; clear h14; try clear N14
       refine vc_seq_k fun N15 h15 => ?_
       refine u_cond (fun hb16 => ?_) (fun hb16 => ?_)
       ·obtain ⟨m, hme⟩ := getE (l := a ++ b) (i := i) (by omega)
        have hmv : chkR m = true ∧ incB m.nw = true := by
         rcases List.mem_append.1 (mem_at hme) with h | h
         ·exact hva.ok m h
         ·exact hvb.ok m h
        have hm60 := nw60 hmv
        have htk : (a ++ b).take (i + 1) = (a ++ b).take i ++ [m] := by rw [List.take_add_one, hme]; rfl
        have htl : ((a ++ b).take i).length = i := by rw [List.length_take]; omega
        refine vc_skip ?_
        try simp only [k_rules]
        refine h15 _ ?_; clear h15; try clear N15
        refine vc_seq_k fun N17 h17 => ?_
        refine vc_block ?_
        refine vc_seq_k fun N18 h18 => ?_
        have hx := And.intro @hme (And.intro @eM.eq_1 hx0)
        refine vc_regG [30] hmix (by kernel_rfl) ?_
        try refine lg_mk ?_
        refine u_pt ?_
        refine u_ld ?_
        refine u_al ?_
        refine u_st ?_
        refine lg_nil ?_
        have hx := hx0
        refine h18 _ ?_; clear h18; try clear N18
        have hx := And.intro @htl hx0
        refine vc_regG [30] hmix (by kernel_rfl) ?_
        try refine lg_mk ?_
        refine u_mv ?_
        refine u_pt ?_
        refine u_ld ?_
        refine u_pt ?_
        refine u_ld ?_
        have hc := call_rule (E := (E_cloneD.at_ 57)) (f := 30) (sp := Spec.pure (cloneG 1 8)) rfl
        have hs := @cloneG.eq_1
        refine u_hp (hq := by (first | (exact ⟨of_eq_true (rect_eI m.nw), by rw [rows_len]; omega⟩) | exact sd_)) ?_
        refine u_bd ?_
        refine u_bs ?_
        refine u_ap ?_
        refine u_mv ?_
        refine lg_nil ?_
        have hx := hx0
        refine h17 _ ?_; clear h17; try clear N17
        refine vc_regG [30] hmix (by kernel_rfl) ?_
        try refine lg_mk ?_
        refine u_bn ?_
        refine u_mv ?_
        refine lg_nil ?_
        refine h13 _ ⟨i + 1, ?_, ?_, [some 0, some 4], ?_⟩
        ·dsimp only
         omega
        ·dsimp only
         omega
        ·dsimp only
         refine ⟨by rfl, ?_, ?_⟩
         ·refine fin_ ?_
          (repeat' apply And.intro) <;> (first | (first | (with_reducible rfl) | exact True.intro | (rw [htk, ← eM_snoc, List.take_take, Nat.min_self]; done) | (rw [htk]; simp [rows, eM]; done) | (simp; omega)) | exact cl_)
         ·refine fin_ ?_
          (repeat' apply And.intro) <;> (first | (first | (with_reducible rfl) | exact True.intro | (rw [htk, ← eM_snoc, List.take_take, Nat.min_self]; done) | (rw [htk]; simp [rows, eM]; done) | (simp; omega)) | exact cl_)
       ·have hie : i = (a ++ b).length := by omega
        subst hie
        have hsL : smallM (a ++ b) := fun m hm => by
         rcases List.mem_append.1 hm with h | h
         ·exact hsa m h
         ·exact hsb m h
        have hsL2 : smallM (sortK (a ++ b)) := fun m hm => hsL m (sortK_mem.1 hm)
        have hul := unK_len a b
        have huk : okM (unK a b) := fun m hm => by
         rcases unK_mem hm with h | h
         ·exact hoka m h
         ·exact hokb m h
        have hus : smallM (unK a b) := fun m hm => by
         rcases unK_mem hm with h | h
         ·exact hsa m h
         ·exact hsb m h
        have hll : (a ++ b).length = a.length + b.length := List.length_append
        rw [List.take_length]
        refine vc_exit ?_
        simp only [k_rules, Nat.reduceEqDiff, reduceIte, eq_self]
        refine h11 _ ?_; clear h11; try clear N11
        refine vc_seq_k fun N19 h19 => ?_
        refine vc_regG [30] hmix (by kernel_rfl) ?_
        try refine lg_mk ?_
        refine u_mv ?_
        have hc := call_rule (E := (E_cloneD.at_ 57)) (f := 31) (sp := Spec.gen sortMG) rfl
        have hs := @sortMG.eq_1
        refine u_hg (hq := by (first | (exact ⟨by omega, hsL⟩) | exact sd_)) ?_
        refine lg_nil ?_
        refine h19 _ ?_; clear h19; try clear N19
        refine vc_seq_k fun N20 h20 => ?_
        refine vc_regG [30] hmix (by kernel_rfl) ?_
        try refine lg_mk ?_
        refine u_mv ?_
        have hc := call_rule (E := (E_cloneD.at_ 57)) (f := 33) (sp := Spec.gen cpMG) rfl
        have hs := @cpMG.eq_1
        refine u_hg (hq := by (first | (exact ⟨by omega, hsL2⟩) | exact sd_)) ?_
        refine u_mv ?_
        refine lg_nil ?_
        refine h20 _ ?_; clear h20; try clear N20
        refine vc_seq_k fun N21 h21 => ?_
        refine vc_seq_k fun N22 h22 => ?_
        refine vc_regG [30] hmix (by kernel_rfl) ?_
        try refine lg_mk ?_
        refine u_mv ?_
        refine u_ln ?_
        refine u_bn ?_
        refine lg_nil ?_
        refine h22 _ ?_; clear h22; try clear N22
        refine u_cond (fun hb23 => ?_) (fun hb23 => ?_)
        ·refine vc_seq_k fun N24 h24 => ?_
         refine vc_regG [30] hmix (by kernel_rfl) ?_
         try refine lg_mk ?_
         refine u_bd ?_
         refine u_mv ?_
         refine u_st ?_
         refine lg_nil ?_
         refine h24 _ ?_; clear h24; try clear N24
         refine vc_ret ?_
         try simp only [k_rules]
         have hr : mgF a b = (10, -1) := by unfold mgF; rw [if_neg (by simp [hz1a]), if_neg (by simp [hz1b]), if_pos (by have := hb23; omega)]
         have hr2 : mgR a b = [] := by unfold mgR; rw [hr]; rfl
         rw [hr, hr2]
         refine fin2_ ?_
         exact cl_
        ·refine vc_skip ?_
         try simp only [k_rules]
         refine h21 _ ?_; clear h21; try clear N21
         refine vc_seq_k fun N25 h25 => ?_
         refine vc_seq_k fun N26 h26 => ?_
         refine vc_regG [30] hmix (by kernel_rfl) ?_
         try refine lg_mk ?_
         refine u_mv ?_
         have hc := call_rule (E := (E_cloneD.at_ 57)) (f := 35) (sp := Spec.pure cycG) rfl
         have hs := @cycG.eq_1
         refine u_cp (hq := by (first | (rw [take_lenM]; exact ⟨Nat.le_refl _, by omega, hus, huk⟩) | exact sd_)) ?_
         refine lg_nil ?_
         refine h26 _ ?_; clear h26; try clear N26
         refine u_cond (fun hb27 => ?_) (fun hb27 => ?_)
         ·refine vc_seq_k fun N28 h28 => ?_
          refine vc_regG [30] hmix (by kernel_rfl) ?_
          try refine lg_mk ?_
          refine u_bd ?_
          refine u_mv ?_
          refine u_st ?_
          refine lg_nil ?_
          refine h28 _ ?_; clear h28; try clear N28
          refine vc_ret ?_
          try simp only [k_rules]
          have hr : mgF a b = (20, -3) := by unfold mgF; rw [if_neg (by simp [hz1a]), if_neg (by simp [hz1b]), if_neg (by have := hb23; omega), if_pos (by have := hb27; simpa using this)]
          have hr2 : mgR a b = [] := by unfold mgR; rw [hr]; rfl
          rw [hr, hr2]
          refine fin2_ ?_
          exact cl_
         ·refine vc_skip ?_
          try simp only [k_rules]
          refine h25 _ ?_; clear h25; try clear N25
          refine vc_seq_k fun N29 h29 => ?_
          refine vc_regG [30] hmix (by kernel_rfl) ?_
          try refine lg_mk ?_
          refine u_mv ?_
          refine u_bd ?_
          refine u_mv ?_
          refine u_st ?_
          refine lg_nil ?_
          refine h29 _ ?_; clear h29; try clear N29
          refine vc_ret ?_
          try simp only [k_rules]
          have hr : mgF a b = (0, 0) := by unfold mgF; rw [if_neg (by simp [hz1a]), if_neg (by simp [hz1b]), if_neg (by have := hb23; omega), if_neg (by have := hb27; simpa using this)]
          have hr2 : mgR a b = unK a b := by unfold mgR; rw [hr, if_neg (by simp)]
          rw [hr, hr2]
          refine fin2_ ?_
          (repeat' apply And.intro) <;> (first | (first | rfl | exact Or.inl rfl | trivial | (simp; done) | (rw [take_lenM]; done) | (left; rw [take_lenM]; done)) | exact cl_)
    ·have hz1b := hzb
     refine vc_regG [30] hmix (by kernel_rfl) ?_
     try refine lg_mk ?_
     refine u_ld ?_
     refine u_bd ?_
     refine u_bn ?_
     refine lg_nil ?_
     refine h8 _ ?_; clear h8; try clear N8
     refine u_cond (fun hb30 => ?_) (fun hb30 => ?_)
     ·refine vc_seq_k fun N31 h31 => ?_
      refine vc_regG [30] hmix (by kernel_rfl) ?_
      try refine lg_mk ?_
      refine u_pt ?_
      refine u_ld ?_
      refine u_bd ?_
      refine u_mv ?_
      refine u_st ?_
      refine lg_nil ?_
      refine h31 _ ?_; clear h31; try clear N31
      refine vc_ret ?_
      try simp only [k_rules]
      have hr : mgF a b = ((mkF b).1, -2) := by unfold mgF; rw [if_neg (by simp [hz1a]), if_pos hz1b]
      have hr2 : mgR a b = [] := by unfold mgR; rw [hr, if_pos hz1b]
      rw [hr, hr2]
      refine fin2_ ?_
      exact cl_
     ·exact absurd (show (mkF b).1 = 0 by have := hb30; first | exact this.1 | exact (Classical.not_not.1 this).1 | (simp at this; exact this.1)) hz1b
  ·have hz1a := hza
   refine vc_regG [30] hmix (by kernel_rfl) ?_
   try refine lg_mk ?_
   refine u_ld ?_
   refine u_bd ?_
   refine u_bn ?_
   refine lg_nil ?_
   refine h4 _ ?_; clear h4; try clear N4
   refine u_cond (fun hb32 => ?_) (fun hb32 => ?_)
   ·refine vc_seq_k fun N33 h33 => ?_
    refine vc_regG [30] hmix (by kernel_rfl) ?_
    try refine lg_mk ?_
    refine u_ld ?_
    refine u_mv ?_
    refine u_st ?_
    refine lg_nil ?_
    refine h33 _ ?_; clear h33; try clear N33
    refine vc_ret ?_
    try simp only [k_rules]
    have hr : mgF a b = mkF a := by unfold mgF; rw [if_pos hz1a]
    have hr2 : mgR a b = [] := by unfold mgR; rw [hr, if_pos hz1a]
    rw [hr, hr2]
    refine fin2_ ?_
    exact cl_
   ·exact absurd (show (mkF a).1 = 0 by have := hb32; first | exact this.1 | exact (Classical.not_not.1 this).1 | (simp at this; exact this.1)) hz1a
 ·cases hg

def E_mg : Env Try.prog := E_cloneD.add 10 (Spec.pure mgG) mg_meets (by kernel_rfl)
end Go.Proofs.Ytjpkgmmmmcgmeaa
