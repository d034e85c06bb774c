/- Walks, printed by wip/gen/walk.py. -/
import Derived.Test.YtlbjffdaooadoaaDoorTy
import Derived.Test.YtlbjffdaooadoaaDoorV5
set_option linter.all false
set_option maxRecDepth 100000
set_option maxHeartbeats 4000000
namespace Go.Proofs.YtlbjffdaooadoaaDoor
open Go Go.Vc Go.RowKit
def faultG : List AV → Option (Prop × AV)
  | [.d (.int .i64 c), .d (.int .i64 i)] => some (True, .agg [.d (.int .i64 c), .d (.int .i64 i)])
  | _ => none
def inG : List AV → Option (Prop × AV)
  | [.d (.int .i64 n), .d (.int .i64 lo), .d (.int .i64 hi)] => some (True, .d (.bool (decide (lo ≤ n) && decide (n ≤ hi))))
  | _ => none
def hasG : List AV → Option (Prop × AV)
  | [.d (.sl xs), .d (.int .i64 n)] => some (xs = rows eI (dI xs) ∧ (dI xs).length ≤ 9223372036854775807, .d (.bool (decide (n ∈ dI xs))))
  | _ => none
theorem getE {α : Type} {l : List α} {i : Nat} (h : i < l.length) : ∃ x, l[i]? = some x := ⟨_, List.getElem?_eq_getElem h⟩
theorem mem_at {α : Type} {l : List α} {i : Nat} {x : α} (h : l[i]? = some x) : x ∈ l := List.mem_of_getElem? h
theorem take_at {α : Type} {l m : List α} {i : Nat} {a : α} (h1 : l[i]? = some a) (h2 : m[i]? = some a) (h : l.take i = m.take i) : l.take (i + 1) = m.take (i + 1) := by
  rw [List.take_add_one, List.take_add_one, h1, h2, h]
theorem notin_take {α : Type} {l : List α} {i : Nat} {x n : α} (h : l[i]? = some x) (hn : n ∉ l.take i) (hx : x ≠ n) : n ∉ l.take (i + 1) := by
  rw [List.take_add_one, h]; simp only [Option.toList_some, List.mem_append, List.mem_singleton, not_or]
  exact ⟨hn, fun h => hx h.symm⟩
theorem ne_at {α : Type} {l m : List α} {i : Nat} {a b : α} (h1 : l[i]? = some a) (h2 : m[i]? = some b) (h : a ≠ b) : l ≠ m := by
  rintro rfl; rw [h1] at h2; exact h (Option.some.inj h2)

theorem fault_meets : Meets Tryd.prog 26 (Spec.pure faultG) := by
 refine meets_fun ((Env.empty T).at_ 8) Tryd.func26 rfl rfl rfl ?_
 intro args p r hg hp
 unfold faultG at hg
 split at hg
 rename_i c i
 simp only [Option.some.injEq, Prod.mk.injEq] at hg
 obtain ⟨rfl, rfl⟩ := hg
 have hT : ((Env.empty T)).X = T := rfl
 have hx0 := @Tryd.results26
 have hx := hx0
 refine ⟨by rfl, ?_⟩
 intro F W0 hnp hmk
 refine vc_seq_k fun N1 h1 => ?_
 refine u_reg ?_
 try refine lg_mk ?_
 refine u_al ?_
 refine lg_nil ?_
 refine h1 _ ?_; clear h1; try clear N1
 refine vc_seq_k fun N2 h2 => ?_
 refine u_reg ?_
 try refine lg_mk ?_
 iterate 2 refine u_mv ?_
 refine u_bd ?_
 refine u_st ?_
 refine lg_nil ?_
 refine h2 _ ?_; clear h2; try clear N2
 refine vc_ret ?_
 try simp only [k_rules]
 refine fin2_ ?_
 exact cl_
 cases hg

def E_fault : Env Tryd.prog := (Env.empty T).add 26 (Spec.pure faultG) fault_meets (by kernel_rfl)

theorem in_meets : Meets Tryd.prog 38 (Spec.pure inG) := by
 refine meets_fun (E_fault.at_ 15) Tryd.func38 rfl rfl rfl ?_
 intro args p r hg hp
 unfold inG at hg
 split at hg
 rename_i n lo hi
 simp only [Option.some.injEq, Prod.mk.injEq] at hg
 obtain ⟨rfl, rfl⟩ := hg
 have hT : (E_fault).X = T := rfl
 have hx0 := @Tryd.results38
 have hx := hx0
 refine ⟨by rfl, ?_⟩
 intro F W0 hnp hmk
 refine vc_seq_k fun N1 h1 => ?_
 refine u_reg ?_
 try refine lg_mk ?_
 refine u_mv ?_
 refine lg_nil ?_
 refine h1 _ ?_; clear h1; try clear N1
 refine vc_seq_k fun N2 h2 => ?_
 refine u_reg ?_
 try refine lg_mk ?_
 iterate 2 refine u_mv ?_
 refine u_bn ?_
 refine u_mv ?_
 iterate 2 refine g_mv ?_
 refine g_bn ?_
 refine u_pk ?_
 refine u_mv ?_
 refine lg_nil ?_
 refine h2 _ ?_; clear h2; try clear N2
 refine vc_ret ?_
 try simp only [k_rules]
 refine fin2_ ?_
 exact cl_
 cases hg

def E_in : Env Tryd.prog := E_fault.add 38 (Spec.pure inG) in_meets (by kernel_rfl)

theorem has_meets : Meets Tryd.prog 55 (Spec.pure hasG) := by
 refine meets_fun (E_in.at_ 18) Tryd.func55 rfl rfl rfl ?_
 intro args p r hg hp
 unfold hasG at hg
 split at hg
 rename_i xs n
 simp only [Option.some.injEq, Prod.mk.injEq] at hg
 obtain ⟨rfl, rfl⟩ := hg
 obtain ⟨hx, hl⟩ := hp
 generalize dI xs = l at *
 subst hx
 have hT : (E_in).X = T := rfl
 have hx0 := @Tryd.results55
 have hx := hx0
 refine ⟨by rfl, ?_⟩
 intro F W0 hnp hmk
 refine vc_seq_k fun N1 h1 => ?_
 refine u_reg ?_
 try refine lg_mk ?_
 refine u_mv ?_
 refine lg_nil ?_
 refine h1 _ ?_; clear h1; try clear N1
 refine vc_seq_k fun N2 h2 => ?_
 refine vc_seq_k fun N3 h3 => ?_
 refine u_reg ?_
 try refine lg_mk ?_
 refine u_mv ?_
 refine lg_nil ?_
 refine h3 _ ?_; clear h3; try clear N3
 refine vc_block ?_
 refine vc_loop_mk (σ := Nat) (fun s => (fun i => i ≤ l.length ∧ n ∉ l.take i) s)
  (fun s => (fun i => [(0, .d (.sl (rows eI l))), (1, .d (.int .i64 n)), (5, .d (.int .i64 (i : Nat)))]) s)
  (fun s => (fun i => []) s) (fun s => (fun i => l.length - i) s) hnp 0 ?_ [] ?_ ?_
 dsimp only
 simp
 dsimp only
 refine ⟨by rfl, ?_, ?_⟩
 refine fin_ ?_
 exact cl_
 refine fin_ ?_
 exact cl_
 rintro i hinv N4 h4
 dsimp only at hinv ⊢
 obtain ⟨i1, i2⟩ := hinv
 refine vc_seq_k fun N5 h5 => ?_
 refine vc_seq_k fun N6 h6 => ?_
 refine u_reg ?_
 try refine lg_mk ?_
 iterate 2 refine u_mv ?_
 refine u_ln ?_
 refine u_bn ?_
 refine lg_nil ?_
 refine h6 _ ?_; clear h6; try clear N6
 refine u_cond (fun hb7 => ?_) (fun hb7 => ?_)
 obtain ⟨x, hxe⟩ := getE (l := l) (i := i) (by omega)
 refine vc_skip ?_
 try simp only [k_rules]
 refine h5 _ ?_; clear h5; try clear N5
 refine vc_seq_k fun N8 h8 => ?_
 refine vc_block ?_
 refine vc_seq_k fun N9 h9 => ?_
 have hx := And.intro @hxe (And.intro @eI.eq_1 hx0)
 refine u_reg ?_
 try refine lg_mk ?_
 iterate 2 refine u_mv ?_
 refine u_pt ?_
 refine u_ld ?_
 refine u_mv ?_
 refine u_bn ?_
 refine lg_nil ?_
 have hx := hx0
 refine h9 _ ?_; clear h9; try clear N9
 refine u_cond (fun hb10 => ?_) (fun hb10 => ?_)
 have he := hb10
 refine vc_seq_k fun N11 h11 => ?_
 refine u_reg ?_
 try refine lg_mk ?_
 refine u_mv ?_
 refine lg_nil ?_
 refine h11 _ ?_; clear h11; try clear N11
 refine vc_ret ?_
 try simp only [k_rules]
 have hr : decide (n ∈ l) = true := decide_eq_true (by rw [← he]; exact mem_at hxe)
 rw [hr]
 refine fin2_ ?_
 exact cl_
 have he := hb10
 refine vc_skip ?_
 try simp only [k_rules]
 refine h8 _ ?_; clear h8; try clear N8
 refine u_reg ?_
 try refine lg_mk ?_
 refine u_mv ?_
 refine u_bn ?_
 refine u_mv ?_
 refine lg_nil ?_
 refine h4 _ ⟨i + 1, ?_, ?_, [], ?_⟩
 dsimp only
 exact ⟨by omega, notin_take hxe i2 (by simpa using he)⟩
 dsimp only
 omega
 dsimp only
 refine ⟨by rfl, ?_, ?_⟩
 refine fin_ ?_
 exact cl_
 refine fin_ ?_
 exact cl_
 refine vc_exit ?_
 simp only [k_rules, Nat.reduceEqDiff, reduceIte, eq_self]
 refine h2 _ ?_; clear h2; try clear N2
 refine vc_seq_k fun N12 h12 => ?_
 refine u_reg ?_
 try refine lg_mk ?_
 refine u_mv ?_
 refine lg_nil ?_
 refine h12 _ ?_; clear h12; try clear N12
 refine vc_ret ?_
 try simp only [k_rules]
 have hr : decide (n ∈ l) = false := decide_eq_false (by rwa [List.take_of_length_le (by omega)] at i2)
 rw [hr]
 refine fin2_ ?_
 exact cl_
 cases hg

def E_has : Env Tryd.prog := E_in.add 55 (Spec.pure hasG) has_meets (by kernel_rfl)

def firstF (f g : Nat → Int) : Nat → Int × Int
  | 0 => (0, 0)
  | n + 1 => if (firstF f g n).1 ≠ 0 then firstF f g n else if f n ≠ 0 then (f n, g n) else (0, 0)
theorem firstF_none {f g : Nat → Int} : ∀ {n : Nat}, (∀ j, j < n → f j = 0) → firstF f g n = (0, 0)
  | 0, _ => rfl
  | n + 1, h => by
    have ih := firstF_none (g := g) (n := n) fun j hj => h j (by omega)
    unfold firstF; rw [ih, h n (by omega)]; rfl
theorem firstF_at {f g : Nat → Int} {i : Nat} (hi : f i ≠ 0) (h : ∀ j, j < i → f j = 0) : ∀ {n : Nat}, i < n → firstF f g n = (f i, g i) := by
  intro n
  induction n with
  | zero => intro h; omega
  | succ n ih =>
    intro hn
    unfold firstF
    rcases Nat.lt_or_ge i n with hlt | hge
    · rw [ih hlt, if_pos hi]
    · obtain rfl : i = n := by omega
      rw [firstF_none h]
      simp [hi]
theorem lt_succF {f : Nat → Int} {i : Nat} (h : ∀ j, j < i → f j = 0) (hi : f i = 0) : ∀ j, j < i + 1 → f j = 0 := fun j hj => by
  rcases Nat.lt_or_ge j i with h' | h'
  · exact h j h'
  · obtain rfl : j = i := by omega
    exact hi
theorem getD_at {α : Type} {l : List α} {i : Nat} {x d : α} (h : l[i]? = some x) : l.getD i d = x := by rw [List.getD_eq_getElem?_getD, h]; rfl

theorem firstF_zero {f : Nat → Int} {g : Nat → Int} : ∀ {n}, (firstF f g n).1 = 0 → ∀ j, j < n → f j = 0
  | 0, _, j, hj => by omega
  | n + 1, h, j, hj => by
    unfold firstF at h
    split at h
    · rename_i h1; exact absurd h h1
    · rename_i h1
      split at h
      · rename_i h2; exact absurd h h2
      · rename_i h2
        by_cases e : j = n
        · subst e; simpa using h2
        · exact firstF_zero (n := n) (by simpa using h1) j (by omega)
structure Nd where
  kd : Int
  nm : Int
  lf : Int
  rt : Int
  deriving DecidableEq, Inhabited
def eN (n : Nd) : List D := [.int .i64 n.kd, .int .i64 n.nm, .int .i64 n.lf, .int .i64 n.rt]
def dN1 : List D → Nd
  | [.int _ a, .int _ b, .int _ c, .int _ d] => ⟨a, b, c, d⟩
  | _ => ⟨0, 0, 0, 0⟩
def dN (xs : List (List D)) : List Nd := xs.map dN1
theorem dN_rows (l : List Nd) : dN (rows eN l) = l := by
  simp only [dN, rows, List.map_map]
  conv => rhs; rw [← List.map_id l]
  exact List.map_congr_left fun c _ => rfl
theorem rect_eN (l : List Nd) : Rect 4 (rows eN l) = True := eq_true (rows_rect (f := eN) (fun _ => rfl) l)
def ar (k : Int) : Nat := if 14 ≤ k then 2 else if 7 ≤ k then 1 else 0
theorem ar_or (k : Int) : (k < 7 ∧ ar k = 0) ∨ (7 ≤ k ∧ k < 14 ∧ ar k = 1) ∨ (14 ≤ k ∧ ar k = 2) := by
  unfold ar
  split
  · exact .inr (.inr ⟨by omega, rfl⟩)
  · split
    · exact .inr (.inl ⟨by omega, by omega, rfl⟩)
    · exact .inl ⟨by omega, rfl⟩
def mostN (k : Int) : Int := if k = 3 then 59 else if k = 4 then 7 else if k = 5 then 100000 else 0
def rts (q : List Nd) : Nat → List Int
  | 0 => []
  | i + 1 => (rts q i).take ((rts q i).length - ar (q.getD i default).kd) ++ [(i : Int)]
def wnt (l : List Int) (m k : Nat) : Int := (l.drop (l.length - m)).getD k 0
def ndC (n : Nd) (l : List Int) : Int :=
  if n.kd < 1 ∨ 16 < n.kd then 4 else if n.nm < 0 ∨ mostN n.kd < n.nm then 3 else if l.length < ar n.kd then 5
  else if n.lf = wnt l (ar n.kd) 0 ∧ n.rt = wnt l (ar n.kd) 1 then 0 else 5
def qC (q : List Nd) (i : Nat) : Int := ndC (q.getD i default) (rts q i)
def iI (i : Nat) : Int := (i : Int)
def valQ (q : List Nd) : Int × Int :=
  if q.length = 0 ∨ 40 < q.length then (9, -1)
  else if (firstF (qC q) iI q.length).1 ≠ 0 then firstF (qC q) iI q.length
  else if (rts q q.length).length ≠ 1 then (5, -1) else (0, 0)
theorem rts_len (q : List Nd) : ∀ i, (rts q i).length ≤ i
  | 0 => Nat.le_refl _
  | i + 1 => by
    have := rts_len q i
    simp only [rts, List.length_append, List.length_take, List.length_singleton]; omega
def szN (out : List Nat) (a : Nat) : Nat :=
  if a = 0 then 1 else if a = 1 then 1 + out.getD (out.length - 1) 0
  else 1 + out.getD (out.length - 1) 0 + out.getD (out.length - (1 + out.getD (out.length - 1) 0)) 0
def szB (out : List Nat) (a : Nat) : Bool := decide (1 ≤ a ∧ out.length = 0) || decide (2 ≤ a ∧ out.length < 1 + out.getD (out.length - 1) 0)
def szl (q : List Nd) : Nat → List Nat
  | 0 => []
  | i + 1 => szl q i ++ [szN (szl q i) (ar (q.getD i default).kd)]
theorem szl_len (q : List Nd) : ∀ i, (szl q i).length = i
  | 0 => rfl
  | i + 1 => by simp [szl, szl_len q i]
def chn (out : List Nat) : List Int → Nat → Prop
  | [], i => i = 0
  | p :: r, i => 0 < i ∧ p = (i : Int) - 1 ∧ 1 ≤ out.getD (i - 1) 0 ∧ out.getD (i - 1) 0 ≤ i ∧ chn out r (i - out.getD (i - 1) 0)
theorem chn_more {out : List Nat} (x : Nat) : ∀ {l : List Int} {i : Nat}, i ≤ out.length → chn out l i → chn (out ++ [x]) l i
  | [], _, _, h => h
  | p :: r, i, hi, ⟨h0, h1, h2, h3, h4⟩ => by
    have e : (out ++ [x]).getD (i - 1) 0 = out.getD (i - 1) 0 := by
      simp only [List.getD_eq_getElem?_getD]
      rw [List.getElem?_append_left (by omega)]
    refine ⟨h0, h1, by rw [e]; exact h2, by rw [e]; exact h3, ?_⟩
    rw [e]; exact chn_more x (by omega) h4
theorem wnt_rev {l : List Int} {m : Nat} (h : m ≤ l.length) (k : Nat) (hk : k < m) : wnt l m k = l.reverse.getD (m - 1 - k) 0 := by
  unfold wnt
  simp only [List.getD_eq_getElem?_getD]
  rw [List.getElem?_drop, List.getElem?_reverse (by omega)]
  congr 2; omega
theorem wnt_out (l : List Int) {m k : Nat} (h : m ≤ l.length) (hk : m ≤ k) : wnt l m k = 0 := by
  unfold wnt
  rw [List.getD_eq_getElem?_getD, List.getElem?_eq_none (by rw [List.length_drop]; omega)]; rfl
theorem chn_step {out : List Nat} {l : List Int} (h : chn out l.reverse out.length) (a : Nat) (ha : a ≤ 2) :
  (szB out a = decide (l.length < a)) ∧
  (a ≤ l.length → (a = 1 → wnt l a 0 = (out.length : Int) - 1) ∧
   (a = 2 → wnt l a 0 = (out.length : Int) - 1 - (out.getD (out.length - 1) 0 : Nat) ∧ wnt l a 1 = (out.length : Int) - 1) ∧
   chn (out ++ [szN out a]) (l.take (l.length - a) ++ [(out.length : Int)]).reverse (out.length + 1)) := by
 have hr : ∃ r, l.reverse = r := ⟨_, rfl⟩
 obtain ⟨r, hr⟩ := hr
 have hl : l = r.reverse := by rw [← hr, List.reverse_reverse]
 subst hl
 rw [List.reverse_reverse] at h
 have hpush : ∀ (r' : List Int) (i' : Nat), szN out a + i' = out.length + 1 → 1 ≤ szN out a → chn out r' i' → i' ≤ out.length → r'.reverse = (r.reverse).take (r.reverse.length - a) → chn (out ++ [szN out a]) (r.reverse.take (r.reverse.length - a) ++ [(out.length : Int)]).reverse (out.length + 1) := by
  intro r' i' e1 e2 e3 e4 e5
  rw [← e5, List.reverse_append, List.reverse_reverse]
  have eg : (out ++ [szN out a]).getD (out.length + 1 - 1) 0 = szN out a := by
   rw [List.getD_eq_getElem?_getD, Nat.add_sub_cancel, List.getElem?_append_right (Nat.le_refl _), Nat.sub_self]; rfl
  refine ⟨by omega, by omega, by rw [eg]; exact e2, by rw [eg]; omega, ?_⟩
  rw [eg, show out.length + 1 - szN out a = i' by omega]
  exact chn_more _ e4 e3
 match a, ha with
 | 0, _ =>
  refine ⟨by simp [szB], fun _ => ⟨fun h => by omega, fun h => by omega, ?_⟩⟩
  exact hpush r out.length (by show 1 + out.length = _; omega) (Nat.le_refl 1) h (Nat.le_refl _) (by rw [Nat.sub_zero, List.take_length])
 | 1, _ =>
  match r, h with
  | [], h =>
   have h : out.length = 0 := h
   refine ⟨by simp [szB, h], fun h1 => by simp at h1⟩
  | p :: r, ⟨h0, h1, h2, h3, h4⟩ =>
   refine ⟨?_, fun _ => ⟨fun _ => ?_, fun h => by omega, ?_⟩⟩
   ·have : decide ((p :: r).reverse.length < 1) = false := decide_eq_false (by simp)
    rw [this]; unfold szB
    rw [decide_eq_false (by omega), decide_eq_false (by omega)]; rfl
   ·rw [wnt_rev (by simp) 0 (by omega), List.reverse_reverse]; simpa using h1
   ·have e1 : szN out 1 = 1 + out.getD (out.length - 1) 0 := rfl
    refine hpush r _ ?_ ?_ h4 (by omega) ?_
    ·omega
    ·omega
    ·simp
 | 2, _ =>
  match r, h with
  | [], h =>
   have h : out.length = 0 := h
   refine ⟨by simp [szB, h], fun h1 => by simp at h1⟩
  | [p], ⟨h0, h1, h2, h3, h4⟩ =>
   have h4 : out.length - out.getD (out.length - 1) 0 = 0 := h4
   refine ⟨?_, fun h1 => by simp at h1⟩
   have : decide (([p] : List Int).reverse.length < 2) = true := decide_eq_true (by simp)
   rw [this]; unfold szB
   rw [decide_eq_true (p := 2 ≤ 2 ∧ out.length < 1 + out.getD (out.length - 1) 0) ⟨by omega, by omega⟩, Bool.or_true]
  | p :: p2 :: r, ⟨h0, h1, h2, h3, h40, h41, h42, h43, h44⟩ =>
   refine ⟨?_, fun _ => ⟨fun h => by omega, fun _ => ⟨?_, ?_⟩, ?_⟩⟩
   ·have : decide ((p :: p2 :: r).reverse.length < 2) = false := decide_eq_false (by simp)
    rw [this]; unfold szB
    rw [decide_eq_false (by omega), decide_eq_false (by omega)]; rfl
   ·rw [wnt_rev (by simp) 0 (by omega), List.reverse_reverse]
    have : (p :: p2 :: r).getD (2 - 1 - 0) 0 = p2 := rfl
    rw [this]; omega
   ·rw [wnt_rev (by simp) 1 (by omega), List.reverse_reverse]
    have : (p :: p2 :: r).getD (2 - 1 - 1) 0 = p := rfl
    rw [this]; exact h1
   ·have e : out.length - (1 + out.getD (out.length - 1) 0) = out.length - out.getD (out.length - 1) 0 - 1 := by omega
    have e2 : szN out 2 = 1 + out.getD (out.length - 1) 0 + out.getD (out.length - out.getD (out.length - 1) 0 - 1) 0 := by rw [← e]; rfl
    refine hpush r _ ?_ ?_ h44 (by omega) ?_
    ·omega
    ·omega
    ·simp
theorem chn_all {q : List Nd} : ∀ {i : Nat}, i ≤ q.length → (∀ j, j < i → qC q j = 0) → chn (szl q i) (rts q i).reverse i
  | 0, _, _ => rfl
  | i + 1, hi, h => by
    have ih := chn_all (q := q) (i := i) (by omega) fun j hj => h j (by omega)
    have hc := h i (by omega)
    have hl := szl_len q i
    obtain ⟨s1, s2⟩ := chn_step (out := szl q i) (l := rts q i) (by rw [hl]; exact ih) (ar (q.getD i default).kd) (by rcases ar_or (q.getD i default).kd with ⟨_, h⟩ | ⟨_, _, h⟩ | ⟨_, h⟩ <;> omega)
    have hle : ar (q.getD i default).kd ≤ (rts q i).length := by
      unfold qC ndC at hc
      split at hc
      · omega
      · split at hc
        · omega
        · split at hc
          · omega
          · omega
    have := (s2 hle).2.2
    rw [hl] at this
    exact this
def opL (out : List Nat) (a : Nat) : Int := if a = 1 then (out.length : Int) - 1 else if a = 2 then (out.length : Int) - 1 - (out.getD (out.length - 1) 0 : Nat) else 0
def opR (out : List Nat) (a : Nat) : Int := if a = 2 then (out.length : Int) - 1 else 0
def refC (q : List Nd) (i : Nat) : Int :=
  if (decide (1 ≤ (q.getD i default).kd) && decide ((q.getD i default).kd ≤ 16)) = false then 4
  else if (decide (0 ≤ (q.getD i default).nm) && decide ((q.getD i default).nm ≤ mostN (q.getD i default).kd)) = false then 3
  else if szB (szl q i) (ar (q.getD i default).kd) = true then 5
  else if (q.getD i default).lf = opL (szl q i) (ar (q.getD i default).kd) ∧ (q.getD i default).rt = opR (szl q i) (ar (q.getD i default).kd) then 0 else 5
theorem refC_is {q : List Nd} {i : Nat} (hi : i ≤ q.length) (h : ∀ j, j < i → qC q j = 0) : refC q i = qC q i := by
  have ih := chn_all hi h
  have hl := szl_len q i
  generalize hn : q.getD i default = n
  obtain ⟨s1, s2⟩ := chn_step (out := szl q i) (l := rts q i) (by rw [hl]; exact ih) (ar n.kd) (by rcases ar_or n.kd with ⟨_, h⟩ | ⟨_, _, h⟩ | ⟨_, h⟩ <;> omega)
  unfold refC qC ndC
  rw [hn, s1]
  have c1 : ((decide (1 ≤ n.kd) && decide (n.kd ≤ 16)) = false) = (n.kd < 1 ∨ 16 < n.kd) := by
    rw [Bool.and_eq_false_iff, decide_eq_false_iff_not, decide_eq_false_iff_not]; apply propext; omega
  have c2 : ((decide (0 ≤ n.nm) && decide (n.nm ≤ mostN n.kd)) = false) = (n.nm < 0 ∨ mostN n.kd < n.nm) := by
    rw [Bool.and_eq_false_iff, decide_eq_false_iff_not, decide_eq_false_iff_not]; apply propext; omega
  have c3 : (decide ((rts q i).length < ar n.kd) = true) = ((rts q i).length < ar n.kd) := by apply propext; exact decide_eq_true_iff
  simp only [c1, c2, c3]
  by_cases hle : (rts q i).length < ar n.kd
  · simp only [if_pos hle]
  · obtain ⟨t1, t2, _⟩ := s2 (by omega)
    have eL : opL (szl q i) (ar n.kd) = wnt (rts q i) (ar n.kd) 0 := by
      unfold opL
      rcases ar_or n.kd with ⟨_, h⟩ | ⟨_, _, h⟩ | ⟨_, h⟩
      · rw [h, if_neg (by omega), if_neg (by omega), wnt_out _ (by omega) (by omega)]
      · rw [if_pos h, t1 h]
      · rw [if_neg (by omega), if_pos h, (t2 h).1]
    have eR : opR (szl q i) (ar n.kd) = wnt (rts q i) (ar n.kd) 1 := by
      unfold opR
      rcases ar_or n.kd with ⟨_, h⟩ | ⟨_, _, h⟩ | ⟨_, h⟩
      · rw [h, if_neg (by omega), wnt_out _ (by omega) (by omega)]
      · rw [if_neg (by omega), wnt_out _ (by omega) (by omega)]
      · rw [if_pos h, (t2 h).2]
    rw [eL, eR]
def arG : List AV → Option (Prop × AV)
  | [.d (.int .i64 k)] => some (True, .d (.int .i64 ((ar k : Nat) : Int)))
  | _ => none
def mostG : List AV → Option (Prop × AV)
  | [.d (.int .i64 k)] => some (True, .d (.int .i64 (mostN k)))
  | _ => none

theorem ops_meets : Meets Tryd.prog 47 (Spec.pure arG) := by
 refine meets_fun (E_has.at_ 9) Tryd.func47 rfl rfl rfl ?_
 intro args p r hg hp
 unfold arG at hg
 split at hg
 rename_i k
 simp only [Option.some.injEq, Prod.mk.injEq] at hg
 obtain ⟨rfl, rfl⟩ := hg
 have hT : (E_has).X = T := rfl
 have hx0 := @Tryd.results47
 have hx := hx0
 refine ⟨by rfl, ?_⟩
 intro F W0 hnp hmk
 refine vc_seq_k fun N1 h1 => ?_
 refine u_reg ?_
 try refine lg_mk ?_
 refine u_mv ?_
 refine lg_nil ?_
 refine h1 _ ?_; clear h1; try clear N1
 refine vc_seq_k fun N2 h2 => ?_
 refine vc_block ?_
 refine vc_seq_k fun N3 h3 => ?_
 refine u_reg ?_
 try refine lg_mk ?_
 refine u_mv ?_
 refine u_bn ?_
 refine u_mv ?_
 refine lg_nil ?_
 refine h3 _ ?_; clear h3; try clear N3
 refine u_cond (fun hb4 => ?_) (fun hb4 => ?_)
 refine vc_seq_k fun N5 h5 => ?_
 refine u_reg ?_
 try refine lg_mk ?_
 refine u_mv ?_
 refine lg_nil ?_
 refine h5 _ ?_; clear h5; try clear N5
 refine vc_ret ?_
 try simp only [k_rules]
 have hr : ar k = 2 := by
  unfold ar; rw [if_pos (by have := hb4; (try simp at this); omega)]
 rw [hr]
 refine fin2_ ?_
 exact cl_
 refine vc_seq_k fun N6 h6 => ?_
 refine u_reg ?_
 try refine lg_mk ?_
 refine u_mv ?_
 refine u_bn ?_
 refine u_mv ?_
 refine lg_nil ?_
 refine h6 _ ?_; clear h6; try clear N6
 refine u_cond (fun hb7 => ?_) (fun hb7 => ?_)
 refine vc_seq_k fun N8 h8 => ?_
 refine u_reg ?_
 try refine lg_mk ?_
 refine u_mv ?_
 refine lg_nil ?_
 refine h8 _ ?_; clear h8; try clear N8
 refine vc_ret ?_
 try simp only [k_rules]
 have hr : ar k = 1 := by
  unfold ar; rw [if_neg (by have := hb4; (try simp at this); omega), if_pos (by have := hb7; (try simp at this); omega)]
 rw [hr]
 refine fin2_ ?_
 exact cl_
 refine vc_skip ?_
 try simp only [k_rules]
 refine h2 _ ?_; clear h2; try clear N2
 refine vc_seq_k fun N9 h9 => ?_
 refine u_reg ?_
 try refine lg_mk ?_
 refine u_mv ?_
 refine lg_nil ?_
 refine h9 _ ?_; clear h9; try clear N9
 refine vc_ret ?_
 try simp only [k_rules]
 have hr : ar k = 0 := by
  unfold ar; rw [if_neg (by have := hb4; (try simp at this); omega), if_neg (by have := hb7; (try simp at this); omega)]
 rw [hr]
 refine fin2_ ?_
 exact cl_
 cases hg

def E_ops : Env Tryd.prog := E_has.add 47 (Spec.pure arG) ops_meets (by kernel_rfl)

theorem arity_meets : Meets Tryd.prog 40 (Spec.pure arG) := by
 refine meets_fun (E_ops.at_ 7) Tryd.func40 rfl rfl rfl ?_
 intro args p r hg hp
 unfold arG at hg
 split at hg
 rename_i k
 simp only [Option.some.injEq, Prod.mk.injEq] at hg
 obtain ⟨rfl, rfl⟩ := hg
 have hT : (E_ops).X = T := rfl
 have hx0 := @Tryd.results40
 have hx := hx0
 refine ⟨by rfl, ?_⟩
 intro F W0 hnp hmk
 refine vc_seq_k fun N1 h1 => ?_
 refine u_reg ?_
 try refine lg_mk ?_
 refine u_mv ?_
 refine lg_nil ?_
 refine h1 _ ?_; clear h1; try clear N1
 refine vc_seq_k fun N2 h2 => ?_
 refine vc_seq_k fun N3 h3 => ?_
 refine u_reg ?_
 try refine lg_mk ?_
 refine u_mv ?_
 refine u_bn ?_
 refine lg_nil ?_
 refine h3 _ ?_; clear h3; try clear N3
 refine u_cond (fun hb4 => ?_) (fun hb4 => ?_)
 refine vc_seq_k fun N5 h5 => ?_
 refine u_reg ?_
 try refine lg_mk ?_
 refine u_mv ?_
 refine lg_nil ?_
 refine h5 _ ?_; clear h5; try clear N5
 refine vc_ret ?_
 try simp only [k_rules]
 have hr : ar k = 2 := by
  unfold ar; rw [if_pos (by have := hb4; (try simp at this); omega)]
 rw [hr]
 refine fin2_ ?_
 exact cl_
 refine vc_skip ?_
 try simp only [k_rules]
 refine h2 _ ?_; clear h2; try clear N2
 refine vc_seq_k fun N6 h6 => ?_
 refine vc_seq_k fun N7 h7 => ?_
 refine u_reg ?_
 try refine lg_mk ?_
 refine u_mv ?_
 refine u_bn ?_
 refine lg_nil ?_
 refine h7 _ ?_; clear h7; try clear N7
 refine u_cond (fun hb8 => ?_) (fun hb8 => ?_)
 refine vc_seq_k fun N9 h9 => ?_
 refine u_reg ?_
 try refine lg_mk ?_
 refine u_mv ?_
 refine lg_nil ?_
 refine h9 _ ?_; clear h9; try clear N9
 refine vc_ret ?_
 try simp only [k_rules]
 have hr : ar k = 1 := by
  unfold ar; rw [if_neg (by have := hb4; (try simp at this); omega), if_pos (by have := hb8; (try simp at this); omega)]
 rw [hr]
 refine fin2_ ?_
 exact cl_
 refine vc_skip ?_
 try simp only [k_rules]
 refine h6 _ ?_; clear h6; try clear N6
 refine vc_seq_k fun N10 h10 => ?_
 refine u_reg ?_
 try refine lg_mk ?_
 refine u_mv ?_
 refine lg_nil ?_
 refine h10 _ ?_; clear h10; try clear N10
 refine vc_ret ?_
 try simp only [k_rules]
 have hr : ar k = 0 := by
  unfold ar; rw [if_neg (by have := hb4; (try simp at this); omega), if_neg (by have := hb8; (try simp at this); omega)]
 rw [hr]
 refine fin2_ ?_
 exact cl_
 cases hg

def E_arity : Env Tryd.prog := E_ops.add 40 (Spec.pure arG) arity_meets (by kernel_rfl)

theorem most_meets : Meets Tryd.prog 75 (Spec.pure mostG) := by
 refine meets_fun (E_arity.at_ 10) Tryd.func75 rfl rfl rfl ?_
 intro args p r hg hp
 unfold mostG at hg
 split at hg
 rename_i k
 simp only [Option.some.injEq, Prod.mk.injEq] at hg
 obtain ⟨rfl, rfl⟩ := hg
 have hT : (E_arity).X = T := rfl
 have hx0 := @Tryd.results75
 have hx := hx0
 refine ⟨by rfl, ?_⟩
 intro F W0 hnp hmk
 refine vc_seq_k fun N1 h1 => ?_
 refine u_reg ?_
 try refine lg_mk ?_
 refine u_mv ?_
 refine lg_nil ?_
 refine h1 _ ?_; clear h1; try clear N1
 refine vc_seq_k fun N2 h2 => ?_
 refine vc_seq_k fun N3 h3 => ?_
 refine u_reg ?_
 try refine lg_mk ?_
 refine u_mv ?_
 refine lg_nil ?_
 refine h3 _ ?_; clear h3; try clear N3
 refine vc_block ?_
 refine vc_seq_k fun N4 h4 => ?_
 refine u_reg ?_
 try refine lg_mk ?_
 refine u_bn ?_
 refine u_mv ?_
 refine lg_nil ?_
 refine h4 _ ?_; clear h4; try clear N4
 refine u_cond (fun hb5 => ?_) (fun hb5 => ?_)
 refine vc_seq_k fun N6 h6 => ?_
 refine u_reg ?_
 try refine lg_mk ?_
 refine u_mv ?_
 refine lg_nil ?_
 refine h6 _ ?_; clear h6; try clear N6
 refine vc_ret ?_
 try simp only [k_rules]
 have hr : mostN k = 59 := by
  unfold mostN; rw [if_pos (by have := hb5; (try simp at this); omega)]
 rw [hr]
 refine fin2_ ?_
 exact cl_
 refine vc_seq_k fun N7 h7 => ?_
 refine u_reg ?_
 try refine lg_mk ?_
 refine u_bn ?_
 refine u_mv ?_
 refine lg_nil ?_
 refine h7 _ ?_; clear h7; try clear N7
 refine u_cond (fun hb8 => ?_) (fun hb8 => ?_)
 refine vc_seq_k fun N9 h9 => ?_
 refine u_reg ?_
 try refine lg_mk ?_
 refine u_mv ?_
 refine lg_nil ?_
 refine h9 _ ?_; clear h9; try clear N9
 refine vc_ret ?_
 try simp only [k_rules]
 have hr : mostN k = 7 := by
  unfold mostN; rw [if_neg (by have := hb5; (try simp at this); omega), if_pos (by have := hb8; (try simp at this); omega)]
 rw [hr]
 refine fin2_ ?_
 exact cl_
 refine vc_seq_k fun N10 h10 => ?_
 refine u_reg ?_
 try refine lg_mk ?_
 refine u_bn ?_
 refine u_mv ?_
 refine lg_nil ?_
 refine h10 _ ?_; clear h10; try clear N10
 refine u_cond (fun hb11 => ?_) (fun hb11 => ?_)
 refine vc_seq_k fun N12 h12 => ?_
 refine u_reg ?_
 try refine lg_mk ?_
 refine u_mv ?_
 refine lg_nil ?_
 refine h12 _ ?_; clear h12; try clear N12
 refine vc_ret ?_
 try simp only [k_rules]
 have hr : mostN k = 100000 := by
  unfold mostN; rw [if_neg (by have := hb5; (try simp at this); omega), if_neg (by have := hb8; (try simp at this); omega), if_pos (by have := hb11; (try simp at this); omega)]
 rw [hr]
 refine fin2_ ?_
 exact cl_
 refine vc_skip ?_
 try simp only [k_rules]
 refine h2 _ ?_; clear h2; try clear N2
 refine vc_seq_k fun N13 h13 => ?_
 refine u_reg ?_
 try refine lg_mk ?_
 refine u_mv ?_
 refine lg_nil ?_
 refine h13 _ ?_; clear h13; try clear N13
 refine vc_ret ?_
 try simp only [k_rules]
 have hr : mostN k = 0 := by
  unfold mostN; rw [if_neg (by have := hb5; (try simp at this); omega), if_neg (by have := hb8; (try simp at this); omega), if_neg (by have := hb11; (try simp at this); omega)]
 rw [hr]
 refine fin2_ ?_
 exact cl_
 cases hg

def E_most : Env Tryd.prog := E_arity.add 75 (Spec.pure mostG) most_meets (by kernel_rfl)

theorem limit_meets : Meets Tryd.prog 39 (Spec.pure mostG) := by
 refine meets_fun (E_most.at_ 10) Tryd.func39 rfl rfl rfl ?_
 intro args p r hg hp
 unfold mostG at hg
 split at hg
 rename_i k
 simp only [Option.some.injEq, Prod.mk.injEq] at hg
 obtain ⟨rfl, rfl⟩ := hg
 have hT : (E_most).X = T := rfl
 have hx0 := @Tryd.results39
 have hx := hx0
 refine ⟨by rfl, ?_⟩
 intro F W0 hnp hmk
 refine vc_seq_k fun N1 h1 => ?_
 refine u_reg ?_
 try refine lg_mk ?_
 refine u_mv ?_
 refine lg_nil ?_
 refine h1 _ ?_; clear h1; try clear N1
 refine vc_seq_k fun N2 h2 => ?_
 refine vc_seq_k fun N3 h3 => ?_
 refine u_reg ?_
 try refine lg_mk ?_
 refine u_mv ?_
 refine lg_nil ?_
 refine h3 _ ?_; clear h3; try clear N3
 refine vc_block ?_
 refine vc_seq_k fun N4 h4 => ?_
 refine u_reg ?_
 try refine lg_mk ?_
 refine u_bn ?_
 refine u_mv ?_
 refine lg_nil ?_
 refine h4 _ ?_; clear h4; try clear N4
 refine u_cond (fun hb5 => ?_) (fun hb5 => ?_)
 refine vc_seq_k fun N6 h6 => ?_
 refine u_reg ?_
 try refine lg_mk ?_
 refine u_mv ?_
 refine lg_nil ?_
 refine h6 _ ?_; clear h6; try clear N6
 refine vc_ret ?_
 try simp only [k_rules]
 have hr : mostN k = 59 := by
  unfold mostN; rw [if_pos (by have := hb5; (try simp at this); omega)]
 rw [hr]
 refine fin2_ ?_
 exact cl_
 refine vc_seq_k fun N7 h7 => ?_
 refine u_reg ?_
 try refine lg_mk ?_
 refine u_bn ?_
 refine u_mv ?_
 refine lg_nil ?_
 refine h7 _ ?_; clear h7; try clear N7
 refine u_cond (fun hb8 => ?_) (fun hb8 => ?_)
 refine vc_seq_k fun N9 h9 => ?_
 refine u_reg ?_
 try refine lg_mk ?_
 refine u_mv ?_
 refine lg_nil ?_
 refine h9 _ ?_; clear h9; try clear N9
 refine vc_ret ?_
 try simp only [k_rules]
 have hr : mostN k = 7 := by
  unfold mostN; rw [if_neg (by have := hb5; (try simp at this); omega), if_pos (by have := hb8; (try simp at this); omega)]
 rw [hr]
 refine fin2_ ?_
 exact cl_
 refine vc_seq_k fun N10 h10 => ?_
 refine u_reg ?_
 try refine lg_mk ?_
 refine u_bn ?_
 refine u_mv ?_
 refine lg_nil ?_
 refine h10 _ ?_; clear h10; try clear N10
 refine u_cond (fun hb11 => ?_) (fun hb11 => ?_)
 refine vc_seq_k fun N12 h12 => ?_
 refine u_reg ?_
 try refine lg_mk ?_
 refine u_mv ?_
 refine lg_nil ?_
 refine h12 _ ?_; clear h12; try clear N12
 refine vc_ret ?_
 try simp only [k_rules]
 have hr : mostN k = 100000 := by
  unfold mostN; rw [if_neg (by have := hb5; (try simp at this); omega), if_neg (by have := hb8; (try simp at this); omega), if_pos (by have := hb11; (try simp at this); omega)]
 rw [hr]
 refine fin2_ ?_
 exact cl_
 refine vc_skip ?_
 try simp only [k_rules]
 refine h2 _ ?_; clear h2; try clear N2
 refine vc_seq_k fun N13 h13 => ?_
 refine u_reg ?_
 try refine lg_mk ?_
 refine u_mv ?_
 refine lg_nil ?_
 refine h13 _ ?_; clear h13; try clear N13
 refine vc_ret ?_
 try simp only [k_rules]
 have hr : mostN k = 0 := by
  unfold mostN; rw [if_neg (by have := hb5; (try simp at this); omega), if_neg (by have := hb8; (try simp at this); omega), if_neg (by have := hb11; (try simp at this); omega)]
 rw [hr]
 refine fin2_ ?_
 exact cl_
 cases hg

def E_limit : Env Tryd.prog := E_most.add 39 (Spec.pure mostG) limit_meets (by kernel_rfl)
end Go.Proofs.YtlbjffdaooadoaaDoor
