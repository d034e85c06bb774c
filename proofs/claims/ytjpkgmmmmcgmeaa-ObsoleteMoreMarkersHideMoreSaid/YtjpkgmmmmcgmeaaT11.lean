/- Walks, printed by wip/gen/walk.py. -/
import Derived.Test.YtjpkgmmmmcgmeaaT10
import Derived.Test.YtjpkgmmmmcgmeaaSf
import Derived.Test.YtjpkgmmmmcgmeaaV5
import Derived.Shelf.RegionOpenPlain
import Derived.WalkKit
import Derived.Deep.LoopGhost
import Derived.Deep.Draws
import Derived.Lib.Walk
import Derived.RegionTactic
import Derived.BigRegion
import Derived.StillTailTactics
set_option linter.all false
set_option maxRecDepth 100000
set_option maxHeartbeats 4000000
namespace Go.Proofs.Ytjpkgmmmmcgmeaa
open Go Go.Vc Go.RowKit
open Go.Shelf Go.Lib Go.Sort
/-- A slice of ints as it lies. -/
def LstV (w : World) (v : Value) (l : List Int) : Prop := ∃ a c, v = .slice a l.length c ∧ l.length ≤ 9223372036854775807 ∧ (l ≠ [] → ∃ b o, a = some ⟨b, o, none⟩ ∧ ∀ j x, l[j]? = some x → w.cell? ⟨b, o + j, none⟩ = some (.int .i64 x))
theorem k_isNaN (x : Int) (w : World) : Calls Try.prog 70 #[.int .i64 x] w fun e w' => e = .returned (.bool false) ∧ w' = w := by
  go_enter Try.func70, Try.ntmps70
  go_wp2
  go_ret
  exact ⟨by simp, rfl⟩
theorem k_Compare (x y : Int) (w : World) : Calls Try.prog 54 #[.int .i64 x, .int .i64 y] w fun e w' => e = .returned (.int .i64 (cmpI x y)) ∧ w' = w := by
  go_enter Try.func54, Try.ntmps54
  go_wp2_with (go_at_call 70; refine (k_isNaN _ _).mono ?_; rintro e w' ⟨rfl, rfl⟩)
  all_goals (go_ret; refine ⟨?_, rfl⟩; unfold cmpI; first | (rw [if_pos (by omega)]; rfl) | (rw [if_neg (by omega), if_pos (by omega)]; rfl) | (rw [if_neg (by omega), if_neg (by omega)]; rfl))
theorem k_Or (a b r : Int) (hr : r = if a ≠ 0 then a else b) (p : Addr) (c : Nat) (w : World) (bl o : Nat) (hp : p = ⟨bl, o, none⟩) (h0 : w.cell? ⟨bl, o, none⟩ = some (.int .i64 a)) (h1 : w.cell? ⟨bl, o + 1, none⟩ = some (.int .i64 b)) : Calls Try.prog 53 #[.slice (some p) 2 c] w fun e w' => e = .returned (.int .i64 r) ∧ w' = w := by
  subst hp
  have R : Aside (r = if a ≠ 0 then a else b) := hr
  clear hr
  go_enter Try.func53, Try.ntmps53
  go_wp2
  go_loopg [8] 2 (fun g s wr => ∃ k : Nat, k ≤ 2 ∧ 2 - k ≤ g ∧ s = .int .i64 k ∧ wr = w ∧ (0 < k → a = 0) ∧ (1 < k → b = 0))
  case atStart => exact ⟨0, by omega, by omega, rfl, rfl, fun h => absurd h (by omega), fun h => absurd h (by omega)⟩
  case round =>
    obtain ⟨k, hk, hg, rfl, rfl, ha, hb⟩ := hrel
    rcases Nat.lt_or_ge k 2 with hlt | hge
    · have hcell : ∃ x : Int, wr.cell? ⟨bl, o + k, none⟩ = some (.int .i64 x) ∧ ((k = 0 ∧ x = a) ∨ (k = 1 ∧ x = b)) := by
        rcases Nat.eq_zero_or_pos k with h | h
        · subst h; exact ⟨a, h0, .inl ⟨rfl, rfl⟩⟩
        · obtain rfl : k = 1 := by omega
          exact ⟨b, h1, .inr ⟨rfl, rfl⟩⟩
      obtain ⟨x, hx, hor⟩ := hcell
      have A : Aside ((k = 0 ∧ x = a) ∨ (k = 1 ∧ x = b)) := hor
      have B : Aside ((0 < k → a = 0) ∧ (1 < k → b = 0)) := ⟨ha, hb⟩
      clear hor ha hb h0 h1
      by_cases hx0 : x = 0
      · subst hx0
        go_wp2
        go_roundg (2 - (k + 1))
        case measure => omega
        case rel =>
          refine ⟨k + 1, by omega, by omega, by go_num, rfl, fun h => ?_, fun h => ?_⟩
          · rcases A.out with ⟨_, h2⟩ | ⟨h1, _⟩
            · exact h2.symm
            · exact B.out.1 (by omega)
          · rcases A.out with ⟨h1, _⟩ | ⟨_, h2⟩
            · omega
            · exact h2.symm
      · go_wp2
        go_ret
        refine ⟨?_, rfl⟩
        have e : r = x := by
          rw [R.out]
          rcases A.out with ⟨_, h2⟩ | ⟨h1, h2⟩
          · subst h2; rw [if_pos hx0]
          · subst h2; rw [if_neg (fun h => h (B.out.1 (by omega)))]
        rw [e]; rfl
    · obtain rfl : k = 2 := by omega
      clear h0 h1
      go_wp2
      go_ret
      refine ⟨?_, rfl⟩
      have e : r = 0 := by rw [R.out, ha (by omega), if_neg (by simp), hb (by omega)]
      rw [e]; rfl
theorem k_cmpL (v1 v2 : Value) (l m : List Int) (w : World) (h1 : LstV w v1 l) (h2 : LstV w v2 m) : Calls Try.prog 55 #[v1, v2] w fun e w' => e = .returned (.int .i64 (cmpL l m)) ∧ w' = w := by
  obtain ⟨a, c, rfl, hl, h1⟩ := h1
  obtain ⟨b, d, rfl, hm, h2⟩ := h2
  have H : Aside ((l ≠ [] → ∃ b o, a = some ⟨b, o, none⟩ ∧ ∀ j x, l[j]? = some x → w.cell? ⟨b, o + j, none⟩ = some (.int .i64 x)) ∧ (m ≠ [] → ∃ b_1 o, b = some ⟨b_1, o, none⟩ ∧ ∀ j x, m[j]? = some x → w.cell? ⟨b_1, o + j, none⟩ = some (.int .i64 x))) := ⟨h1, h2⟩
  clear h1 h2
  go_enter Try.func55, Try.ntmps55
  go_wp2
  go_loopg [11] l.length (fun g s wr => ∃ k : Nat, k ≤ l.length ∧ k ≤ m.length ∧ l.length - k ≤ g ∧ s = .int .i64 k ∧ wr = w ∧ cmpL l m = cmpL (l.drop k) (m.drop k))
  case atStart => exact ⟨0, by omega, by omega, by omega, rfl, rfl, rfl⟩
  case round =>
    obtain ⟨k, hk, hkm, hg, rfl, rfl, hc⟩ := hrel
    have C : Aside (cmpL l m = cmpL (l.drop k) (m.drop k)) := hc
    clear hc
    rcases Nat.lt_or_ge k l.length with hlt | hge
    · obtain ⟨x, hx⟩ : ∃ x, l[k]? = some x := ⟨_, List.getElem?_eq_getElem hlt⟩
      obtain ⟨b1, o1, rfl, hc1⟩ := H.out.1 (fun e => by subst e; cases hlt)
      have g1 := hc1 k x hx
      have X : Aside (l[k]? = some x) := hx
      clear hc1 hx
      rcases Nat.lt_or_ge k m.length with hlt2 | hge2
      · obtain ⟨y, hy⟩ : ∃ y, m[k]? = some y := ⟨_, List.getElem?_eq_getElem hlt2⟩
        obtain ⟨b2, o2, rfl, hc2⟩ := H.out.2 (fun e => by subst e; cases hlt2)
        have g2 := hc2 k y hy
        have Y : Aside (m[k]? = some y) := hy
        clear hc2 hy
        by_cases hxy : cmpI x y = 0
        · go_wp2_with (go_at_call 54; refine (k_Compare _ _ _).mono ?_; rintro e w' ⟨rfl, rfl⟩; rw [hxy])
          go_roundg (l.length - (k + 1))
          case measure => omega
          case rel => exact ⟨k + 1, by omega, by omega, by omega, by go_num, rfl, by rw [C.out, cmpL_at X.out Y.out, if_neg (by rw [hxy]; simp)]⟩
        · have Z : Aside (¬cmpI x y = 0) := hxy
          generalize hcc : cmpI x y = cc at hxy
          go_wp2_with (go_at_call 54; refine (k_Compare _ _ _).mono ?_; rintro e w' ⟨rfl, rfl⟩; rw [hcc])
          go_ret
          refine ⟨?_, rfl⟩
          rw [C.out, cmpL_at X.out Y.out, if_pos Z.out, hcc]; rfl
      · go_wp2
        go_ret
        refine ⟨?_, rfl⟩
        rw [C.out, cmpL_gt hlt hge2]; rfl
    · obtain rfl : k = l.length := by omega
      rcases Nat.lt_or_ge l.length m.length with hlt2 | hge2
      · go_wp2
        go_ret
        refine ⟨?_, rfl⟩
        rw [C.out, cmpL_lt (by omega) hlt2]; rfl
      · go_wp2
        go_ret
        refine ⟨?_, rfl⟩
        rw [C.out, cmpL_eq (by omega) hge2]; rfl
theorem LstV.mono {w w' : World} (h : ∀ a x, w.cell? a = some x → w'.cell? a = some x) {v : Value} {l : List Int} (hv : LstV w v l) : LstV w' v l := by
  obtain ⟨a, c, e, hl, hc⟩ := hv
  refine ⟨a, c, e, hl, fun hne => ?_⟩
  obtain ⟨b, o, e2, hc⟩ := hc hne
  exact ⟨b, o, e2, fun j x hx => h _ _ (hc j x hx)⟩
theorem cell_al {w : World} {a : Addr} {x : Value} (o : Obj) (h : w.cell? a = some x) : (w.alloc o).cell? a = some x := by
  have hlt : a.block < w.heap.size := by
    unfold World.cell? at h
    rcases Nat.lt_or_ge a.block w.heap.size with h1 | h1
    · exact h1
    · rw [Array.getElem?_eq_none h1] at h; cases h
  rw [World.cell?_alloc_lt w o a hlt]; exact h
theorem LstV.al {w : World} {v : Value} {l : List Int} (o : Obj) (hv : LstV w v l) : LstV (w.alloc o) v l := hv.mono fun _ _ h => cell_al o h
theorem LstV.dr {w : World} {v : Value} {l : List Int} (hv : LstV w v l) : LstV w.drew v l := hv
theorem k_compare (a b : Mk) (u v : Value) (w : World) (hu : LstV w u a.nw) (hv : LstV w v b.nw) (hu1 : u.oneCell' = true) (hv1 : v.oneCell' = true) : Calls Try.prog 32 #[.agg #[.int .i64 a.old, u], .agg #[.int .i64 b.old, v]] w fun e w' => e = .returned (.int .i64 (cmpK a b)) ∧ ∃ q os', w' = grow (w.drewN q) os' := by
  obtain ⟨a, l⟩ := a
  obtain ⟨b, m⟩ := b
  dsimp only at hu hv ⊢
  go_enter Try.func32, Try.ntmps32
  go_wp2
  have c1 : (World.drew ((w.alloc (Obj.cells #[Value.int IntKind.i64 a, u] 52)).alloc (Obj.cells #[Value.int IntKind.i64 b, v] 52))).cell? ⟨w.heap.size, 0, none⟩ = some (.int .i64 a) := by go_simp
  have c2 : (World.drew ((w.alloc (Obj.cells #[Value.int IntKind.i64 a, u] 52)).alloc (Obj.cells #[Value.int IntKind.i64 b, v] 52))).cell? ⟨w.heap.size, 1, none⟩ = some u := by go_simp
  have c3 : (World.drew ((w.alloc (Obj.cells #[Value.int IntKind.i64 a, u] 52)).alloc (Obj.cells #[Value.int IntKind.i64 b, v] 52))).cell? ⟨w.heap.size + 1, 0, none⟩ = some (.int .i64 b) := by go_simp
  have c4 : (World.drew ((w.alloc (Obj.cells #[Value.int IntKind.i64 a, u] 52)).alloc (Obj.cells #[Value.int IntKind.i64 b, v] 52))).cell? ⟨w.heap.size + 1, 1, none⟩ = some v := by go_simp
  generalize hW : World.drew ((w.alloc (Obj.cells #[Value.int IntKind.i64 a, u] 52)).alloc (Obj.cells #[Value.int IntKind.i64 b, v] 52)) = W at c1 c2 c3 c4
  have e0 : W = grow (w.drewN 1) #[Obj.cells #[Value.int IntKind.i64 a, u] 52, Obj.cells #[Value.int IntKind.i64 b, v] 52] := by
    rw [← hW, alloc_eq_grow, alloc_eq_grow, grow_grow]; rfl
  have U : LstV W u l := by rw [← hW]; exact (hu.al _).al _
  have V : LstV W v m := by rw [← hW]; exact (hv.al _).al _
  refine wp_region_still_tail 10 (by kernel_rfl) (by kernel_rfl) ?_
  simp only [List.take_succ_cons, List.take_zero, List.drop_succ_cons, List.drop_zero]
  change wpStill _ _ (World.drew ((w.alloc (Obj.cells #[Value.int IntKind.i64 a, u] 52)).alloc (Obj.cells #[Value.int IntKind.i64 b, v] 52))) (fun a' => wpList _ _ _ _ a' (World.drew ((w.alloc (Obj.cells #[Value.int IntKind.i64 a, u] 52)).alloc (Obj.cells #[Value.int IntKind.i64 b, v] 52)))) _ _
  rw [hW]
  clear hW hu hv
  have E0 : Aside (W = grow (w.drewN 1) #[Obj.cells #[Value.int IntKind.i64 a, u] 52, Obj.cells #[Value.int IntKind.i64 b, v] 52]) := e0
  have UV : Aside (LstV W u l ∧ LstV W v m) := ⟨U, V⟩
  clear e0 U V
  still_step
  still_step
  still_step
  still_step
  still_call (k_Compare a b W)
  still_step
  still_step
  still_step
  still_step
  still_call (k_cmpL u v l m W UV.out.1 UV.out.2)
  refine wpStill_nil ?_
  go_wp2_with (go_at_call 53; refine (k_Or (cmpI a b) (cmpL l m) (cmpK ⟨a, l⟩ ⟨b, m⟩) rfl _ _ _ _ _ rfl (by go_simp) (by go_simp)).mono ?_; rintro e w' ⟨rfl, rfl⟩)
  go_ret
  exact ⟨rfl, 1, _, by rw [E0.out, alloc_eq_grow, grow_grow]⟩

theorem ix2_slK {ds : List Nat} {c : AV} {j off len : Nat} (h : ix2 ds c = some (.sl j off len)) : ∃ id, c = .sl id off len ∧ ixOf ds id = some j := by
  cases c with
  | sl id o l =>
    simp only [ix2, ix1] at h
    split at h
    · rename_i j' hj; cases h; exact ⟨id, rfl, hj⟩
    · cases h
  | agg cs => simp only [ix2] at h; split at h <;> cases h
  | clo f cs => simp only [ix2] at h; split at h <;> cases h
  | ptr id e f => simp only [ix2, ix1] at h; split at h <;> cases h
  | mp id => simp only [ix2, ix1] at h; split at h <;> cases h
  | d x => simp only [ix2, ix1] at h; cases h
  | ip a b c d => simp only [ix2, ix1] at h; cases h
  | any => simp only [ix2, ix1] at h; cases h
  | tup vs => simp only [ix2, ix1] at h; cases h
  | cond b v => simp only [ix2, ix1] at h; cases h
theorem ix2_clo0 {ds : List Nat} {c : AV} {fn : Fn} (h : ix2 ds c = some (.clo fn [])) : c = .clo fn [] := by
  cases c with
  | clo f cs =>
    simp only [ix2] at h
    split at h
    · rename_i cs' hc
      cases h
      cases cs with
      | nil => rfl
      | cons a cs => simp only [ixL] at hc; split at hc <;> cases hc
    · cases h
  | sl id o l => simp only [ix2, ix1] at h; split at h <;> cases h
  | agg cs => simp only [ix2] at h; split at h <;> cases h
  | ptr id e f => simp only [ix2, ix1] at h; split at h <;> cases h
  | mp id => simp only [ix2, ix1] at h; split at h <;> cases h
  | d x => simp only [ix2, ix1] at h; cases h
  | ip a b c d => simp only [ix2, ix1] at h; cases h
  | any => simp only [ix2, ix1] at h; cases h
  | tup vs => simp only [ix2, ix1] at h; cases h
  | cond b v => simp only [ix2, ix1] at h; cases h
theorem ixBox_vecK {ds : List Nat} {b : Option Box} {t : TypeId} {s : Nat} {xs : List (List D)} (h : ixBox ds b = some (.vec t s xs)) : b = some (.vec t s xs) := by
  unfold ixBox at h
  split at h
  · cases h; rfl
  · split at h <;> cases h
  · cases h
  · cases h
theorem ouH1K [Far] {H : Heap} {n id : Nat} {b : Box} (hid : id < n) (hb : ouBox [id] n (some b) = some b) (hn : ∀ i, n ≤ i → H i = none) : ouH [id] n H [some b] = upd H id (some b) := by
  funext i
  unfold ouH
  rw [upd_app]
  by_cases hi : i < n
  · rw [if_pos hi]
    by_cases h : i = id
    · subst h
      have : ixOf [i] i = some 0 := by unfold ixOf; rw [if_pos rfl]
      rw [this, if_pos rfl]; exact hb
    · have : ixOf [id] i = none := by unfold ixOf; rw [if_neg h]; rfl
      rw [this, if_neg h]
  · rw [if_neg hi, if_neg (by omega), hn i (by omega)]
    have : getB [some b] ([id].length + (i - n)) = none := by unfold getB; simp
    rw [this]; rfl
theorem alloc_allK [Far] {W0 : World} {M0 : Nat → Prop} {H : Heap} {n : Nat} {S : Lays} : ∀ (os : List Go.Obj) {w : World}, HeapOk W0 M0 H n w S → HeapOk W0 M0 H n (grow w os.toArray) S ∧ Ext w S n (grow w os.toArray) S n
  | [], w, h => by rw [show grow w ([] : List Go.Obj).toArray = w from grow_empty w]; exact ⟨h, Ext.refl _ _ _⟩
  | o :: os, w, h => by
    obtain ⟨h1, e1⟩ := h.alloc_other o
    obtain ⟨h2, e2⟩ := alloc_allK os h1
    have : grow (w.alloc o) os.toArray = grow w (o :: os).toArray := by rw [alloc_eq_grow, grow_grow]; simp
    rw [this] at h2 e2
    exact ⟨h2, e1.trans e2⟩
theorem pick_list {α β : Type} {f : α → β} : ∀ {zs : List β} {P : Nat → α → Prop}, (∀ e z, zs[e]? = some z → ∃ p, f p = z ∧ P e p) → ∃ ds : List α, ds.map f = zs ∧ ∀ e p, ds[e]? = some p → P e p
  | [], P, _ => ⟨[], rfl, fun e p h => by simp at h⟩
  | z :: zs, P, h => by
    obtain ⟨p, hp, hP⟩ := h 0 z rfl
    obtain ⟨ds, h1, h2⟩ := pick_list (f := f) (zs := zs) (P := fun e p => P (e + 1) p) (fun e z hz => h (e + 1) z (by simpa using hz))
    refine ⟨p :: ds, by rw [List.map_cons, hp, h1], fun e q hq => ?_⟩
    cases e with
    | zero => simp at hq; subst hq; exact hP
    | succ e => exact h2 e q (by simpa using hq)
theorem perm_of_in {α : Type} [Inhabited α] {lt : α → α → Bool} {d d' : Array α} (hP : PermIn 0 d.size d d') (hS : SortedIn lt 0 d.size d') : d.toList.Perm d'.toList ∧ d'.toList.Pairwise fun x y => lt y x = false := by
  obtain ⟨hsz, _, hperm⟩ := hP
  have e1 : d'.extract 0 d.size = d' := by rw [← hsz]; exact Array.extract_size
  rw [e1, Array.extract_size] at hperm
  refine ⟨hperm.symm, ?_⟩
  rw [List.pairwise_iff_getElem]
  intro i j hi hj hij
  have hi' : i < d'.size := by simpa using hi
  have hj' : j < d'.size := by simpa using hj
  have := hS i j (Nat.zero_le _) hij (by omega)
  rw [getElem!_pos d' j hj', getElem!_pos d' i hi'] at this
  simpa using this
theorem cell_sort {α : Type} [Inhabited α] {enc : α → List Value} {k : Nat} {w : World} {blk off m : Nat} {dk : Array α} {os : Array Obj} {a : Addr} {x : Value} (hne : a.block ≠ blk) (h : w.cell? a = some x) : (sortWorldK enc k w blk off m dk os).cell? a = some x := by
  have hlt : a.block < w.heap.size := by
    unfold World.cell? at h
    rcases Nat.lt_or_ge a.block w.heap.size with h1 | h1
    · exact h1
    · rw [Array.getElem?_eq_none h1] at h; cases h
  have e : (sortWorldK enc k w blk off m dk os).heap[a.block]? = w.heap[a.block]? := by
    show ((w.heap.modify blk (onCells (putCells id off (flatK enc k dk)))) ++ os)[a.block]? = _
    rw [Array.getElem?_append_left (by simpa using hlt), Array.getElem?_modify, if_neg (fun h => hne h.symm)]
  rw [cell_same e]; exact h
def sortMG : GFun
  | [.sl 0 0 n, .clo (.func 32) []], [some (.vec t s xs)] => some (t = 52 ∧ s = 2 ∧ xs = rows eM (dM xs) ∧ n = (dM xs).length ∧ (dM xs).length ≤ 1000000000 ∧ smallM (dM xs), .tup [], [some (.vec 52 2 (rows eM (sortK (dM xs))))])
  | _, _ => none

theorem lstV_of {w : World} {O : Nat → Prop} {blk : Nat} (hO : O blk) {l : List Int} {v : Value} (hl : l.length ≤ 9223372036854775807) (h : RD w O (.sl (rows eI l)) v) : ∀ w' : World, (∀ a x, a.block ≠ blk → w.cell? a = some x → w'.cell? a = some x) → LstV w' v l := by
  intro w' hw
  generalize hd : D.sl (rows eI l) = d at h
  cases h with
  | sl0 a cap =>
    have : l = [] := by
      cases l with
      | nil => rfl
      | cons a l => cases hd
    subst this
    exact ⟨a, cap, rfl, by simp, fun h => absurd rfl h⟩
  | sl xs sz b o cap u hl2 hb hO' hz hc hr =>
    cases hd
    refine ⟨some ⟨b, o, none⟩, cap, by rw [rows_len], hl, fun hne => ⟨b, o, rfl, fun j x hx => ?_⟩⟩
    have hsz : sz = 1 := by
      cases l with
      | nil => exact absurd rfl hne
      | cons a l => exact (hz [.int .i64 a] (by simp [rows, eI])).symm
    subst hsz
    have hat : at2 (rows eI l) j 0 = some (.int .i64 x) := by unfold at2 rows; rw [List.getElem?_map, hx]; rfl
    have h1 := hc j 0 _ hat
    have h2 := hr j 0 _ hat
    have e : u j 0 = .int .i64 x := by generalize u j 0 = y at h2; cases h2; rfl
    rw [e, Nat.mul_one, Nat.add_zero] at h1
    exact hw _ _ (fun e => hO' ((show b = blk from e) ▸ hO)) h1
  | _ => cases hd
theorem swo_cmpK {α : Type} (g : α → Mk) : SWO (ltOf fun x y => cmpK (g x) (g y)) where
  irrefl x := decide_eq_false (cmpK_irr _)
  trans x y z h1 h2 := decide_eq_true (cmpK_trans (of_decide_eq_true h1) (of_decide_eq_true h2))
  ntrans x y z h1 h2 := by
    have h1 : ¬ cmpK (g x) (g y) < 0 := of_decide_eq_false h1
    have h2 : ¬ cmpK (g y) (g z) < 0 := of_decide_eq_false h2
    refine decide_eq_false fun h => ?_
    have h : cmpK (g x) (g z) < 0 := h
    by_cases e : g x = g y
    · rw [e] at h; exact h2 h
    · exact h2 (cmpK_trans (cmpK_tot h1 e) h)
theorem sf_meets : Meets Try.prog 31 (Spec.gen sortMG) := by
 intro args H n p r o hrun hp F w S vs hH hl hr
 have hrun' : genRun sortMG (reach args H) args H n = some (p, r, o) := hrun
 unfold genRun at hrun'
 generalize reach args H = ds at hrun'
 split at hrun'
 ·rename_i ia bl hia hbl
  split at hrun'
  ·rename_i p' r' bf hg
   split at hrun'
   ·rename_i hc
    simp only [Option.some.injEq, Prod.mk.injEq] at hrun'
    obtain ⟨rfl, rfl, rfl⟩ := hrun'
    unfold sortMG at hg
    split at hg
    ·rename_i m t s xs
     simp only [Option.some.injEq, Prod.mk.injEq] at hg
     obtain ⟨rfl, rfl, rfl⟩ := hg
     obtain ⟨rfl, rfl, he, rfl, hlen, hsm⟩ := hp
     generalize dM xs = zs at *
     subst he
     obtain ⟨g1, g2⟩ := ixA_ok hia
     match args, g1 with
     | [c, cl], _ =>
     obtain ⟨c0, e0, e1⟩ := g2 0 _ rfl
     cases e0
     obtain ⟨id, rfl, hix⟩ := ix2_slK e1
     obtain ⟨c1, e0, e1⟩ := g2 1 _ rfl
     cases e0
     obtain rfl := ix2_clo0 e1
     obtain ⟨b1, b2⟩ := ixBs_ok hbl
     match ds, b1 with
     | [d0], _ =>
     obtain ⟨d1, e2, e3⟩ := b2 0 _ rfl
     cases e2
     have hid : id = d0 := by have := ixOf_get hix; simpa using this.symm
     subst hid
     have hbox := ixBox_vecK e3
     match vs, hl with
     | [v, fv], _ =>
     obtain ⟨l, hS, hB⟩ := hH.box id _ hbox
     have hlt : id < n := hH.lt hS
     have hn0 : ∀ i, n ≤ i → H i = none := fun i hi => by
      cases hb : H i with
      | none => rfl
      | some b => obtain ⟨l', h1, _⟩ := hH.box i b hb; rw [hH.bnd i hi] at h1; cases h1
     have hou := ouH1K (b := .vec 52 2 (rows eM (sortK zs))) hlt rfl hn0
     have hv : v = .slice (l.blk.map fun b => ⟨b, 0, none⟩) zs.length l.cap := by
      have h0 := hr 0 _ _ rfl rfl
      cases h0 with
      | slDead _ _ _ _ _ h => rw [hS] at h; cases h
      | sl _ _ _ o l' _ h hc' ho h0 =>
       rw [hS] at h; cases h
       have : o = 0 := h0 rfl
       subst this; rfl
     have hfv : fv = .func (.func 32) #[] #[] := by
      have h0 := hr 1 _ _ rfl rfl
      cases h0 with
      | clo _ _ us hl' _ => rw [List.eq_nil_of_length_eq_zero hl']
     have fin : ∀ w', HeapOk w (liveB H S) (upd H id (some (.vec 52 2 (rows eM (sortK zs))))) n w' S → Ext w S n w' S n →
       ∃ v S', Ending.returned (.tuple #[]) = .returned v ∧ Go.Vc.Left H n w S (upd H id (some (.vec 52 2 (rows eM (sortK zs))))) n w' S' ∧ (some (upd H id (some (.vec 52 2 (rows eM (sortK zs)))), n) = (none : Option (Heap × Nat)) → S' = S ∧ ∀ b, b < w.heap.size → w'.heap[b]? = w.heap[b]?) ∧ R w' S' n (.tup []) v := fun w' h1 h2 =>
      ⟨_, S, rfl, ⟨h1, h2, fun _ _ _ => rfl, fun i hi _ => hH.bnd i hi⟩, (fun h => by cases h), .tup [] [] rfl (fun i c u h => by simp at h)⟩
     have hz : [some (Box.vec 52 2 (rows eM (sortK zs)))].length - [id].length = 0 := rfl
     rw [hz, hou]
     simp only [Nat.add_zero, Option.getD_some]
     obtain ⟨hB1, hB2, hB3, hB4, hB5, hB6⟩ := hB
     rw [rows_len] at hB3
     cases hbk : l.blk with
     | none =>
      have h0 : zs = [] := List.eq_nil_of_length_eq_zero (by have := hB5 hbk; omega)
      subst h0
      rw [hv, hbk, hfv]
      refine (AnyF.slices_SortFunc_none Try.laysSf none _ _ w).mono ?_
      rintro e w' ⟨rfl, rfl⟩
      refine fin _ ?_ (Ext.refl _ _ _)
      have : upd H id (some (.vec 52 2 (rows eM (sortK [])))) = H := by
       funext i; rw [upd_app]; split
       ·rename_i h; subst h; rw [hbox, List.eq_nil_of_length_eq_zero (sortK_len [])]
       ·rfl
      rw [this]; exact hH
     | some b =>
      obtain ⟨cur, c1, c2, c3⟩ := hB6 b hbk
      have hblt : b < w.heap.size := hH.lt2 id l b hS (.inl hbk)
      have hown : own S b := .inr ⟨id, l, hS, .inl hbk⟩
      let A := {p : Mk × Value // RD w (own S) (.sl (rows eI p.1.nw)) p.2 ∧ p.1.nw.length ≤ 9223372036854775807}
      let enc : A → List Value := fun p => [.int .i64 p.1.1.old, p.1.2]
      obtain ⟨zl, hz1, hz2⟩ := pick_list (f := fun p : A => p.1.1) (zs := zs) (P := fun e p => cur[e * 2]? = some (.int .i64 p.1.1.old) ∧ cur[e * 2 + 1]? = some p.1.2) (fun e z hz => by
       obtain ⟨u, h1, h2⟩ := c3 e 0 (.int .i64 z.old) (by unfold at2 rows; rw [List.getElem?_map, hz]; rfl)
       obtain ⟨u2, h3, h4⟩ := c3 e 1 (.sl (rows eI z.nw)) (by unfold at2 rows; rw [List.getElem?_map, hz]; rfl)
       have e1 : u = .int .i64 z.old := by cases h2; rfl
       subst e1
       exact ⟨⟨(z, u2), h4, hsm z (List.mem_of_getElem? hz)⟩, rfl, by simpa using h1, h3⟩)
      have hlen2 : zl.length = zs.length := by rw [← hz1, List.length_map]
      have hlz : zl.length < 4611686018427387904 := by omega
      rw [hv, hbk, hfv, ← hlen2]
      cases hzl : zl with
      | nil =>
       have h0 : zs = [] := by rw [← hz1, hzl]; rfl
       refine (AnyF.slices_SortFunc_none Try.laysSf _ _ _ w).mono ?_
       rintro e w' ⟨rfl, rfl⟩
       refine fin _ ?_ (Ext.refl _ _ _)
       have : upd H id (some (.vec 52 2 (rows eM (sortK zs)))) = H := by
        funext i; rw [upd_app]; split
        ·rename_i h; subst h; rw [hbox, h0, List.eq_nil_of_length_eq_zero (sortK_len [])]
        ·rfl
       rw [this]; exact hH
      | cons p0 zl0 =>
       haveI : Inhabited A := ⟨p0⟩
       rw [← hzl]
       have hcell : ∀ (t : Nat), t < zl.toArray.size * 2 → cur[t]? = some (flatK enc 2 zl.toArray)[t]! := fun t ht => by
        rw [get_flatK _ _ _ _ ht]
        have hlt2 : t / 2 < zl.length := by simp at ht; omega
        have h1 := hz2 (t / 2) zl[t / 2] (List.getElem?_eq_getElem hlt2)
        have h2 : zl.toArray[t / 2]! = zl[t / 2] := by simp [hlt2]
        rw [h2]
        rcases Nat.mod_two_eq_zero_or_one t with h | h
        ·rw [h]; have := h1.1; rw [show t / 2 * 2 = t by omega] at this; exact this
        ·rw [h]; have := h1.2; rw [show t / 2 * 2 + 1 = t by omega] at this; exact this
       have hhold : HoldsK enc 2 w b 0 zl.toArray := fun t ht => by
        rw [size_flatK] at ht
        refine ⟨?_, by simp [World.frozen?, c1]⟩
        have h1 := hcell t ht
        simp only [World.cell?, c1, Nat.zero_add, Option.isSome_none, Bool.false_eq_true, if_false]
        exact h1
       have hcon : Calls Try.prog 31 #[.slice (some ⟨b, 0, none⟩) zl.toArray.size l.cap, .func (.func 32) #[] #[]] w _ :=
        AnyQ.slices_SortFunc Try.laysSf 2 (fun w => by kernel_rfl) (fun w => by kernel_rfl) enc (fun _ => rfl) (fun x u hu => by
         simp only [enc, List.mem_cons, List.not_mem_nil, or_false] at hu
         rcases hu with rfl | rfl
         ·rfl
         ·exact x.2.1.one) (fun x y => cmpK x.1.1 y.1.1) (swo_cmpK fun x : A => x.1.1) 32 #[] b 0 l.cap zl.toArray w (enters_of Try.func32 (by kernel_rfl) rfl)
         (fun m os dk _ x y => by
          rw [Array.append_empty]
          exact k_compare x.1.1 y.1.1 x.1.2 y.1.2 _ (lstV_of hown x.2.2 x.2.1 _ (fun a v hne h => cell_sort hne h)) (lstV_of hown y.2.2 y.2.1 _ (fun a v hne h => cell_sort hne h)) x.2.1.one y.2.1.one) hhold hblt (by simpa using hlz)
       have hsz0 : zl.toArray.size = zl.length := by simp
       rw [hsz0] at hcon
       refine hcon.mono ?_
       rintro e w' ⟨rfl, d', k, os, hP, hS2, rfl⟩
       obtain ⟨q1, q2⟩ := perm_of_in hP hS2
       have hM : d'.toList.map (fun p : A => p.1.1) = sortK zs := by
        refine sortK_of ?_ ?_
        ·have := q1.map (fun p : A => p.1.1)
         rw [← hz1]; simpa using this
        ·rw [List.pairwise_map]
         refine q2.imp fun {x y} h => ?_
         have h : ¬ cmpK y.1.1 x.1.1 < 0 := of_decide_eq_false h
         exact decide_eq_true h
       have hdl : d'.size = zs.length := by have := congrArg List.length hM; rw [List.length_map, sortK_len] at this; simpa using this
       obtain ⟨os⟩ := os
       have hpb : (putRowK enc 2 (Go.Sort.ahead w k) b 0 d').heap[b]? = some (.cells (putCells (fun v : Value => v) 0 (flatK enc 2 d') cur) 52 (0, 0)) := by
        show (w.heap.modify b (onCells (putCells (fun v : Value => v) 0 (flatK enc 2 d'))))[b]? = _
        rw [Array.getElem?_modify, if_pos rfl, c1]; rfl
       have key := hH.write2 (w' := putRowK enc 2 (Go.Sort.ahead w k) b 0 d') hS (.inl hbk) (.vec 52 2 (rows eM (sortK zs))) (by rw [hbox]; rfl) rfl rfl rfl (by show (w.heap.modify b _).size = _; simp)
        (fun d hd => by
         show (w.heap.modify b (onCells (putCells (fun v : Value => v) 0 (flatK enc 2 d'))))[d]? = _
         rw [Array.getElem?_modify, if_neg (fun e => hd e.symm)])
        (fun hE => ⟨hB1, hB2, by rw [rows_len, sortK_len]; exact hB3, rect_eM _, hB5, fun b' hb' => by
         rw [hbk] at hb'; cases hb'
         refine ⟨_, hpb, by simp [putCells, c2], fun e f c hc => ?_⟩
         obtain ⟨row, hr1, hr2⟩ := at2_some hc
         unfold rows at hr1
         rw [List.getElem?_map, ← hM, List.getElem?_map] at hr1
         cases hp : d'.toList[e]? with
         | none => rw [hp] at hr1; cases hr1
         | some p =>
          rw [hp] at hr1
          cases hr1
          have hel : e < d'.size := by have := (List.getElem?_eq_some_iff.1 hp).1; simpa using this
          have hpe : d'[e]! = p := by rw [getElem!_pos d' e hel]; have := (List.getElem?_eq_some_iff.1 hp).2; simpa using this
          have hf : f < 2 := by
           have := (List.getElem?_eq_some_iff.1 hr2).1; exact this
          have hcs : cur.size = l.cap * 2 := c2
          have hFl : (flatK enc 2 d')[e * 2 + f]! = (enc p)[f]! := by
           rw [get_flatK _ _ _ _ (by omega), show (e * 2 + f) / 2 = e by omega, show (e * 2 + f) % 2 = f by omega, hpe]
          have hput : (putCells (fun v : Value => v) 0 (flatK enc 2 d') cur)[e * 2 + f]? = some (enc p)[f]! := by
           unfold putCells
           rw [Array.getElem?_mapIdx, Array.getElem?_eq_getElem (by omega), Option.map_some, if_pos ⟨Nat.zero_le _, by rw [size_flatK]; omega⟩, Nat.sub_zero, hFl]
          rcases Nat.lt_or_ge f 1 with h1 | h1
          ·obtain rfl : f = 0 := by omega
           have : c = .int .i64 p.1.1.old := by simp [eM] at hr2; exact hr2.symm
           subst this
           exact ⟨_, hput, .int _ _⟩
          ·obtain rfl : f = 1 := by omega
           have : c = .sl (rows eI p.1.1.nw) := by simp [eM] at hr2; exact hr2.symm
           subst this
           exact ⟨_, hput, hE.rd p.2.1⟩⟩)
        (fun _ => hH.plain id l _ hbox hS rfl)
       obtain ⟨h2, e2⟩ := alloc_allK os key.1
       exact fin _ h2 (key.2.trans e2)
    ·cases hg
   ·cases hrun'
  ·cases hrun'
 ·cases hrun'

def E_sortM : Env Try.prog := E_mrg.add 31 (Spec.gen sortMG) sf_meets (by kernel_rfl)
end Go.Proofs.Ytjpkgmmmmcgmeaa
