/- Walks, printed by wip/gen/walk.py. -/
import Derived.Test.YtaoifpmifpmhmaaT15
import Derived.Test.YtaoifpmifpmhmaaV4
set_option linter.all false
set_option maxRecDepth 100000
set_option maxHeartbeats 4000000
namespace Go.Proofs.Ytaoifpmifpmhmaa
open Go Go.Vc Go.RowKit
def cutW (l : List Cm) (ns : List Int) : Int × Int := if (histF l).1 = 0 ∧ 60 < ns.length then (2, -1) else histF l
def cutWi (l : List Cm) (ns : List Int) (i : Nat) : Int × Int := if (cutW l ns).1 ≠ 0 then cutW l ns else scanW (fun i => (headAt l.length (ns.getD i 0), (i : Int))) i
theorem cutW_zero {l : List Cm} {ns : List Int} (h : (cutW l ns).1 = 0) : cutW l ns = (0, 0) ∧ (histF l).1 = 0 ∧ ¬60 < ns.length := by
  unfold cutW at *
  split at h
  · cases h
  · rename_i h'
    rw [if_neg h']
    exact ⟨histF_zero h, h, fun h2 => h' ⟨h, h2⟩⟩
theorem cutWi_0 (l : List Cm) (ns : List Int) : cutWi l ns 0 = cutW l ns := by
  unfold cutWi; split
  · rfl
  · rename_i h; rw [(cutW_zero (by simpa using h)).1]; rfl
theorem scanW_succ {f : Nat → Int × Int} {n : Nat} (h : (scanW f n).1 = 0) : scanW f (n + 1) = if (f n).1 ≠ 0 then f n else (0, 0) := by
  rw [scanW, if_neg (by simp [h])]
theorem scanW_stop {f : Nat → Int × Int} {i n : Nat} (h : (scanW f i).1 ≠ 0) (hi : i ≤ n) : scanW f n = scanW f i := by
  induction n with
  | zero => rw [show i = 0 by omega]
  | succ n ih =>
    by_cases hin : i = n + 1
    · rw [hin]
    · rw [scanW, ih (by omega), if_pos h]
theorem cutWi_bad {l : List Cm} {ns : List Int} {i : Nat} {x : Int} (h : (cutWi l ns i).1 = 0) (hx : ns[i]? = some x) (hb : ¬(0 ≤ x ∧ x < l.length)) : cutWi l ns (i + 1) = (6, (i : Int)) := by
  unfold cutWi at *
  split at h
  · rename_i h'; exact absurd h h'
  · rename_i h'; rw [if_neg h', scanW_succ h]; simp only [getD_of hx]; simp [headAt, hb]
theorem cutWi_ok {l : List Cm} {ns : List Int} {i : Nat} {x : Int} (h : (cutWi l ns i).1 = 0) (hx : ns[i]? = some x) (hb : 0 ≤ x ∧ x < l.length) : cutWi l ns (i + 1) = cutWi l ns i := by
  unfold cutWi at *
  split at h
  · rename_i h'; exact absurd h h'
  · rename_i h'; rw [if_neg h', if_neg h', scanW_succ h, scanW_fst h]; simp only [getD_of hx]; simp [headAt, hb]
theorem cutWi_end {l : List Cm} {ns : List Int} {d : Int} {i : Nat} (hi : i ≤ ns.length) (h : ¬(i < ns.length ∧ (cutWi l ns i).1 = 0)) : cutF l ns d = if (cutWi l ns i).1 = 0 ∧ ¬(0 ≤ d ∧ d ≤ 60) then (3, -2) else cutWi l ns i := by
  have e : cutWi l ns i = cutWi l ns ns.length := by
    by_cases h0 : (cutWi l ns i).1 = 0
    · rw [show i = ns.length by omega]
    · unfold cutWi at *
      split at h0
      · rename_i h'; rw [if_pos h', if_pos h']
      · rename_i h'; rw [if_neg h', if_neg h', scanW_stop h0 hi]
  rw [e]
  by_cases h1 : (histF l).1 = 0
  · by_cases h2 : 60 < ns.length
    · have : cutWi l ns ns.length = (2, -1) := by unfold cutWi; rw [show cutW l ns = (2, -1) from if_pos ⟨h1, h2⟩]; rfl
      rw [this, if_neg (by simp)]; unfold cutF; rw [if_neg (by simp [h1]), if_pos h2]
    · have : cutWi l ns ns.length = scanW (fun i => (headAt l.length (ns.getD i 0), (i : Int))) ns.length := by
        unfold cutWi; rw [show cutW l ns = histF l from if_neg (by omega), if_neg (by simp [h1])]
      rw [this]; unfold cutF; rw [if_neg (by simp [h1]), if_neg h2]
      by_cases h3 : (scanW (fun i => (headAt l.length (ns.getD i 0), (i : Int))) ns.length).1 = 0
      · rw [if_neg (by rw [h3]; simp), scanW_fst h3]
        by_cases h4 : 0 ≤ d ∧ d ≤ 60
        · rw [if_pos h4, if_neg (fun h => h.2 h4)]
        · rw [if_neg h4, if_pos ⟨rfl, h4⟩]
      · rw [if_pos h3, if_neg (fun h => h3 h.1)]
  · have : cutWi l ns ns.length = histF l := by unfold cutWi; rw [show cutW l ns = histF l from if_neg (by simp [h1]), if_pos h1]
    rw [this]; unfold cutF; rw [if_pos h1, if_neg (fun h => h1 h.1)]
theorem cut_nil {l : List Cm} {ns : List Int} {d : Int} (h : (cutF l ns d).1 ≠ 0) : cutR l ns d = [] := if_pos h
/-- A cut without a fault. -/
theorem cut_good {l : List Cm} {ns : List Int} {d : Int} (h : (cutF l ns d).1 = 0) : (histF l).1 = 0 ∧ Valid l ∧ InR l.length ns ∧ ns.length ≤ 60 ∧ 0 ≤ d ∧ d ≤ 60 ∧ cutF l ns d = (0, 0) := by
  have h' := h
  unfold cutF at h
  split at h
  · rename_i h1; exact absurd h h1
  · rename_i h1
    split at h
    · cases h
    · rename_i h2
      split at h
      · rename_i h3; exact absurd h h3
      · rename_i h3
        split at h
        · rename_i h4
          simp only [ne_eq, Decidable.not_not] at h1 h3
          have hz := scanW_zero h3
          exact ⟨h1, valid_of h1, head_inR hz, by omega, h4.1, h4.2, (cut_ok h1 h2 hz h4).1⟩
        · cases h
theorem cut_val {l : List Cm} {ns : List Int} {d : Int} (h : (cutF l ns d).1 = 0) : cutR l ns d = if d - 1 < 0 then [] else lst l.length (stepN l (d - 1).toNat (mark ns)) := by
  have hg := cut_good h
  unfold cutR; rw [if_neg (by simp [h])]
  by_cases hd : d = 0
  · rw [if_pos hd, if_pos (by omega)]
  · rw [if_neg hd, if_neg (by omega)]
theorem cut_len (l : List Cm) (ns : List Int) (d : Int) : (cutR l ns d).length ≤ l.length := by
  unfold cutR
  split
  · exact Nat.zero_le _
  · split
    · exact Nat.zero_le _
    · exact lst_len _ _
def lawCG : List AV → Option (Prop × AV)
  | [.d (.sl xs), .d (.sl ns), .d (.int .i64 d)] => some (xs = rows eC (dC xs) ∧ ns = rows eI (dI ns) ∧ (dC xs).length ≤ 9223372036854775807 ∧ smallC (dC xs) ∧ (dI ns).length ≤ 9223372036854775807 ∧ inI64 d, .d (.bool true))
  | _ => none
def lawDG : List AV → Option (Prop × AV)
  | [.d (.sl xs), .d (.sl ns), .d (.int .i64 d), .d (.int .i64 b)] => some (xs = rows eC (dC xs) ∧ ns = rows eI (dI ns) ∧ (dC xs).length ≤ 9223372036854775807 ∧ smallC (dC xs) ∧ (dI ns).length ≤ 9223372036854775807 ∧ inI64 d ∧ inI64 b, .d (.bool true))
  | _ => none
theorem mark_lst {n : Nat} {f : Nat → Bool} {k : Nat} (h : k < n) : mark (lst n f) k = f k := by
  rw [Bool.eq_iff_iff]; simp only [mark, decide_eq_true_eq, lst_mem]
  constructor
  · rintro ⟨j, _, h2, h3⟩; rwa [show k = j by omega]
  · intro h2; exact ⟨k, h, h2, rfl⟩
theorem lst_inR (n : Nat) (f : Nat → Bool) : InR n (lst n f) := fun x hx => by
  obtain ⟨k, h1, _, rfl⟩ := lst_mem.1 hx; omega
theorem selF_sel {l : List Cm} {ns : List Int} (h : (histF l).1 = 0) (hr : InR l.length ns) (hs : ns.Pairwise (· < ·)) : selF l ns = (0, 0) := by
  refine sel_ok h fun j hj => ?_
  obtain ⟨x, hx⟩ := getE hj
  obtain ⟨q, hq⟩ := getE (l := ns) (i := ((j : Int) - 1).toNat) (by omega)
  have := hr.at hx
  exact sel_0 hx hq this.1 this.2 fun h => sorted_lt hs hq hx (by omega)
theorem selF_lst {l : List Cm} {f : Nat → Bool} (h : (histF l).1 = 0) : selF l (lst l.length f) = (0, 0) := selF_sel h (lst_inR _ _) (lst_sorted _ _)
/-- Deepening adds. -/
theorem cut_adds {l : List Cm} {ns : List Int} {d b : Int} (h : (cutF l ns d).1 = 0) (h1 : 1 ≤ d) (h2 : 0 ≤ b) (h3 : b ≤ 60 - d) : cutF l ns (d + b) = (0, 0) ∧ delF l (cutR l ns d) b = (0, 0) ∧ delR l (cutR l ns d) b = cutR l ns (d + b) := by
  have hg := cut_good h
  have hc : cutF l ns (d + b) = (0, 0) := by
    have h := h
    unfold cutF at h ⊢
    rw [if_neg (by simp [hg.1]), if_neg (by omega)] at h ⊢
    split at h
    · rename_i h3; exact absurd h h3
    · rename_i h3; rw [if_neg h3, if_pos (by omega)]
  have hv := cut_val h
  rw [if_neg (by omega)] at hv
  have hv2 := cut_val (l := l) (ns := ns) (d := d + b) (by rw [hc])
  rw [if_neg (by omega)] at hv2
  have hs : (selF l (cutR l ns d)).1 = 0 := by rw [hv, selF_lst hg.1]
  obtain ⟨h5, h6⟩ := del_ok (d := b) hs (by omega)
  refine ⟨hc, h5, ?_⟩
  rw [h6, hv2, hv]
  refine lst_ext fun k hk => ?_
  rw [stepN_ext (g := stepN l (d - 1).toNat (mark ns)) (fun k hk => mark_lst hk) _ _ hk, stepN_add, show b.toNat + (d - 1).toNat = (d + b - 1).toNat by omega]
end Go.Proofs.Ytaoifpmifpmhmaa
