/- Walks, printed by wip/gen/walk.py. -/
import Derived.Test.YtjpkgmmmmcgmeaaT13
import Derived.Test.YtjpkgmmmmcgmeaaV6
import Derived.Test.YtjpkgmmmmcgmeaaV5
set_option linter.all false
set_option maxRecDepth 100000
set_option maxHeartbeats 4000000
namespace Go.Proofs.Ytjpkgmmmmcgmeaa
open Go Go.Vc Go.RowKit
theorem suc_or (l : List Mk) (n : Int) : (¬(mkF l).1 = 0 ∧ (sucF l n).1 = (mkF l).1 ∧ (sucF l n).2 = (mkF l).2 ∧ sucR l n = [] ∧ divR l = []) ∨
    ((ValM l ∧ rgK n = false) ∧ (mkF l).1 = 0 ∧ (mkF l).2 = 0 ∧ divR l = dvI l l.length ∧ (sucF l n).1 = 3 ∧ (sucF l n).2 = -2 ∧ sucR l n = []) ∨
    ((ValM l ∧ rgK n = true) ∧ (mkF l).1 = 0 ∧ (mkF l).2 = 0 ∧ divR l = dvI l l.length ∧ (sucF l n).1 = 0 ∧ (sucF l n).2 = 0 ∧ sucR l n = sucK l n) := by
  rcases mkF_or l with ⟨hz, hv⟩ | hb
  · have hd : divR l = dvI l l.length := by unfold divR; rw [hz, if_neg (by simp), dvI_is hv]
    cases hn : rgK n with
    | false =>
      have hf : sucF l n = (3, -2) := by unfold sucF; rw [hz, if_neg (by simp), hn, if_pos rfl]
      exact .inr (.inl ⟨⟨hv, rfl⟩, by rw [hz], by rw [hz], hd, by rw [hf], by rw [hf], by unfold sucR; rw [hf]; rfl⟩)
    | true =>
      have hf : sucF l n = (0, 0) := by unfold sucF; rw [hz, if_neg (by simp), hn, if_neg (by simp)]
      exact .inr (.inr ⟨⟨hv, rfl⟩, by rw [hz], by rw [hz], hd, by rw [hf], by rw [hf], by unfold sucR; rw [hf]; rfl⟩)
  · have hf : sucF l n = mkF l := by unfold sucF; rw [if_pos hb]
    exact .inl ⟨hb, by rw [hf], by rw [hf], by unfold sucR; rw [hf, if_pos hb], by unfold divR; rw [if_pos hb]⟩
theorem sucR_len (l : List Mk) (n : Int) : (sucR l n).length ≤ 60 := by
  unfold sucR; split
  · simp
  · exact numK_len _ _
theorem divR_len (l : List Mk) : (divR l).length ≤ 60 := by
  unfold divR; split
  · simp
  · exact numK_len _ _
theorem visR_len (L : List Mk) (cs : List Int) : (visR L cs).length ≤ cs.length := by
  unfold visR; split
  · simp
  · exact List.length_filter_le _ _
theorem orpR_len (L : List Mk) (C : List Cm) : (orpR L C).length ≤ C.length := by
  unfold orpR; split
  · simp
  · exact numK_len _ _
theorem mgR_len (a b : List Mk) : (mgR a b).length ≤ 40 := by
  rcases mg_or a b with ⟨_, h⟩ | ⟨_, _, _, h, hv⟩
  · rw [h]; simp
  · rw [h]; exact hv.len
theorem mgR_small {a b : List Mk} (ha : smallM a) (hb : smallM b) : smallM (mgR a b) := by
  rcases mg_or a b with ⟨_, h⟩ | ⟨_, _, _, h, _⟩
  · rw [h]; intro m hm; cases hm
  · rw [h]; intro m hm
    rcases (mrgK_mem _ _ _).1 hm with h | h
    · exact ha m h
    · exact hb m h
theorem dvI_len2 (l : List Mk) (h : l.length ≤ 40) : (dvI l l.length).length ≤ 2000 := by have := dvI_len l l.length (by omega); omega
def lawLNG : List AV → Option (Prop × AV)
  | [.d (.sl xs), .d (.int .i64 n)] => some (xs = rows eM (dM xs) ∧ (dM xs).length ≤ 9223372036854775807 ∧ smallM (dM xs), .d (.bool true))
  | _ => none
def lawVG : List AV → Option (Prop × AV)
  | [.d (.sl xs), .d (.sl ys), .d (.sl zs)] => some (xs = rows eM (dM xs) ∧ (dM xs).length ≤ 9223372036854775807 ∧ smallM (dM xs) ∧ ys = rows eI (dI ys) ∧ (dI ys).length ≤ 9223372036854775807 ∧ zs = rows eC (dC zs) ∧ (dC zs).length ≤ 9223372036854775807 ∧ smallC (dC zs), .d (.bool true))
  | _ => none
def lawMMG : List AV → Option (Prop × AV)
  | [.d (.sl xs), .d (.sl ys)] => some (xs = rows eM (dM xs) ∧ ys = rows eM (dM ys) ∧ (dM xs).length ≤ 9223372036854775807 ∧ (dM ys).length ≤ 9223372036854775807 ∧ smallM (dM xs) ∧ smallM (dM ys), .d (.bool true))
  | _ => none
def lawM3G : List AV → Option (Prop × AV)
  | [.d (.sl xs), .d (.sl ys), .d (.sl zs)] => some (xs = rows eM (dM xs) ∧ ys = rows eM (dM ys) ∧ zs = rows eM (dM zs) ∧ (dM xs).length ≤ 9223372036854775807 ∧ (dM ys).length ≤ 9223372036854775807 ∧ (dM zs).length ≤ 9223372036854775807 ∧ smallM (dM xs) ∧ smallM (dM ys) ∧ smallM (dM zs), .d (.bool true))
  | _ => none
def lawHG : List AV → Option (Prop × AV)
  | [.d (.sl xs), .d (.sl ys), .d (.sl zs)] => some (xs = rows eM (dM xs) ∧ ys = rows eM (dM ys) ∧ (dM xs).length ≤ 9223372036854775807 ∧ (dM ys).length ≤ 9223372036854775807 ∧ smallM (dM xs) ∧ smallM (dM ys) ∧ zs = rows eI (dI zs) ∧ (dI zs).length ≤ 9223372036854775807, .d (.bool true))
  | _ => none
theorem mm_or (a b : List Mk) : (¬(mkF a).1 = 0 ∧ (mgF a b).1 = (mkF a).1 ∧ (mgF a b).2 = (mkF a).2 ∧ mgR a b = []) ∨
    ((mkF a).1 = 0 ∧ (mkF a).2 = 0 ∧ ¬(mkF b).1 = 0 ∧ (mgF a b).1 = (mkF b).1 ∧ (mgF a b).2 = -2 ∧ mgR a b = []) ∨
    ((ValM a ∧ ValM b ∧ 40 < (mrgK a b).length) ∧ (mkF a).1 = 0 ∧ (mkF a).2 = 0 ∧ (mkF b).1 = 0 ∧ (mgF a b).1 = 10 ∧ (mgF a b).2 = -1 ∧ mgR a b = []) ∨
    ((ValM a ∧ ValM b ∧ ¬40 < (mrgK a b).length) ∧ (mkF a).1 = 0 ∧ (mkF a).2 = 0 ∧ (mkF b).1 = 0 ∧ (mgF a b).1 = 20 ∧ (mgF a b).2 = -3 ∧ mgR a b = [] ∧ cycK (mrgK a b) = true) ∨
    ((ValM a ∧ ValM b ∧ ¬40 < (mrgK a b).length) ∧ (mkF a).1 = 0 ∧ (mkF a).2 = 0 ∧ (mkF b).1 = 0 ∧ (mgF a b).1 = 0 ∧ (mgF a b).2 = 0 ∧ mgR a b = mrgK a b ∧ cycK (mrgK a b) = false) := by
  rcases mkF_or a with ⟨za, ha⟩ | ba
  · rcases mkF_or b with ⟨zb, hb⟩ | bb
    · have e := unK_is ha.srt hb.srt
      by_cases hl : 40 < (mrgK a b).length
      · have hf : mgF a b = (10, -1) := by unfold mgF; rw [za, zb, if_neg (by simp), if_neg (by simp), e, if_pos hl]
        exact .inr (.inr (.inl ⟨⟨ha, hb, hl⟩, by rw [za], by rw [za], by rw [zb], by rw [hf], by rw [hf], by unfold mgR; rw [hf]; rfl⟩))
      · cases hc : cycK (mrgK a b) with
        | true =>
          have hf : mgF a b = (20, -3) := by unfold mgF; rw [za, zb, if_neg (by simp), if_neg (by simp), e, if_neg hl, if_pos hc]
          exact .inr (.inr (.inr (.inl ⟨⟨ha, hb, hl⟩, by rw [za], by rw [za], by rw [zb], by rw [hf], by rw [hf], by unfold mgR; rw [hf]; rfl, rfl⟩)))
        | false =>
          have hf : mgF a b = (0, 0) := by unfold mgF; rw [za, zb, if_neg (by simp), if_neg (by simp), e, if_neg hl, if_neg (by simp [hc])]
          exact .inr (.inr (.inr (.inr ⟨⟨ha, hb, hl⟩, by rw [za], by rw [za], by rw [zb], by rw [hf], by rw [hf], by unfold mgR; rw [hf, if_neg (by simp), e], rfl⟩)))
    · have hf : mgF a b = ((mkF b).1, -2) := by unfold mgF; rw [za, if_neg (by simp), if_pos bb]
      exact .inr (.inl ⟨by rw [za], by rw [za], bb, by rw [hf], by rw [hf], by unfold mgR; rw [hf, if_pos bb]⟩)
  · have hf : mgF a b = mkF a := by unfold mgF; rw [if_pos ba]
    exact .inl ⟨ba, by rw [hf], by rw [hf], by unfold mgR; rw [hf, if_pos ba]⟩
theorem mrg_small {a b : List Mk} (ha : smallM a) (hb : smallM b) : smallM (mrgK a b) := fun m hm => by
  rcases (mrgK_mem _ _ _).1 hm with h | h
  · exact ha m h
  · exact hb m h
theorem mrg_ok {a b : List Mk} (ha : ValM a) (hb : ValM b) : okM (mrgK a b) := fun m hm => by
  rcases (mrgK_mem _ _ _).1 hm with h | h
  · exact ha.okM m h
  · exact hb.okM m h
theorem dM_nil : dM [] = [] := rfl
theorem dI_nil : dI [] = [] := rfl
theorem rI_nil : rows eI [] = [] := rfl
theorem rM_nil : rows eM [] = [] := rfl
theorem dI_one (n : Int) : dI [[.int .i64 n]] = [n] := rfl
theorem rI_one (n : Int) : rows eI [n] = [[.int .i64 n]] := rfl
theorem vis_bad {l : List Mk} {cs : List Int} (h : ¬(mkF l).1 = 0) : (visF l cs).1 = (mkF l).1 ∧ (visF l cs).2 = (mkF l).2 ∧ visR l cs = [] := by
  have hf : visF l cs = mkF l := by unfold visF; rw [if_pos h]
  exact ⟨by rw [hf], by rw [hf], visR_bad (by rw [hf]; exact h)⟩
theorem orp_bad {l : List Mk} {C : List Cm} (h : ¬(mkF l).1 = 0) : (orpF l C).1 = (mkF l).1 ∧ (orpF l C).2 = (mkF l).2 ∧ orpR l C = [] := by
  have hf : orpF l C = mkF l := by unfold orpF; rw [if_pos h]
  exact ⟨by rw [hf], by rw [hf], by unfold orpR; rw [hf, if_pos h]⟩
theorem orp_or {l : List Mk} {C : List Cm} (h : (mkF l).1 = 0) : (¬(histF C).1 = 0 ∧ (orpF l C).1 = (histF C).1 ∧ (orpF l C).2 = -2 ∧ orpR l C = []) ∨ (Valid C ∧ (histF C).1 = 0 ∧ (orpF l C).1 = 0 ∧ (orpF l C).2 = 0 ∧ orpR l C = orpK l C) := by
  by_cases hh : (histF C).1 = 0
  · have hf : orpF l C = (0, 0) := by unfold orpF; rw [if_neg (by simp [h]), if_neg (by simp [hh])]
    exact .inr ⟨valid_of hh, hh, by rw [hf], by rw [hf], by unfold orpR; rw [hf, if_neg (by simp)]⟩
  · have hf : orpF l C = ((histF C).1, -2) := by unfold orpF; rw [if_neg (by simp [h]), if_pos hh]
    exact .inl ⟨hh, by rw [hf], by rw [hf], by unfold orpR; rw [hf, if_pos hh]⟩
theorem orpK_len (L : List Mk) (C : List Cm) : (orpK L C).length ≤ C.length := numK_len _ _
theorem vis_60 {cs : List Int} {i : Nat} (hi : i ≤ cs.length) (h : ∀ j, j < i → (visC cs j).1 = 0) : i ≤ 60 := by
  have := (vis_of (cs := cs.take i) (fun j hj => by
    rw [List.length_take] at hj
    have e : visC (cs.take i) j = visC cs j := by
      unfold visC
      rw [List.getElem?_take_of_lt (by omega), List.getD_eq_getElem?_getD, List.getElem?_take_of_lt (by omega), ← List.getD_eq_getElem?_getD]
    rw [e]; exact h j (by omega))).len
  rw [List.length_take] at this; omega
def wantK (l : List Mk) (cs : List Int) (i : Nat) : List Int := (cs.take i).filter fun n => !goneK l n
theorem want_snoc {l : List Mk} {cs : List Int} {i : Nat} {x : Int} (h : cs[i]? = some x) : wantK l cs (i + 1) = wantK l cs i ++ if goneK l x = true then [] else [x] := by
  unfold wantK
  rw [List.take_add_one, h, List.filter_append]
  cases hg : goneK l x <;> simp [hg]
theorem want_len (l : List Mk) (cs : List Int) (i : Nat) : (wantK l cs i).length ≤ i := by unfold wantK; exact Nat.le_trans (List.length_filter_le _ _) (by rw [List.length_take]; omega)
/-- What the reference has found. -/
def VI (l : List Mk) (cs : List Int) (i : Nat) (c x : Int) (W : List Int) : Prop := (i ≤ cs.length ∧ W.length ≤ i) ∧ ((c = 0 ∧ x = 0 ∧ (∀ j, j < i → (visC cs j).1 = 0) ∧ W = wantK l cs i) ∨ (c ≠ 0 ∧ visF l cs = (c, x)))
theorem VI.fin {l : List Mk} {cs : List Int} {i : Nat} {c x : Int} {W : List Int} (hz : (mkF l).1 = 0) (h : VI l cs i c x W) (he : ¬(i < cs.length ∧ c = 0)) : (visF l cs).1 = c ∧ (visF l cs).2 = x ∧ (c = 0 → visR l cs = W) ∧ (c ≠ 0 → visR l cs = []) := by
  obtain ⟨⟨h1, _⟩, ⟨rfl, rfl, h3, h4⟩ | ⟨h3, h4⟩⟩ := h
  · obtain rfl : i = cs.length := by omega
    have hf := visF_ok hz h3
    refine ⟨by rw [hf], by rw [hf], fun _ => ?_, fun h => absurd rfl h⟩
    rw [h4]; unfold visR visK wantK; rw [hf, if_neg (by simp), List.take_length]
  · exact ⟨by rw [h4], by rw [h4], fun h => absurd h h3, fun _ => visR_bad (by rw [h4]; exact h3)⟩
theorem sv_or (l : List Mk) (n : Int) : (¬(sucF l n).1 = 0 ∧ sucR l n = []) ∨ ((sucF l n).1 = 0 ∧ (visF l (sucR l n)).1 = 0 ∧ (visF l [n]).1 = 0 ∧ visR l (sucR l n) = sucR l n ∧ decide (((visR l [n]).length : Int) = 1) = decide (sucR l n = [n])) := by
  by_cases h : (sucF l n).1 = 0
  · obtain ⟨h1, h2, h3, h4⟩ := suc_vis h
    refine .inr ⟨h, by rw [h1], by rw [h2], h3, ?_⟩
    rw [← h4]; exact decide_eq_decide.2 (by omega)
  · exact .inl ⟨h, by unfold sucR; rw [if_pos h]⟩
theorem ms_or (a b c : List Mk) : (¬(mgF a b).1 = 0 ∧ mgR a b = []) ∨ ((mgF a b).1 = 0 ∧ ¬(mgF (mgR a b) c).1 = 0) ∨ ((mgF a b).1 = 0 ∧ (mgF (mgR a b) c).1 = 0 ∧ (mgF a a).1 = 0 ∧ (mgF b a).1 = 0 ∧ (mgF b c).1 = 0 ∧ (mgF a (mgR b c)).1 = 0 ∧ mgR a a = a ∧ mgR b a = mgR a b ∧ mgR (mgR a b) c = mgR a (mgR b c)) := by
  by_cases h : (mgF a b).1 = 0
  · by_cases h2 : (mgF (mgR a b) c).1 = 0
    · obtain ⟨g1, g2, g3, g4, g5, g6, g7⟩ := mg_semi h h2
      exact .inr (.inr ⟨h, h2, by rw [g1], by rw [g2], by rw [g3], by rw [g4], g5, g6.symm, g7⟩)
    · exact .inr (.inl ⟨h, h2⟩)
  · exact .inl ⟨h, by unfold mgR; rw [if_pos h]⟩
theorem mh_or (a b : List Mk) (cs : List Int) : (¬(mgF a b).1 = 0 ∧ mgR a b = []) ∨ ((mgF a b).1 = 0 ∧ ¬(visF a cs).1 = 0) ∨ ((∀ n ∈ cs, decide (n ∈ visR (mgR a b) cs) = (decide (n ∈ visR a cs) && decide (n ∈ visR b cs))) ∧ (mgF a b).1 = 0 ∧ (visF a cs).1 = 0 ∧ (visF b cs).1 = 0 ∧ (visF (mgR a b) cs).1 = 0) := by
  by_cases h : (mgF a b).1 = 0
  · by_cases h2 : (visF a cs).1 = 0
    · obtain ⟨g1, g2, g3⟩ := mg_hide h h2
      exact .inr (.inr ⟨g3, h, h2, g1, g2⟩)
    · exact .inr (.inl ⟨h, h2⟩)
  · exact .inl ⟨h, by unfold mgR; rw [if_pos h]⟩
end Go.Proofs.Ytjpkgmmmmcgmeaa
