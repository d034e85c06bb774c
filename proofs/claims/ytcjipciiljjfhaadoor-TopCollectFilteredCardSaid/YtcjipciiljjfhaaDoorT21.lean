/- Walks, printed by wip/gen/walk.py. -/
import Derived.Test.YtcjipciiljjfhaaDoorT20
import Derived.Test.YtcjipciiljjfhaaDoorV5
set_option linter.all false
set_option maxRecDepth 100000
set_option maxHeartbeats 4000000
namespace Go.Proofs.YtcjipciiljjfhaaDoor
open Go Go.Vc Go.RowKit
theorem chs_map (S : List SO) (f : SO → Bool) (w : Bool) : chs S (S.map f) w = S.filter fun x => decide (f x = w) := by
  unfold chs
  induction S with
  | nil => rfl
  | cons a S ih =>
    rw [List.map_cons, List.zip_cons_cons]
    by_cases h : f a = w
    · rw [List.filter_cons_of_pos (by simpa using h), List.filter_cons_of_pos (by simpa using h), List.map_cons, ih]
    · rw [List.filter_cons_of_neg (by simpa using h), List.filter_cons_of_neg (by simpa using h), ih]

/-- Links that lead out of a store, met one by one. -/
def misP (S : List SO) (i k : Nat) : List Int := (((S.take i).flatMap fun x => x.ob.ln) ++ ((S.getD i default).ob.ln).take k).filter fun d => !inS S d
def misA (S : List SO) : List Int := (S.flatMap fun x => x.ob.ln).filter fun d => !inS S d
def setA (l : List Int) : List (Int × Bool) := l.foldl (fun m d => setI m d true) []
def insA (l : List Int) : List Int := l.foldl ins []
theorem misP_zero (S : List SO) : misP S 0 0 = [] := by unfold misP; simp
theorem misP_in {S : List SO} {i k : Nat} {x : SO} {d : Int} (hx : S[i]? = some x) (hd : x.ob.ln[k]? = some d) (h : inS S d = true) : misP S i (k + 1) = misP S i k := by
  unfold misP
  rw [getD_at hx, List.take_add_one, hd, ← List.append_assoc, List.filter_append (l₂ := (some d).toList)]
  simp [h]
theorem misP_out {S : List SO} {i k : Nat} {x : SO} {d : Int} (hx : S[i]? = some x) (hd : x.ob.ln[k]? = some d) (h : inS S d = false) : misP S i (k + 1) = misP S i k ++ [d] := by
  unfold misP
  rw [getD_at hx, List.take_add_one, hd, ← List.append_assoc, List.filter_append (l₂ := (some d).toList)]
  simp [h]
theorem misP_next {S : List SO} {i k : Nat} {x : SO} (hx : S[i]? = some x) (hk : x.ob.ln.length ≤ k) : misP S (i + 1) 0 = misP S i k := by
  unfold misP
  rw [getD_at hx, List.take_of_length_le hk, List.take_add_one, hx]
  simp
theorem misP_all {S : List SO} {i : Nat} (h : S.length ≤ i) : misP S i 0 = misA S := by
  unfold misP misA; rw [List.take_of_length_le h]; simp
theorem fm_len {S : List SO} (hv : ∀ x ∈ S, OkO x.ob) : (S.flatMap fun x => x.ob.ln).length ≤ 30 * S.length := by
  induction S with
  | nil => simp
  | cons a S ih =>
    have h1 := (hv a (by simp)).ln
    have h2 := ih fun x hx => hv x (by simp [hx])
    rw [List.flatMap_cons, List.length_append, List.length_cons]; omega
theorem misP_len {S : List SO} (hv : ValS S) (i k : Nat) : (misP S i k).length ≤ 1200 + k := by
  unfold misP
  refine Nat.le_trans (List.length_filter_le ..) ?_
  have h1 := fm_len (S := S.take i) fun x hx => hv.ok x (List.mem_of_mem_take hx)
  have h2 := hv.len
  have h3 : (S.take i).length ≤ S.length := by rw [List.length_take]; omega
  rw [List.length_append, List.length_take]; omega
theorem setA_snoc (l : List Int) (d : Int) : setA (l ++ [d]) = setI (setA l) d true := by unfold setA; rw [List.foldl_append]; rfl
theorem insA_snoc (l : List Int) (d : Int) : insA (l ++ [d]) = ins (insA l) d := by unfold insA; rw [List.foldl_append]; rfl
theorem setA_go : ∀ (l : List Int) (m : List (Int × Bool)), SetM m → SetM (l.foldl (fun m d => setI m d true) m) ∧ ∀ x, x ∈ keysM (l.foldl (fun m d => setI m d true) m) ↔ x ∈ l ∨ x ∈ keysM m
  | [], m, h => ⟨h, fun x => by simp⟩
  | d :: l, m, h => by
    obtain ⟨h1, h2⟩ := h.add d
    obtain ⟨h3, h4⟩ := setA_go l _ h1
    refine ⟨h3, fun x => ?_⟩
    rw [List.foldl_cons, h4, h2, List.mem_cons]
    constructor
    · rintro (a | a | a)
      · exact .inl (.inr a)
      · exact .inl (.inl a)
      · exact .inr a
    · rintro ((a | a) | a)
      · exact .inr (.inl a)
      · exact .inl a
      · exact .inr (.inr a)
theorem setA_ok (l : List Int) : SetM (setA l) ∧ ∀ x, x ∈ keysM (setA l) ↔ x ∈ l := by
  obtain ⟨h1, h2⟩ := setA_go l [] SetM.nil
  exact ⟨h1, fun x => by unfold setA; rw [h2]; simp [keysM]⟩
theorem insA_go : ∀ (l o : List Int), o.Pairwise (· < ·) → (l.foldl ins o).Pairwise (· < ·) ∧ ∀ x, x ∈ l.foldl ins o ↔ x ∈ l ∨ x ∈ o
  | [], o, h => ⟨h, fun x => by simp⟩
  | d :: l, o, h => by
    obtain ⟨h3, h4⟩ := insA_go l _ (ins_sorted h (n := d))
    refine ⟨h3, fun x => ?_⟩
    rw [List.foldl_cons, h4, ins_mem, List.mem_cons]
    constructor
    · rintro (a | a | a)
      · exact .inl (.inr a)
      · exact .inl (.inl a)
      · exact .inr a
    · rintro ((a | a) | a)
      · exact .inr (.inl a)
      · exact .inl a
      · exact .inr (.inr a)
theorem insA_ok (l : List Int) : (insA l).Pairwise (· < ·) ∧ ∀ x, x ∈ insA l ↔ x ∈ l := by
  obtain ⟨h1, h2⟩ := insA_go l [] List.Pairwise.nil
  exact ⟨h1, fun x => by unfold insA; rw [h2]; simp⟩
theorem mis_is (l : List Int) : sortI (keysM (setA l)) = insA l :=
  sortI_is (setA_ok l).1.nd (insA_ok l).1 fun x => by rw [(setA_ok l).2, (insA_ok l).2]
theorem setA_len (l : List Int) : (setA l).length ≤ l.length := by
  have h := nodup_le (setA_ok l).1.nd fun x hx => ((setA_ok l).2 x).1 hx
  unfold keysM at h; rw [List.length_map] at h; exact h
theorem insA_len (l : List Int) : (insA l).length ≤ l.length :=
  nodup_le ((insA_ok l).1.imp (fun h => Int.ne_of_lt h)) fun x hx => ((insA_ok l).2 x).1 hx
def misR (S : List SO) : List Int := if (stF S).1 ≠ 0 then [] else sortI (keysM (setA (misA S)))
def misG : List AV → Option (Prop × AV)
  | [.agg [.d (.sl xs)]] => some (xs = rows eO (dO xs) ∧ (dO xs).length ≤ 9223372036854775807 ∧ smallS (dO xs), .tup [.d (.sl (rows eI (misR (dO xs)))), .agg [.d (.int .i64 (stF (dO xs)).1), .d (.int .i64 (stF (dO xs)).2)]])
  | _ => none
def misRG : List AV → Option (Prop × AV)
  | [.agg [.d (.sl xs)]] => some (xs = rows eO (dO xs) ∧ ValS (dO xs), .d (.sl (rows eI (insA (misA (dO xs))))))
  | _ => none
/-- What a set of references without any has: no fault. -/
def refs0G : List AV → Option (Prop × AV)
  | [.agg [.d (.sl [])]] => some (True, .agg [.d (.int .i64 0), .d (.int .i64 0)])
  | _ => none
def lea0G : List AV → Option (Prop × AV)
  | [.d (.sl []), .d (.int .i64 0)] => some (True, .agg [.d (.int .i64 0), .d (.int .i64 0)])
  | _ => none
def col0G : List AV → Option (Prop × AV)
  | [.agg [.d (.sl xs)], .agg [.d (.sl [])], .d (.sl []), .d (.int .i64 0)] => some (xs = rows eO (dO xs) ∧ ValS (dO xs) ∧ smallS (dO xs), .tup [.agg [.d (.sl [])], .d (.sl (rows eI (dgs (dO xs)))), .agg [.d (.int .i64 0), .d (.int .i64 0)]])
  | _ => none
theorem reach_nil (S : List SO) : reachM S [] = [] := by
  have h : ∀ k, itR S ([], []) k = ([], []) := fun k => by
    induction k with
    | zero => rfl
    | succ k ih => show stpR S (itR S ([], []) k) = _; rw [ih]; rfl
  unfold reachM; rw [h]
theorem marked_is {S : List SO} (hv : ValS S) (R : List Int) : dgs (chs S (mkV S R) true) = sortI (keysM (reachM S R)) := by
  symm
  unfold mkV; rw [chs_map]
  obtain ⟨h1, h2⟩ := reach_set R hv
  refine sortI_is h1.nd ?_ fun x => ?_
  · exact List.Pairwise.sublist (List.Sublist.map _ (List.filter_sublist)) hv.sort
  · constructor
    · intro hx
      have := ((h2 x).1 hx).mem
      obtain ⟨y, hy, rfl⟩ := List.mem_map.1 this
      exact List.mem_map.2 ⟨y, List.mem_filter.2 ⟨hy, by simp [hx]⟩, rfl⟩
    · intro hx
      obtain ⟨y, hy, rfl⟩ := List.mem_map.1 hx
      have := (List.mem_filter.1 hy).2
      simpa using this
theorem mrk_or (S : List SO) (R : List Int) : ((stF S).1 ≠ 0 ∧ markF S R = stF S ∧ markR S R = [] ∧ misR S = []) ∨
    (stF S = (0, 0) ∧ ValS S ∧ misR S = insA (misA S) ∧ (misA S).length ≤ 1200 ∧ 50 < R.length ∧ markF S R = (2, -1) ∧ markR S R = []) ∨
    (stF S = (0, 0) ∧ ValS S ∧ misR S = insA (misA S) ∧ (misA S).length ≤ 1200 ∧ R.length ≤ 50 ∧ markF S R = (0, 0) ∧ markR S R = dgs (chs S (mkV S R) true)) := by
  rcases stF_or S with ⟨h, hv⟩ | h
  · have hm : misR S = insA (misA S) := by unfold misR; rw [h, if_neg (by simp), mis_is]
    have hl : (misA S).length ≤ 1200 := by have := misP_len hv S.length 0; rwa [misP_all (Nat.le_refl _)] at this
    by_cases hR : 50 < R.length
    · have hf : markF S R = (2, -1) := by unfold markF; rw [h, if_neg (by simp), if_pos hR]
      exact .inr (.inl ⟨h, hv, hm, hl, hR, hf, by unfold markR; rw [hf]; rfl⟩)
    · have hf : markF S R = (0, 0) := by unfold markF; rw [h, if_neg (by simp), if_neg hR]
      exact .inr (.inr ⟨h, hv, hm, hl, by omega, hf, by unfold markR; rw [hf, marked_is hv]; rfl⟩)
  · have hf : markF S R = stF S := by unfold markF; rw [if_pos h]
    exact .inl ⟨h, hf, by unfold markR; rw [hf, if_pos h], by unfold misR; rw [if_pos h]⟩
def lawMG : List AV → Option (Prop × AV)
  | [.agg [.d (.sl xs)], .d (.sl rs)] => some (xs = rows eO (dO xs) ∧ (dO xs).length ≤ 9223372036854775807 ∧ smallS (dO xs) ∧ rs = rows eI (dI rs) ∧ (dI rs).length ≤ 9223372036854775807, .d (.bool true))
  | _ => none

def exA : SO := ⟨17106956, ⟨1, [], [7]⟩⟩
def exB : SO := ⟨1662115313083863167, ⟨2, [17106956], []⟩⟩
def exS : List SO := [exA, exB]
theorem ex_1 : putF [] ⟨1, [], [7]⟩ = (0, 0) ∧ putS [] ⟨1, [], [7]⟩ = [exA] ∧ putD [] ⟨1, [], [7]⟩ = 17106956 := by decide +kernel
theorem ex_2 : putF [exA] ⟨2, [17106956], []⟩ = (0, 0) ∧ putS [exA] ⟨2, [17106956], []⟩ = exS ∧ putD [exA] ⟨2, [17106956], []⟩ = 1662115313083863167 := by decide +kernel
theorem ex_0 : dO [] = [] ∧ dI [] = [] ∧ dU [] = [] ∧ dU [[.int .u8 7]] = [7] ∧ dI [[.int .i64 17106956]] = [17106956] ∧ dI [[.int .i64 1662115313083863167]] = [1662115313083863167] ∧ exS.length = 2 ∧ [exA].length = 1 ∧ [exB].length = 1 := ⟨rfl, rfl, rfl, rfl, rfl, rfl, rfl, rfl, rfl⟩
theorem ex_s : smallS exS ∧ smallS [exA] ∧ smallS [exB] ∧ smallS [] := by
  refine ⟨fun x hx => ?_, fun x hx => ?_, fun x hx => ?_, fun x hx => by cases hx⟩
  · have : x = exA ∨ x = exB := by simpa [exS] using hx
    rcases this with rfl | rfl <;> exact ⟨by decide, by decide⟩
  · obtain rfl : x = exA := by simpa using hx
    exact ⟨by decide, by decide⟩
  · obtain rfl : x = exB := by simpa using hx
    exact ⟨by decide, by decide⟩
theorem ex_6 : ((1 : Nat) : Int) = 1 := rfl
def smallG : List AV → Option (Prop × AV)
  | [] => some (True, .tup [.agg [.d (.sl (rows eO exS))], .d (.int .i64 17106956), .d (.int .i64 1662115313083863167), .d (.bool true)])
  | _ => none
def exG : List AV → Option (Prop × AV)
  | [] => some (True, .d (.bool true))
  | _ => none

theorem dI_nil : dI [] = [] := rfl
theorem ex_7 : ((2 : Nat) : Int) = 2 := rfl
theorem gi0 (d : Int) : (getI [] d).getD false = false := rfl
theorem ex_v : ValS exS := by
  rcases stF_or exS with ⟨_, h⟩ | h
  · exact h
  · exact absurd (show (stF exS).1 = 0 by decide +kernel) h
theorem gex_m (R : List Int) (h : R.length ≤ 50) : markF exS R = (0, 0) ∧ markR exS R = dgs (chs exS (mkV exS R) true) := by
  rcases mrk_or exS R with hc | hc | hc
  · exact absurd (show (stF exS).1 = 0 by decide +kernel) hc.1
  · omega
  · exact ⟨hc.2.2.2.2.2.1, hc.2.2.2.2.2.2⟩
theorem gex_1 : markF exS [1662115313083863167] = (0, 0) ∧ markR exS [1662115313083863167] = [17106956, 1662115313083863167] := by
  obtain ⟨h1, h2⟩ := gex_m [1662115313083863167] (by decide)
  exact ⟨h1, by rw [h2]; decide +kernel⟩
theorem gex_2 : markF exS [17106956] = (0, 0) ∧ markR exS [17106956] = [17106956] := by
  obtain ⟨h1, h2⟩ := gex_m [17106956] (by decide)
  exact ⟨h1, by rw [h2]; decide +kernel⟩
theorem gex_3 : dgs exS = [17106956, 1662115313083863167] := rfl
end Go.Proofs.YtcjipciiljjfhaaDoor
