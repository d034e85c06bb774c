/- Walks, printed by wip/gen/walk.py. -/
import Derived.Test.YtcjipciiljjfhaaDoorT15
import Derived.Test.YtcjipciiljjfhaaDoorV6
import Derived.Test.YtcjipciiljjfhaaDoorV5
set_option linter.all false
set_option maxRecDepth 100000
set_option maxHeartbeats 4000000
namespace Go.Proofs.YtcjipciiljjfhaaDoor
open Go Go.Vc Go.RowKit
/-- Sorted lists with the same members are the same. -/
theorem sorted_ext : ∀ {l m : List Int}, l.Pairwise (· < ·) → m.Pairwise (· < ·) → (∀ x, x ∈ l ↔ x ∈ m) → l = m := by
  intro l
  induction l with
  | nil =>
    intro m _ _ h
    cases m with
    | nil => rfl
    | cons b m => exact absurd ((h b).2 (by simp)) (by simp)
  | cons a l ih =>
    intro m hl hm h
    cases m with
    | nil => exact absurd ((h a).1 (by simp)) (by simp)
    | cons b m =>
      have hl' := List.pairwise_cons.1 hl
      have hm' := List.pairwise_cons.1 hm
      have hab : a = b := by
        have h1 := (h a).1 (by simp)
        have h2 := (h b).2 (by simp)
        rcases List.mem_cons.1 h1 with h1 | h1
        · exact h1
        · rcases List.mem_cons.1 h2 with h2 | h2
          · exact h2.symm
          · have := hm'.1 a h1; have := hl'.1 b h2; omega
      subst hab
      refine congrArg _ (ih hl'.2 hm'.2 fun x => ⟨fun hx => ?_, fun hx => ?_⟩)
      · rcases List.mem_cons.1 ((h x).1 (by simp [hx])) with h' | h'
        · have := hl'.1 x hx; omega
        · exact h'
      · rcases List.mem_cons.1 ((h x).2 (by simp [hx])) with h' | h'
        · have := hm'.1 x hx; omega
        · exact h'

theorem sortI_mem {l : List Int} {x : Int} : x ∈ sortI l ↔ x ∈ l := List.mem_mergeSort
theorem sortI_sort {l : List Int} (h : l.Nodup) : (sortI l).Pairwise (· < ·) := by
  have h1 : (sortI l).Pairwise fun x y => decide (x ≤ y) = true := List.pairwise_mergeSort (fun a b c => by simp; omega) (fun a b => by simp; omega) l
  have h2 : (sortI l).Nodup := (List.mergeSort_perm l _).nodup_iff.2 h
  have h3 := h1.and h2
  exact h3.imp fun ⟨a, b⟩ => by have := of_decide_eq_true a; omega
theorem sortI_ext {l m : List Int} (h1 : l.Nodup) (h2 : m.Nodup) (h : ∀ x, x ∈ l ↔ x ∈ m) : sortI l = sortI m :=
  sorted_ext (sortI_sort h1) (sortI_sort h2) fun x => by rw [sortI_mem, sortI_mem]; exact h x
theorem sortI_is {l m : List Int} (h1 : l.Nodup) (h2 : m.Pairwise (· < ·)) (h : ∀ x, x ∈ l ↔ x ∈ m) : sortI l = m :=
  sorted_ext (sortI_sort h1) h2 fun x => by rw [sortI_mem]; exact h x
/-- A set kept in a map. -/
def keysM (m : List (Int × Bool)) : List Int := m.map (·.1)
def inM (m : List (Int × Bool)) (d : Int) : Bool := (getI m d).getD false
structure SetM (m : List (Int × Bool)) : Prop where
  nd : (keysM m).Nodup
  tr : ∀ p ∈ m, p.2 = true
theorem SetM.nil : SetM [] := ⟨List.nodup_nil, fun p h => by cases h⟩
theorem lookup_some {m : List (Int × Bool)} {d : Int} {b : Bool} (h : m.lookup d = some b) : (d, b) ∈ m := by
  induction m with
  | nil => cases h
  | cons p m ih =>
    rw [List.lookup_cons] at h
    split at h
    · rename_i he; cases h; have : d = p.1 := by simpa using he
      subst this; simp
    · exact List.mem_cons_of_mem _ (ih h)
theorem lookup_none {m : List (Int × Bool)} {d : Int} (h : m.lookup d = none) : d ∉ keysM m := by
  induction m with
  | nil => simp [keysM]
  | cons p m ih =>
    rw [List.lookup_cons] at h
    split at h
    · cases h
    · rename_i he
      simp only [keysM, List.map_cons, List.mem_cons, not_or]
      exact ⟨by simpa using he, ih h⟩
theorem SetM.in_iff {m : List (Int × Bool)} (h : SetM m) (d : Int) : inM m d = true ↔ d ∈ keysM m := by
  unfold inM getI
  cases hd : m.lookup d with
  | none => simp [lookup_none hd]
  | some b =>
    have hm := lookup_some hd
    have : b = true := h.tr _ hm
    subst this
    simp only [Option.getD_some, true_iff]
    exact List.mem_map.2 ⟨_, hm, rfl⟩
theorem SetM.in_false {m : List (Int × Bool)} (h : SetM m) (d : Int) : inM m d = false ↔ d ∉ keysM m := by
  rw [← h.in_iff]; cases inM m d <;> simp
theorem setI_true {m : List (Int × Bool)} {d : Int} (h : ∀ p ∈ m, p.2 = true) : ∀ p ∈ setI m d true, p.2 = true := by
  induction m with
  | nil => intro p hp; simp [setI] at hp; rw [hp]
  | cons q m ih =>
    intro p hp
    unfold setI at hp
    split at hp
    · rcases List.mem_cons.1 hp with rfl | hp
      · rfl
      · exact h p (by simp [hp])
    · rcases List.mem_cons.1 hp with rfl | hp
      · exact h _ (by simp)
      · exact ih (fun p hp => h p (by simp [hp])) p hp
theorem setI_new {m : List (Int × Bool)} {d : Int} {b : Bool} (h : d ∉ keysM m) : setI m d b = m ++ [(d, b)] := by
  induction m with
  | nil => rfl
  | cons q m ih =>
    simp only [keysM, List.map_cons, List.mem_cons, not_or] at h
    unfold setI; rw [if_neg (fun e => h.1 e.symm), ih h.2]; rfl
theorem SetM.add {m : List (Int × Bool)} (h : SetM m) (d : Int) : SetM (setI m d true) ∧ ∀ x, x ∈ keysM (setI m d true) ↔ x = d ∨ x ∈ keysM m :=
  ⟨⟨(setI_keys h.nd).1, setI_true h.tr⟩, (setI_keys h.nd).2⟩
/-- What the roots and what was reached lead to. -/
inductive Rch (S : List SO) (R : List Int) : Int → Prop
  | root {d : Int} : d ∈ R → d ∈ dgs S → Rch S R d
  | step {y : SO} {d : Int} : y ∈ S → Rch S R y.dg → d ∈ y.ob.ln → d ∈ dgs S → Rch S R d
def Cand (S : List SO) (R : List Int) (d : Int) : Prop := d ∈ R ∨ ∃ y ∈ S, Rch S R y.dg ∧ d ∈ y.ob.ln
theorem Rch.mem {S : List SO} {R : List Int} {d : Int} (h : Rch S R d) : d ∈ dgs S := by cases h <;> assumption
theorem Cand.rch {S : List SO} {R : List Int} {d : Int} (h : Cand S R d) (hd : d ∈ dgs S) : Rch S R d := by
  rcases h with h | ⟨y, h1, h2, h3⟩
  · exact .root h hd
  · exact .step h1 h2 h3 hd
theorem Rch.cand {S : List SO} {R : List Int} {d : Int} (h : Rch S R d) : Cand S R d := by
  cases h with
  | root h1 h2 => exact .inl h1
  | step h1 h2 h3 h4 => exact .inr ⟨_, h1, h2, h3⟩
/-- The search. -/
def lnS (S : List SO) (d : Int) : List Int := (S.getD (lbS S d) default).ob.ln
def stpR (S : List SO) (q : List Int × List (Int × Bool)) : List Int × List (Int × Bool) := match q.1.getLast? with
  | none => q
  | some d => if inS S d = true ∧ inM q.2 d = false then (q.1.dropLast ++ lnS S d, setI q.2 d true) else (q.1.dropLast, q.2)
def itR (S : List SO) (q : List Int × List (Int × Bool)) : Nat → List Int × List (Int × Bool)
  | 0 => q
  | k + 1 => stpR S (itR S q k)
def muR (S : List SO) (q : List Int × List (Int × Bool)) : Nat := (S.length - q.2.length) * 31 + q.1.length
def reachM (S : List SO) (R : List Int) : List (Int × Bool) := (itR S (R, []) (S.length * 31 + R.length)).2
theorem itR_fix {S : List SO} {q : List Int × List (Int × Bool)} {k : Nat} (h : (itR S q k).1 = []) : ∀ j, itR S q (k + j) = itR S q k
  | 0 => rfl
  | j + 1 => by
    show stpR S (itR S q (k + j)) = _
    rw [itR_fix h j]; unfold stpR; rw [h]; rfl
structure InvR (S : List SO) (R : List Int) (q : List Int × List (Int × Bool)) : Prop where
  set : SetM q.2
  snd : ∀ x ∈ keysM q.2, Rch S R x
  cnd : ∀ x ∈ q.1, Cand S R x
  rts : ∀ x ∈ R, x ∈ q.1 ∨ x ∈ keysM q.2 ∨ x ∉ dgs S
  lks : ∀ y ∈ S, y.dg ∈ keysM q.2 → ∀ x ∈ y.ob.ln, x ∈ q.1 ∨ x ∈ keysM q.2 ∨ x ∉ dgs S
  bnd : q.1.length ≤ R.length + 30 * q.2.length
theorem InvR.zero (S : List SO) (R : List Int) : InvR S R (R, []) :=
  ⟨SetM.nil, fun x h => (by cases h), fun x h => .inl h, fun x h => .inl h, fun y _ h => (by cases h), by simp⟩
theorem nodup_le {l m : List Int} (h : l.Nodup) (hs : ∀ x ∈ l, x ∈ m) : l.length ≤ m.length := by
  induction l generalizing m with
  | nil => simp
  | cons a l ih =>
    obtain ⟨h1, h2⟩ := List.nodup_cons.1 h
    have ha := hs a (by simp)
    have := ih (m := m.erase a) h2 (fun x hx => (List.mem_erase_of_ne (fun e => h1 (by rw [← e]; exact hx))).2 (hs x (by simp [hx])))
    rw [List.length_erase_of_mem ha] at this
    have : 0 < m.length := List.length_pos_of_mem ha
    simp only [List.length_cons]; omega
theorem keys_few {S : List SO} {R : List Int} {m : List (Int × Bool)} (h : SetM m) (hs : ∀ x ∈ keysM m, x ∈ dgs S) : m.length ≤ S.length := by
  have := nodup_le h.nd hs
  unfold keysM at this
  rw [List.length_map, dgs_len] at this; exact this
theorem last_split {l : List Int} {d : Int} (h : l.getLast? = some d) : l = l.dropLast ++ [d] := by
  rw [List.getLast?_eq_some_iff] at h
  obtain ⟨m, rfl⟩ := h
  simp
theorem lnS_at {S : List SO} (hv : ValS S) {d : Int} (h : inS S d = true) : ∃ y ∈ S, y.dg = d ∧ S[lbS S d]? = some y ∧ lnS S d = y.ob.ln := by
  obtain ⟨y, hy, hd⟩ := inS_get hv.sort h
  exact ⟨y, List.mem_of_getElem? hy, hd, hy, by unfold lnS; rw [getD_at hy]⟩
theorem InvR.go {S : List SO} {R : List Int} {q : List Int × List (Int × Bool)} {d : Int} (hv : ValS S) (h : InvR S R q) (hd : q.1.getLast? = some d) : InvR S R (stpR S q) ∧ muR S (stpR S q) + 1 ≤ muR S q := by
  obtain ⟨t, m⟩ := q
  have hsp := last_split hd
  have hmem : ∀ x, x ∈ t ↔ x ∈ t.dropLast ∨ x = d := fun x => by dsimp only at hsp; rw [hsp, List.mem_append, List.mem_singleton]; simp
  have hlen : t.length = t.dropLast.length + 1 := by dsimp only at hsp; rw [hsp]; simp
  have hcd : Cand S R d := h.cnd d ((hmem d).2 (.inr rfl))
  unfold stpR
  dsimp only at hd ⊢
  rw [hd]
  dsimp only
  split
  · rename_i hc
    obtain ⟨hin, hno⟩ := hc
    obtain ⟨y, hy, hyd, _, hln⟩ := lnS_at hv hin
    obtain ⟨s1, s2⟩ := h.set.add d
    have hnk := (h.set.in_false d).1 hno
    have hdm : d ∈ dgs S := of_decide_eq_true hin
    have hrd := hcd.rch hdm
    have hl1 : (setI m d true).length = m.length + 1 := by rw [setI_new hnk]; simp
    have hfew : m.length + 1 ≤ S.length := by
      rw [← hl1]
      refine keys_few (R := R) s1 fun x hx => ?_
      rcases (s2 x).1 hx with rfl | hx
      · exact hdm
      · exact (h.snd x hx).mem
    have hl30 := (hv.ok y hy).ln
    refine ⟨⟨s1, fun x hx => ?_, fun x hx => ?_, fun x hx => ?_, fun z hz hk x hx => ?_, ?_⟩, ?_⟩
    · rcases (s2 x).1 hx with rfl | hx
      · exact hrd
      · exact h.snd x hx
    · rcases List.mem_append.1 hx with hx | hx
      · exact h.cnd x ((hmem x).2 (.inl hx))
      · rw [hln] at hx; exact .inr ⟨y, hy, by rw [hyd]; exact hrd, hx⟩
    · rcases h.rts x hx with h1 | h1 | h1
      · rcases (hmem x).1 h1 with h2 | h2
        · exact .inl (List.mem_append.2 (.inl h2))
        · exact .inr (.inl ((s2 x).2 (.inl h2)))
      · exact .inr (.inl ((s2 x).2 (.inr h1)))
      · exact .inr (.inr h1)
    · rcases (s2 z.dg).1 hk with hk | hk
      · have : z = y := dg_uni hv.sort hz hy (by omega)
        subst this
        exact .inl (List.mem_append.2 (.inr (by rw [hln]; exact hx)))
      · rcases h.lks z hz hk x hx with h1 | h1 | h1
        · rcases (hmem x).1 h1 with h2 | h2
          · exact .inl (List.mem_append.2 (.inl h2))
          · exact .inr (.inl ((s2 x).2 (.inl h2)))
        · exact .inr (.inl ((s2 x).2 (.inr h1)))
        · exact .inr (.inr h1)
    · have := h.bnd
      dsimp only at this ⊢
      rw [List.length_append, hl1, hln]; omega
    · unfold muR; dsimp only
      rw [List.length_append, hl1, hln]; omega
  · rename_i hc
    have hor : d ∈ keysM m ∨ d ∉ dgs S := by
      cases hi : inS S d with
      | false => exact .inr (of_decide_eq_false hi)
      | true =>
        cases hn : inM m d with
        | true => exact .inl ((h.set.in_iff d).1 hn)
        | false => exact absurd ⟨hi, hn⟩ hc
    refine ⟨⟨h.set, h.snd, fun x hx => h.cnd x ((hmem x).2 (.inl hx)), fun x hx => ?_, fun z hz hk x hx => ?_, ?_⟩, ?_⟩
    · rcases h.rts x hx with h1 | h1
      · rcases (hmem x).1 h1 with h2 | h2
        · exact .inl h2
        · subst h2; exact .inr hor
      · exact .inr h1
    · rcases h.lks z hz hk x hx with h1 | h1
      · rcases (hmem x).1 h1 with h2 | h2
        · exact .inl h2
        · subst h2; exact .inr hor
      · exact .inr h1
    · have := h.bnd
      dsimp only at this ⊢
      omega
    · unfold muR; dsimp only; omega
/-- Along the way. -/
def AlongR (S : List SO) (R : List Int) (q : List Int × List (Int × Bool)) : Prop := InvR S R q ∧ ∃ k, itR S (R, []) k = q ∧ k + muR S q ≤ S.length * 31 + R.length
theorem AlongR.zero (S : List SO) (R : List Int) : AlongR S R (R, []) := ⟨InvR.zero S R, 0, rfl, by simp [muR]⟩
theorem AlongR.go {S : List SO} {R : List Int} {q : List Int × List (Int × Bool)} {d : Int} (hv : ValS S) (h : AlongR S R q) (hd : q.1.getLast? = some d) : AlongR S R (stpR S q) ∧ muR S (stpR S q) + 1 ≤ muR S q := by
  obtain ⟨h1, k, h2, h3⟩ := h
  obtain ⟨h4, h5⟩ := h1.go hv hd
  exact ⟨⟨h4, k + 1, by show stpR S (itR S (R, []) k) = _; rw [h2], by omega⟩, h5⟩
theorem AlongR.fin {S : List SO} {R : List Int} {q : List Int × List (Int × Bool)} (h : AlongR S R q) (he : q.1 = []) : q.2 = reachM S R := by
  obtain ⟨h1, k, h2, h3⟩ := h
  unfold reachM
  have : S.length * 31 + R.length = k + (S.length * 31 + R.length - k) := by omega
  rw [this, itR_fix (by rw [h2]; exact he), h2]
theorem along_run {S : List SO} {R : List Int} (hv : ValS S) : ∀ n q, muR S q ≤ n → AlongR S R q → ∃ q', AlongR S R q' ∧ q'.1 = []
  | 0, q, hn, h => ⟨q, h, List.eq_nil_of_length_eq_zero (by unfold muR at hn; omega)⟩
  | n + 1, q, hn, h => by
    cases hd : q.1.getLast? with
    | none => exact ⟨q, h, List.getLast?_eq_none_iff.1 hd⟩
    | some d =>
      obtain ⟨h1, h2⟩ := h.go hv hd
      exact along_run hv n _ (by omega) h1
theorem reach_set {S : List SO} (R : List Int) (hv : ValS S) : SetM (reachM S R) ∧ ∀ x, x ∈ keysM (reachM S R) ↔ Rch S R x := by
  obtain ⟨q, h, he⟩ := along_run hv _ _ (Nat.le_refl _) (AlongR.zero S R)
  rw [← h.fin he]
  refine ⟨h.1.set, fun x => ⟨h.1.snd x, fun hx => ?_⟩⟩
  induction hx with
  | root h1 h2 =>
    rcases h.1.rts _ h1 with h3 | h3 | h3
    · rw [he] at h3; cases h3
    · exact h3
    · exact absurd h2 h3
  | step h1 _ h3 h4 ih =>
    rcases h.1.lks _ h1 ih _ h3 with h5 | h5 | h5
    · rw [he] at h5; cases h5
    · exact h5
    · exact absurd h4 h5
theorem reach_few {S : List SO} (R : List Int) (hv : ValS S) : (reachM S R).length ≤ S.length := by
  obtain ⟨h1, h2⟩ := reach_set R hv
  exact keys_few (R := R) h1 fun x hx => ((h2 x).1 hx).mem

theorem zero_bool (w : World) : (zeroValue 4).run Tryd.prog w = .ok (.bool false) w := by kernel_rfl
/-- slices.Clone as a row of one's own. -/
def cloneF (ty : TypeId) : GFun
  | [.d (.sl xs)], [] => some (Rect 1 xs ∧ xs.length ≤ 1000000000, .sl 0 0 xs.length, [some (.vec ty 1 xs)])
  | _, _ => none
def reachG : GFun
  | [.agg [.d (.sl xs)], .d (.sl rs)], [] => some (xs = rows eO (dO xs) ∧ ValS (dO xs) ∧ rs = rows eI (dI rs) ∧ (dI rs).length ≤ 1000, .mp 0, [some (.ob (.mapI (reachM (dO xs) (dI rs))))])
  | _, _ => none
def sortedG : GFun
  | [.mp 0], [some (.ob (.mapI m))] => some (SetM m ∧ m.length ≤ 100000, .sl 1 0 (sortI (keysM m)).length, [none, some (.vec 3 1 (rows eI (sortI (keysM m))))])
  | _, _ => none
def markF (S : List SO) (R : List Int) : Int × Int := if (stF S).1 ≠ 0 then stF S else if 50 < R.length then (2, -1) else (0, 0)
def markR (S : List SO) (R : List Int) : List Int := if (markF S R).1 ≠ 0 then [] else sortI (keysM (reachM S R))
def markG : List AV → Option (Prop × AV)
  | [.agg [.d (.sl xs)], .d (.sl rs)] => some (xs = rows eO (dO xs) ∧ (dO xs).length ≤ 9223372036854775807 ∧ smallS (dO xs) ∧ rs = rows eI (dI rs) ∧ (dI rs).length ≤ 9223372036854775807,
      .tup [.d (.sl (rows eI (markR (dO xs) (dI rs)))), .agg [.d (.int .i64 (markF (dO xs) (dI rs)).1), .d (.int .i64 (markF (dO xs) (dI rs)).2)]])
  | _ => none
theorem last_at {l : List Int} {d : Int} (h : l.getLast? = some d) : l[l.length - 1]? = some d := by rw [← List.getLast?_eq_getElem?]; exact h
theorem last_ex {l : List Int} (h : 0 < l.length) : ∃ d, l.getLast? = some d := by
  cases hd : l.getLast? with
  | none => rw [List.getLast?_eq_none_iff.1 hd] at h; simp at h
  | some d => exact ⟨d, rfl⟩
theorem take_last (l : List Int) : l.take (l.length - 1) = l.dropLast := List.dropLast_eq_take.symm
theorem last_len (l : List Int) : l.dropLast.length = l.length - 1 := List.length_dropLast
theorem takeI_len (S : List Int) : S.take S.length = S := List.take_length
theorem stp_cases {S : List SO} {q : List Int × List (Int × Bool)} {d : Int} (hv : ValS S) (hd : q.1.getLast? = some d) :
    (inS S d = false ∧ stpR S q = (q.1.dropLast, q.2)) ∨ (inS S d = true ∧ inM q.2 d = true ∧ stpR S q = (q.1.dropLast, q.2)) ∨
    (inS S d = true ∧ inM q.2 d = false ∧ ∃ y, S[lbS S d]? = some y ∧ OkO y.ob ∧ stpR S q = (q.1.dropLast ++ y.ob.ln, setI q.2 d true)) := by
  cases hi : inS S d with
  | false => exact .inl ⟨rfl, by unfold stpR; rw [hd]; dsimp only; rw [if_neg (fun h => by rw [hi] at h; cases h.1)]⟩
  | true =>
    cases hm : inM q.2 d with
    | true => exact .inr (.inl ⟨rfl, rfl, by unfold stpR; rw [hd]; dsimp only; rw [if_neg (fun h => by rw [hm] at h; cases h.2)]⟩)
    | false =>
      obtain ⟨y, hy, _, hg, hl⟩ := lnS_at hv hi
      exact .inr (.inr ⟨rfl, rfl, y, hg, hv.ok y hy, by unfold stpR; rw [hd]; dsimp only; rw [if_pos ⟨hi, hm⟩, hl]⟩)

theorem cloneJ_meets : Meets Tryd.prog 23 (Spec.fresh (cloneF 3)) := by
 refine meets_fresh (E_putO.at_ 8) Tryd.func23 rfl rfl rfl ?_
 intro args bl p r bf hg hp
 unfold cloneF at hg
 split at hg
 ·rename_i xs
  simp only [Option.some.injEq, Prod.mk.injEq] at hg
  obtain ⟨rfl, rfl, rfl⟩ := hg
  obtain ⟨hr, hb⟩ := hp
  have hT : (E_putO).X = T := rfl
  have hx0 := @Tryd.results23
  have hx := hx0
  refine ⟨Nat.le_of_ble_eq_true rfl, ?_⟩
  intro F W0 M0 hnp hmk
  have hnp : Far.np = 0 := hnp
  refine vc_seq_k fun N1 h1 => ?_
  refine u_reg ?_
  try refine lg_mk ?_
  refine u_mv ?_
  refine lg_nil ?_
  refine h1 _ ?_; clear h1; try clear N1
  refine vc_seq_k fun N2 h2 => ?_
  refine vc_seq_k fun N3 h3 => ?_
  refine u_reg ?_
  try refine lg_mk ?_
  refine u_mv ?_
  refine lg_sem (by rfl) (sem_eqnil (by first | (simp only [wB, eq_self, Nat.reduceEqDiff, reduceIte]; done) | (simp only [wB, eq_self, Nat.reduceEqDiff, reduceIte]; rfl)) (by first | trivial | simp only [wB, eq_self, Nat.reduceEqDiff, reduceIte]) (by first | (simp only [wB, eq_self, Nat.reduceEqDiff, reduceIte, env_rules, tys, hT, tiAgg]; done) | (simp only [wB, eq_self, Nat.reduceEqDiff, reduceIte, env_rules, tys, hT, tiAgg]; rfl)) (by first | (simp only [slA, wB, eq_self, Nat.reduceEqDiff, reduceIte]; done) | (simp only [slA, wB, eq_self, Nat.reduceEqDiff, reduceIte]; rfl)) fun z_r1_1 hz_r1_1 hz_r1_1' => ?_)
  refine lg_nil ?_
  refine h3 _ ?_; clear h3; try clear N3
  refine u_cond (fun hb4 => ?_) (fun hb4 => ?_)
  ·have hz := hz_r1_1 hb4
   unfold emptyA at hz
   subst hz
   refine vc_seq_k fun N5 h5 => ?_
   refine u_reg ?_
   try refine lg_mk ?_
   refine u_mv ?_
   refine lg_nil ?_
   refine h5 _ ?_; clear h5; try clear N5
   refine vc_ret ?_
   try simp only [k_rules]
   refine fin_ ?_
   refine ⟨[none], by rfl, ?_, ?_⟩
   ·refine fin_ ?_
    exact cl_
   ·refine fin_ ?_
    exact cl_
  ·refine vc_skip ?_
   try simp only [k_rules]
   refine h2 _ ?_; clear h2; try clear N2
   refine vc_seq_k fun N6 h6 => ?_
   refine u_reg ?_
   try refine lg_mk ?_
   refine u_bs ?_
   refine u_mv ?_
   refine u_ap (hq := by (first | (exact ⟨hr, by omega⟩) | exact sd_)) ?_
   refine u_mv ?_
   refine lg_nil ?_
   refine h6 _ ?_; clear h6; try clear N6
   refine vc_ret ?_
   try simp only [k_rules]
   refine fin_ ?_
   refine ⟨[some 1], by rfl, ?_, ?_⟩
   ·refine fin_ ?_
    exact cl_
   ·refine fin_ ?_
    exact cl_
 ·cases hg

def E_cloneJ : Env Tryd.prog := E_putO.add 23 (Spec.fresh (cloneF 3)) cloneJ_meets (by kernel_rfl)

theorem reach_meets : Meets Tryd.prog 14 (Spec.fresh reachG) := by
 refine meets_fresh (E_cloneJ.at_ 52) Tryd.func14 rfl rfl rfl ?_
 intro args bl p r bf hg hp
 unfold reachG at hg
 split at hg
 ·rename_i xs rs
  simp only [Option.some.injEq, Prod.mk.injEq] at hg
  obtain ⟨rfl, rfl, rfl⟩ := hg
  obtain ⟨he, hv, he2, hrl⟩ := hp
  generalize dO xs = S at *
  generalize dI rs = R at *
  subst he he2
  have hlen := hv.len
  have hT : (E_cloneJ).X = T := rfl
  have hx0 := And.intro @rect_eO (And.intro @dI_rows (And.intro @dU_rows (And.intro @dO_rows (And.intro @takeI_len (And.intro @dec_t (And.intro @dec_f @Tryd.results14))))))
  have hx := hx0
  refine ⟨Nat.le_of_ble_eq_true rfl, ?_⟩
  intro F W0 M0 hnp hmk
  have hnp : Far.np = 0 := hnp
  refine vc_seq_k fun N1 h1 => ?_
  refine u_reg ?_
  try refine lg_mk ?_
  refine u_bx ?_
  refine u_mv ?_
  refine lg_nil ?_
  refine h1 _ ?_; clear h1; try clear N1
  refine vc_seq_k fun N2 h2 => ?_
  refine u_reg ?_
  try refine lg_mk ?_
  refine lg_sem (by rfl) (sem_makeMap rfl ?_)
  try simp only [Bool.false_eq_true, wB, eq_self, Nat.reduceEqDiff, reduceIte, wL, Int.toNat_natCast, Int.reduceToNat, Nat.reduceAdd, Nat.reduceMul, Nat.reduceSub, Nat.reduceLeDiff, hx]
  refine u_mv ?_
  refine lg_nil ?_
  refine h2 _ ?_; clear h2; try clear N2
  refine vc_seq_k fun N3 h3 => ?_
  refine u_reg ?_
  try refine lg_mk ?_
  refine u_mv ?_
  have hc := call_rule (E := (E_cloneJ.at_ 52)) (f := 23) (sp := Spec.fresh (cloneF 3)) rfl
  have hs := @cloneF.eq_1
  refine u_hg (hq := by (first | (exact ⟨rect_eI R, by rw [rows_len]; omega⟩) | exact sd_)) ?_
  refine u_mv ?_
  refine lg_nil ?_
  refine h3 _ ?_; clear h3; try clear N3
  refine vc_seq_k fun N4 h4 => ?_
  refine vc_block ?_
  refine vc_loop_mk (σ := List Int × List (Int × Bool)) (fun s => (fun q => AlongR S R q) s)
   (fun s => (fun q => [(2, .ptr 0 0 0), (5, .mp 1), (6, .sl 2 0 q.1.length)]) s)
   (fun s => (fun q => [some (.one 24 [.d (.sl (rows eO S))]), some (.ob (.mapI q.2)), some (.vec 3 1 (rows eI q.1))]) s) (fun s => (fun q => muR S q) s) hnp (R, []) ?_ [some 0, some 1, some 2] ?_ ?_
  ·dsimp only
   exact AlongR.zero S R
  ·dsimp only
   refine ⟨by rfl, ?_, ?_⟩
   ·refine fin_ ?_
    exact cl_
   ·refine fin_ ?_
    exact cl_
  ·rintro q hinv N5 h5
   dsimp only at hinv ⊢
   have hal := hinv
   have hbn := hal.1.bnd
   have hfw := keys_few (R := R) hal.1.set (fun x hx => (hal.1.snd x hx).mem)
   refine vc_seq_k fun N6 h6 => ?_
   refine vc_seq_k fun N7 h7 => ?_
   refine u_reg ?_
   try refine lg_mk ?_
   refine u_mv ?_
   refine u_ln ?_
   refine u_bn ?_
   refine lg_nil ?_
   refine h7 _ ?_; clear h7; try clear N7
   refine u_cond (fun hb8 => ?_) (fun hb8 => ?_)
   ·obtain ⟨d, hd⟩ := last_ex (l := q.1) (by omega)
    have hxe := last_at hd
    have hpm : ((q.1.length : Int) - 1).toNat = q.1.length - 1 := by omega
    have hdl := take_last q.1
    have hdn := last_len q.1
    have htd : List.take (q.1.length - 1 - 0) q.1.dropLast = q.1.dropLast := List.take_of_length_le (by omega)
    have hcs := stp_cases hv hd
    obtain ⟨hgo, hmu⟩ := hal.go hv hd
    refine vc_skip ?_
    try simp only [k_rules]
    refine h6 _ ?_; clear h6; try clear N6
    refine vc_block ?_
    refine vc_seq_k fun N9 h9 => ?_
    have hx := And.intro @hpm (And.intro @hxe (And.intro @eI.eq_1 hx0))
    refine u_reg ?_
    try refine lg_mk ?_
    refine u_mv ?_
    refine u_mv ?_
    refine u_ln ?_
    refine u_bn ?_
    refine u_pt ?_
    refine u_ld ?_
    refine u_mv ?_
    refine lg_nil ?_
    have hx := hx0
    refine h9 _ ?_; clear h9; try clear N9
    refine vc_seq_k fun N10 h10 => ?_
    have hx := And.intro @hpm hx0
    refine u_reg ?_
    try refine lg_mk ?_
    refine u_mv ?_
    refine u_mv ?_
    refine u_ln ?_
    refine u_bn ?_
    refine u_sl ?_
    refine u_mv ?_
    refine lg_nil ?_
    have hx := hx0
    refine h10 _ ?_; clear h10; try clear N10
    refine vc_seq_k fun N11 h11 => ?_
    refine vc_shortL 2 (q.1.length - 1) rfl ?_
    simp only [updL, List.set, rows_take, hdl]
    refine u_reg ?_
    try refine lg_mk ?_
    refine u_ld ?_
    refine u_mv ?_
    have hc := call_rule (E := (E_cloneJ.at_ 52)) (f := 24) (sp := Spec.pure findG) rfl
    have hs := @findG.eq_1
    refine u_cp (hq := by (first | (exact ⟨hv.sort, by omega⟩) | exact sd_)) ?_
    refine u_mv ?_
    refine u_ex ?_
    refine u_ex ?_
    refine u_mv ?_
    refine u_mv ?_
    refine lg_nil ?_
    refine h11 _ ?_; clear h11; try clear N11
    refine vc_seq_k fun N12 h12 => ?_
    refine vc_seq_k fun N13 h13 => ?_
    rcases hcs with ⟨hi, hst⟩ | ⟨hi, hm, hst⟩ | ⟨hi, hm, y, hye, hyo, hst⟩
    ·have hm' := hi
     have hx := And.intro @hi (And.intro @hm' hx0)
     refine u_reg ?_
     try refine lg_mk ?_
     refine u_mv ?_
     refine u_un ?_
     refine u_mv ?_
     refine g_mv ?_
     refine g_mv ?_
     first | (refine lg_g0 ?_ ?_; focus (exact gt_)) | refine lg_sem1 (by exact gt_) (by rfl) (sem_mapGet (t := 54) (kt := 3) (et := 4) (by kernel_rfl) (by kernel_rfl) zero_bool (by first | (simp only [wB, eq_self, Nat.reduceEqDiff, reduceIte]; done) | (simp only [wB, eq_self, Nat.reduceEqDiff, reduceIte]; rfl)) (by first | trivial | simp only [wB, eq_self, Nat.reduceEqDiff, reduceIte]) (by first | (simp only [wB, eq_self, Nat.reduceEqDiff, reduceIte]; done) | (simp only [wB, eq_self, Nat.reduceEqDiff, reduceIte]; rfl)) (by first | trivial | simp only [wB, eq_self, Nat.reduceEqDiff, reduceIte]) (by simp only [wB, eq_self, Nat.reduceEqDiff, reduceIte]; rfl) ?_)
     try simp only [Bool.false_eq_true, wB, eq_self, Nat.reduceEqDiff, reduceIte, wL, Int.toNat_natCast, Int.reduceToNat, Nat.reduceAdd, Nat.reduceMul, Nat.reduceSub, Nat.reduceLeDiff, hx]
     refine u_pk ?_
     refine lg_nil ?_
     have hx := hx0
     refine h13 _ ?_; clear h13; try clear N13
     refine u_cond (fun hb14 => ?_) (fun hb14 => ?_)
     ·refine vc_exit ?_
      simp only [k_rules, Nat.reduceEqDiff, reduceIte, eq_self]
      refine h5 _ ⟨(q.1.dropLast, q.2), ?_, ?_, [some 0, some 1, some 2], ?_⟩
      ·dsimp only
       rw [← hst]; exact hgo
      ·dsimp only
       rw [hst] at hmu; omega
      ·dsimp only
       refine ⟨by rfl, ?_, ?_⟩
       ·refine fin_ ?_
        (repeat' apply And.intro) <;> (first | (first | rfl | trivial | omega | (rw [hdn]; done)) | exact cl_)
       ·refine fin_ ?_
        (repeat' apply And.intro) <;> (first | (first | rfl | trivial | omega | (rw [hdn]; done)) | exact cl_)
     ·cases hb14
    ·have hm' : (getI q.2 d).getD false = true := hm
     have hx := And.intro @hi (And.intro @hm' hx0)
     refine u_reg ?_
     try refine lg_mk ?_
     refine u_mv ?_
     refine u_un ?_
     refine u_mv ?_
     refine g_mv ?_
     refine g_mv ?_
     first | (refine lg_g0 ?_ ?_; focus (exact gt_)) | refine lg_sem1 (by exact gt_) (by rfl) (sem_mapGet (t := 54) (kt := 3) (et := 4) (by kernel_rfl) (by kernel_rfl) zero_bool (by first | (simp only [wB, eq_self, Nat.reduceEqDiff, reduceIte]; done) | (simp only [wB, eq_self, Nat.reduceEqDiff, reduceIte]; rfl)) (by first | trivial | simp only [wB, eq_self, Nat.reduceEqDiff, reduceIte]) (by first | (simp only [wB, eq_self, Nat.reduceEqDiff, reduceIte]; done) | (simp only [wB, eq_self, Nat.reduceEqDiff, reduceIte]; rfl)) (by first | trivial | simp only [wB, eq_self, Nat.reduceEqDiff, reduceIte]) (by simp only [wB, eq_self, Nat.reduceEqDiff, reduceIte]; rfl) ?_)
     try simp only [Bool.false_eq_true, wB, eq_self, Nat.reduceEqDiff, reduceIte, wL, Int.toNat_natCast, Int.reduceToNat, Nat.reduceAdd, Nat.reduceMul, Nat.reduceSub, Nat.reduceLeDiff, hx]
     refine u_pk ?_
     refine lg_nil ?_
     have hx := hx0
     refine h13 _ ?_; clear h13; try clear N13
     refine u_cond (fun hb15 => ?_) (fun hb15 => ?_)
     ·refine vc_exit ?_
      simp only [k_rules, Nat.reduceEqDiff, reduceIte, eq_self]
      refine h5 _ ⟨(q.1.dropLast, q.2), ?_, ?_, [some 0, some 1, some 2], ?_⟩
      ·dsimp only
       rw [← hst]; exact hgo
      ·dsimp only
       rw [hst] at hmu; omega
      ·dsimp only
       refine ⟨by rfl, ?_, ?_⟩
       ·refine fin_ ?_
        (repeat' apply And.intro) <;> (first | (first | rfl | trivial | omega | (rw [hdn]; done)) | exact cl_)
       ·refine fin_ ?_
        (repeat' apply And.intro) <;> (first | (first | rfl | trivial | omega | (rw [hdn]; done)) | exact cl_)
     ·first | (cases hb15; done) | exact absurd (hb15).2 (by simp) | (simp at hb15; done)
    ·have hm' : (getI q.2 d).getD false = false := hm
     have hklt := (List.getElem?_eq_some_iff.1 hye).1
     have hyl := hyo.ln
     have hx := And.intro @hi (And.intro @hm' hx0)
     refine u_reg ?_
     try refine lg_mk ?_
     refine u_mv ?_
     refine u_un ?_
     refine u_mv ?_
     refine g_mv ?_
     refine g_mv ?_
     first | (refine lg_g0 ?_ ?_; focus (exact gt_)) | refine lg_sem1 (by exact gt_) (by rfl) (sem_mapGet (t := 54) (kt := 3) (et := 4) (by kernel_rfl) (by kernel_rfl) zero_bool (by first | (simp only [wB, eq_self, Nat.reduceEqDiff, reduceIte]; done) | (simp only [wB, eq_self, Nat.reduceEqDiff, reduceIte]; rfl)) (by first | trivial | simp only [wB, eq_self, Nat.reduceEqDiff, reduceIte]) (by first | (simp only [wB, eq_self, Nat.reduceEqDiff, reduceIte]; done) | (simp only [wB, eq_self, Nat.reduceEqDiff, reduceIte]; rfl)) (by first | trivial | simp only [wB, eq_self, Nat.reduceEqDiff, reduceIte]) (by simp only [wB, eq_self, Nat.reduceEqDiff, reduceIte]; rfl) ?_)
     try simp only [Bool.false_eq_true, wB, eq_self, Nat.reduceEqDiff, reduceIte, wL, Int.toNat_natCast, Int.reduceToNat, Nat.reduceAdd, Nat.reduceMul, Nat.reduceSub, Nat.reduceLeDiff, hx]
     refine u_pk ?_
     refine lg_nil ?_
     have hx := hx0
     refine h13 _ ?_; clear h13; try clear N13
     refine u_cond (fun hb16 => ?_) (fun hb16 => ?_)
     ·cases hb16
     ·refine vc_skip ?_
      try simp only [k_rules]
      refine h12 _ ?_; clear h12; try clear N12
      refine vc_seq_k fun N17 h17 => ?_
      refine u_reg ?_
      try refine lg_mk ?_
      refine u_mv ?_
      refine u_mv ?_
      refine lg_sem (by rfl) (sem_mapSet (t := 54) (kt := 3) (et := 4) (by kernel_rfl) (by kernel_rfl) (by first | (simp only [wB, eq_self, Nat.reduceEqDiff, reduceIte]; done) | (simp only [wB, eq_self, Nat.reduceEqDiff, reduceIte]; rfl)) (by first | trivial | simp only [wB, eq_self, Nat.reduceEqDiff, reduceIte]) (by first | (simp only [wB, eq_self, Nat.reduceEqDiff, reduceIte]; done) | (simp only [wB, eq_self, Nat.reduceEqDiff, reduceIte]; rfl)) (by first | trivial | simp only [wB, eq_self, Nat.reduceEqDiff, reduceIte]) (by first | (simp only [wB, eq_self, Nat.reduceEqDiff, reduceIte]; done) | (simp only [wB, eq_self, Nat.reduceEqDiff, reduceIte]; rfl)) (by first | trivial | simp only [wB, eq_self, Nat.reduceEqDiff, reduceIte]) (by simp only [wB, eq_self, Nat.reduceEqDiff, reduceIte]; rfl) ?_)
      try simp only [Bool.false_eq_true, wB, eq_self, Nat.reduceEqDiff, reduceIte, wL, Int.toNat_natCast, Int.reduceToNat, Nat.reduceAdd, Nat.reduceMul, Nat.reduceSub, Nat.reduceLeDiff, hx]
      refine lg_nil ?_
      refine h17 _ ?_; clear h17; try clear N17
      have hx := And.intro @hye (And.intro @eO.eq_1 hx0)
      refine u_reg ?_
      try refine lg_mk ?_
      refine u_mv ?_
      refine u_pt ?_
      refine u_ld ?_
      refine u_mv ?_
      refine u_pt ?_
      refine u_pt ?_
      refine u_pt ?_
      refine u_ld ?_
      refine u_ap ?_
      refine u_mv ?_
      refine lg_nil ?_
      have hx := hx0
      refine h5 _ ⟨(q.1.dropLast ++ y.ob.ln, setI q.2 d true), ?_, ?_, [some 0, some 1, some 3], ?_⟩
      ·dsimp only
       rw [← hst]; exact hgo
      ·dsimp only
       rw [hst] at hmu; omega
      ·dsimp only
       refine ⟨by rfl, ?_, ?_⟩
       ·refine fin_ ?_
        (repeat' apply And.intro) <;> (first | (first | rfl | trivial | omega | (rw [List.length_append, hdn]; done) | (rw [htd]; done)) | exact cl_)
       ·refine fin_ ?_
        (repeat' apply And.intro) <;> (first | (first | rfl | trivial | omega | (rw [List.length_append, hdn]; done) | (rw [htd]; done)) | exact cl_)
   ·refine vc_exit ?_
    simp only [k_rules, Nat.reduceEqDiff, reduceIte, eq_self]
    refine h4 _ ?_; clear h4; try clear N4
    refine vc_seq_k fun N18 h18 => ?_
    refine u_reg ?_
    try refine lg_mk ?_
    refine u_mv ?_
    refine u_mv ?_
    refine lg_nil ?_
    refine h18 _ ?_; clear h18; try clear N18
    refine vc_ret ?_
    try simp only [k_rules]
    have hfe := hal.fin (List.eq_nil_of_length_eq_zero (by omega))
    rw [← hfe]
    refine fin_ ?_
    refine ⟨[some 1], by rfl, ?_, ?_⟩
    ·refine fin_ ?_
     exact cl_
    ·refine fin_ ?_
     exact cl_
 ·cases hg

def E_reach : Env Tryd.prog := E_cloneJ.add 14 (Spec.fresh reachG) reach_meets (by kernel_rfl)
end Go.Proofs.YtcjipciiljjfhaaDoor
