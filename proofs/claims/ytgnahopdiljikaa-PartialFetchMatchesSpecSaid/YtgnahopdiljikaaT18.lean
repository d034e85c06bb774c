/- Walks, printed by wip/gen/walk.py. -/
import Derived.Test.YtgnahopdiljikaaT17
import Derived.Test.YtgnahopdiljikaaV5
set_option linter.all false
set_option maxRecDepth 100000
set_option maxHeartbeats 4000000
namespace Go.Proofs.Ytgnahopdiljikaa
open Go Go.Vc Go.RowKit
/-- A promise's fault. -/
def prm (S : List SO) (P : List Int) (i : Nat) : Int :=
  if P.getD i 0 < 0 ∨ 2305843009213693951 ≤ P.getD i 0 then 3 else if 0 < i ∧ P.getD i 0 ≤ P.getD (i - 1) 0 then 5 else if inS S (P.getD i 0) = true then 7 else 0
def pIx (i : Nat) : Int := -3 - (i : Int)
def proF (S : List SO) (P : List Int) : Int × Int := if (stF S).1 ≠ 0 then stF S else if 40 < P.length then (2, -2) else firstF (prm S P) pIx P.length
structure ValP (S : List SO) (P : List Int) : Prop where
  st : ValS S
  len : P.length ≤ 40
  rng : ∀ x ∈ P, 0 ≤ x ∧ x < 2305843009213693951
  sort : P.Pairwise (· < ·)
  apart : ∀ x ∈ P, x ∉ dgs S
theorem proF_ok {S : List SO} {P : List Int} (h : (proF S P).1 = 0) : ValP S P := by
  unfold proF at h
  split at h
  · rename_i h0; exact absurd h h0
  · rename_i h0
    have h0 : (stF S).1 = 0 := by simpa using h0
    split at h
    · cases h
    · rename_i h1
      have hz := firstF_zero h
      have key : ∀ i x, P[i]? = some x → (0 ≤ x ∧ x < 2305843009213693951) ∧ (0 < i → P.getD (i - 1) 0 < x) ∧ x ∉ dgs S := fun i x hi => by
        have := hz i (List.getElem?_eq_some_iff.1 hi).1
        unfold prm at this
        rw [getD_at hi] at this
        split at this
        · cases this
        · rename_i a1
          split at this
          · cases this
          · rename_i a2
            split at this
            · cases this
            · rename_i a3
              exact ⟨by omega, fun h0 => by omega, fun hm => a3 (decide_eq_true hm)⟩
      refine ⟨stF_ok h0, by omega, fun x hx => ?_, sortD fun j hj h0 => ?_, fun x hx => ?_⟩
      · obtain ⟨i, hi⟩ := List.getElem?_of_mem hx; exact (key i x hi).1
      · obtain ⟨x, hx⟩ : ∃ x, P[j]? = some x := ⟨_, List.getElem?_eq_getElem hj⟩
        rw [getD_at hx]; exact (key j x hx).2.1 h0
      · obtain ⟨i, hi⟩ := List.getElem?_of_mem hx; exact (key i x hi).2.2
theorem proF_of {S : List SO} {P : List Int} (h : ValP S P) : proF S P = (0, 0) := by
  unfold proF
  rw [stF_of h.st, if_neg (by simp), if_neg (by have := h.len; omega)]
  refine firstF_ok fun j hj => ?_
  obtain ⟨x, hx⟩ : ∃ x, P[j]? = some x := ⟨_, List.getElem?_eq_getElem hj⟩
  have hm := List.mem_of_getElem? hx
  have h1 := h.rng x hm
  unfold prm; rw [getD_at hx, if_neg (by omega), if_neg, if_neg]
  · intro hc; exact h.apart x hm (of_decide_eq_true hc)
  · rintro ⟨h0, h2⟩
    obtain ⟨y, hy⟩ : ∃ y, P[j - 1]? = some y := ⟨_, List.getElem?_eq_getElem (by omega)⟩
    rw [getD_at hy] at h2
    have := sort_at h.sort hy hx (by omega); omega
theorem proF_or (S : List SO) (P : List Int) : (proF S P = (0, 0) ∧ ValP S P) ∨ (proF S P).1 ≠ 0 := by
  by_cases h : (proF S P).1 = 0
  · exact .inl ⟨proF_of (proF_ok h), proF_ok h⟩
  · exact .inr h
/-- Whether a digest is reached. -/
def candB (S : List SO) (R : List Int) (d : Int) : Bool := decide (d ∈ R) || S.any fun y => decide (y.dg ∈ keysM (reachM S R)) && decide (d ∈ y.ob.ln)
theorem candB_iff {S : List SO} (hv : ValS S) (R : List Int) (d : Int) : candB S R d = true ↔ Cand S R d := by
  unfold candB Cand
  rw [Bool.or_eq_true, decide_eq_true_eq, List.any_eq_true]
  constructor
  · rintro (h | ⟨y, hy, h⟩)
    · exact .inl h
    · rw [Bool.and_eq_true, decide_eq_true_eq, decide_eq_true_eq] at h
      exact .inr ⟨y, hy, ((reach_set R hv).2 _).1 h.1, h.2⟩
  · rintro (h | ⟨y, hy, h1, h2⟩)
    · exact .inl h
    · exact .inr ⟨y, hy, by rw [Bool.and_eq_true, decide_eq_true_eq, decide_eq_true_eq]; exact ⟨((reach_set R hv).2 _).2 h1, h2⟩⟩
def okB (S : List SO) (P : List Int) (d : Int) : Bool := decide (d ∈ P) || inS S d
def nedOk (S : List SO) (P R : List Int) : Bool := R.all (okB S P) && S.all fun y => !decide (y.dg ∈ keysM (reachM S R)) || y.ob.ln.all (okB S P)
theorem okB_iff (S : List SO) (P : List Int) (d : Int) : okB S P d = true ↔ d ∈ P ∨ d ∈ dgs S := by
  unfold okB inS; rw [Bool.or_eq_true, decide_eq_true_eq, decide_eq_true_eq]
theorem nedOk_iff {S : List SO} (hv : ValS S) (P R : List Int) : nedOk S P R = true ↔ ∀ d, Cand S R d → d ∈ P ∨ d ∈ dgs S := by
  unfold nedOk
  rw [Bool.and_eq_true, List.all_eq_true, List.all_eq_true]
  constructor
  · rintro ⟨h1, h2⟩ d (hd | ⟨y, hy, hr, hd⟩)
    · exact (okB_iff S P d).1 (h1 d hd)
    · have h3 := h2 y hy
      rw [decide_eq_true (((reach_set R hv).2 _).2 hr), Bool.not_true, Bool.false_or, List.all_eq_true] at h3
      exact (okB_iff S P d).1 (h3 d hd)
  · intro h
    refine ⟨fun d hd => (okB_iff S P d).2 (h d (.inl hd)), fun y hy => ?_⟩
    by_cases hk : y.dg ∈ keysM (reachM S R)
    · rw [decide_eq_true hk, Bool.not_true, Bool.false_or, List.all_eq_true]
      exact fun d hd => (okB_iff S P d).2 (h d (.inr ⟨y, hy, ((reach_set R hv).2 _).1 hk, hd⟩))
    · rw [decide_eq_false hk]; rfl
def nedL (S : List SO) (P R : List Int) : List Int := P.filter (candB S R)
def needF (S : List SO) (P R : List Int) : Int × Int := if (proF S P).1 ≠ 0 then proF S P else if 40 < R.length then (2, -1) else if nedOk S P R = true then (0, 0) else (6, -1)
def needR (S : List SO) (P R : List Int) : List Int := if (needF S P R).1 ≠ 0 then [] else nedL S P R
theorem nedL_mem {S : List SO} (hv : ValS S) (P R : List Int) (x : Int) : x ∈ nedL S P R ↔ x ∈ P ∧ Cand S R x := by
  unfold nedL; rw [List.mem_filter, candB_iff hv]
theorem nedL_sort {S : List SO} {P : List Int} (h : P.Pairwise (· < ·)) (R : List Int) : (nedL S P R).Pairwise (· < ·) := h.filter _
/-- The search for what is needed. -/
structure InvN (S : List SO) (P R t : List Int) (m : List (Int × Bool)) (o : List Int) : Prop where
  set : SetM m
  snd : ∀ x ∈ keysM m, Cand S R x ∧ (x ∈ P ∨ x ∈ dgs S)
  cnd : ∀ x ∈ t, Cand S R x
  ond : o.Nodup
  omem : ∀ x, x ∈ o ↔ x ∈ keysM m ∧ x ∈ P
  rts : ∀ x ∈ R, x ∈ t ∨ x ∈ keysM m
  lks : ∀ y ∈ S, y.dg ∈ keysM m → ∀ x ∈ y.ob.ln, x ∈ t ∨ x ∈ keysM m
  bnd : t.length ≤ R.length + 30 * m.length
  few : m.length ≤ S.length + P.length
  olen : o.length ≤ m.length
def muN (S : List SO) (P t : List Int) (m : List (Int × Bool)) : Nat := (S.length + P.length - m.length) * 31 + t.length
theorem InvN.zero (S : List SO) (P R : List Int) : InvN S P R R [] [] :=
  ⟨SetM.nil, fun x h => (by cases h), fun x h => .inl h, List.nodup_nil, fun x => by simp [keysM], fun x h => .inl h, fun y _ h => (by cases h), by simp, by simp, by simp⟩
theorem keys_fewN {S : List SO} {P : List Int} {m : List (Int × Bool)} (h : SetM m) (hs : ∀ x ∈ keysM m, x ∈ P ∨ x ∈ dgs S) : m.length ≤ S.length + P.length := by
  have := nodup_le (m := P ++ dgs S) h.nd (fun x hx => List.mem_append.2 (hs x hx))
  unfold keysM at this
  rw [List.length_map, List.length_append, dgs_len] at this; omega
theorem mem_last {t : List Int} {d : Int} (h : t.getLast? = some d) : (∀ x, x ∈ t ↔ x ∈ t.dropLast ∨ x = d) ∧ t.length = t.dropLast.length + 1 := by
  have hsp := last_split h
  exact ⟨fun x => by rw [hsp, List.mem_append, List.mem_singleton]; simp, by rw [hsp]; simp⟩
section
variable {S : List SO} {P R t o : List Int} {m : List (Int × Bool)} {d : Int}
theorem InvN.old (h : InvN S P R t m o) (hd : t.getLast? = some d) (hk : d ∈ keysM m) : InvN S P R t.dropLast m o ∧ muN S P t.dropLast m < muN S P t m := by
  obtain ⟨hm, hl⟩ := mem_last hd
  have mv : ∀ x, x ∈ t ∨ x ∈ keysM m → x ∈ t.dropLast ∨ x ∈ keysM m := fun x hx => by
    rcases hx with hx | hx
    · rcases (hm x).1 hx with h1 | h1
      · exact .inl h1
      · subst h1; exact .inr hk
    · exact .inr hx
  exact ⟨⟨h.set, h.snd, fun x hx => h.cnd x ((hm x).2 (.inl hx)), h.ond, h.omem, fun x hx => mv x (h.rts x hx), fun y hy hyk x hx => mv x (h.lks y hy hyk x hx), by have := h.bnd; omega, h.few, h.olen⟩, by unfold muN; omega⟩
theorem InvN.new1 (h : InvN S P R t m o) (hd : t.getLast? = some d) (hk : d ∉ keysM m) (hc : d ∈ P ∨ d ∈ dgs S) : SetM (setI m d true) ∧ (∀ x, x ∈ keysM (setI m d true) ↔ x = d ∨ x ∈ keysM m) ∧ (setI m d true).length = m.length + 1 ∧ m.length + 1 ≤ S.length + P.length ∧
    (∀ x ∈ keysM (setI m d true), Cand S R x ∧ (x ∈ P ∨ x ∈ dgs S)) := by
  obtain ⟨hm, hl⟩ := mem_last hd
  obtain ⟨s1, s2⟩ := h.set.add d
  have hl1 : (setI m d true).length = m.length + 1 := by rw [setI_new hk]; simp
  have s3 : ∀ x ∈ keysM (setI m d true), Cand S R x ∧ (x ∈ P ∨ x ∈ dgs S) := fun x hx => by
    rcases (s2 x).1 hx with rfl | hx
    · exact ⟨h.cnd x ((hm x).2 (.inr rfl)), hc⟩
    · exact h.snd x hx
  exact ⟨s1, s2, hl1, by rw [← hl1]; exact keys_fewN s1 (fun x hx => (s3 x hx).2), s3⟩
theorem InvN.prom (hp : ValP S P) (h : InvN S P R t m o) (hd : t.getLast? = some d) (hk : d ∉ keysM m) (hdP : d ∈ P) : InvN S P R t.dropLast (setI m d true) (o ++ [d]) ∧ muN S P t.dropLast (setI m d true) < muN S P t m := by
  obtain ⟨hm, hl⟩ := mem_last hd
  obtain ⟨s1, s2, hl1, hfew, s3⟩ := h.new1 hd hk (.inl hdP)
  have mv : ∀ x, x ∈ t ∨ x ∈ keysM m → x ∈ t.dropLast ∨ x ∈ keysM (setI m d true) := fun x hx => by
    rcases hx with hx | hx
    · rcases (hm x).1 hx with h1 | h1
      · exact .inl h1
      · exact .inr ((s2 x).2 (.inl h1))
    · exact .inr ((s2 x).2 (.inr hx))
  refine ⟨⟨s1, s3, fun x hx => h.cnd x ((hm x).2 (.inl hx)), ?_, fun x => ?_, fun x hx => mv x (h.rts x hx), fun y hy hyk x hx => ?_, by have := h.bnd; omega, by omega, by have := h.olen; rw [List.length_append, List.length_singleton]; omega⟩, by unfold muN; omega⟩
  · exact List.nodup_append.2 ⟨h.ond, by simp, fun a ha b hb e => by rw [List.mem_singleton] at hb; subst hb; subst e; exact hk ((h.omem a).1 ha).1⟩
  · rw [List.mem_append, List.mem_singleton, h.omem, s2]
    constructor
    · rintro (⟨a, b⟩ | rfl)
      · exact ⟨.inr a, b⟩
      · exact ⟨.inl rfl, hdP⟩
    · rintro ⟨rfl | a, b⟩
      · exact .inr rfl
      · exact .inl ⟨a, b⟩
  · rcases (s2 _).1 hyk with e | hyk
    · exact absurd (List.mem_map.2 ⟨y, hy, e⟩) (hp.apart d hdP)
    · exact mv x (h.lks y hy hyk x hx)
theorem InvN.stor (hp : ValP S P) (h : InvN S P R t m o) (hd : t.getLast? = some d) (hk : d ∉ keysM m) (hdP : d ∉ P) {y : SO} (hy : y ∈ S) (hyd : y.dg = d) : InvN S P R (t.dropLast ++ y.ob.ln) (setI m d true) o ∧ muN S P (t.dropLast ++ y.ob.ln) (setI m d true) < muN S P t m := by
  obtain ⟨hm, hl⟩ := mem_last hd
  have hds : d ∈ dgs S := List.mem_map.2 ⟨y, hy, hyd⟩
  obtain ⟨s1, s2, hl1, hfew, s3⟩ := h.new1 hd hk (.inr hds)
  have hcd := h.cnd d ((hm d).2 (.inr rfl))
  have h30 := (hp.st.ok y hy).ln
  have mv : ∀ x, x ∈ t ∨ x ∈ keysM m → x ∈ t.dropLast ++ y.ob.ln ∨ x ∈ keysM (setI m d true) := fun x hx => by
    rcases hx with hx | hx
    · rcases (hm x).1 hx with h1 | h1
      · exact .inl (List.mem_append.2 (.inl h1))
      · exact .inr ((s2 x).2 (.inl h1))
    · exact .inr ((s2 x).2 (.inr hx))
  refine ⟨⟨s1, s3, fun x hx => ?_, h.ond, fun x => ?_, fun x hx => mv x (h.rts x hx), fun z hz hzk x hx => ?_, by have := h.bnd; rw [List.length_append]; omega, by omega, by have := h.olen; omega⟩, by unfold muN; rw [List.length_append]; omega⟩
  · rcases List.mem_append.1 hx with hx | hx
    · exact h.cnd x ((hm x).2 (.inl hx))
    · exact .inr ⟨y, hy, by rw [hyd]; exact hcd.rch hds, hx⟩
  · rw [h.omem, s2]
    constructor
    · rintro ⟨a, b⟩; exact ⟨.inr a, b⟩
    · rintro ⟨rfl | a, b⟩
      · exact absurd b hdP
      · exact ⟨a, b⟩
  · rcases (s2 _).1 hzk with e | hzk
    · have : z = y := dg_uni hp.st.sort hz hy (by omega)
      subst this; exact .inl (List.mem_append.2 (.inr hx))
    · exact mv x (h.lks z hz hzk x hx)
theorem InvN.lost (hp : ValP S P) (h : InvN S P R t m o) (hd : t.getLast? = some d) (hdP : d ∉ P) (hds : d ∉ dgs S) : nedOk S P R = false := by
  rw [Bool.eq_false_iff]; intro hn
  rcases (nedOk_iff hp.st P R).1 hn d (h.cnd d (((mem_last hd).1 d).2 (.inr rfl))) with h1 | h1
  · exact hdP h1
  · exact hds h1
theorem InvN.fin (hp : ValP S P) (h : InvN S P R [] m o) : nedOk S P R = true ∧ sortI o = nedL S P R := by
  have hr : ∀ x, Rch S R x → x ∈ keysM m := fun x hx => by
    induction hx with
    | root h1 h2 =>
      rcases h.rts _ h1 with h3 | h3
      · cases h3
      · exact h3
    | step h1 _ h3 h4 ih =>
      rcases h.lks _ h1 ih _ h3 with h5 | h5
      · cases h5
      · exact h5
  have hc : ∀ x, Cand S R x → x ∈ keysM m := fun x hx => by
    rcases hx with h1 | ⟨y, h1, h2, h3⟩
    · rcases h.rts x h1 with h3 | h3
      · cases h3
      · exact h3
    · rcases h.lks y h1 (hr _ h2) x h3 with h5 | h5
      · cases h5
      · exact h5
  refine ⟨(nedOk_iff hp.st P R).2 fun d hd => (h.snd d (hc d hd)).2, sortI_is h.ond (nedL_sort hp.sort R) fun x => ?_⟩
  rw [h.omem, nedL_mem hp.st]
  exact ⟨fun ⟨a, b⟩ => ⟨b, (h.snd x a).1⟩, fun ⟨a, b⟩ => ⟨hc x b, a⟩⟩
end
/-- What is filtered. -/
def big (L : Int) (x : SO) : Bool := decide (x.ob.kd = 1) && decide (L < (x.ob.da.length : Int))
def filF (S : List SO) (L : Int) : Int × Int := if (stF S).1 ≠ 0 then stF S else if L < 0 ∨ 1000 < L then (3, -1) else (0, 0)
def filS (S : List SO) (L : Int) : List SO := if (filF S L).1 ≠ 0 then [] else S.filter fun x => !big L x
def filP (S : List SO) (L : Int) : List Int := if (filF S L).1 ≠ 0 then [] else dgs (S.filter (big L))
theorem filter_snoc {α : Type} {l : List α} {i : Nat} {x : α} (h : l[i]? = some x) (Q : α → Bool) : (l.take (i + 1)).filter Q = (l.take i).filter Q ++ if Q x = true then [x] else [] := by
  rw [List.take_add_one, h, List.filter_append]
  cases hq : Q x <;> simp [hq]

def proG : List AV → Option (Prop × AV)
  | [.agg [.d (.sl xs)], .d (.sl ps)] => some (xs = rows eO (dO xs) ∧ (dO xs).length ≤ 9223372036854775807 ∧ smallS (dO xs) ∧ ps = rows eI (dI ps) ∧ (dI ps).length ≤ 9223372036854775807, .agg [.d (.int .i64 (proF (dO xs) (dI ps)).1), .d (.int .i64 (proF (dO xs) (dI ps)).2)])
  | _ => none
def filG : List AV → Option (Prop × AV)
  | [.agg [.d (.sl xs)], .d (.int .i64 n)] => some (xs = rows eO (dO xs) ∧ (dO xs).length ≤ 9223372036854775807 ∧ smallS (dO xs),
      .tup [.agg [.d (.sl (rows eO (filS (dO xs) n)))], .d (.sl (rows eI (filP (dO xs) n))), .agg [.d (.int .i64 (filF (dO xs) n).1), .d (.int .i64 (filF (dO xs) n).2)]])
  | _ => none
def needG : List AV → Option (Prop × AV)
  | [.agg [.d (.sl xs)], .d (.sl ps), .d (.sl rs)] => some (xs = rows eO (dO xs) ∧ (dO xs).length ≤ 9223372036854775807 ∧ smallS (dO xs) ∧ ps = rows eI (dI ps) ∧ (dI ps).length ≤ 9223372036854775807 ∧ rs = rows eI (dI rs) ∧ (dI rs).length ≤ 9223372036854775807,
      .tup [.d (.sl (rows eI (needR (dO xs) (dI ps) (dI rs)))), .agg [.d (.int .i64 (needF (dO xs) (dI ps) (dI rs)).1), .d (.int .i64 (needF (dO xs) (dI ps) (dI rs)).2)]])
  | _ => none

theorem parCk_meets : Meets Try.prog 31 (Spec.pure proG) := by
 refine meets_fun (E_mark.at_ 63) Try.func31 rfl rfl rfl ?_
 intro args p r hg hp
 unfold proG at hg
 split at hg
 ·rename_i xs ps
  simp only [Option.some.injEq, Prod.mk.injEq] at hg
  obtain ⟨rfl, rfl⟩ := hg
  obtain ⟨he, hl, hsm, he2, hrl⟩ := hp
  generalize dO xs = S at *
  generalize dI ps = P at *
  subst he he2
  have hT : (E_mark).X = T := rfl
  have hx0 := And.intro @rect_eO (And.intro @dI_rows (And.intro @dU_rows (And.intro @dO_rows (And.intro @dec_t (And.intro @dec_f @Try.results31)))))
  have hx := hx0
  refine ⟨by rfl, ?_⟩
  intro F W0 hnp hmk
  refine vc_seq_k fun N1 h1 => ?_
  refine u_reg ?_
  try refine lg_mk ?_
  refine u_bx ?_
  refine u_al ?_
  refine lg_nil ?_
  refine h1 _ ?_; clear h1; try clear N1
  refine vc_seq_k fun N2 h2 => ?_
  refine vc_seq_k fun N3 h3 => ?_
  refine u_reg ?_
  try refine lg_mk ?_
  refine u_ld ?_
  have hc := call_rule (E := (E_mark.at_ 63)) (f := 26) (sp := Spec.pure valG) rfl
  have hs := @valG.eq_1
  refine u_cp (hq := by (first | (exact ⟨hl, hsm⟩) | exact sd_)) ?_
  refine u_al ?_
  refine u_st ?_
  refine lg_nil ?_
  refine h3 _ ?_; clear h3; try clear N3
  refine vc_seq_k fun N4 h4 => ?_
  rcases stF_or S with ⟨hvx, hv⟩ | hvx
  ·have hz1 : (stF S).1 = 0 := by rw [hvx]
   have hz2 : (stF S).2 = 0 := by rw [hvx]
   have hlen := hv.len
   refine u_reg ?_
   try refine lg_mk ?_
   refine u_ld ?_
   refine u_bd ?_
   refine u_bn ?_
   refine lg_nil ?_
   refine h4 _ ?_; clear h4; try clear N4
   refine u_cond (fun hb5 => ?_) (fun hb5 => ?_)
   ·exact absurd (And.intro hz1 hz2) (by have := hb5; simpa using this)
   ·refine vc_skip ?_
    try simp only [k_rules]
    refine h2 _ ?_; clear h2; try clear N2
    refine vc_seq_k fun N6 h6 => ?_
    refine vc_seq_k fun N7 h7 => ?_
    refine u_reg ?_
    try refine lg_mk ?_
    refine u_mv ?_
    refine u_ln ?_
    refine u_bn ?_
    refine lg_nil ?_
    refine h7 _ ?_; clear h7; try clear N7
    refine u_cond (fun hb8 => ?_) (fun hb8 => ?_)
    ·refine vc_seq_k fun N9 h9 => ?_
     refine u_reg ?_
     try refine lg_mk ?_
     refine u_bd ?_
     refine u_st ?_
     refine lg_nil ?_
     refine h9 _ ?_; clear h9; try clear N9
     refine vc_ret ?_
     try simp only [k_rules]
     have hr : proF S P = (2, -2) := by unfold proF; rw [if_neg (by rw [hz1]; simp), if_pos (by have := hb8; omega)]
     rw [hr]
     refine fin2_ ?_
     exact cl_
    ·refine vc_skip ?_
     try simp only [k_rules]
     refine h6 _ ?_; clear h6; try clear N6
     refine vc_seq_k fun N10 h10 => ?_
     refine vc_seq_k fun N11 h11 => ?_
     refine u_reg ?_
     try refine lg_mk ?_
     refine u_mv ?_
     refine u_ln ?_
     refine u_mv ?_
     refine lg_nil ?_
     refine h11 _ ?_; clear h11; try clear N11
     refine vc_block ?_
     refine vc_loop_mk (σ := Nat) (fun s => (fun i => i ≤ P.length ∧ ∀ j, j < i → prm S P j = 0) s)
      (fun s => (fun i => [(1, .d (.sl (rows eI P))), (2, .ptr 0 0 0), (4, .ptr 1 0 0), (21, .d (.sl (rows eI P))), (22, .d (.int .i64 (P.length : Nat))), (23, .d (.int .i64 (i : Nat)))]) s)
      (fun s => (fun i => [some (.one 24 [.d (.sl (rows eO S))]), some (.one 28 [.d (.int .i64 0), .d (.int .i64 0)])]) s) (fun s => (fun i => P.length - i) s) hnp 0 ?_ [some 0, some 1] ?_ ?_
     ·dsimp only
      exact ⟨by omega, fun j hj => by omega⟩
     ·dsimp only
      refine ⟨by rfl, ?_, ?_⟩
      ·refine fin_ ?_
       exact cl_
      ·refine fin_ ?_
       exact cl_
     ·rintro i hinv N12 h12
      dsimp only at hinv ⊢
      obtain ⟨i1, i2⟩ := hinv
      refine vc_seq_k fun N13 h13 => ?_
      refine u_reg ?_
      try refine lg_mk ?_
      refine u_bn ?_
      refine lg_nil ?_
      refine h13 _ ?_; clear h13; try clear N13
      refine vc_seq_k fun N14 h14 => ?_
      refine u_cond (fun hb15 => ?_) (fun hb15 => ?_)
      ·obtain ⟨x, hxe⟩ := getE (l := P) (i := i) (by omega)
       have hxd : P.getD i 0 = x := getD_at hxe
       refine vc_skip ?_
       try simp only [k_rules]
       refine h14 _ ?_; clear h14; try clear N14
       refine vc_seq_k fun N16 h16 => ?_
       refine vc_block ?_
       refine vc_seq_k fun N17 h17 => ?_
       have hx := And.intro @hxe (And.intro @eI.eq_1 hx0)
       refine u_reg ?_
       try refine lg_mk ?_
       refine u_mv ?_
       refine u_pt ?_
       refine u_ld ?_
       refine u_mv ?_
       refine u_mv ?_
       refine lg_nil ?_
       have hx := hx0
       refine h17 _ ?_; clear h17; try clear N17
       refine vc_seq_k fun N18 h18 => ?_
       refine u_reg ?_
       try refine lg_mk ?_
       refine u_mv ?_
       refine lg_nil ?_
       refine h18 _ ?_; clear h18; try clear N18
       refine vc_seq_k fun N19 h19 => ?_
       refine u_reg ?_
       try refine lg_mk ?_
       refine u_ld ?_
       refine u_mv ?_
       have hc := call_rule (E := (E_mark.at_ 63)) (f := 34) (sp := Spec.pure findG) rfl
       have hs := @findG.eq_1
       refine u_cp (hq := by (first | (exact ⟨hv.sort, by omega⟩) | exact sd_)) ?_
       refine u_mv ?_
       refine u_ex ?_
       refine u_ex ?_
       refine u_mv ?_
       refine u_mv ?_
       refine lg_nil ?_
       refine h19 _ ?_; clear h19; try clear N19
       refine vc_seq_k fun N20 h20 => ?_
       refine vc_block ?_
       refine vc_seq_k fun N21 h21 => ?_
       refine u_reg ?_
       try refine lg_mk ?_
       refine u_mv ?_
       refine u_bn ?_
       refine u_mv ?_
       refine g_mv ?_
       refine g_bn ?_
       refine u_pk ?_
       refine u_mv ?_
       refine lg_nil ?_
       refine h21 _ ?_; clear h21; try clear N21
       refine u_cond (fun hb22 => ?_) (fun hb22 => ?_)
       ·refine u_reg ?_
        try refine lg_mk ?_
        refine u_mv ?_
        refine lg_nil ?_
        refine h20 _ ?_; clear h20; try clear N20
        refine vc_seq_k fun N23 h23 => ?_
        refine u_reg ?_
        try refine lg_mk ?_
        refine u_mv ?_
        refine u_bn ?_
        refine lg_nil ?_
        refine h23 _ ?_; clear h23; try clear N23
        refine u_cond (fun hb24 => ?_) (fun hb24 => ?_)
        ·refine vc_seq_k fun N25 h25 => ?_
         refine u_reg ?_
         try refine lg_mk ?_
         refine u_mv ?_
         refine u_mv ?_
         refine u_bn ?_
         refine u_bd ?_
         refine u_st ?_
         refine lg_nil ?_
         refine h25 _ ?_; clear h25; try clear N25
         refine vc_ret ?_
         try simp only [k_rules]
         have hf : prm S P i = 3 := by
          unfold prm; rw [hxd]
          rw [if_pos (by have := hb22; (try simp at this); omega)]
         have hr : proF S P = (3, -3 - (i : Int)) := by unfold proF; rw [if_neg (by rw [hz1]; simp), if_neg (by have := hb8; omega), firstF_at (i := i) (by rw [hf]; decide) i2 (by omega), hf]; rfl
         rw [hr]
         refine fin2_ ?_
         exact cl_
        ·first | omega | exact absurd trivial hb24 | contradiction | (simp_all; done)
       ·refine vc_seq_k fun N26 h26 => ?_
        rcases Nat.eq_zero_or_pos i with hi0 | hi0
        ·have hye := hxe
         have hgt : decide ((0 : Int) < (i : Int)) = false := decide_eq_false (by omega)
         have hpm := hxe
         have hx := And.intro @hye (And.intro @hgt (And.intro @hpm (And.intro @eI.eq_1 hx0)))
         refine u_reg ?_
         try refine lg_mk ?_
         refine u_mv ?_
         refine u_bn ?_
         refine u_mv ?_
         refine g_mv ?_
         refine g_mv ?_
         refine g_mv ?_
         refine g_bn ?_
         refine g_pt ?_
         refine g_ld ?_
         refine g_bn ?_
         refine u_pk ?_
         refine u_mv ?_
         refine lg_nil ?_
         have hx := hx0
         refine h26 _ ?_; clear h26; try clear N26
         refine u_cond (fun hb27 => ?_) (fun hb27 => ?_)
         ·first | omega | exact absurd trivial hb27 | contradiction | (simp_all; done)
         ·refine vc_seq_k fun N28 h28 => ?_
          refine u_reg ?_
          try refine lg_mk ?_
          refine u_mv ?_
          refine u_mv ?_
          refine lg_nil ?_
          refine h28 _ ?_; clear h28; try clear N28
          refine u_cond (fun hb29 => ?_) (fun hb29 => ?_)
          ·refine u_reg ?_
           try refine lg_mk ?_
           refine u_mv ?_
           refine lg_nil ?_
           refine h20 _ ?_; clear h20; try clear N20
           refine vc_seq_k fun N30 h30 => ?_
           refine u_reg ?_
           try refine lg_mk ?_
           refine u_mv ?_
           refine u_bn ?_
           refine lg_nil ?_
           refine h30 _ ?_; clear h30; try clear N30
           refine u_cond (fun hb31 => ?_) (fun hb31 => ?_)
           ·refine vc_seq_k fun N32 h32 => ?_
            refine u_reg ?_
            try refine lg_mk ?_
            refine u_mv ?_
            refine u_mv ?_
            refine u_bn ?_
            refine u_bd ?_
            refine u_st ?_
            refine lg_nil ?_
            refine h32 _ ?_; clear h32; try clear N32
            refine vc_ret ?_
            try simp only [k_rules]
            have hf : prm S P i = 7 := by
             unfold prm; rw [hxd]
             rw [if_neg (by have := hb22; (try simp at this); omega), (if_neg (by first | omega | (rw [hyd]; have := hb27; (try simp at this); omega))), if_pos (by simpa using hb29)]
            have hr : proF S P = (7, -3 - (i : Int)) := by unfold proF; rw [if_neg (by rw [hz1]; simp), if_neg (by have := hb8; omega), firstF_at (i := i) (by rw [hf]; decide) i2 (by omega), hf]; rfl
            rw [hr]
            refine fin2_ ?_
            exact cl_
           ·first | omega | exact absurd trivial hb31 | contradiction | (simp_all; done)
          ·refine vc_skip ?_
           try simp only [k_rules]
           refine h20 _ ?_; clear h20; try clear N20
           refine vc_seq_k fun N33 h33 => ?_
           refine u_reg ?_
           try refine lg_mk ?_
           refine u_mv ?_
           refine u_bn ?_
           refine lg_nil ?_
           refine h33 _ ?_; clear h33; try clear N33
           refine u_cond (fun hb34 => ?_) (fun hb34 => ?_)
           ·first | omega | exact absurd trivial hb34 | contradiction | (simp_all; done)
           ·refine vc_skip ?_
            try simp only [k_rules]
            refine h16 _ ?_; clear h16; try clear N16
            refine u_reg ?_
            try refine lg_mk ?_
            refine u_bn ?_
            refine u_mv ?_
            refine lg_nil ?_
            refine h12 _ ⟨i + 1, ?_, ?_, [some 0, some 1], ?_⟩
            ·dsimp only
             exact ⟨by omega, lt_succF i2 (by unfold prm; rw [hxd, if_neg (by have := hb22; (try simp at this); omega), (if_neg (by first | omega | (rw [hyd]; have := hb27; (try simp at this); omega))), if_neg (by have := hb29; simpa using this)])⟩
            ·dsimp only
             omega
            ·dsimp only
             refine ⟨by rfl, ?_, ?_⟩
             ·refine fin_ ?_
              exact cl_
             ·refine fin_ ?_
              exact cl_
        ·obtain ⟨y, hye⟩ := getE (l := P) (i := i - 1) (by omega)
         have hpm : ((i : Int) - 1).toNat = i - 1 := by omega
         have hgt : decide ((0 : Int) < (i : Int)) = true := decide_eq_true (by omega)
         have hyd : P.getD (i - 1) 0 = y := getD_at hye
         have hx := And.intro @hye (And.intro @hgt (And.intro @hpm (And.intro @eI.eq_1 hx0)))
         refine u_reg ?_
         try refine lg_mk ?_
         refine u_mv ?_
         refine u_bn ?_
         refine u_mv ?_
         refine g_mv ?_
         refine g_mv ?_
         refine g_mv ?_
         refine g_bn ?_
         refine g_pt ?_
         refine g_ld ?_
         refine g_bn ?_
         refine u_pk ?_
         refine u_mv ?_
         refine lg_nil ?_
         have hx := hx0
         refine h26 _ ?_; clear h26; try clear N26
         refine u_cond (fun hb35 => ?_) (fun hb35 => ?_)
         ·refine u_reg ?_
          try refine lg_mk ?_
          refine u_mv ?_
          refine lg_nil ?_
          refine h20 _ ?_; clear h20; try clear N20
          refine vc_seq_k fun N36 h36 => ?_
          refine u_reg ?_
          try refine lg_mk ?_
          refine u_mv ?_
          refine u_bn ?_
          refine lg_nil ?_
          refine h36 _ ?_; clear h36; try clear N36
          refine u_cond (fun hb37 => ?_) (fun hb37 => ?_)
          ·refine vc_seq_k fun N38 h38 => ?_
           refine u_reg ?_
           try refine lg_mk ?_
           refine u_mv ?_
           refine u_mv ?_
           refine u_bn ?_
           refine u_bd ?_
           refine u_st ?_
           refine lg_nil ?_
           refine h38 _ ?_; clear h38; try clear N38
           refine vc_ret ?_
           try simp only [k_rules]
           have hf : prm S P i = 5 := by
            unfold prm; rw [hxd]
            rw [if_neg (by have := hb22; (try simp at this); omega), if_pos ⟨hi0, by rw [hyd]; have := hb35; (try simp at this); omega⟩]
           have hr : proF S P = (5, -3 - (i : Int)) := by unfold proF; rw [if_neg (by rw [hz1]; simp), if_neg (by have := hb8; omega), firstF_at (i := i) (by rw [hf]; decide) i2 (by omega), hf]; rfl
           rw [hr]
           refine fin2_ ?_
           exact cl_
          ·first | omega | exact absurd trivial hb37 | contradiction | (simp_all; done)
         ·refine vc_seq_k fun N39 h39 => ?_
          refine u_reg ?_
          try refine lg_mk ?_
          refine u_mv ?_
          refine u_mv ?_
          refine lg_nil ?_
          refine h39 _ ?_; clear h39; try clear N39
          refine u_cond (fun hb40 => ?_) (fun hb40 => ?_)
          ·refine u_reg ?_
           try refine lg_mk ?_
           refine u_mv ?_
           refine lg_nil ?_
           refine h20 _ ?_; clear h20; try clear N20
           refine vc_seq_k fun N41 h41 => ?_
           refine u_reg ?_
           try refine lg_mk ?_
           refine u_mv ?_
           refine u_bn ?_
           refine lg_nil ?_
           refine h41 _ ?_; clear h41; try clear N41
           refine u_cond (fun hb42 => ?_) (fun hb42 => ?_)
           ·refine vc_seq_k fun N43 h43 => ?_
            refine u_reg ?_
            try refine lg_mk ?_
            refine u_mv ?_
            refine u_mv ?_
            refine u_bn ?_
            refine u_bd ?_
            refine u_st ?_
            refine lg_nil ?_
            refine h43 _ ?_; clear h43; try clear N43
            refine vc_ret ?_
            try simp only [k_rules]
            have hf : prm S P i = 7 := by
             unfold prm; rw [hxd]
             rw [if_neg (by have := hb22; (try simp at this); omega), (if_neg (by first | omega | (rw [hyd]; have := hb35; (try simp at this); omega))), if_pos (by simpa using hb40)]
            have hr : proF S P = (7, -3 - (i : Int)) := by unfold proF; rw [if_neg (by rw [hz1]; simp), if_neg (by have := hb8; omega), firstF_at (i := i) (by rw [hf]; decide) i2 (by omega), hf]; rfl
            rw [hr]
            refine fin2_ ?_
            exact cl_
           ·first | omega | exact absurd trivial hb42 | contradiction | (simp_all; done)
          ·refine vc_skip ?_
           try simp only [k_rules]
           refine h20 _ ?_; clear h20; try clear N20
           refine vc_seq_k fun N44 h44 => ?_
           refine u_reg ?_
           try refine lg_mk ?_
           refine u_mv ?_
           refine u_bn ?_
           refine lg_nil ?_
           refine h44 _ ?_; clear h44; try clear N44
           refine u_cond (fun hb45 => ?_) (fun hb45 => ?_)
           ·first | omega | exact absurd trivial hb45 | contradiction | (simp_all; done)
           ·refine vc_skip ?_
            try simp only [k_rules]
            refine h16 _ ?_; clear h16; try clear N16
            refine u_reg ?_
            try refine lg_mk ?_
            refine u_bn ?_
            refine u_mv ?_
            refine lg_nil ?_
            refine h12 _ ⟨i + 1, ?_, ?_, [some 0, some 1], ?_⟩
            ·dsimp only
             exact ⟨by omega, lt_succF i2 (by unfold prm; rw [hxd, if_neg (by have := hb22; (try simp at this); omega), (if_neg (by first | omega | (rw [hyd]; have := hb35; (try simp at this); omega))), if_neg (by have := hb40; simpa using this)])⟩
            ·dsimp only
             omega
            ·dsimp only
             refine ⟨by rfl, ?_, ?_⟩
             ·refine fin_ ?_
              exact cl_
             ·refine fin_ ?_
              exact cl_
      ·refine vc_exit ?_
       simp only [k_rules, Nat.reduceEqDiff, reduceIte, eq_self]
       refine h10 _ ?_; clear h10; try clear N10
       refine vc_seq_k fun N46 h46 => ?_
       refine u_reg ?_
       try refine lg_mk ?_
       refine u_bd ?_
       refine u_st ?_
       refine lg_nil ?_
       refine h46 _ ?_; clear h46; try clear N46
       refine vc_ret ?_
       try simp only [k_rules]
       have hr : proF S P = (0, 0) := by unfold proF; rw [if_neg (by rw [hz1]; simp), if_neg (by have := hb8; omega), firstF_none (fun j hj => i2 j (by omega))]
       rw [hr]
       refine fin2_ ?_
       exact cl_
  ·have hz1 := hvx
   refine u_reg ?_
   try refine lg_mk ?_
   refine u_ld ?_
   refine u_bd ?_
   refine u_bn ?_
   refine lg_nil ?_
   refine h4 _ ?_; clear h4; try clear N4
   refine u_cond (fun hb47 => ?_) (fun hb47 => ?_)
   ·refine vc_seq_k fun N48 h48 => ?_
    refine u_reg ?_
    try refine lg_mk ?_
    refine u_ld ?_
    refine u_st ?_
    refine lg_nil ?_
    refine h48 _ ?_; clear h48; try clear N48
    refine vc_ret ?_
    try simp only [k_rules]
    have hr : proF S P = stF S := by unfold proF; rw [if_pos hz1]
    rw [hr]
    refine fin2_ ?_
    exact cl_
   ·exact absurd (show (stF S).1 = 0 by have := hb47; first | exact this.1 | exact (Classical.not_not.1 this).1 | (simp at this; exact this.1)) hz1
 ·cases hg

def E_parCk : Env Try.prog := E_mark.add 31 (Spec.pure proG) parCk_meets (by kernel_rfl)

theorem parFR_meets : Meets Try.prog 19 (Spec.pure proG) := by
 refine meets_fun (E_parCk.at_ 60) Try.func19 rfl rfl rfl ?_
 intro args p r hg hp
 unfold proG at hg
 split at hg
 ·rename_i xs ps
  simp only [Option.some.injEq, Prod.mk.injEq] at hg
  obtain ⟨rfl, rfl⟩ := hg
  obtain ⟨he, hl, hsm, he2, hrl⟩ := hp
  generalize dO xs = S at *
  generalize dI ps = P at *
  subst he he2
  have hT : (E_parCk).X = T := rfl
  have hx0 := And.intro @rect_eO (And.intro @dI_rows (And.intro @dU_rows (And.intro @dO_rows (And.intro @dec_t (And.intro @dec_f @Try.results19)))))
  have hx := hx0
  refine ⟨by rfl, ?_⟩
  intro F W0 hnp hmk
  refine vc_seq_k fun N1 h1 => ?_
  refine u_reg ?_
  try refine lg_mk ?_
  refine u_bx ?_
  refine u_al ?_
  refine lg_nil ?_
  refine h1 _ ?_; clear h1; try clear N1
  refine vc_seq_k fun N2 h2 => ?_
  refine vc_seq_k fun N3 h3 => ?_
  refine u_reg ?_
  try refine lg_mk ?_
  refine u_ld ?_
  have hc := call_rule (E := (E_parCk.at_ 60)) (f := 11) (sp := Spec.pure valG) rfl
  have hs := @valG.eq_1
  refine u_cp (hq := by (first | (exact ⟨hl, hsm⟩) | exact sd_)) ?_
  refine u_al ?_
  refine u_st ?_
  refine lg_nil ?_
  refine h3 _ ?_; clear h3; try clear N3
  refine vc_seq_k fun N4 h4 => ?_
  rcases stF_or S with ⟨hvx, hv⟩ | hvx
  ·have hz1 : (stF S).1 = 0 := by rw [hvx]
   have hz2 : (stF S).2 = 0 := by rw [hvx]
   have hlen := hv.len
   refine u_reg ?_
   try refine lg_mk ?_
   refine u_pt ?_
   refine u_ld ?_
   refine u_bn ?_
   refine lg_nil ?_
   refine h4 _ ?_; clear h4; try clear N4
   refine u_cond (fun hb5 => ?_) (fun hb5 => ?_)
   ·exact absurd hz1 (by simpa using hb5)
   ·refine vc_skip ?_
    try simp only [k_rules]
    refine h2 _ ?_; clear h2; try clear N2
    refine vc_seq_k fun N6 h6 => ?_
    refine vc_seq_k fun N7 h7 => ?_
    refine u_reg ?_
    try refine lg_mk ?_
    refine u_mv ?_
    refine u_ln ?_
    refine u_bn ?_
    refine lg_nil ?_
    refine h7 _ ?_; clear h7; try clear N7
    refine u_cond (fun hb8 => ?_) (fun hb8 => ?_)
    ·refine vc_seq_k fun N9 h9 => ?_
     refine u_reg ?_
     try refine lg_mk ?_
     have hc := call_rule (E := (E_parCk.at_ 60)) (f := 13) (sp := Spec.pure faultG) rfl
     have hs := @faultG.eq_1
     refine u_cp ?_
     refine u_st ?_
     refine lg_nil ?_
     refine h9 _ ?_; clear h9; try clear N9
     refine vc_ret ?_
     try simp only [k_rules]
     have hr : proF S P = (2, -2) := by unfold proF; rw [if_neg (by rw [hz1]; simp), if_pos (by have := hb8; omega)]
     rw [hr]
     refine fin2_ ?_
     exact cl_
    ·refine vc_skip ?_
     try simp only [k_rules]
     refine h6 _ ?_; clear h6; try clear N6
     refine vc_seq_k fun N10 h10 => ?_
     refine vc_seq_k fun N11 h11 => ?_
     refine u_reg ?_
     try refine lg_mk ?_
     refine u_mv ?_
     refine lg_nil ?_
     refine h11 _ ?_; clear h11; try clear N11
     refine vc_block ?_
     refine vc_loop_mk (σ := Nat) (fun s => (fun i => i ≤ P.length ∧ ∀ j, j < i → prm S P j = 0) s)
      (fun s => (fun i => [(1, .d (.sl (rows eI P))), (2, .ptr 0 0 0), (4, .ptr 1 0 0), (6, .d (.int .i64 (i : Nat)))]) s)
      (fun s => (fun i => [some (.one 24 [.d (.sl (rows eO S))]), some (.one 28 [.d (.int .i64 0), .d (.int .i64 0)])]) s) (fun s => (fun i => P.length - i) s) hnp 0 ?_ [some 0, some 1] ?_ ?_
     ·dsimp only
      exact ⟨by omega, fun j hj => by omega⟩
     ·dsimp only
      refine ⟨by rfl, ?_, ?_⟩
      ·refine fin_ ?_
       exact cl_
      ·refine fin_ ?_
       exact cl_
     ·rintro i hinv N12 h12
      dsimp only at hinv ⊢
      obtain ⟨i1, i2⟩ := hinv
      refine vc_seq_k fun N13 h13 => ?_
      refine vc_seq_k fun N14 h14 => ?_
      refine u_reg ?_
      try refine lg_mk ?_
      refine u_mv ?_
      refine u_mv ?_
      refine u_ln ?_
      refine u_bn ?_
      refine lg_nil ?_
      refine h14 _ ?_; clear h14; try clear N14
      refine u_cond (fun hb15 => ?_) (fun hb15 => ?_)
      ·obtain ⟨x, hxe⟩ := getE (l := P) (i := i) (by omega)
       have hxd : P.getD i 0 = x := getD_at hxe
       refine vc_skip ?_
       try simp only [k_rules]
       refine h13 _ ?_; clear h13; try clear N13
       refine vc_seq_k fun N16 h16 => ?_
       refine vc_block ?_
       refine vc_seq_k fun N17 h17 => ?_
       refine vc_seq_k fun N18 h18 => ?_
       have hx := And.intro @hxe (And.intro @eI.eq_1 hx0)
       refine u_reg ?_
       try refine lg_mk ?_
       refine u_mv ?_
       refine u_mv ?_
       refine u_pt ?_
       refine u_ld ?_
       have hc := call_rule (E := (E_parCk.at_ 60)) (f := 12) (sp := Spec.pure inG) rfl
       have hs := @inG.eq_1
       refine u_cp ?_
       refine u_un ?_
       refine lg_nil ?_
       have hx := hx0
       refine h18 _ ?_; clear h18; try clear N18
       refine u_cond (fun hb19 => ?_) (fun hb19 => ?_)
       ·refine vc_seq_k fun N20 h20 => ?_
        refine u_reg ?_
        try refine lg_mk ?_
        refine u_mv ?_
        refine u_bn ?_
        have hc := call_rule (E := (E_parCk.at_ 60)) (f := 13) (sp := Spec.pure faultG) rfl
        have hs := @faultG.eq_1
        refine u_cp ?_
        refine u_st ?_
        refine lg_nil ?_
        refine h20 _ ?_; clear h20; try clear N20
        refine vc_ret ?_
        try simp only [k_rules]
        have hf : prm S P i = 3 := by
         unfold prm; rw [hxd]
         rw [if_pos (by have := hb19; (try simp at this); omega)]
        have hr : proF S P = (3, -3 - (i : Int)) := by unfold proF; rw [if_neg (by rw [hz1]; simp), if_neg (by have := hb8; omega), firstF_at (i := i) (by rw [hf]; decide) i2 (by omega), hf]; rfl
        rw [hr]
        refine fin2_ ?_
        exact cl_
       ·refine vc_skip ?_
        try simp only [k_rules]
        refine h17 _ ?_; clear h17; try clear N17
        refine vc_seq_k fun N21 h21 => ?_
        refine vc_seq_k fun N22 h22 => ?_
        rcases Nat.eq_zero_or_pos i with hi0 | hi0
        ·have hye := hxe
         have hgt : decide ((0 : Int) < (i : Int)) = false := decide_eq_false (by omega)
         have hpm := hxe
         have hx := And.intro @hxe (And.intro @hye (And.intro @hgt (And.intro @hpm (And.intro @eI.eq_1 hx0))))
         refine u_reg ?_
         try refine lg_mk ?_
         refine u_mv ?_
         refine u_bn ?_
         refine u_mv ?_
         refine g_mv ?_
         refine g_mv ?_
         refine g_bn ?_
         refine g_pt ?_
         refine g_ld ?_
         refine g_mv ?_
         refine g_mv ?_
         refine g_pt ?_
         refine g_ld ?_
         refine g_bn ?_
         refine u_pk ?_
         refine lg_nil ?_
         have hx := hx0
         refine h22 _ ?_; clear h22; try clear N22
         refine u_cond (fun hb23 => ?_) (fun hb23 => ?_)
         ·first | omega | exact absurd trivial hb23 | contradiction | (simp_all; done)
         ·refine vc_skip ?_
          try simp only [k_rules]
          refine h21 _ ?_; clear h21; try clear N21
          refine vc_seq_k fun N24 h24 => ?_
          have hx := And.intro @hxe (And.intro @eI.eq_1 hx0)
          refine u_reg ?_
          try refine lg_mk ?_
          refine u_ld ?_
          refine u_mv ?_
          refine u_mv ?_
          refine u_pt ?_
          refine u_ld ?_
          have hc := call_rule (E := (E_parCk.at_ 60)) (f := 36) (sp := Spec.pure atG) rfl
          have hs := @atG.eq_1
          refine u_cp (hq := by (first | (exact ⟨hv.sort, by omega⟩) | exact sd_)) ?_
          refine u_bn ?_
          refine lg_nil ?_
          have hx := hx0
          refine h24 _ ?_; clear h24; try clear N24
          refine u_cond (fun hb25 => ?_) (fun hb25 => ?_)
          ·refine vc_seq_k fun N26 h26 => ?_
           refine u_reg ?_
           try refine lg_mk ?_
           refine u_mv ?_
           refine u_bn ?_
           have hc := call_rule (E := (E_parCk.at_ 60)) (f := 13) (sp := Spec.pure faultG) rfl
           have hs := @faultG.eq_1
           refine u_cp ?_
           refine u_st ?_
           refine lg_nil ?_
           refine h26 _ ?_; clear h26; try clear N26
           refine vc_ret ?_
           try simp only [k_rules]
           have hf : prm S P i = 7 := by
            unfold prm; rw [hxd]
            rw [if_neg (by have := hb19; (try simp at this); omega), (if_neg (by first | omega | (rw [hyd]; have := hb23; (try simp at this); omega))), if_pos (by have := hb25; unfold atS at this; split at this; assumption; omega)]
           have hr : proF S P = (7, -3 - (i : Int)) := by unfold proF; rw [if_neg (by rw [hz1]; simp), if_neg (by have := hb8; omega), firstF_at (i := i) (by rw [hf]; decide) i2 (by omega), hf]; rfl
           rw [hr]
           refine fin2_ ?_
           exact cl_
          ·refine vc_skip ?_
           try simp only [k_rules]
           refine h16 _ ?_; clear h16; try clear N16
           refine u_reg ?_
           try refine lg_mk ?_
           refine u_mv ?_
           refine u_bn ?_
           refine u_mv ?_
           refine lg_nil ?_
           refine h12 _ ⟨i + 1, ?_, ?_, [some 0, some 1], ?_⟩
           ·dsimp only
            exact ⟨by omega, lt_succF i2 (by unfold prm; rw [hxd, if_neg (by have := hb19; (try simp at this); omega), (if_neg (by first | omega | (rw [hyd]; have := hb23; (try simp at this); omega))), if_neg (fun hc => by have := hb25; unfold atS at this; rw [if_pos hc] at this; omega)])⟩
           ·dsimp only
            omega
           ·dsimp only
            refine ⟨by rfl, ?_, ?_⟩
            ·refine fin_ ?_
             exact cl_
            ·refine fin_ ?_
             exact cl_
        ·obtain ⟨y, hye⟩ := getE (l := P) (i := i - 1) (by omega)
         have hpm : ((i : Int) - 1).toNat = i - 1 := by omega
         have hgt : decide ((0 : Int) < (i : Int)) = true := decide_eq_true (by omega)
         have hyd : P.getD (i - 1) 0 = y := getD_at hye
         have hx := And.intro @hxe (And.intro @hye (And.intro @hgt (And.intro @hpm (And.intro @eI.eq_1 hx0))))
         refine u_reg ?_
         try refine lg_mk ?_
         refine u_mv ?_
         refine u_bn ?_
         refine u_mv ?_
         refine g_mv ?_
         refine g_mv ?_
         refine g_bn ?_
         refine g_pt ?_
         refine g_ld ?_
         refine g_mv ?_
         refine g_mv ?_
         refine g_pt ?_
         refine g_ld ?_
         refine g_bn ?_
         refine u_pk ?_
         refine lg_nil ?_
         have hx := hx0
         refine h22 _ ?_; clear h22; try clear N22
         refine u_cond (fun hb27 => ?_) (fun hb27 => ?_)
         ·refine vc_seq_k fun N28 h28 => ?_
          refine u_reg ?_
          try refine lg_mk ?_
          refine u_mv ?_
          refine u_bn ?_
          have hc := call_rule (E := (E_parCk.at_ 60)) (f := 13) (sp := Spec.pure faultG) rfl
          have hs := @faultG.eq_1
          refine u_cp ?_
          refine u_st ?_
          refine lg_nil ?_
          refine h28 _ ?_; clear h28; try clear N28
          refine vc_ret ?_
          try simp only [k_rules]
          have hf : prm S P i = 5 := by
           unfold prm; rw [hxd]
           rw [if_neg (by have := hb19; (try simp at this); omega), if_pos ⟨hi0, by rw [hyd]; have := hb27; (try simp at this); omega⟩]
          have hr : proF S P = (5, -3 - (i : Int)) := by unfold proF; rw [if_neg (by rw [hz1]; simp), if_neg (by have := hb8; omega), firstF_at (i := i) (by rw [hf]; decide) i2 (by omega), hf]; rfl
          rw [hr]
          refine fin2_ ?_
          exact cl_
         ·refine vc_skip ?_
          try simp only [k_rules]
          refine h21 _ ?_; clear h21; try clear N21
          refine vc_seq_k fun N29 h29 => ?_
          have hx := And.intro @hxe (And.intro @eI.eq_1 hx0)
          refine u_reg ?_
          try refine lg_mk ?_
          refine u_ld ?_
          refine u_mv ?_
          refine u_mv ?_
          refine u_pt ?_
          refine u_ld ?_
          have hc := call_rule (E := (E_parCk.at_ 60)) (f := 36) (sp := Spec.pure atG) rfl
          have hs := @atG.eq_1
          refine u_cp (hq := by (first | (exact ⟨hv.sort, by omega⟩) | exact sd_)) ?_
          refine u_bn ?_
          refine lg_nil ?_
          have hx := hx0
          refine h29 _ ?_; clear h29; try clear N29
          refine u_cond (fun hb30 => ?_) (fun hb30 => ?_)
          ·refine vc_seq_k fun N31 h31 => ?_
           refine u_reg ?_
           try refine lg_mk ?_
           refine u_mv ?_
           refine u_bn ?_
           have hc := call_rule (E := (E_parCk.at_ 60)) (f := 13) (sp := Spec.pure faultG) rfl
           have hs := @faultG.eq_1
           refine u_cp ?_
           refine u_st ?_
           refine lg_nil ?_
           refine h31 _ ?_; clear h31; try clear N31
           refine vc_ret ?_
           try simp only [k_rules]
           have hf : prm S P i = 7 := by
            unfold prm; rw [hxd]
            rw [if_neg (by have := hb19; (try simp at this); omega), (if_neg (by first | omega | (rw [hyd]; have := hb27; (try simp at this); omega))), if_pos (by have := hb30; unfold atS at this; split at this; assumption; omega)]
           have hr : proF S P = (7, -3 - (i : Int)) := by unfold proF; rw [if_neg (by rw [hz1]; simp), if_neg (by have := hb8; omega), firstF_at (i := i) (by rw [hf]; decide) i2 (by omega), hf]; rfl
           rw [hr]
           refine fin2_ ?_
           exact cl_
          ·refine vc_skip ?_
           try simp only [k_rules]
           refine h16 _ ?_; clear h16; try clear N16
           refine u_reg ?_
           try refine lg_mk ?_
           refine u_mv ?_
           refine u_bn ?_
           refine u_mv ?_
           refine lg_nil ?_
           refine h12 _ ⟨i + 1, ?_, ?_, [some 0, some 1], ?_⟩
           ·dsimp only
            exact ⟨by omega, lt_succF i2 (by unfold prm; rw [hxd, if_neg (by have := hb19; (try simp at this); omega), (if_neg (by first | omega | (rw [hyd]; have := hb27; (try simp at this); omega))), if_neg (fun hc => by have := hb30; unfold atS at this; rw [if_pos hc] at this; omega)])⟩
           ·dsimp only
            omega
           ·dsimp only
            refine ⟨by rfl, ?_, ?_⟩
            ·refine fin_ ?_
             exact cl_
            ·refine fin_ ?_
             exact cl_
      ·refine vc_exit ?_
       simp only [k_rules, Nat.reduceEqDiff, reduceIte, eq_self]
       refine h10 _ ?_; clear h10; try clear N10
       refine vc_seq_k fun N32 h32 => ?_
       refine u_reg ?_
       try refine lg_mk ?_
       refine u_bd ?_
       refine u_st ?_
       refine lg_nil ?_
       refine h32 _ ?_; clear h32; try clear N32
       refine vc_ret ?_
       try simp only [k_rules]
       have hr : proF S P = (0, 0) := by unfold proF; rw [if_neg (by rw [hz1]; simp), if_neg (by have := hb8; omega), firstF_none (fun j hj => i2 j (by omega))]
       rw [hr]
       refine fin2_ ?_
       exact cl_
  ·have hz1 := hvx
   refine u_reg ?_
   try refine lg_mk ?_
   refine u_pt ?_
   refine u_ld ?_
   refine u_bn ?_
   refine lg_nil ?_
   refine h4 _ ?_; clear h4; try clear N4
   refine u_cond (fun hb33 => ?_) (fun hb33 => ?_)
   ·refine vc_seq_k fun N34 h34 => ?_
    refine u_reg ?_
    try refine lg_mk ?_
    refine u_ld ?_
    refine u_st ?_
    refine lg_nil ?_
    refine h34 _ ?_; clear h34; try clear N34
    refine vc_ret ?_
    try simp only [k_rules]
    have hr : proF S P = stF S := by unfold proF; rw [if_pos hz1]
    rw [hr]
    refine fin2_ ?_
    exact cl_
   ·exact absurd (by simpa using hb33) hz1
 ·cases hg

def E_parFR : Env Try.prog := E_parCk.add 19 (Spec.pure proG) parFR_meets (by kernel_rfl)
end Go.Proofs.Ytgnahopdiljikaa
