/- Walks, printed by wip/gen/walk.py. -/
import Derived.Test.YtaoifpmifpmhmaaT34
import Derived.Test.YtaoifpmifpmhmaaV4
set_option linter.all false
set_option maxRecDepth 100000
set_option maxHeartbeats 4000000
namespace Go.Proofs.Ytaoifpmifpmhmaa
open Go Go.Vc Go.RowKit
def badP (l : List Cm) (bs : List Bool) (i : Nat) : Bool := bs.getD i false && (l.getD i default).par.any (lackB bs)
/-- The first commit of a part without all its parents. -/
def gapI (l : List Cm) (bs : List Bool) : Nat → Int
  | 0 => -1
  | m + 1 => if 0 ≤ gapI l bs m then gapI l bs m else if badP l bs m = true then (m : Int) else -1
theorem gap_none {l : List Cm} {bs : List Bool} {m : Nat} (h : ∀ j, j < m → badP l bs j = false) : gapI l bs m = -1 := by
  induction m with
  | zero => rfl
  | succ m ih => rw [gapI, ih fun j hj => h j (by omega), if_neg (by omega), h m (by omega)]; rfl
theorem gap_hit {l : List Cm} {bs : List Bool} {i n : Nat} (hi : i < n) (h : ∀ j, j < i → badP l bs j = false) (hb : badP l bs i = true) : gapI l bs n = i := by
  induction n with
  | zero => omega
  | succ n ih =>
    rw [gapI]
    by_cases hin : i = n
    · subst hin; rw [gap_none h, if_neg (by omega), if_pos hb]
    · rw [ih (by omega), if_pos (by omega)]
theorem gap_bnd (l : List Cm) (bs : List Bool) (m : Nat) : -1 ≤ gapI l bs m ∧ gapI l bs m < m := by
  induction m with
  | zero => simp [gapI]
  | succ m ih => unfold gapI; split; omega; split <;> omega
theorem gap_zero {l : List Cm} {bs : List Bool} {m : Nat} (h : gapI l bs m < 0) : ∀ j, j < m → badP l bs j = false := by
  induction m with
  | zero => intro j hj; omega
  | succ m ih =>
    rw [gapI] at h
    split at h
    · omega
    · rename_i h1
      intro j hj
      rcases Nat.lt_or_ge j m with h2 | h2
      · exact ih (by omega) j h2
      · have : j = m := by omega
        subst this
        split at h
        · omega
        · rename_i h3; simpa using h3
def wantAt (n : Nat) (ss : List Bool) (w : Int) : Int := if (0 ≤ w ∧ w < n) ∧ ss.getD w.toNat false = true then 0 else 6
/-- The fault of a negotiation's arguments. -/
def negF (l : List Cm) (ss rs : List Bool) (ws : List Int) : Int × Int :=
  if (histF l).1 ≠ 0 then histF l else if ss.length ≠ l.length then (9, -1) else if rs.length ≠ l.length then (9, -2) else if 0 ≤ gapI l ss l.length then (5, gapI l ss l.length) else if 0 ≤ gapI l rs l.length then (5, -3 - gapI l rs l.length)
  else if 60 < ws.length then (2, -1) else scanW (fun i => (wantAt l.length ss (ws.getD i 0), (i : Int))) ws.length
structure Neg (l : List Cm) (ss rs : List Bool) (ws : List Int) : Prop where
  hist : (histF l).1 = 0
  val : Valid l
  sl : ss.length = l.length
  rl : rs.length = l.length
  sg : gapI l ss l.length < 0
  rg : gapI l rs l.length < 0
  few : ws.length ≤ 60
  inr : InR l.length ws
  snd : ∀ w ∈ ws, ss.getD w.toNat false = true
theorem neg_of {l : List Cm} {ss rs : List Bool} {ws : List Int} (h : (negF l ss rs ws).1 = 0) : Neg l ss rs ws ∧ negF l ss rs ws = (0, 0) := by
  have e : negF l ss rs ws = (0, 0) ∨ (negF l ss rs ws).1 ≠ 0 := by
    unfold negF
    split
    · rename_i h1; exact .inr h1
    · split
      · exact .inr (by simp)
      · split
        · exact .inr (by simp)
        · split
          · exact .inr (by simp)
          · split
            · exact .inr (by simp)
            · split
              · exact .inr (by simp)
              · by_cases h7 : (scanW (fun i => (wantAt l.length ss (ws.getD i 0), (i : Int))) ws.length).1 = 0
                · exact .inl (scanW_fst h7)
                · exact .inr h7
  refine ⟨?_, e.resolve_right fun h1 => h1 h⟩
  unfold negF at h
  split at h
  · rename_i h1; exact absurd h h1
  · rename_i h1
    split at h
    · cases h
    · rename_i h2
      split at h
      · cases h
      · rename_i h3
        split at h
        · cases h
        · rename_i h4
          split at h
          · cases h
          · rename_i h5
            split at h
            · cases h
            · rename_i h6
              have hz := scanW_zero h
              have key : ∀ w ∈ ws, (0 ≤ w ∧ w < l.length) ∧ ss.getD w.toNat false = true := fun w hw => by
                obtain ⟨k, hk⟩ := List.getElem?_of_mem hw
                have := hz k (List.getElem?_eq_some_iff.1 hk).1
                simp only [wantAt, getD_of hk] at this
                split at this
                · assumption
                · cases this
              simp only [ne_eq, Decidable.not_not] at h1 h2 h3
              exact ⟨h1, valid_of h1, h2, h3, by omega, by omega, by omega, fun w hw => (key w hw).1, fun w hw => (key w hw).2⟩
/-- A part that holds the parents of its commits holds their ancestors. -/
theorem part_anc {l : List Cm} {bs : List Bool} (hg : gapI l bs l.length < 0) {i k : Nat} (ha : Anc l i k) (hi : i < l.length) (hv : Valid l) (h : bs.getD i false = true) : bs.getD k false = true := by
  induction ha with
  | refl i => exact h
  | @step i j k hp _ ih =>
    have hpd := hv.parD hp
    refine ih (by omega) ?_
    have hb := gap_zero hg i hi
    unfold badP at hb
    rw [h, Bool.true_and, List.any_eq_false] at hb
    have := hb _ hp
    simpa [lackB] using this
def openB (l : List Cm) (ss rs : List Bool) (told : List Int) (n : Int) : Bool := rs.getD n.toNat false && !decide (n ∈ told) && !(told.any fun t => ss.getD t.toNat false && ancB l t.toNat n.toNat)
def batch (l : List Cm) (ss rs : List Bool) (told : List Int) (size : Nat) : List Int := ((orderN l l.length).filter (openB l ss rs told)).take size
def sizeR (r : Nat) : Nat := if r < 4 then 2 ^ r else 16
theorem sizeR_succ (r : Nat) : ((sizeR (r + 1) : Nat) : Int) = if 2 * ((sizeR r : Nat) : Int) < 16 then 2 * ((sizeR r : Nat) : Int) else 16 := by
  unfold sizeR
  rcases Nat.lt_or_ge r 4 with h | h
  · have : r = 0 ∨ r = 1 ∨ r = 2 ∨ r = 3 := by omega
    rcases this with rfl | rfl | rfl | rfl <;> simp
  · have h1 : ¬r + 1 < 4 := by omega
    have h2 : ¬r < 4 := by omega
    simp only [h1, h2, if_false]; simp
theorem sizeR_bnd (r : Nat) : 1 ≤ sizeR r ∧ sizeR r ≤ 16 := by
  unfold sizeR
  split
  · rename_i h
    have : r = 0 ∨ r = 1 ∨ r = 2 ∨ r = 3 := by omega
    rcases this with rfl | rfl | rfl | rfl <;> simp
  · omega
/-- What has been told, and in which rounds. -/
def rdsT (l : List Cm) (ss rs : List Bool) : Nat → List Int × List (List Int)
  | 0 => ([], [])
  | r + 1 => ((rdsT l ss rs r).1 ++ batch l ss rs (rdsT l ss rs r).1 (sizeR r), (rdsT l ss rs r).2 ++ [batch l ss rs (rdsT l ss rs r).1 (sizeR r)])
def batR (l : List Cm) (ss rs : List Bool) (r : Nat) : List Int := batch l ss rs (rdsT l ss rs r).1 (sizeR r)
def stopR (l : List Cm) (ss rs : List Bool) : Nat → Nat → Nat
  | 0, r => r
  | f + 1, r => if batR l ss rs r = [] then r else stopR l ss rs f (r + 1)
def endR (l : List Cm) (ss rs : List Bool) : Nat := stopR l ss rs (l.length + 1) 0
theorem stop_at {l : List Cm} {ss rs : List Bool} {r : Nat} (hr : batR l ss rs r = []) : ∀ (f q : Nat), q ≤ r → r < q + f → (∀ p, q ≤ p → p < r → batR l ss rs p ≠ []) → stopR l ss rs f q = r := by
  intro f
  induction f with
  | zero => intro q h1 h2; omega
  | succ f ih =>
    intro q h1 h2 h3
    rw [stopR]
    by_cases hq : q = r
    · subst hq; rw [if_pos hr]
    · rw [if_neg (h3 q (Nat.le_refl q) (by omega))]; exact ih (q + 1) (by omega) (by omega) fun p hp => h3 p (by omega)
theorem end_at {l : List Cm} {ss rs : List Bool} {r : Nat} (hr : batR l ss rs r = []) (hl : r ≤ l.length) (h : ∀ p, p < r → batR l ss rs p ≠ []) : endR l ss rs = r := stop_at hr _ _ (Nat.zero_le r) (by omega) fun p _ hp => h p hp
/-- What is told. -/
structure Told (l : List Cm) (rs : List Bool) (told : List Int) : Prop where
  inr : InR l.length told
  nodup : told.Nodup
  rcv : ∀ t ∈ told, rs.getD t.toNat false = true
theorem nodup_len {n : Nat} {l : List Int} (h : l.Nodup) (hr : InR n l) : l.length ≤ n := by
  induction n generalizing l with
  | zero =>
    cases l with
    | nil => exact Nat.le_refl _
    | cons a l => have := hr a (by simp); omega
  | succ n ih =>
    by_cases hn : (n : Int) ∈ l
    · have := ih (h.erase (n : Int)) fun x hx => by
        have h1 := hr x (List.mem_of_mem_erase hx)
        have h2 : x ≠ (n : Int) := fun e => by subst e; exact absurd hx (by simpa using (List.Nodup.not_mem_erase h))
        omega
      rw [List.length_erase_of_mem hn] at this; omega
    · have := ih h fun x hx => by
        have h1 := hr x hx
        have h2 : x ≠ (n : Int) := fun e => hn (e ▸ hx)
        omega
      omega
theorem told_batch {l : List Cm} {ss rs : List Bool} (hv : Valid l) {told : List Int} (h : Told l rs told) (size : Nat) : Told l rs (told ++ batch l ss rs told size) := by
  have ho := ord_all hv l.length (Nat.le_refl _)
  have hb : ∀ x ∈ batch l ss rs told size, x ∈ orderN l l.length ∧ openB l ss rs told x = true := fun x hx => by
    have := List.mem_filter.1 (List.mem_of_mem_take hx)
    exact this
  refine ⟨fun x hx => ?_, ?_, fun x hx => ?_⟩
  · rcases List.mem_append.1 hx with hx | hx
    · exact h.inr x hx
    · exact ho.inr x (hb x hx).1
  · rw [List.nodup_append]
    refine ⟨h.nodup, (ho.nodup.sublist (List.Sublist.trans (List.take_sublist _ _) List.filter_sublist)), fun a ha b hb' => ?_⟩
    rintro rfl
    have := (hb a hb').2
    simp [openB, ha] at this
  · rcases List.mem_append.1 hx with hx | hx
    · exact h.rcv x hx
    · have := (hb x hx).2
      simp only [openB, Bool.and_eq_true] at this
      exact this.1.1
theorem told_r {l : List Cm} {ss rs : List Bool} (hv : Valid l) (r : Nat) : Told l rs (rdsT l ss rs r).1 := by
  induction r with
  | zero => exact ⟨fun x hx => absurd hx (by simp [rdsT]), List.nodup_nil, fun x hx => absurd hx (by simp [rdsT])⟩
  | succ r ih => exact told_batch hv ih _
theorem told_len {l : List Cm} {ss rs : List Bool} {r : Nat} (h : ∀ p, p < r → batR l ss rs p ≠ []) : r ≤ (rdsT l ss rs r).1.length := by
  induction r with
  | zero => exact Nat.zero_le _
  | succ r ih =>
    have := ih fun p hp => h p (by omega)
    have h1 := h r (by omega)
    have h2 : 0 < (batR l ss rs r).length := List.length_pos_iff.2 h1
    rw [rdsT, List.length_append]; unfold batR at h2; omega
theorem told_r_le {l : List Cm} {ss rs : List Bool} (hv : Valid l) {r : Nat} (h : ∀ p, p < r → batR l ss rs p ≠ []) : r ≤ l.length := Nat.le_trans (told_len h) (nodup_len (told_r hv r).nodup (told_r hv r).inr)
theorem rds_len (l : List Cm) (ss rs : List Bool) (r : Nat) : (rdsT l ss rs r).2.length = r := by
  induction r with
  | zero => rfl
  | succ r ih => rw [rdsT, List.length_append, ih]; rfl
/-- The commits that both are known to have. -/
def comV (l : List Cm) (ss : List Bool) (told : List Int) (k : Nat) : Bool := told.any fun t => ss.getD t.toNat false && ancB l t.toNat k
theorem comV_nil (l : List Cm) (ss : List Bool) : comV l ss [] = fun _ => false := by funext k; simp [comV]
theorem comV_snoc {l : List Cm} {ss : List Bool} {told : List Int} {x : Int} {k : Nat} : comV l ss (told ++ [x]) k = (comV l ss told k || (ss.getD x.toNat false && ancB l x.toNat k)) := by simp [comV]
def comI (l : List Cm) (ss : List Bool) (told : List Int) (x : Int) (i : Nat) : Nat → Bool := fun k => comV l ss told k || (decide (k < i) && ancB l x.toNat k)
theorem comI_zero (l : List Cm) (ss : List Bool) (told : List Int) (x : Int) : comI l ss told x 0 = comV l ss told := by funext k; simp [comI]
theorem comI_set {l : List Cm} {ss : List Bool} {told : List Int} {x : Int} {i n : Nat} : (vec n (comI l ss told x i)).set i (comI l ss told x i i || ancB l x.toNat i) = vec n (comI l ss told x (i + 1)) := by
  rw [vec_set]; refine vec_ext fun k _ => ?_
  simp only [setB, comI]
  split
  · rename_i h; subst h; simp
  · rename_i h
    have : decide (k < i + 1) = decide (k < i) := decide_eq_decide.2 (by omega)
    rw [this]
theorem comI_all {l : List Cm} {ss : List Bool} {told : List Int} {x : Int} (hs : ss.getD x.toNat false = true) : vec l.length (comI l ss told x l.length) = vec l.length (comV l ss (told ++ [x])) := vec_ext fun k hk => by
  rw [comV_snoc, hs]; simp [comI, hk]
theorem comV_skip {l : List Cm} {ss : List Bool} {told : List Int} {x : Int} (hs : ss.getD x.toNat false = false) : comV l ss (told ++ [x]) = comV l ss told := by
  funext k; rw [comV_snoc, hs]; simp
theorem mark_snoc {n : Nat} {told : List Int} {x : Int} (h0 : 0 ≤ x) : (vec n (mark told)).set x.toNat true = vec n (mark (told ++ [x])) := by
  rw [vec_set]; refine vec_ext fun k _ => ?_
  simp only [setB, mark, List.mem_append, List.mem_singleton]
  split
  · rename_i h; symm; rw [decide_eq_true_eq]; right; omega
  · rename_i h; apply decide_eq_decide.2
    exact ⟨.inl, fun h2 => h2.elim id fun h3 => by omega⟩
theorem of_one {l : List Cm} {x : Int} {k : Nat} : ofB l [x] k = ancB l x.toNat k := by simp [ofB]
theorem openB_eq {l : List Cm} {ss rs : List Bool} {told : List Int} {x : Int} (h0 : 0 ≤ x) : openB l ss rs told x = (rs.getD x.toNat false && !(mark told x.toNat) && !(comV l ss told x.toNat)) := by
  unfold openB mark comV; rw [show ((x.toNat : Nat) : Int) = x by omega]
theorem batch_snoc {P : Int → Bool} {o : List Int} {i s : Nat} {x : Int} (h : o[i]? = some x) : ((o.take (i + 1)).filter P).take s = if decide ((((o.take i).filter P).take s).length < s) && P x then ((o.take i).filter P).take s ++ [x] else ((o.take i).filter P).take s := by
  rw [filter_snoc h]
  by_cases hp : P x = true
  · rw [if_pos hp]
    by_cases hl : ((o.take i).filter P).length < s
    · rw [List.take_of_length_le (l := (o.take i).filter P) (by omega), if_pos (by simp [hl, hp]), List.take_of_length_le (by rw [List.length_append, List.length_singleton]; omega)]
    · rw [if_neg (by simp only [List.length_take, Bool.and_eq_true, decide_eq_true_eq]; omega), List.take_append_of_le_length (by omega)]
  · rw [if_neg hp, List.append_nil, if_neg (by simp [hp])]
theorem batch_full {P : Int → Bool} {o : List Int} {i s : Nat} (h : s ≤ (((o.take i).filter P).take s).length) : (o.filter P).take s = ((o.take i).filter P).take s := by
  conv => lhs; rw [← List.take_append_drop i o, List.filter_append]
  rw [List.length_take] at h
  rw [List.take_append_of_le_length (by omega)]
/-- What is sent. -/
def sentR (l : List Cm) (ss rs : List Bool) (ws : List Int) : List Int := lst l.length fun k => ofB l ws k && !(comV l ss (rdsT l ss rs (endR l ss rs)).1 k)
def missR (l : List Cm) (rs : List Bool) (ws : List Int) : List Int := lst l.length fun k => ofB l ws k && !(rs.getD k false)
theorem end_ex {l : List Cm} {ss rs : List Bool} (hv : Valid l) : batR l ss rs (endR l ss rs) = [] ∧ (∀ p, p < endR l ss rs → batR l ss rs p ≠ []) := by
  have : ∃ r, batR l ss rs r = [] ∧ ∀ p, p < r → batR l ss rs p ≠ [] := by
    have hex : ∃ r, batR l ss rs r = [] := Classical.byContradiction fun h => by
      have := told_r_le hv (r := l.length + 1) (ss := ss) (rs := rs) fun p _ hp => h ⟨p, hp⟩
      omega
    obtain ⟨r, hr⟩ := hex
    induction r using Nat.strongRecOn with
    | ind r ih =>
      by_cases h : ∃ p, p < r ∧ batR l ss rs p = []
      · obtain ⟨p, h1, h2⟩ := h; exact ih p h1 h2
      · exact ⟨r, hr, fun p hp h2 => h ⟨p, hp, h2⟩⟩
  obtain ⟨r, h1, h2⟩ := this
  have e := end_at h1 (told_r_le hv h2) h2
  rw [e]; exact ⟨h1, h2⟩
theorem order_all {l : List Cm} (hv : Valid l) {k : Nat} (hk : k < l.length) : (k : Int) ∈ orderN l l.length := by
  have ho := ord_all hv l.length (Nat.le_refl _)
  refine Classical.byContradiction fun h => ?_
  have h1 : (orderN l l.length ++ [(k : Int)]).Nodup := by
    rw [List.nodup_append]; exact ⟨ho.nodup, by simp, fun a ha b hb => by rw [List.mem_singleton.1 hb]; rintro rfl; exact h ha⟩
  have h2 := nodup_len (n := l.length) h1 fun x hx => by
    rcases List.mem_append.1 hx with hx | hx
    · exact ho.inr x hx
    · rw [List.mem_singleton.1 hx]; omega
  rw [List.length_append, ho.len] at h2; simp at h2; omega
/-- At the end, what both are known to have is what the receiver has, among the sender's. -/
theorem com_end {l : List Cm} {ss rs : List Bool} {ws : List Int} (h : Neg l ss rs ws) {k : Nat} (hk : k < l.length) (hs : ss.getD k false = true) : comV l ss (rdsT l ss rs (endR l ss rs)).1 k = rs.getD k false := by
  obtain ⟨h1, h2⟩ := end_ex (ss := ss) (rs := rs) h.val
  have ht := told_r (ss := ss) (rs := rs) h.val (endR l ss rs)
  generalize hT : (rdsT l ss rs (endR l ss rs)).1 = told at *
  rw [Bool.eq_iff_iff]
  constructor
  · intro hc
    simp only [comV, List.any_eq_true, Bool.and_eq_true] at hc
    obtain ⟨t, htm, h3, h4⟩ := hc
    have hr := ht.inr t htm
    exact part_anc h.rg ((anc_iff h.val).1 h4) (by omega) h.val (ht.rcv t htm)
  · intro hr
    have hb : batch l ss rs told (sizeR (endR l ss rs)) = [] := by rw [← hT]; exact h1
    have hsz := sizeR_bnd (endR l ss rs)
    have hf : (orderN l l.length).filter (openB l ss rs told) = [] := by
      unfold batch at hb
      rcases List.take_eq_nil_iff.1 hb with h5 | h5
      · omega
      · exact h5
    have hno := List.filter_eq_nil_iff.1 hf _ (order_all h.val hk)
    rw [openB_eq (by omega)] at hno
    simp only [Int.toNat_natCast, hr, Bool.true_and, Bool.not_eq_true, Bool.and_eq_false_iff, Bool.not_eq_false', Bool.not_eq_true'] at hno
    rcases hno with h6 | h6
    · simp only [mark, decide_eq_true_eq] at h6
      simp only [comV, List.any_eq_true, Bool.and_eq_true]
      exact ⟨(k : Int), h6, by simpa using hs, by rw [Int.toNat_natCast]; exact ancB_self h.val k⟩
    · exact h6
theorem sent_miss {l : List Cm} {ss rs : List Bool} {ws : List Int} (h : Neg l ss rs ws) : sentR l ss rs ws = missR l rs ws := by
  refine lst_ext fun k hk => ?_
  cases ho : ofB l ws k
  · rfl
  · obtain ⟨w, hw, ha⟩ := (of_iff h.val).1 ho
    have hr := h.inr w hw
    rw [com_end h hk (part_anc h.sg ha (by omega) h.val (h.snd w hw))]

def gapG : List AV → Option (Prop × AV)
  | [.d (.sl xs), .d (.sl bs)] => some (xs = rows eC (dC xs) ∧ bs = rows eB (dB bs) ∧ Valid (dC xs) ∧ (dB bs).length = (dC xs).length, .d (.int .i64 (gapI (dC xs) (dB bs) (dC xs).length)))
  | _ => none
def negG : List AV → Option (Prop × AV)
  | [.d (.sl xs), .d (.sl ss), .d (.sl rs), .d (.sl ws)] => some (xs = rows eC (dC xs) ∧ ss = rows eB (dB ss) ∧ rs = rows eB (dB rs) ∧ ws = rows eI (dI ws) ∧ (dC xs).length ≤ 9223372036854775807 ∧ smallC (dC xs) ∧ (dB ss).length ≤ 9223372036854775807 ∧ (dB rs).length ≤ 9223372036854775807 ∧ (dI ws).length ≤ 9223372036854775807,
      .agg [.d (.int .i64 (negF (dC xs) (dB ss) (dB rs) (dI ws)).1), .d (.int .i64 (negF (dC xs) (dB ss) (dB rs) (dI ws)).2)])
  | _ => none
def withG : List AV → Option (Prop × AV)
  | [.d (.sl xs), .d (.sl ws), .d (.sl bs)] => some (xs = rows eC (dC xs) ∧ ws = rows eI (dI ws) ∧ bs = rows eB (dB bs) ∧ Valid (dC xs) ∧ InR (dC xs).length (dI ws) ∧ (dI ws).length ≤ 1000 ∧ (dB bs).length = (dC xs).length, .d (.sl (rows eI (lst (dC xs).length fun k => ofB (dC xs) (dI ws) k && !((dB bs).getD k false)))))
  | _ => none
def missG : List AV → Option (Prop × AV)
  | [.d (.sl xs), .d (.sl ss), .d (.sl rs), .d (.sl ws)] => some (xs = rows eC (dC xs) ∧ ss = rows eB (dB ss) ∧ rs = rows eB (dB rs) ∧ ws = rows eI (dI ws) ∧ (dC xs).length ≤ 9223372036854775807 ∧ smallC (dC xs) ∧ (dB ss).length ≤ 9223372036854775807 ∧ (dB rs).length ≤ 9223372036854775807 ∧ (dI ws).length ≤ 9223372036854775807,
      .tup [.d (.sl (rows eI (if (negF (dC xs) (dB ss) (dB rs) (dI ws)).1 = 0 then missR (dC xs) (dB rs) (dI ws) else []))), .agg [.d (.int .i64 (negF (dC xs) (dB ss) (dB rs) (dI ws)).1), .d (.int .i64 (negF (dC xs) (dB ss) (dB rs) (dI ws)).2)]])
  | _ => none
def runG : List AV → Option (Prop × AV)
  | [.d (.sl xs), .d (.sl ss), .d (.sl rs), .d (.sl ws)] => some (xs = rows eC (dC xs) ∧ ss = rows eB (dB ss) ∧ rs = rows eB (dB rs) ∧ ws = rows eI (dI ws) ∧ (dC xs).length ≤ 9223372036854775807 ∧ smallC (dC xs) ∧ (dB ss).length ≤ 9223372036854775807 ∧ (dB rs).length ≤ 9223372036854775807 ∧ (dI ws).length ≤ 9223372036854775807,
      .tup [.d (.sl (rows (eL eI) (if (negF (dC xs) (dB ss) (dB rs) (dI ws)).1 = 0 then (rdsT (dC xs) (dB ss) (dB rs) (endR (dC xs) (dB ss) (dB rs))).2 else []))), .d (.sl (rows eI (if (negF (dC xs) (dB ss) (dB rs) (dI ws)).1 = 0 then sentR (dC xs) (dB ss) (dB rs) (dI ws) else []))), .agg [.d (.int .i64 (negF (dC xs) (dB ss) (dB rs) (dI ws)).1), .d (.int .i64 (negF (dC xs) (dB ss) (dB rs) (dI ws)).2)]])
  | _ => none
theorem lack_F {bs : List Bool} {p : Int} {b : Bool} (h : bs[p.toNat]? = some b) : lackB bs p = !b := by unfold lackB; rw [getD_of h]
theorem bad_eq {l : List Cm} {bs : List Bool} {i : Nat} {c : Cm} {b : Bool} (hc : l[i]? = some c) (hb : bs[i]? = some b) : badP l bs i = (b && c.par.any (lackB bs)) := by unfold badP; rw [getD_of hc, getD_of hb]
theorem negF_hist {l : List Cm} {ss rs : List Bool} {ws : List Int} (h : (histF l).1 ≠ 0) : negF l ss rs ws = histF l := if_pos h
theorem negF_s {l : List Cm} {ss rs : List Bool} {ws : List Int} (h : (histF l).1 = 0) (h1 : ss.length ≠ l.length) : negF l ss rs ws = (9, -1) := by unfold negF; rw [if_neg (by simp [h]), if_pos h1]
theorem negF_r {l : List Cm} {ss rs : List Bool} {ws : List Int} (h : (histF l).1 = 0) (h1 : ss.length = l.length) (h2 : rs.length ≠ l.length) : negF l ss rs ws = (9, -2) := by unfold negF; rw [if_neg (by simp [h]), if_neg (by simp [h1]), if_pos h2]
theorem negF_gs {l : List Cm} {ss rs : List Bool} {ws : List Int} (h : (histF l).1 = 0) (h1 : ss.length = l.length) (h2 : rs.length = l.length) (h3 : 0 ≤ gapI l ss l.length) : negF l ss rs ws = (5, gapI l ss l.length) := by
  unfold negF; rw [if_neg (by simp [h]), if_neg (by simp [h1]), if_neg (by simp [h2]), if_pos h3]
theorem negF_gr {l : List Cm} {ss rs : List Bool} {ws : List Int} (h : (histF l).1 = 0) (h1 : ss.length = l.length) (h2 : rs.length = l.length) (h3 : ¬0 ≤ gapI l ss l.length) (h4 : 0 ≤ gapI l rs l.length) : negF l ss rs ws = (5, -3 - gapI l rs l.length) := by
  unfold negF; rw [if_neg (by simp [h]), if_neg (by simp [h1]), if_neg (by simp [h2]), if_neg h3, if_pos h4]
theorem negF_w {l : List Cm} {ss rs : List Bool} {ws : List Int} (h : (histF l).1 = 0) (h1 : ss.length = l.length) (h2 : rs.length = l.length) (h3 : ¬0 ≤ gapI l ss l.length) (h4 : ¬0 ≤ gapI l rs l.length) : negF l ss rs ws = if 60 < ws.length then (2, -1) else scanW (fun i => (wantAt l.length ss (ws.getD i 0), (i : Int))) ws.length := by
  unfold negF; rw [if_neg (by simp [h]), if_neg (by simp [h1]), if_neg (by simp [h2]), if_neg h3, if_neg h4]
theorem negF_many {l : List Cm} {ss rs : List Bool} {ws : List Int} (h : (histF l).1 = 0) (h1 : ss.length = l.length) (h2 : rs.length = l.length) (h3 : ¬0 ≤ gapI l ss l.length) (h4 : ¬0 ≤ gapI l rs l.length) (h5 : 60 < ws.length) : negF l ss rs ws = (2, -1) := by
  rw [negF_w h h1 h2 h3 h4, if_pos h5]
theorem negF_at {l : List Cm} {ss rs : List Bool} {ws : List Int} (h : (histF l).1 = 0) (h1 : ss.length = l.length) (h2 : rs.length = l.length) (h3 : ¬0 ≤ gapI l ss l.length) (h4 : ¬0 ≤ gapI l rs l.length) (h5 : ¬60 < ws.length) {i : Nat} {x : Int} (hx : ws[i]? = some x) (hj : ∀ j, j < i → wantAt l.length ss (ws.getD j 0) = 0) (hb : wantAt l.length ss x = 6) : negF l ss rs ws = (6, (i : Int)) := by
  rw [negF_w h h1 h2 h3 h4, if_neg h5, scanW_hit (List.getElem?_eq_some_iff.1 hx).1 hj (by simp only [getD_of hx, hb]; omega)]; simp only [getD_of hx, hb]
theorem negF_ok {l : List Cm} {ss rs : List Bool} {ws : List Int} (h : (histF l).1 = 0) (h1 : ss.length = l.length) (h2 : rs.length = l.length) (h3 : ¬0 ≤ gapI l ss l.length) (h4 : ¬0 ≤ gapI l rs l.length) (h5 : ¬60 < ws.length) (hj : ∀ j, j < ws.length → wantAt l.length ss (ws.getD j 0) = 0) : negF l ss rs ws = (0, 0) := by
  rw [negF_w h h1 h2 h3 h4, if_neg h5, scanW_none hj]
theorem want_0 {n : Nat} {ss : List Bool} {x : Int} (h0 : 0 ≤ x) (h1 : x < n) (h2 : ss[x.toNat]? = some true) : wantAt n ss x = 0 := if_pos ⟨⟨h0, h1⟩, getD_of h2⟩
theorem want_6 {n : Nat} {ss : List Bool} {x : Int} (h : ¬(0 ≤ x ∧ x < n)) : wantAt n ss x = 6 := if_neg fun h2 => h h2.1
theorem want_6s {n : Nat} {ss : List Bool} {x : Int} (h : ss[x.toNat]? = some false) : wantAt n ss x = 6 := if_neg fun h2 => by rw [getD_of h] at h2; cases h2.2
theorem par_any_snoc {ps : List Int} {k : Nat} {p : Int} {bs : List Bool} {b : Bool} (h : ps[k]? = some p) (hb : bs[p.toNat]? = some b) : (ps.take (k + 1)).any (lackB bs) = ((ps.take k).any (lackB bs) || !b) := by
  rw [any_snoc h, lack_F hb]
theorem any_of_at {ps : List Int} {k : Nat} {p : Int} {bs : List Bool} (h : ps[k]? = some p) (hb : bs[p.toNat]? = some false) : ps.any (lackB bs) = true := List.any_eq_true.2 ⟨p, mem_at h, by rw [lack_F hb]; rfl⟩
end Go.Proofs.Ytaoifpmifpmhmaa
