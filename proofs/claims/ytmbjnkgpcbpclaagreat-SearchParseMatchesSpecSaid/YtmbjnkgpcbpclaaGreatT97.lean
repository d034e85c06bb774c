/- Walks, printed by wip/gen/walk.py. -/
import Derived.Test.YtmbjnkgpcbpclaaGreatT96
import Derived.Test.YtmbjnkgpcbpclaaGreatV5
set_option linter.all false
set_option maxRecDepth 100000
set_option maxHeartbeats 4000000
namespace Go.Proofs.YtmbjnkgpcbpclaaGreat
open Go Go.Vc Go.RowKit
structure Ms where
  ns : List Sn
  rs : List Int
  ops : List Int

def lastO (l : List Int) : Int := l.getLast?.getD 0
def rdM (m : Ms) : Ms := ⟨m.ns ++ [⟨lastO m.ops, [], m.rs.getD (m.rs.length - sar (lastO m.ops)) 0, if sar (lastO m.ops) = 2 then m.rs.getD (m.rs.length - sar (lastO m.ops) + 1) 0 else 0⟩],
  m.rs.take (m.rs.length - sar (lastO m.ops)) ++ [(m.ns.length : Int)], m.ops.dropLast⟩
def rdB (op : Int) (m : Ms) : Bool := decide (m.ops ≠ []) && (decide (0 ≤ sbi (lastO m.ops)) && (decide (op = 0) || decide (sbi op ≤ sbi (lastO m.ops))))
def rdW (op : Int) : Nat → Ms → Ms
  | 0, m => m
  | f + 1, m => if rdB op m = true then rdW op f (rdM m) else m
def rdyS (op : Int) (m : Ms) : Ms := rdW op m.ops.length m
def opS (t : Bs) (i : Nat) : Option Int := if t.getD i 0 = 124 then some 3 else if t.getD i 0 = 38 then some 2 else if i = t.length ∨ t.getD i 0 = 41 then some 0 else none
def pshS (m : Ms) (k : Int) : Ms := ⟨m.ns, m.rs, m.ops ++ [k]⟩
def popS (m : Ms) : Ms := ⟨m.ns, m.rs, m.ops.dropLast⟩
abbrev SX := Except (Int × Int) (List Sn)
def mS (t : Bs) : Nat → Nat → Bool → Ms → Option SX
  | 0, _, _, _ => none
  | f + 1, i, b, m =>
    if t.length < i then some (.ok m.ns)
    else if t[i]? = some 32 then mS t f (i + 1) b m
    else match b with
    | true => if t.getD i 0 = 34 then (match qtX t i m.ns with
        | .error e => some (.error e)
        | .ok (j, ns, x) => mS t f j false ⟨ns, m.rs ++ [(x : Int)], m.ops⟩)
      else if t.getD i 0 = 33 then mS t f (i + 1) true (pshS m 4)
      else if t.getD i 0 = 40 then mS t f (i + 1) true (pshS m 0)
      else some (.error (1, ((i : Nat) : Int)))
    | false => match opS t i with
      | none => some (.error (1, ((i : Nat) : Int)))
      | some op => if 0 < op then mS t f (i + 1) true (pshS (rdyS op m) op)
        else if decide (i = t.length) ≠ decide ((rdyS op m).ops = []) then some (.error (1, ((i : Nat) : Int)))
        else if i = t.length then mS t f (i + 1) false (rdyS op m) else mS t f (i + 1) false (popS (rdyS op m))
def RunS (t : Bs) (i : Nat) (b : Bool) (m : Ms) (z : SX) : Prop := ∃ f, mS t f i b m = some z
theorem lastO_snoc (l : List Int) (k : Int) : lastO (l ++ [k]) = k := by unfold lastO; rw [List.getLast?_concat]; rfl
theorem rdyS_no {op : Int} {m : Ms} (h : rdB op m = false) : rdyS op m = m := by
  unfold rdyS
  cases m.ops.length with
  | zero => rfl
  | succ n => unfold rdW; rw [if_neg (by rw [h]; simp)]
theorem rdB_lv {op : Int} {m : Ms} (h : sbi (lastO m.ops) < 0 ∨ (op ≠ 0 ∧ sbi (lastO m.ops) < sbi op)) : rdB op m = false := by
  unfold rdB
  rcases h with h | ⟨h0, h⟩
  · rw [decide_eq_false (p := 0 ≤ sbi (lastO m.ops)) (by omega)]; simp
  · rw [decide_eq_false (p := sbi op ≤ sbi (lastO m.ops)) (by omega), decide_eq_false h0]; simp
theorem rdyS_pre {op k : Int} {ns : List Sn} {rs ops : List Int} (h0 : 0 ≤ sbi k) (h : op = 0 ∨ sbi op ≤ sbi k) : rdyS op ⟨ns, rs, ops ++ [k]⟩ = rdyS op (rdM ⟨ns, rs, ops ++ [k]⟩) := by
  have hb : rdB op ⟨ns, rs, ops ++ [k]⟩ = true := by
    unfold rdB
    dsimp only
    rw [lastO_snoc, decide_eq_true h0, decide_eq_true (p := ops ++ [k] ≠ []) (by simp)]
    rcases h with h | h
    · rw [decide_eq_true h]; rfl
    · rw [decide_eq_true h]; simp
  unfold rdyS
  show rdW op (ops ++ [k]).length _ = rdW op (ops ++ [k]).dropLast.length _
  rw [List.dropLast_concat, List.length_append, List.length_singleton]
  conv => lhs; unfold rdW
  rw [if_pos hb]
theorem mS_f {t : Bs} {f i : Nat} {m : Ms} (hi : i ≤ t.length) (h32 : t[i]? ≠ some 32) : mS t (f + 1) i false m = match opS t i with
      | none => some (.error (1, ((i : Nat) : Int)))
      | some op => if 0 < op then mS t f (i + 1) true (pshS (rdyS op m) op)
        else if decide (i = t.length) ≠ decide ((rdyS op m).ops = []) then some (.error (1, ((i : Nat) : Int)))
        else if i = t.length then mS t f (i + 1) false (rdyS op m) else mS t f (i + 1) false (popS (rdyS op m)) := by
  conv => lhs; unfold mS
  rw [if_neg (by omega), if_neg h32]
theorem mS_t {t : Bs} {f i : Nat} {m : Ms} (hi : i ≤ t.length) (h32 : t[i]? ≠ some 32) : mS t (f + 1) i true m = if t.getD i 0 = 34 then (match qtX t i m.ns with
        | .error e => some (.error e)
        | .ok (j, ns, x) => mS t f j false ⟨ns, m.rs ++ [(x : Int)], m.ops⟩)
      else if t.getD i 0 = 33 then mS t f (i + 1) true (pshS m 4)
      else if t.getD i 0 = 40 then mS t f (i + 1) true (pshS m 0)
      else some (.error (1, ((i : Nat) : Int))) := by
  conv => lhs; unfold mS
  rw [if_neg (by omega), if_neg h32]
theorem run_pre {t : Bs} {i : Nat} {k : Int} {ns : List Sn} {rs ops : List Int} {z : SX} (hi : i ≤ t.length) (h32 : t[i]? ≠ some 32) (h0 : 0 ≤ sbi k) (h : ∀ op, opS t i = some op → op = 0 ∨ sbi op ≤ sbi k) (hr : RunS t i false (rdM ⟨ns, rs, ops ++ [k]⟩) z) : RunS t i false ⟨ns, rs, ops ++ [k]⟩ z := by
  obtain ⟨f, hf⟩ := hr
  refine ⟨f, ?_⟩
  cases f with
  | zero => cases hf
  | succ f =>
    rw [mS_f hi h32] at hf ⊢
    cases ho : opS t i with
    | none => rw [ho] at hf; exact hf
    | some op =>
      rw [ho] at hf
      dsimp only at hf ⊢
      rw [rdyS_pre h0 (h op ho)]; exact hf
theorem run_sk {t : Bs} {b : Bool} {m : Ms} {z : SX} : ∀ (d a : Nat), a ≤ t.length → t.length - a = d → RunS t (skS t a) b m z → RunS t a b m z
  | 0, a, ha, hd, h => by
    have : skS t a = a := skS_stop (by rw [List.getElem?_eq_none (by omega)]; simp)
    rwa [this] at h
  | d + 1, a, ha, hd, h => by
    by_cases h32 : t[a]? = some 32
    · rw [← skS_step h32] at h
      obtain ⟨f, hf⟩ := run_sk d (a + 1) (by omega) (by omega) h
      refine ⟨f + 1, ?_⟩
      unfold mS
      rw [if_neg (by omega), if_pos h32]; exact hf
    · rwa [skS_stop h32] at h
theorem run_un {t : Bs} {b : Bool} {m : Ms} {z : SX} : ∀ (d a : Nat), a ≤ t.length → t.length - a = d → RunS t a b m z → RunS t (skS t a) b m z
  | 0, a, ha, hd, h => by
    have : skS t a = a := skS_stop (by rw [List.getElem?_eq_none (by omega)]; simp)
    rwa [this]
  | d + 1, a, ha, hd, h => by
    by_cases h32 : t[a]? = some 32
    · rw [← skS_step h32]
      refine run_un d (a + 1) (by omega) (by omega) ?_
      obtain ⟨f, hf⟩ := h
      cases f with
      | zero => cases hf
      | succ f =>
        unfold mS at hf
        rw [if_neg (by omega), if_pos h32] at hf
        exact ⟨f, hf⟩
    · rwa [skS_stop h32]
theorem skS_not {t : Bs} : ∀ (d a : Nat), a ≤ t.length → t.length - a = d → t[skS t a]? ≠ some 32
  | 0, a, ha, hd => by
    have h : t[a]? ≠ some 32 := by rw [List.getElem?_eq_none (by omega)]; simp
    rw [skS_stop h]; exact h
  | d + 1, a, ha, hd => by
    by_cases h32 : t[a]? = some 32
    · rw [← skS_step h32]; exact skS_not d (a + 1) (by omega) (by omega)
    · rw [skS_stop h32]; exact h32
theorem skS_no {t : Bs} {a : Nat} (h : a ≤ t.length) : t[skS t a]? ≠ some 32 := skS_not _ a h rfl
theorem skS_idem {t : Bs} {a : Nat} (h : a ≤ t.length) : skS t (skS t a) = skS t a := skS_stop (skS_no h)
theorem red_two {ns : List Sn} {rs ops : List Int} {k x y : Int} (h : sar k = 2) : rdM ⟨ns, rs ++ [x] ++ [y], ops ++ [k]⟩ = ⟨ns ++ [⟨k, [], x, y⟩], rs ++ [(ns.length : Int)], ops⟩ := by
  have hl : (rs ++ [x] ++ [y]).length - 2 = rs.length := by simp
  unfold rdM
  dsimp only
  rw [lastO_snoc, h, hl, List.dropLast_concat, if_pos rfl]
  have e1 : (rs ++ [x] ++ [y]).getD rs.length 0 = x := by simp [List.getD_eq_getElem?_getD]
  have e2 : (rs ++ [x] ++ [y]).getD (rs.length + 1) 0 = y := by simp [List.getD_eq_getElem?_getD]
  have e3 : (rs ++ [x] ++ [y]).take rs.length = rs := by rw [List.append_assoc, List.take_left]
  rw [e1, e2, e3]
theorem red_one {ns : List Sn} {rs ops : List Int} {k x : Int} (ha : sar k = 1) : rdM ⟨ns, rs ++ [x], ops ++ [k]⟩ = ⟨ns ++ [⟨k, [], x, 0⟩], rs ++ [(ns.length : Int)], ops⟩ := by
  have hl : (rs ++ [x]).length - 1 = rs.length := by simp
  unfold rdM
  dsimp only
  rw [lastO_snoc, ha, hl, List.dropLast_concat, if_neg (by omega)]
  have e1 : (rs ++ [x]).getD rs.length 0 = x := by simp [List.getD_eq_getElem?_getD]
  have e3 : (rs ++ [x]).take rs.length = rs := by rw [List.take_left]
  rw [e1, e3]
theorem run_op {t : Bs} {i : Nat} {op : Int} {ns : List Sn} {rs ops : List Int} {z : SX} (hi : i ≤ t.length) (h32 : t[i]? ≠ some 32) (h : opS t i = some op) (h0 : 0 < op) (hl : sbi (lastO ops) < sbi op) (hr : RunS t (i + 1) true ⟨ns, rs, ops ++ [op]⟩ z) : RunS t i false ⟨ns, rs, ops⟩ z := by
  obtain ⟨f, hf⟩ := hr
  refine ⟨f + 1, ?_⟩
  rw [mS_f hi h32, h]
  dsimp only
  rw [if_pos h0, rdyS_no (rdB_lv (.inr ⟨by omega, hl⟩))]
  exact hf
def Cj (j : Nat) (ops : List Int) : Prop := j < 2 → sbi (lastO ops) < j
def Hj (j : Nat) (t : Bs) (a : Nat) : Prop := ∀ k, j ≤ k → k < 2 → t.getD (skS t a) 0 ≠ sgn k
def AgR (t : Bs) (a : Nat) (ns : List Sn) (j : Nat) (r : PX) : Prop := match r with
  | .error (c, k) => c ≠ 0 → ∀ rs ops, Cj j ops → RunS t a true ⟨ns, rs, ops⟩ (.error (c, k))
  | .ok (a', ns', x) => a' ≤ t.length ∧ Hj j t a' ∧ ∀ rs ops z, Cj j ops → RunS t a' false ⟨ns', rs ++ [(x : Int)], ops⟩ z → RunS t a true ⟨ns, rs, ops⟩ z
def AgL (t : Bs) (a : Nat) (ns : List Sn) (y : Nat) (j : Nat) (r : PX) : Prop := match r with
  | .error (c, k) => c ≠ 0 → ∀ rs ops, Cj j ops → RunS t a false ⟨ns, rs ++ [(y : Int)], ops⟩ (.error (c, k))
  | .ok (a', ns', x) => a' ≤ t.length ∧ Hj j t a' ∧ ∀ rs ops z, Cj j ops → RunS t a' false ⟨ns', rs ++ [(x : Int)], ops⟩ z → RunS t a false ⟨ns, rs ++ [(y : Int)], ops⟩ z
def Ag (t : Bs) (sub : Nat → List Sn → PX) (j : Nat) : Prop := ∀ a ns, a ≤ t.length → AgR t a ns j (sub a ns)
theorem ag_bind {t : Bs} {a : Nat} {ns : List Sn} {j i : Nat} {r : PX} {k : Nat → List Sn → Nat → PX} (hj : j ≤ i) (h1 : AgR t a ns i r) (h2 : ∀ a' ns' x, r = .ok (a', ns', x) → a' ≤ t.length → Hj i t a' → AgL t a' ns' x j (k a' ns' x)) : AgR t a ns j (bndX r k) := by
  have hC : ∀ ops, Cj j ops → Cj i ops := fun ops hc hi => by
    have := hc (by omega); omega
  match r, h1, h2 with
  | .error (c, e), h1, _ => exact fun hc rs ops ho => h1 hc rs ops (hC _ ho)
  | .ok (a', ns', x), h1, h2 =>
    obtain ⟨g1, g2, g3⟩ := h1
    have := h2 a' ns' x rfl g1 g2
    show AgR t a ns j (k a' ns' x)
    match hk : k a' ns' x, this with
    | .error (c, e), this => exact fun hc rs ops ho => g3 rs ops _ (hC _ ho) (this hc rs ops ho)
    | .ok (a2, n2, y), this => exact ⟨this.1, this.2.1, fun rs ops z ho hz => g3 rs ops z (hC _ ho) (this.2.2 rs ops z ho hz)⟩
theorem sgn_op {t : Bs} {i j : Nat} (hj : j < 2) (h : t.getD i 0 = sgn j) : opS t i = some (kdm j) ∧ 0 < kdm j ∧ sbi (kdm j) = j ∧ sar (kdm j) = 2 := by
  match j, hj with
  | 0, _ =>
    have h : t.getD i 0 = 124 := h
    exact ⟨by unfold opS; rw [if_pos h]; rfl, by decide, rfl, rfl⟩
  | 1, _ =>
    have h : t.getD i 0 = 38 := h
    exact ⟨by unfold opS; rw [if_neg (by rw [h]; decide), if_pos h]; rfl, by decide, rfl, rfl⟩
theorem opS_lv {t : Bs} {a : Nat} {op : Int} {j : Nat} (h : opS t (skS t a) = some op) (hH : Hj (j + 1) t a) : op = 0 ∨ sbi op ≤ (j : Int) := by
  unfold opS at h
  split at h
  · obtain rfl := Option.some.inj h; exact .inr (by show (0 : Int) ≤ _; omega)
  · split at h
    · rename_i hw
      obtain rfl := Option.some.inj h
      by_cases hj : j = 0
      · subst hj; exact absurd hw (hH 1 (by omega) (by omega))
      · exact .inr (by show (1 : Int) ≤ _; omega)
    · split at h
      · exact .inl (Option.some.inj h).symm
      · cases h
theorem run_red {t : Bs} {a j : Nat} {k : Int} {ns : List Sn} {rs ops : List Int} {z : SX} (ha : a ≤ t.length) (hk : sbi k = (j : Int)) (hH : Hj (j + 1) t a) (h : RunS t a false (rdM ⟨ns, rs, ops ++ [k]⟩) z) : RunS t a false ⟨ns, rs, ops ++ [k]⟩ z :=
  run_sk _ a ha rfl (run_pre (skS_le ha).2 (skS_no ha) (by omega) (fun op ho => by rw [hk]; exact opS_lv ho hH) (run_un _ a ha rfl h))
theorem ag_loop {t : Bs} {sub : Nat → List Sn → PX} {j : Nat} (hj : j < 2) (hs : Ag t sub (j + 1)) : ∀ (g a : Nat) (ns : List Sn) (x : Nat), a ≤ t.length → Hj (j + 1) t a → AgL t a ns x j (lpX sub t j g a ns x)
  | 0, a, ns, x, _, _ => fun h => absurd rfl h
  | g + 1, a, ns, x, ha, hH => by
    obtain ⟨k1, k2⟩ := skS_le ha
    have h32 := skS_no ha
    unfold lpX
    split
    · rename_i h0
      obtain ⟨o1, o2, o3, o4⟩ := sgn_op hj h0
      have hlt := (getD_lt h0 (sgn_ne j)).1
      generalize kdm j = op at *
      have hCo : ∀ ops, Cj (j + 1) (ops ++ [op]) := fun ops _ => by rw [lastO_snoc, o3]; omega
      have hgo : ∀ rs ops z, Cj j ops → RunS t (skS t a + 1) true ⟨ns, rs ++ [(x : Int)], ops ++ [op]⟩ z → RunS t a false ⟨ns, rs ++ [(x : Int)], ops⟩ z := fun rs ops z hC hz =>
        run_sk _ a ha rfl (run_op k2 h32 o1 o2 (by rw [o3]; exact hC hj) hz)
      have h1 := hs (skS t a + 1) ns (by omega)
      match hsub : sub (skS t a + 1) ns, h1 with
      | .error (c, e), h1 => exact fun hc rs ops hC => hgo rs ops _ hC (h1 hc _ _ (hCo ops))
      | .ok (a1, n1, y), h1 =>
        obtain ⟨g1, g2, g3⟩ := h1
        have ih := ag_loop hj hs g a1 (n1 ++ [⟨op, [], (x : Int), (y : Int)⟩]) n1.length g1 g2
        have hred : ∀ rs ops z, RunS t a1 false ⟨n1 ++ [⟨op, [], (x : Int), (y : Int)⟩], rs ++ [(n1.length : Int)], ops⟩ z → RunS t a1 false ⟨n1, rs ++ [(x : Int)] ++ [(y : Int)], ops ++ [op]⟩ z := fun rs ops z hz => by
          refine run_red g1 o3 g2 ?_
          rw [red_two o4]; exact hz
        show AgL t a ns x j (lpX sub t j g a1 (n1 ++ [⟨op, [], (x : Int), (y : Int)⟩]) n1.length)
        revert ih
        generalize lpX sub t j g a1 (n1 ++ [⟨op, [], (x : Int), (y : Int)⟩]) n1.length = R
        intro ih
        match R, ih with
        | .error (c, e), ih => exact fun hc rs ops hC => hgo rs ops _ hC (g3 _ _ _ (hCo ops) (hred _ _ _ (ih hc rs ops hC)))
        | .ok (a2, n2, w), ih => exact ⟨ih.1, ih.2.1, fun rs ops z hC hz => hgo rs ops _ hC (g3 _ _ _ (hCo ops) (hred _ _ _ (ih.2.2 rs ops z hC hz)))⟩
    · rename_i h0
      refine ⟨k2, fun k h1 h2 => ?_, fun rs ops z _ hz => run_sk _ a ha rfl hz⟩
      rw [skS_idem ha]
      by_cases hk : k = j
      · rw [hk]; exact h0
      · exact hH k (by omega) h2
theorem Hj2 (t : Bs) (a : Nat) : Hj 2 t a := fun k h1 h2 => by omega
theorem Cj2 (ops : List Int) : Cj 2 ops := fun h => by omega
theorem run_t {t : Bs} {a : Nat} {m : Ms} {z : SX} (ha : a ≤ t.length) (h : ∃ f, (if t.getD (skS t a) 0 = 34 then (match qtX t (skS t a) m.ns with
        | .error e => some (.error e)
        | .ok (j, ns, x) => mS t f j false ⟨ns, m.rs ++ [(x : Int)], m.ops⟩)
      else if t.getD (skS t a) 0 = 33 then mS t f (skS t a + 1) true (pshS m 4)
      else if t.getD (skS t a) 0 = 40 then mS t f (skS t a + 1) true (pshS m 0)
      else some (.error (1, ((skS t a : Nat) : Int)))) = some z) : RunS t a true m z := by
  obtain ⟨f, hf⟩ := h
  exact run_sk _ a ha rfl ⟨f + 1, by rw [mS_t (skS_le ha).2 (skS_no ha)]; exact hf⟩
theorem ag_un {t : Bs} {un qu : Nat → List Sn → PX} (hu : Ag t un 2) (hq : Ag t qu 0) : Ag t (unX un qu t) 2 := by
  intro a ns ha
  obtain ⟨k1, k2⟩ := skS_le ha
  unfold unX
  split
  · rename_i hc
    have hlt := (getD_lt hc (by decide)).1
    have hgo : ∀ rs ops z, RunS t (skS t a + 1) true ⟨ns, rs, ops ++ [4]⟩ z → RunS t a true ⟨ns, rs, ops⟩ z := fun rs ops z ⟨f, hf⟩ => run_t ha ⟨f, by
      rw [if_neg (by rw [hc]; decide), if_pos hc]; exact hf⟩
    have h1 := hu (skS t a + 1) ns (by omega)
    match hs : un (skS t a + 1) ns, h1 with
    | .error (c, e), h1 => exact fun hc rs ops _ => hgo rs ops _ (h1 hc _ _ (Cj2 _))
    | .ok (a1, n1, x), h1 =>
      obtain ⟨g1, g2, g3⟩ := h1
      refine ⟨g1, Hj2 _ _, fun rs ops z _ hz => hgo rs ops _ (g3 _ _ _ (Cj2 _) ?_)⟩
      refine run_red (j := 2) g1 rfl (fun k h1 h2 => by omega) ?_
      rw [red_one rfl]; exact hz
  · rename_i h33
    split
    · rename_i hc
      have hlt := (getD_lt hc (by decide)).1
      have hgo : ∀ rs ops z, RunS t (skS t a + 1) true ⟨ns, rs, ops ++ [0]⟩ z → RunS t a true ⟨ns, rs, ops⟩ z := fun rs ops z ⟨f, hf⟩ => run_t ha ⟨f, by
        rw [if_neg (by rw [hc]; decide), if_neg h33, if_pos hc]; exact hf⟩
      have hCo : ∀ ops : List Int, Cj 0 (ops ++ [0]) := fun ops _ => by rw [lastO_snoc]; decide
      have h1 := hq (skS t a + 1) ns (by omega)
      match hs : qu (skS t a + 1) ns, h1 with
      | .error (c, e), h1 => exact fun hc rs ops _ => hgo rs ops _ (h1 hc _ _ (hCo _))
      | .ok (a1, n1, x), h1 =>
        obtain ⟨g1, g2, g3⟩ := h1
        obtain ⟨j1, j2⟩ := skS_le g1
        have hno : ∀ op (rs ops : List Int), rdyS op ⟨n1, rs, ops ++ [0]⟩ = ⟨n1, rs, ops ++ [0]⟩ := fun op rs ops => rdyS_no (rdB_lv (.inl (by show sbi (lastO (ops ++ [0])) < 0; rw [lastO_snoc]; decide)))
        show AgR t a ns 2 (if t.getD (skS t a1) 0 = 41 then .ok (skS t a1 + 1, n1, x) else .error (1, ((skS t a1 : Nat) : Int)))
        split
        · rename_i h41
          have hl1 := (getD_lt h41 (by decide)).1
          refine ⟨by omega, Hj2 _ _, fun rs ops z _ hz => hgo rs ops _ (g3 _ _ _ (hCo _) (run_sk _ a1 g1 rfl ?_))⟩
          obtain ⟨f, hf⟩ := hz
          refine ⟨f + 1, ?_⟩
          have ho : opS t (skS t a1) = some 0 := by
            unfold opS; rw [if_neg (by rw [h41]; decide), if_neg (by rw [h41]; decide), if_pos (.inr h41)]
          rw [mS_f j2 (skS_no g1), ho]
          dsimp only
          rw [if_neg (by omega), hno, decide_eq_false (p := skS t a1 = t.length) (by omega), decide_eq_false (p := ops ++ [0] = []) (by simp), if_neg (by simp), if_neg (by omega)]
          unfold popS
          dsimp only
          rw [List.dropLast_concat]; exact hf
        · rename_i h41
          refine fun _ rs ops _ => hgo rs ops _ (g3 _ _ _ (hCo _) (run_sk _ a1 g1 rfl ⟨1, ?_⟩))
          rw [mS_f j2 (skS_no g1)]
          have e1 : t.getD (skS t a1) 0 ≠ 124 := g2 0 (by omega) (by omega)
          have e2 : t.getD (skS t a1) 0 ≠ 38 := g2 1 (by omega) (by omega)
          unfold opS
          rw [if_neg e1, if_neg e2]
          by_cases hl : skS t a1 = t.length
          · rw [if_pos (.inl hl)]
            dsimp only
            rw [if_neg (by omega), hno, decide_eq_true hl, decide_eq_false (p := ops ++ [0] = []) (by simp), if_pos (by simp)]
          · rw [if_neg (fun h => h.elim hl h41)]
    · rename_i h40
      split
      · rename_i hc
        have hlt := (getD_lt hc (by decide)).1
        have hgo : ∀ rs ops z, (∃ f, (match qtX t (skS t a) ns with
            | .error e => some (.error e)
            | .ok (j, ns, x) => mS t f j false ⟨ns, rs ++ [(x : Int)], ops⟩) = some z) → RunS t a true ⟨ns, rs, ops⟩ z := fun rs ops z ⟨f, hf⟩ => run_t ha ⟨f, by
          rw [if_pos hc]; exact hf⟩
        match hs : qtX t (skS t a) ns with
        | .error (c, e) => exact fun hc rs ops _ => hgo rs ops _ ⟨0, by rw [hs]⟩
        | .ok (a1, n1, x) =>
          have hr := qt_fit hlt (qtX_ok hs)
          exact ⟨hr.1.2.1, Hj2 _ _, fun rs ops z _ ⟨f, hf⟩ => hgo rs ops _ ⟨f, by rw [hs]; exact hf⟩⟩
      · rename_i h34
        exact fun _ rs ops _ => run_t ha ⟨0, by rw [if_neg h34, if_neg h33, if_neg h40]⟩
theorem ag_all {t : Bs} : ∀ (f : Nat), Ag t (rdX t f 0) 0 ∧ Ag t (rdX t f 1) 1 ∧ Ag t (rdX t f 2) 2 ∧ Ag t (rdX t f 3) 2
  | 0 => ⟨fun _ _ _ h => absurd rfl h, fun _ _ _ h => absurd rfl h, fun _ _ _ h => absurd rfl h, fun _ _ _ h => absurd rfl h⟩
  | f + 1 => by
    obtain ⟨i0, i1, i2, i3⟩ := ag_all (t := t) f
    refine ⟨fun a ns ha => ?_, fun a ns ha => ?_, fun a ns ha => ?_, fun a ns ha => ?_⟩
    · rw [show rdX t (f + 1) 0 a ns = bndX (rdX t f 1 a ns) fun a' ns' x => lpX (rdX t f 1) t 0 (t.length + 1) a' ns' x from rfl]
      exact ag_bind (by omega) (i1 a ns ha) fun a' ns' x _ h1 h2 => ag_loop (by omega) i1 _ a' ns' x h1 h2
    · rw [show rdX t (f + 1) 1 a ns = bndX (rdX t f 2 a ns) fun a' ns' x => lpX (rdX t f 2) t 1 (t.length + 1) a' ns' x from rfl]
      exact ag_bind (by omega) (i2 a ns ha) fun a' ns' x _ h1 h2 => ag_loop (by omega) i2 _ a' ns' x h1 h2
    · exact i3 a ns ha
    · rw [rdX_un]
      exact ag_un i3 i0 a ns ha
def NoZ {α : Type} (r : Except (Int × Int) α) : Prop := ∀ c k, r = .error (c, k) → c ≠ 0
theorem noz_ok {α : Type} (x : α) : NoZ (.ok x : Except (Int × Int) α) := fun _ _ h => by cases h
theorem noz_e {α : Type} {c k : Int} (h : c ≠ 0) : NoZ (.error (c, k) : Except (Int × Int) α) := fun _ _ h' => by cases h'; exact h
theorem qd_noz {t : Bs} : ∀ (f a : Nat) (s : Bs), a ≤ t.length → t.length - a < f → NoZ (qdX t f a s)
  | 0, a, s, _, h => by omega
  | f + 1, a, s, ha, hf => by
    unfold qdX
    split
    · exact noz_e (by decide)
    · rename_i c hc
      have hl := (List.getElem?_eq_some_iff.1 hc).1
      split
      · exact noz_ok _
      · split
        · exact noz_e (by decide)
        · split
          · split
            · exact noz_e (by decide)
            · rename_i d hd
              have hl2 := (List.getElem?_eq_some_iff.1 hd).1
              split
              · exact qd_noz f (a + 2) _ (by omega) (by omega)
              · exact noz_e (by decide)
          · exact qd_noz f (a + 1) _ (by omega) (by omega)
theorem qt_noz {t : Bs} {a : Nat} (ha : a < t.length) (ns : List Sn) : NoZ (qtX t a ns) := by
  unfold qtX
  split
  · split
    · exact noz_ok _
    · exact noz_e (by decide)
  · rename_i e he
    intro c k h
    cases h
    exact qd_noz _ _ _ (by omega) (by omega) c k he
theorem bnd_noz {r : PX} {k : Nat → List Sn → Nat → PX} (h1 : NoZ r) (h2 : ∀ a ns x, r = .ok (a, ns, x) → NoZ (k a ns x)) : NoZ (bndX r k) := by
  match r, h1, h2 with
  | .error (c, e), h1, _ => intro c' k' h; cases h; exact h1 _ _ rfl
  | .ok (a, ns, x), _, h2 => exact h2 a ns x rfl
theorem lp_noz {t : Bs} {sub : Nat → List Sn → PX} {m b : Nat} (hs : ∀ a ns, b ≤ a → a ≤ t.length → NoZ (sub a ns)) (hf : ∀ a ns, a ≤ t.length → ∀ a' ns' x, sub a ns = .ok (a', ns', x) → a ≤ a' ∧ a' ≤ t.length) : ∀ (g a : Nat) (ns : List Sn) (x : Nat), b ≤ a → a ≤ t.length → t.length - a < g → NoZ (lpX sub t m g a ns x)
  | 0, a, ns, x, _, _, h => by omega
  | g + 1, a, ns, x, hb, ha, hg => by
    have hk := skS_le ha
    unfold lpX
    split
    · rename_i hc
      have hl := (getD_lt hc (sgn_ne m)).1
      refine bnd_noz (hs _ _ (by omega) (by omega)) fun a' ns' y he => ?_
      have := hf _ _ (by omega) _ _ _ he
      exact lp_noz hs hf g a' _ _ (by omega) this.2 (by omega)
    · exact noz_ok _
theorem rdX_fit {t : Bs} {f m a : Nat} {ns : List Sn} (ha : a ≤ t.length) {a' : Nat} {ns' : List Sn} {x : Nat} (h : rdX t f m a ns = .ok (a', ns', x)) : a ≤ a' ∧ a' ≤ t.length := by
  have := (rd_fit t f m a ns ha a' ns' x (rdX_ok h)).1
  exact ⟨this.1, this.2.1⟩
theorem rd_noz {t : Bs} : ∀ (f m a : Nat) (ns : List Sn), m ≤ 3 → a ≤ t.length → 4 * (t.length - a) + (4 - m) ≤ f → NoZ (rdX t f m a ns)
  | 0, m, a, ns, hm, ha, h => by omega
  | f + 1, m, a, ns, hm, ha, hf => by
    unfold rdX
    split
    · rename_i h3
      obtain ⟨k1, k2⟩ := skS_le ha
      unfold unX
      split
      · rename_i hc
        have hl := (getD_lt hc (by decide)).1
        exact bnd_noz (rd_noz f 3 _ _ (by omega) (by omega) (by omega)) fun a' ns' x _ => noz_ok _
      · split
        · rename_i hc
          have hl := (getD_lt hc (by decide)).1
          refine bnd_noz (rd_noz f 0 _ _ (by omega) (by omega) (by omega)) fun a' ns' x _ => ?_
          split
          · exact noz_ok _
          · exact noz_e (by decide)
        · split
          · rename_i hc
            exact qt_noz (getD_lt hc (by decide)).1 _
          · exact noz_e (by decide)
    · rename_i h3
      split
      · rename_i h2
        exact rd_noz f 3 _ _ (by omega) ha (by omega)
      · rename_i h2
        refine bnd_noz (rd_noz f (m + 1) _ _ (by omega) ha (by omega)) fun a' ns' x he => ?_
        have hf1 := rdX_fit ha he
        exact lp_noz (b := a) (fun a1 n1 h1 h2 => rd_noz f (m + 1) _ _ (by omega) h2 (by omega)) (fun a1 n1 h1 a2 n2 y h => rdX_fit h1 h) _ _ _ _ hf1.1 hf1.2 (by omega)
def limS (z : SX) : SX := match z with
  | .error e => .error e
  | .ok ns => if 40 < ns.length then .error (10, -1) else .ok ns
def ms0 : Ms := ⟨[], [], []⟩
theorem ag_text {t : Bs} (hl : t.length ≤ 300) : ∃ z, RunS t 0 true ms0 z ∧ limS z = parX t := by
  have hA := (ag_all (t := t) 2000).1 0 [] (Nat.zero_le _)
  have hN := rd_noz (t := t) 2000 0 0 [] (by omega) (Nat.zero_le _) (by omega)
  have hC : Cj 0 [] := fun _ => by decide
  unfold parX
  rw [if_neg (by omega)]
  match hr : rdX t 2000 0 0 [], hA, hN with
  | .error (c, k), hA, hN => exact ⟨_, hA (hN c k rfl) [] [] hC, rfl⟩
  | .ok (a, ns, x), hA, _ =>
    obtain ⟨g1, g2, g3⟩ := hA
    obtain ⟨k1, k2⟩ := skS_le g1
    have hno : ∀ op rs, rdyS op ⟨ns, rs, []⟩ = ⟨ns, rs, []⟩ := fun op rs => rfl
    have e1 : t.getD (skS t a) 0 ≠ 124 := g2 0 (by omega) (by omega)
    have e2 : t.getD (skS t a) 0 ≠ 38 := g2 1 (by omega) (by omega)
    dsimp only
    by_cases hp : skS t a < t.length
    · rw [if_pos hp]
      refine ⟨.error (1, ((skS t a : Nat) : Int)), g3 [] [] _ hC (run_sk _ a g1 rfl ⟨1, ?_⟩), rfl⟩
      rw [mS_f k2 (skS_no g1)]
      unfold opS
      rw [if_neg e1, if_neg e2]
      by_cases h41 : t.getD (skS t a) 0 = 41
      · rw [if_pos (.inr h41)]
        dsimp only
        rw [if_neg (by omega), hno, decide_eq_false (p := skS t a = t.length) (by omega)]
        rfl
      · rw [if_neg (fun h => h.elim (by omega) h41)]
    · rw [if_neg hp]
      have hp : skS t a = t.length := by omega
      refine ⟨.ok ns, g3 [] [] _ hC (run_sk _ a g1 rfl ⟨2, ?_⟩), rfl⟩
      rw [mS_f k2 (skS_no g1)]
      unfold opS
      rw [if_neg e1, if_neg e2, if_pos (.inl hp)]
      dsimp only
      rw [if_neg (by omega), hno, decide_eq_true hp, if_neg (by simp), if_pos hp]
      unfold mS
      rw [if_pos (by omega)]
end Go.Proofs.YtmbjnkgpcbpclaaGreat
