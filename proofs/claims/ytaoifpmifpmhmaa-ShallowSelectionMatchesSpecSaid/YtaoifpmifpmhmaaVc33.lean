/- The Vc layer: what an argument's data is, by its type; facts about types by closed Booleans. -/
import Derived.Test.YtaoifpmifpmhmaaVc25
set_option linter.all false
namespace Go.Vc
open Go Go.RowKit

section
variable {P : Program} {k : Nat} {t e : TypeId}
def isI64 (P : Program) (t : TypeId) : Bool := match P.underlying t with | some (.int .i64) => true | _ => false
def isU8 (P : Program) (t : TypeId) : Bool := match P.underlying t with | some (.int .u8) => true | _ => false
def isBool (P : Program) (t : TypeId) : Bool := match P.underlying t with | some .bool => true | _ => false
def isStr (P : Program) (t : TypeId) : Bool := match P.underlying t with | some .string => true | _ => false
def isSl (P : Program) (t e : TypeId) : Bool := match P.underlying t with | some (.slice x) => x == e | _ => false
/-- A struct of so many cells, its fields' places, sizes and types. -/
def isRec (P : Program) (t : TypeId) (n : Nat) (l : List (Nat × Nat × TypeId)) : Bool := match P.underlying t with
  | some (.struct fs) => P.cellsOf t == n && (fs.toList.map fun f => (f.offset, P.cellsOf f.type, f.type)) == l
  | _ => false
theorem isI64_eq (h : isI64 P t = true) : P.underlying t = some (.int .i64) := by
  unfold isI64 at h; split at h
  · assumption
  · cases h
theorem isU8_eq (h : isU8 P t = true) : P.underlying t = some (.int .u8) := by
  unfold isU8 at h; split at h
  · assumption
  · cases h
theorem isBool_eq (h : isBool P t = true) : P.underlying t = some .bool := by
  unfold isBool at h; split at h
  · assumption
  · cases h
theorem isStr_eq (h : isStr P t = true) : P.underlying t = some .string := by
  unfold isStr at h; split at h
  · assumption
  · cases h
theorem isSl_eq (h : isSl P t e = true) : P.underlying t = some (.slice e) := by
  unfold isSl at h; split at h
  · rename_i x hx; rw [hx, beq_iff_eq.1 h]
  · cases h
theorem wt_i64 {ds : List D} (h : WT P (k + 1) t ds) (ht : isI64 P t = true) : ∃ n, ds = eI n ∧ inI64 n := by
  unfold WT at h; rw [isI64_eq ht] at h
  obtain ⟨n, rfl, hn⟩ := h
  refine ⟨n, rfl, ?_⟩
  simp only [Lit.wf, Bool.and_eq_true, decide_eq_true_eq] at hn
  exact hn
theorem wt_u8 {ds : List D} (h : WT P (k + 1) t ds) (ht : isU8 P t = true) : ∃ b, ds = eU b := by
  unfold WT at h; rw [isU8_eq ht] at h
  obtain ⟨n, rfl, hn⟩ := h
  simp only [Lit.wf, Bool.and_eq_true, decide_eq_true_eq] at hn
  have h1 : (0 : Int) ≤ n := hn.1
  have h2 : n ≤ 255 := hn.2
  refine ⟨UInt8.ofNat n.toNat, ?_⟩
  have : (UInt8.ofNat n.toNat).toNat = n.toNat := by rw [UInt8.toNat_ofNat']; omega
  simp only [eU, this]
  rw [Int.toNat_of_nonneg h1]
theorem wt_bool {ds : List D} (h : WT P (k + 1) t ds) (ht : isBool P t = true) : ∃ b, ds = eB b := by
  unfold WT at h; rw [isBool_eq ht] at h; exact h
theorem wt_str {ds : List D} (h : WT P (k + 1) t ds) (ht : isStr P t = true) : ∃ s, ds = eS s ∧ s.length ≤ 9223372036854775807 := by
  unfold WT at h; rw [isStr_eq ht] at h; exact h
theorem wt_sl {ds : List D} (h : WT P (k + 1) t ds) (ht : isSl P t e = true) : ∃ xs, ds = [.sl xs] ∧ xs.length ≤ 9223372036854775807 ∧ ∀ x ∈ xs, WT P k e x := by
  unfold WT at h; rw [isSl_eq ht] at h; exact h
theorem wt_rec {ds : List D} {n : Nat} {l : List (Nat × Nat × TypeId)} (h : WT P (k + 1) t ds) (ht : isRec P t n l = true) : ds.length = n ∧ ∀ o c u, (o, c, u) ∈ l → WT P k u ((ds.drop o).take c) := by
  unfold isRec at ht
  split at ht
  · rename_i fs hfs
    simp only [Bool.and_eq_true, beq_iff_eq] at ht
    unfold WT at h; rw [hfs] at h
    refine ⟨by rw [← ht.1]; exact h.1, fun o c u hm => ?_⟩
    rw [← ht.2] at hm
    obtain ⟨f, hf, he⟩ := List.mem_map.1 hm
    simp only [Prod.mk.injEq] at he
    obtain ⟨rfl, rfl, rfl⟩ := he
    exact h.2 f hf
  · cases ht
theorem rows_of {α : Type} {f : α → List D} {q : α → Prop} {xs : List (List D)} (h : ∀ x ∈ xs, ∃ a, x = f a ∧ q a) : ∃ l, xs = rows f l ∧ ∀ a ∈ l, q a := by
  induction xs with
  | nil => exact ⟨[], rfl, fun a h => by cases h⟩
  | cons x xs ih =>
    obtain ⟨a, rfl, ha⟩ := h x (by simp)
    obtain ⟨l, rfl, hl⟩ := ih fun y hy => h y (by simp [hy])
    exact ⟨a :: l, rfl, fun b hb => by rcases List.mem_cons.1 hb with rfl | hb; exact ha; exact hl b hb⟩
theorem wt_bytes {xs : List (List D)} (h : ∀ x ∈ xs, WT P (k + 1) e x) (he : isU8 P e = true) : ∃ l, xs = rows eU l := by
  obtain ⟨l, h, _⟩ := rows_of (f := eU) (q := fun _ => True) fun x hx => by obtain ⟨b, hb⟩ := wt_u8 (h x hx) he; exact ⟨b, hb, trivial⟩
  exact ⟨l, h⟩
theorem wt_bools {xs : List (List D)} (h : ∀ x ∈ xs, WT P (k + 1) e x) (he : isBool P e = true) : ∃ l, xs = rows eB l := by
  obtain ⟨l, h, _⟩ := rows_of (f := eB) (q := fun _ => True) fun x hx => by obtain ⟨b, hb⟩ := wt_bool (h x hx) he; exact ⟨b, hb, trivial⟩
  exact ⟨l, h⟩
theorem wt_ints {xs : List (List D)} (h : ∀ x ∈ xs, WT P (k + 1) e x) (he : isI64 P e = true) : ∃ l, xs = rows eI l ∧ ∀ n ∈ l, inI64 n := rows_of fun x hx => wt_i64 (h x hx) he
theorem argOk_one {c : AV} (h : ArgOk P k t c) (ht : ∀ fs, P.underlying t ≠ some (.struct fs)) (ht' : ∀ n e, P.underlying t ≠ some (.array n e)) : ∃ x, c = .d x ∧ WT P k t [x] := by
  unfold ArgOk at h
  split at h
  · rename_i fs hf; exact absurd hf (ht fs)
  · rename_i n e hf; exact absurd hf (ht' n e)
  · exact h
theorem arg_i64 {c : AV} (h : ArgOk P (k + 1) t c) (ht : isI64 P t = true) : ∃ n, c = .d (.int .i64 n) ∧ inI64 n := by
  have hu := isI64_eq ht
  obtain ⟨x, rfl, hx⟩ := argOk_one h (fun fs => by rw [hu]; simp) (fun n e => by rw [hu]; simp)
  obtain ⟨n, hn, hi⟩ := wt_i64 hx ht
  exact ⟨n, by simp only [eI, List.cons.injEq, and_true] at hn; rw [hn], hi⟩
theorem arg_bool {c : AV} (h : ArgOk P (k + 1) t c) (ht : isBool P t = true) : ∃ b, c = .d (.bool b) := by
  have hu := isBool_eq ht
  obtain ⟨x, rfl, hx⟩ := argOk_one h (fun fs => by rw [hu]; simp) (fun n e => by rw [hu]; simp)
  obtain ⟨n, hn⟩ := wt_bool hx ht
  exact ⟨n, by simp only [eB, List.cons.injEq, and_true] at hn; rw [hn]⟩
theorem arg_str {c : AV} (h : ArgOk P (k + 1) t c) (ht : isStr P t = true) : ∃ s, c = .d (.str s) ∧ s.length ≤ 9223372036854775807 := by
  have hu := isStr_eq ht
  obtain ⟨x, rfl, hx⟩ := argOk_one h (fun fs => by rw [hu]; simp) (fun n e => by rw [hu]; simp)
  obtain ⟨n, hn, hi⟩ := wt_str hx ht
  exact ⟨n, by simp only [eS, List.cons.injEq, and_true] at hn; rw [hn], hi⟩
theorem arg_sl {c : AV} (h : ArgOk P (k + 1) t c) (ht : isSl P t e = true) : ∃ xs, c = .d (.sl xs) ∧ xs.length ≤ 9223372036854775807 ∧ ∀ x ∈ xs, WT P k e x := by
  have hu := isSl_eq ht
  obtain ⟨x, rfl, hx⟩ := argOk_one h (fun fs => by rw [hu]; simp) (fun n e => by rw [hu]; simp)
  obtain ⟨xs, hn, hi⟩ := wt_sl hx ht
  exact ⟨xs, by simp only [List.cons.injEq, and_true] at hn; rw [hn], hi⟩
theorem arg_rec {c : AV} {n : Nat} {l : List (Nat × Nat × TypeId)} (h : ArgOk P (k + 1) t c) (ht : isRec P t n l = true) : ∃ ds : List D, c = .agg (ds.map .d) ∧ ds.length = n ∧ ∀ o c u, (o, c, u) ∈ l → WT P k u ((ds.drop o).take c) := by
  have hu : ∃ fs, P.underlying t = some (.struct fs) := by
    unfold isRec at ht
    split at ht
    · exact ⟨_, by assumption⟩
    · cases ht
  obtain ⟨fs, hu⟩ := hu
  unfold ArgOk at h
  rw [hu] at h
  obtain ⟨ds, rfl, hw⟩ := h
  exact ⟨ds, rfl, wt_rec hw ht⟩
/-- What a law asks of its arguments, one by one. -/
theorem lawOk_1 {t : TypeId} {g : List AV → Option (Prop × AV)} (h : ∀ a, ArgOk P k t a → ∃ p, g [a] = some (p, .d (.bool true)) ∧ p) : LawOk P k [t] g := by
  intro args hl ha
  match args, hl with
  | [a], _ => exact h a (ha 0 _ _ rfl rfl)
theorem lawOk_2 {t u : TypeId} {g : List AV → Option (Prop × AV)} (h : ∀ a b, ArgOk P k t a → ArgOk P k u b → ∃ p, g [a, b] = some (p, .d (.bool true)) ∧ p) : LawOk P k [t, u] g := by
  intro args hl ha
  match args, hl with
  | [a, b], _ => exact h a b (ha 0 _ _ rfl rfl) (ha 1 _ _ rfl rfl)
theorem lawOk_3 {t u v : TypeId} {g : List AV → Option (Prop × AV)} (h : ∀ a b c, ArgOk P k t a → ArgOk P k u b → ArgOk P k v c → ∃ p, g [a, b, c] = some (p, .d (.bool true)) ∧ p) : LawOk P k [t, u, v] g := by
  intro args hl ha
  match args, hl with
  | [a, b, c], _ => exact h a b c (ha 0 _ _ rfl rfl) (ha 1 _ _ rfl rfl) (ha 2 _ _ rfl rfl)
theorem lawOk_4 {t u v z : TypeId} {g : List AV → Option (Prop × AV)} (h : ∀ a b c d, ArgOk P k t a → ArgOk P k u b → ArgOk P k v c → ArgOk P k z d → ∃ p, g [a, b, c, d] = some (p, .d (.bool true)) ∧ p) : LawOk P k [t, u, v, z] g := by
  intro args hl ha
  match args, hl with
  | [a, b, c, d], _ => exact h a b c d (ha 0 _ _ rfl rfl) (ha 1 _ _ rfl rfl) (ha 2 _ _ rfl rfl) (ha 3 _ _ rfl rfl)
end
end Go.Vc
