/- Walks, printed by wip/gen/walk.py. -/
import Derived.Test.YtlbjffdaooadoaaDoorT4
import Derived.Test.YtlbjffdaooadoaaDoorV5
set_option linter.all false
set_option maxRecDepth 100000
set_option maxHeartbeats 4000000
namespace Go.Proofs.YtlbjffdaooadoaaDoor
open Go Go.Vc Go.RowKit
structure Cm where
  par : List Int
  au : Int
  ti : Int
  tr : Int
  ms : List UInt8
  deriving DecidableEq, Inhabited
def eC (c : Cm) : List D := [.sl (rows eI c.par), .int .i64 c.au, .int .i64 c.ti, .int .i64 c.tr, .str c.ms]
def dC1 (x : List D) : Cm := match x with
  | [.sl p, .int _ a, .int _ t, .int _ r, .str s] => ⟨dI p, a, t, r, s⟩
  | _ => ⟨[], 0, 0, 0, []⟩
def dC : List (List D) → List Cm := List.map dC1
theorem dC_rows (l : List Cm) : dC (rows eC l) = l := by
  simp only [dC, rows, List.map_map]
  conv => rhs; rw [← List.map_id l]
  refine List.map_congr_left fun c _ => ?_
  simp only [Function.comp, eC, dC1, dI_rows, id]
theorem rect_eC (l : List Cm) : Rect 5 (rows eC l) := rows_rect (f := eC) (fun _ => rfl) l
def scan (f : Nat → Int) : Nat → Int
  | 0 => 0
  | n + 1 => if scan f n ≠ 0 then scan f n else f n
theorem scan_none {f : Nat → Int} {n : Nat} (h : ∀ j, j < n → f j = 0) : scan f n = 0 := by
  induction n with
  | zero => rfl
  | succ n ih => rw [scan, ih fun j hj => h j (by omega), if_neg (by simp), h n (by omega)]
theorem scan_hit {f : Nat → Int} {k n : Nat} (hk : k < n) (h : ∀ j, j < k → f j = 0) (hf : f k ≠ 0) : scan f n = f k := by
  induction n with
  | zero => omega
  | succ n ih =>
    rw [scan]
    by_cases hkn : k = n
    · subst hkn; rw [scan_none h, if_neg (by simp)]
    · have := ih (by omega); rw [this, if_pos hf]
theorem scan_zero {f : Nat → Int} {n : Nat} (h : scan f n = 0) : ∀ j, j < n → f j = 0 := by
  induction n with
  | zero => intro j hj; omega
  | succ n ih =>
    rw [scan] at h
    split at h
    · rename_i h'; exact absurd h h'
    · rename_i h'
      simp only [ne_eq, Decidable.not_not] at h'
      intro j hj
      by_cases hjn : j = n
      · subst hjn; exact h
      · exact ih h' j (by omega)
def scanW (f : Nat → Int × Int) : Nat → Int × Int
  | 0 => (0, 0)
  | n + 1 => if (scanW f n).1 ≠ 0 then scanW f n else if (f n).1 ≠ 0 then f n else (0, 0)
theorem scanW_none {f : Nat → Int × Int} {n : Nat} (h : ∀ j, j < n → (f j).1 = 0) : scanW f n = (0, 0) := by
  induction n with
  | zero => rfl
  | succ n ih => rw [scanW, ih fun j hj => h j (by omega), if_neg (by simp), if_neg (by simp [h n (by omega)])]
theorem scanW_hit {f : Nat → Int × Int} {k n : Nat} (hk : k < n) (h : ∀ j, j < k → (f j).1 = 0) (hf : (f k).1 ≠ 0) : scanW f n = f k := by
  induction n with
  | zero => omega
  | succ n ih =>
    rw [scanW]
    by_cases hkn : k = n
    · subst hkn; rw [scanW_none h, if_neg (by simp), if_pos hf]
    · have := ih (by omega); rw [this, if_pos hf]
theorem scanW_zero {f : Nat → Int × Int} {n : Nat} (h : (scanW f n).1 = 0) : ∀ j, j < n → (f j).1 = 0 := by
  induction n with
  | zero => intro j hj; omega
  | succ n ih =>
    rw [scanW] at h
    split at h
    · rename_i h'; exact absurd h h'
    · rename_i h'
      simp only [ne_eq, Decidable.not_not] at h'
      intro j hj
      by_cases hjn : j = n
      · subst hjn
        split at h
        · rename_i h2; exact absurd h h2
        · rename_i h2; simpa using h2
      · exact ih h' j (by omega)
def parAt (l : List Int) (i : Int) (k : Nat) : Int :=
  if ¬(0 ≤ l.getD k 0 ∧ l.getD k 0 < i) then 3 else if 0 < k ∧ l.getD k 0 ≤ l.getD (k - 1) 0 then 5 else 0
def cmF (c : Cm) (i : Int) : Int :=
  if 3 < c.par.length then 2 else if scan (parAt c.par i) c.par.length ≠ 0 then scan (parAt c.par i) c.par.length
  else if ¬(0 ≤ c.au ∧ c.au ≤ 7) ∨ ¬(0 ≤ c.ti ∧ c.ti ≤ 100000) ∨ ¬(0 ≤ c.tr ∧ c.tr < 2305843009213693951) then 3 else if 80 < c.ms.length then 10 else 0
def histF (l : List Cm) : Int × Int := if 60 < l.length then (2, -1) else scanW (fun i => (cmF (l.getD i default) i, (i : Int))) l.length
structure Valid (l : List Cm) : Prop where
  len : l.length ≤ 60
  few : ∀ {i : Nat} {c : Cm}, l[i]? = some c → c.par.length ≤ 3
  par : ∀ {i : Nat} {c : Cm}, l[i]? = some c → ∀ {k : Nat} {p : Int}, c.par[k]? = some p → 0 ≤ p ∧ p < i
  inc : ∀ {i : Nat} {c : Cm}, l[i]? = some c → ∀ {k : Nat} {p q : Int}, c.par[k]? = some p → c.par[k + 1]? = some q → p < q
  nums : ∀ {i : Nat} {c : Cm}, l[i]? = some c → (0 ≤ c.au ∧ c.au ≤ 7) ∧ (0 ≤ c.ti ∧ c.ti ≤ 100000) ∧ (0 ≤ c.tr ∧ c.tr < 2305843009213693951) ∧ c.ms.length ≤ 80
theorem getD_of {α : Type} {l : List α} {i : Nat} {c d : α} (h : l[i]? = some c) : l.getD i d = c := by simp [List.getD, h]
theorem cmF_zero {c : Cm} {i : Int} (h : cmF c i = 0) : c.par.length ≤ 3 ∧ (∀ k, k < c.par.length → parAt c.par i k = 0) ∧ (0 ≤ c.au ∧ c.au ≤ 7) ∧ (0 ≤ c.ti ∧ c.ti ≤ 100000) ∧ (0 ≤ c.tr ∧ c.tr < 2305843009213693951) ∧ c.ms.length ≤ 80 := by
  unfold cmF at h
  split at h
  · cases h
  · rename_i h1
    split at h
    · rename_i h2; exact absurd h h2
    · rename_i h2
      split at h
      · cases h
      · rename_i h3
        split at h
        · cases h
        · rename_i h4
          have h5 := scan_zero (by simpa using h2)
          have h3' : (0 ≤ c.au ∧ c.au ≤ 7) ∧ (0 ≤ c.ti ∧ c.ti ≤ 100000) ∧ (0 ≤ c.tr ∧ c.tr < 2305843009213693951) := by omega
          exact ⟨by omega, h5, h3'.1, h3'.2.1, h3'.2.2, by omega⟩
theorem valid_of {l : List Cm} (h : (histF l).1 = 0) : Valid l := by
  unfold histF at h
  split at h
  · cases h
  · rename_i hl
    have hz := scanW_zero h
    have key : ∀ {i : Nat} {c : Cm}, l[i]? = some c → cmF c i = 0 := fun {i c} hc => by
      have hi := (List.getElem?_eq_some_iff.1 hc).1
      have := hz i hi
      simp only [getD_of hc] at this
      exact this
    refine ⟨by omega, fun hc => (cmF_zero (key hc)).1, fun {i c} hc {k p} hp => ?_, fun {i c} hc {k p q} hp hq => ?_, fun hc => (cmF_zero (key hc)).2.2⟩
    · have h1 := (cmF_zero (key hc)).2.1 k (List.getElem?_eq_some_iff.1 hp).1
      unfold parAt at h1
      rw [getD_of hp] at h1
      split at h1
      · cases h1
      · rename_i h2; exact Decidable.not_not.1 h2
    · have h1 := (cmF_zero (key hc)).2.1 (k + 1) (List.getElem?_eq_some_iff.1 hq).1
      unfold parAt at h1
      rw [Nat.add_sub_cancel, getD_of hp, getD_of hq] at h1
      split at h1
      · cases h1
      · split at h1
        · cases h1
        · rename_i h3; omega
def selK (s : List Bool) (i : Nat) : List Int := ((List.range i).filter fun j => s.getD j false).map fun (j : Nat) => (j : Int)
theorem selK_in {s : List Bool} {i : Nat} (h : s[i]? = some true) : selK s (i + 1) = selK s i ++ [(i : Int)] := by
  have this : s[i]?.getD false = true := by rw [h]; rfl
  unfold selK; rw [List.range_succ, List.filter_append, List.map_append]; simp [List.filter_cons, this]
theorem selK_out {s : List Bool} {i : Nat} (h : s[i]? = some false) : selK s (i + 1) = selK s i := by
  have this : s[i]?.getD false = false := by rw [h]; rfl
  unfold selK; rw [List.range_succ, List.filter_append, List.map_append]; simp [List.filter_cons, this]
theorem selK_len (s : List Bool) (i : Nat) : (selK s i).length ≤ i := by
  unfold selK; rw [List.length_map]
  exact Nat.le_trans (List.length_filter_le ..) (by rw [List.length_range]; exact Nat.le_refl _)
def selG : List AV → Option (Prop × AV)
  | [.d (.sl xs)] => some (xs = rows eB (dB xs) ∧ (dB xs).length ≤ 1000, .d (.sl (rows eI (selK (dB xs) (dB xs).length))))
  | _ => none
def minK (a b : List Bool) (i : Nat) : List Bool := (List.range a.length).map fun j => decide (j < i) && (a.getD j false && !b.getD j false)
theorem minK_len (a b : List Bool) (i : Nat) : (minK a b i).length = a.length := by unfold minK; simp
theorem minK_zero (a b : List Bool) : minK a b 0 = List.replicate a.length false := by
  apply List.ext_getElem?
  intro j
  unfold minK
  rw [List.getElem?_map]
  by_cases h : j < a.length
  · rw [List.getElem?_range h, List.getElem?_replicate_of_lt h]; simp
  · rw [List.getElem?_eq_none (by rw [List.length_range]; omega), List.getElem?_eq_none (by rw [List.length_replicate]; omega)]; rfl
theorem minK_set {a b : List Bool} {i : Nat} {x y : Bool} (hx : a[i]? = some x) (hy : b[i]? = some y) : (minK a b i).set i (x && !y) = minK a b (i + 1) := by
  have hi : i < a.length := (List.getElem?_eq_some_iff.1 hx).1
  apply List.ext_getElem?
  intro j
  rw [List.getElem?_set, minK_len]
  by_cases hj : i = j
  · subst hj
    rw [if_pos rfl, if_pos hi]
    unfold minK
    rw [List.getElem?_map, List.getElem?_range hi]
    simp [List.getD_eq_getElem?_getD, hx, hy]
  · rw [if_neg hj]
    unfold minK
    rw [List.getElem?_map, List.getElem?_map]
    by_cases h : j < a.length
    · rw [List.getElem?_range h]
      have : decide (j < i) = decide (j < i + 1) := by rw [decide_eq_decide]; omega
      simp only [Option.map_some, this]
    · rw [List.getElem?_eq_none (by rw [List.length_range]; omega)]; rfl
def minG : List AV → Option (Prop × AV)
  | [.d (.sl xs), .d (.sl ys)] => some (xs = rows eB (dB xs) ∧ (dB xs).length ≤ 1000 ∧ ys = rows eB (dB ys) ∧ (dB ys).length = (dB xs).length, .d (.sl (rows eB (minK (dB xs) (dB ys) (dB xs).length))))
  | _ => none

theorem selq_meets : Meets Tryd.prog 72 (Spec.pure selG) := by
 refine meets_fun (E_limit.at_ 20) Tryd.func72 rfl rfl rfl ?_
 intro args p r hg hp
 unfold selG at hg
 split at hg
 rename_i xs
 simp only [Option.some.injEq, Prod.mk.injEq] at hg
 obtain ⟨rfl, rfl⟩ := hg
 obtain ⟨he, hl⟩ := hp
 generalize dB xs = z at *
 subst he
 have hs0 : selK z 0 = [] := rfl
 have hT : (E_limit).X = T := rfl
 have hx0 := And.intro @dB_rows @Tryd.results72
 have hx := hx0
 refine ⟨by rfl, ?_⟩
 intro F W0 hnp hmk
 refine vc_seq_k fun N1 h1 => ?_
 refine u_reg ?_
 try refine lg_mk ?_
 refine u_mv ?_
 refine lg_nil ?_
 refine h1 _ ?_; clear h1; try clear N1
 refine vc_seq_k fun N2 h2 => ?_
 refine u_reg ?_
 try refine lg_mk ?_
 refine u_mv ?_
 refine lg_nil ?_
 refine h2 _ ?_; clear h2; try clear N2
 refine vc_seq_k fun N3 h3 => ?_
 refine vc_seq_k fun N4 h4 => ?_
 refine u_reg ?_
 try refine lg_mk ?_
 refine u_mv ?_
 refine u_ln ?_
 refine u_mv ?_
 refine lg_nil ?_
 refine h4 _ ?_; clear h4; try clear N4
 refine vc_block ?_
 refine vc_loop_mk (σ := Nat) (fun s => (fun i => i ≤ z.length) s)
  (fun s => (fun i => [(0, .d (.sl (rows eB z))), (3, .sl 0 0 (selK z i).length), (6, .d (.sl (rows eB z))), (7, .d (.int .i64 (z.length : Nat))), (8, .d (.int .i64 (i : Nat)))]) s)
  (fun s => (fun i => [some (.vec 3 1 (rows eI (selK z i)))]) s) (fun s => (fun i => z.length - i) s) hnp 0 ?_ [none] ?_ ?_
 dsimp only
 omega
 dsimp only
 refine ⟨by rfl, ?_, ?_⟩
 refine fin_ ?_
 exact cl_
 refine fin_ ?_
 exact cl_
 rintro i hinv N5 h5
 dsimp only at hinv ⊢
 have i1 := hinv
 refine vc_seq_k fun N6 h6 => ?_
 refine u_reg ?_
 try refine lg_mk ?_
 refine u_bn ?_
 refine lg_nil ?_
 refine h6 _ ?_; clear h6; try clear N6
 refine vc_seq_k fun N7 h7 => ?_
 refine u_cond (fun hb8 => ?_) (fun hb8 => ?_)
 obtain ⟨x, hxe⟩ := getE (l := z) (i := i) (by have := hb8; omega)
 have hsl := selK_len z i
 have hst : (selK z i).take (selK z i).length = selK z i := List.take_length
 refine vc_skip ?_
 try simp only [k_rules]
 refine h7 _ ?_; clear h7; try clear N7
 refine vc_seq_k fun N9 h9 => ?_
 refine vc_block ?_
 refine vc_seq_k fun N10 h10 => ?_
 have hx := And.intro @hxe (And.intro @eB.eq_1 hx0)
 refine u_reg ?_
 try refine lg_mk ?_
 refine u_mv ?_
 refine u_pt ?_
 refine u_ld ?_
 iterate 2 refine u_mv ?_
 refine lg_nil ?_
 have hx := hx0
 refine h10 _ ?_; clear h10; try clear N10
 refine vc_seq_k fun N11 h11 => ?_
 refine u_reg ?_
 try refine lg_mk ?_
 refine u_mv ?_
 refine lg_nil ?_
 refine h11 _ ?_; clear h11; try clear N11
 refine u_cond (fun hb12 => ?_) (fun hb12 => ?_)
 have hx1 : x = true := by simpa using hb12
 subst hx1
 have hsn := selK_in hxe
 refine u_reg ?_
 try refine lg_mk ?_
 iterate 2 refine u_mv ?_
 refine u_bs ?_
 refine u_ap ?_
 refine u_mv ?_
 refine lg_nil ?_
 refine h9 _ ?_; clear h9; try clear N9
 refine u_reg ?_
 try refine lg_mk ?_
 refine u_bn ?_
 refine u_mv ?_
 refine lg_nil ?_
 refine h5 _ ⟨i + 1, ?_, ?_, [some 2], ?_⟩
 dsimp only
 omega
 dsimp only
 omega
 dsimp only
 refine ⟨by rfl, ?_, ?_⟩
 refine fin_ ?_
 ·(repeat' apply And.intro) <;> (first | (first | rfl | trivial | omega | (rw [hsn, hst]; simp [rows, eI]; done) | (rw [hsn]; simp; done)) | exact cl_)
 refine fin_ ?_
 ·(repeat' apply And.intro) <;> (first | (first | rfl | trivial | omega | (rw [hsn, hst]; simp [rows, eI]; done) | (rw [hsn]; simp; done)) | exact cl_)
 have hx1 : x = false := by simpa using hb12
 subst hx1
 have hsn := selK_out hxe
 refine vc_skip ?_
 try simp only [k_rules]
 refine h9 _ ?_; clear h9; try clear N9
 refine u_reg ?_
 try refine lg_mk ?_
 refine u_bn ?_
 refine u_mv ?_
 refine lg_nil ?_
 refine h5 _ ⟨i + 1, ?_, ?_, [some 0], ?_⟩
 dsimp only
 omega
 dsimp only
 omega
 dsimp only
 refine ⟨by rfl, ?_, ?_⟩
 refine fin_ ?_
 ·(repeat' apply And.intro) <;> (first | (first | rfl | trivial | omega | (rw [hsn]; done) | (left; rw [hsn]; done)) | exact cl_)
 refine fin_ ?_
 ·(repeat' apply And.intro) <;> (first | (first | rfl | trivial | omega | (rw [hsn]; done) | (left; rw [hsn]; done)) | exact cl_)
 obtain rfl : i = z.length := by have := hb8; omega
 have hst : (selK z z.length).take (selK z z.length).length = selK z z.length := List.take_length
 refine vc_exit ?_
 simp only [k_rules, Nat.reduceEqDiff, reduceIte, eq_self]
 refine h3 _ ?_; clear h3; try clear N3
 refine vc_seq_k fun N13 h13 => ?_
 refine u_reg ?_
 try refine lg_mk ?_
 iterate 2 refine u_mv ?_
 refine lg_nil ?_
 refine h13 _ ?_; clear h13; try clear N13
 refine vc_ret ?_
 try simp only [k_rules]
 refine fin2_ ?_
 ·(repeat' apply And.intro) <;> (first | (first | rfl | trivial | omega | (rw [hst]; done) | (left; rw [hst]; done)) | exact cl_)
 cases hg

def E_selq : Env Tryd.prog := E_limit.add 72 (Spec.pure selG) selq_meets (by kernel_rfl)

theorem minq_meets : Meets Tryd.prog 50 (Spec.pure minG) := by
 refine meets_fun (E_selq.at_ 31) Tryd.func50 rfl rfl rfl ?_
 intro args p r hg hp
 unfold minG at hg
 split at hg
 rename_i xs ys
 simp only [Option.some.injEq, Prod.mk.injEq] at hg
 obtain ⟨rfl, rfl⟩ := hg
 obtain ⟨he, hl, he2, hl2⟩ := hp
 generalize dB xs = a at *
 generalize dB ys = b at *
 subst he he2
 have hm0 := minK_zero a b
 have hT : (E_selq).X = T := rfl
 have hx0 := And.intro @dB_rows (And.intro @minK_len @Tryd.results50)
 have hx := hx0
 refine ⟨by rfl, ?_⟩
 intro F W0 hnp hmk
 refine vc_seq_k fun N1 h1 => ?_
 refine u_reg ?_
 try refine lg_mk ?_
 refine u_mv ?_
 refine lg_nil ?_
 refine h1 _ ?_; clear h1; try clear N1
 refine vc_seq_k fun N2 h2 => ?_
 refine u_reg ?_
 try refine lg_mk ?_
 refine u_mv ?_
 refine u_ln ?_
 refine u_ms ?_
 refine u_mv ?_
 refine lg_nil ?_
 refine h2 _ ?_; clear h2; try clear N2
 refine vc_seq_k fun N3 h3 => ?_
 refine vc_seq_k fun N4 h4 => ?_
 refine u_reg ?_
 try refine lg_mk ?_
 refine u_mv ?_
 refine u_ln ?_
 refine u_mv ?_
 refine lg_nil ?_
 refine h4 _ ?_; clear h4; try clear N4
 refine vc_block ?_
 refine vc_loop_mk (σ := Nat) (fun s => (fun i => i ≤ a.length) s)
  (fun s => (fun i => [(0, .d (.sl (rows eB a))), (1, .d (.sl (rows eB b))), (5, .sl 0 0 a.length), (11, .d (.int .i64 (a.length : Nat))), (12, .d (.int .i64 (i : Nat)))]) s)
  (fun s => (fun i => [some (.vec 4 1 (rows eB (minK a b i)))]) s) (fun s => (fun i => a.length - i) s) hnp 0 ?_ [some 0] ?_ ?_
 dsimp only
 omega
 dsimp only
 refine ⟨by rfl, ?_, ?_⟩
 refine fin_ ?_
 ·(repeat' apply And.intro) <;> (first | (first | rfl | trivial | omega | (rw [hm0]; done) | (rw [hm0]; simp [rows, eB]; done)) | exact cl_)
 refine fin_ ?_
 ·(repeat' apply And.intro) <;> (first | (first | rfl | trivial | omega | (rw [hm0]; done) | (rw [hm0]; simp [rows, eB]; done)) | exact cl_)
 rintro i hinv N5 h5
 dsimp only at hinv ⊢
 have i1 := hinv
 refine vc_seq_k fun N6 h6 => ?_
 refine u_reg ?_
 try refine lg_mk ?_
 refine u_bn ?_
 refine lg_nil ?_
 refine h6 _ ?_; clear h6; try clear N6
 refine vc_seq_k fun N7 h7 => ?_
 refine u_cond (fun hb8 => ?_) (fun hb8 => ?_)
 obtain ⟨x, hxe⟩ := getE (l := a) (i := i) (by have := hb8; omega)
 obtain ⟨y, hye⟩ := getE (l := b) (i := i) (by have := hb8; omega)
 have hms := minK_set hxe hye
 have hml := minK_len a b i
 obtain ⟨w, hwe⟩ := getE (l := minK a b i) (i := i) (by rw [hml]; have := hb8; omega)
 refine vc_skip ?_
 try simp only [k_rules]
 refine h7 _ ?_; clear h7; try clear N7
 refine vc_seq_k fun N9 h9 => ?_
 refine vc_block ?_
 refine vc_seq_k fun N10 h10 => ?_
 refine u_reg ?_
 try refine lg_mk ?_
 iterate 2 refine u_mv ?_
 refine lg_nil ?_
 refine h10 _ ?_; clear h10; try clear N10
 rcases (show x = true ∨ x = false by cases x <;> simp) with rfl | rfl
 have hms2 : (minK a b i).set i (!y) = minK a b (i + 1) := hms
 have hx := And.intro @hxe (And.intro @hye (And.intro @hwe (And.intro @eB.eq_1 hx0)))
 refine u_reg ?_
 try refine lg_mk ?_
 iterate 4 refine u_mv ?_
 refine u_pt ?_
 refine u_ld ?_
 refine u_mv ?_
 iterate 2 refine g_mv ?_
 refine g_pt ?_
 refine g_ld ?_
 refine g_un ?_
 refine u_pk ?_
 refine u_pt ?_
 refine u_st ?_
 refine lg_nil ?_
 have hx := hx0
 refine h9 _ ?_; clear h9; try clear N9
 refine u_reg ?_
 try refine lg_mk ?_
 refine u_bn ?_
 refine u_mv ?_
 refine lg_nil ?_
 refine h5 _ ⟨i + 1, ?_, ?_, [some 0], ?_⟩
 dsimp only
 omega
 dsimp only
 omega
 dsimp only
 refine ⟨by rfl, ?_, ?_⟩
 refine fin_ ?_
 ·(repeat' apply And.intro) <;> (first | (first | rfl | trivial | omega | (rw [← hms2]; simp [rows, eB]; done) | (rw [← hms2, rows_set]; done)) | exact cl_)
 refine fin_ ?_
 ·(repeat' apply And.intro) <;> (first | (first | rfl | trivial | omega | (rw [← hms2]; simp [rows, eB]; done) | (rw [← hms2, rows_set]; done)) | exact cl_)
 have hms2 : (minK a b i).set i false = minK a b (i + 1) := hms
 have hx := And.intro @hxe (And.intro @hye (And.intro @hwe (And.intro @eB.eq_1 hx0)))
 refine u_reg ?_
 try refine lg_mk ?_
 iterate 4 refine u_mv ?_
 refine u_pt ?_
 refine u_ld ?_
 refine u_mv ?_
 iterate 2 refine g_mv ?_
 refine g_pt ?_
 refine g_ld ?_
 refine g_un ?_
 refine u_pk ?_
 refine u_pt ?_
 refine u_st ?_
 refine lg_nil ?_
 have hx := hx0
 refine h9 _ ?_; clear h9; try clear N9
 refine u_reg ?_
 try refine lg_mk ?_
 refine u_bn ?_
 refine u_mv ?_
 refine lg_nil ?_
 refine h5 _ ⟨i + 1, ?_, ?_, [some 0], ?_⟩
 dsimp only
 omega
 dsimp only
 omega
 dsimp only
 refine ⟨by rfl, ?_, ?_⟩
 refine fin_ ?_
 ·(repeat' apply And.intro) <;> (first | (first | rfl | trivial | omega | (rw [← hms2]; simp [rows, eB]; done) | (rw [← hms2, rows_set]; done)) | exact cl_)
 refine fin_ ?_
 ·(repeat' apply And.intro) <;> (first | (first | rfl | trivial | omega | (rw [← hms2]; simp [rows, eB]; done) | (rw [← hms2, rows_set]; done)) | exact cl_)
 obtain rfl : i = a.length := by have := hb8; omega
 have hml := minK_len a b a.length
 have hmt : (minK a b a.length).take a.length = minK a b a.length := List.take_of_length_le (by omega)
 refine vc_exit ?_
 simp only [k_rules, Nat.reduceEqDiff, reduceIte, eq_self]
 refine h3 _ ?_; clear h3; try clear N3
 refine vc_seq_k fun N11 h11 => ?_
 refine u_reg ?_
 try refine lg_mk ?_
 iterate 2 refine u_mv ?_
 refine lg_nil ?_
 refine h11 _ ?_; clear h11; try clear N11
 refine vc_ret ?_
 try simp only [k_rules]
 refine fin2_ ?_
 ·(repeat' apply And.intro) <;> (first | (first | rfl | trivial | omega | (rw [hmt]; done) | (left; rw [hmt]; done)) | exact cl_)
 cases hg

def E_minq : Env Tryd.prog := E_selq.add 50 (Spec.pure minG) minq_meets (by kernel_rfl)
end Go.Proofs.YtlbjffdaooadoaaDoor
