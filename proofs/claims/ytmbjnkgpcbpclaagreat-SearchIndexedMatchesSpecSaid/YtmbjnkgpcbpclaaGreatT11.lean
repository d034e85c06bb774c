import Derived.Test.YtmbjnkgpcbpclaaGreatT10
set_option linter.all false
set_option maxRecDepth 100000
set_option maxHeartbeats 4000000
namespace Go.Proofs.YtmbjnkgpcbpclaaGreat
open Go Go.Vc Go.RowKit
theorem D8 {P : List AR} {g : Bs} {k : Nat} (hs : Db P) (h1 : ∀ p ∈ P.take k, D3 p.1 g = true) (hk : k = P.length ∨ ∃ p, P[k]? = some p ∧ D3 p.1 g = false) : Cq P g = k := by
  rcases hk with rfl | ⟨p, hp, hb⟩
  · exact Kp h1 (by simp) (Nat.le_refl _)
  · exact Kp h1 (Cm hs hp hb) (Nat.le_of_lt (List.getElem?_eq_some_iff.1 hp).1)
theorem Si {P : List AR} {g : Bs} {k : Nat} {p : AR} (h : ∀ q ∈ P.take k, D3 q.1 g = true) (hp : P[k]? = some p) (hb : D3 p.1 g = true) : ∀ q ∈ P.take (k + 1), D3 q.1 g = true := fun q hq => by
  rw [List.take_add_one, hp] at hq
  rcases List.mem_append.1 hq with hq | hq
  · exact h q hq
  · simp only [Option.toList_some, List.mem_singleton] at hq; rw [hq]; exact hb
def K3 : DP
  | [.sl 0 0 n, .d (.str g), .d (.int .i64 x)], [some (.vec t s xs)] => some (t = 85 ∧ s = 2 ∧ xs = rows eP (dP xs) ∧ n = (dP xs).length ∧ Db (dP xs) ∧ (dP xs).length ≤ 100000000 ∧ (∀ p ∈ dP xs, p.2.length ≤ 100000000),
      .sl 1 0 (post (dP xs) g x).length, [none, some (.vec 85 2 (rows eP (post (dP xs) g x)))])
  | _, _ => none
theorem OR {P : List AR} {k : Nat} {g : Bs} {t : List Int} : (rows eP P).set k [.str g, .sl (rows eI t)] = rows eP (P.set k (g, t)) := by
  unfold rows; rw [List.map_set]; rfl
theorem Tu (P : List AR) (k : Nat) (p : AR) : rows eP (P.take k) ++ [eP p] ++ rows eP (P.drop k) = rows eP (P.take k ++ p :: P.drop k) := by simp [rows]
theorem AM {P : List AR} {g : Bs} {x : Int} {k : Nat} : List.take ((List.take (k - 0) P).length + 1) (rows eP (List.take (List.take (k - 0) P).length (List.take (k - 0) P)) ++ [[D.str g, D.sl (rows eI [x])]]) ++ rows eP (List.take (P.length - k) (List.drop k P)) = rows eP (P.take k ++ (g, [x]) :: P.drop k) := by
  have e1 : List.take (P.length - k) (P.drop k) = P.drop k := List.take_of_length_le (by simp)
  have e2 : List.take ((P.take k).length + 1) (rows eP (P.take k) ++ [[D.str g, D.sl (rows eI [x])]]) = rows eP (P.take k) ++ [[D.str g, D.sl (rows eI [x])]] := List.take_of_length_le (by simp [rows])
  rw [Nat.sub_zero, List.take_length, e1, e2]
  exact Tu P k (g, [x])
theorem Al {p : Prop} (h : p := by (first | ((repeat' apply And.intro) <;> first | trivial | rfl | omega | (simp [rows]; omega) | (simp [rows]; done)) | exact AQ)) : p := h
theorem OE : A5 Tryz.prog 60 (Spec.gen K3) := by
 refine Bm (Me.at_ 64) Tryz.func60 rfl rfl rfl ?_
 intro args bl p r bf hg hp
 unfold K3 at hg
 split at hg
 rename_i n g x t s xs
 simp only [Option.some.injEq, Prod.mk.injEq] at hg
 obtain ⟨rfl, rfl, rfl⟩ := hg
 obtain ⟨rfl, rfl, he, rfl, hso, hl, hm⟩ := hp
 generalize dP xs = P at *
 subst he
 have hT : (Me).X = T := rfl
 have hx0 := And.intro @DW (And.intro @NR (And.intro @Ci (And.intro @Ch @Tryz.results60)))
 have hx := hx0
 refine ⟨Nat.le_of_ble_eq_true rfl, ?_⟩
 intro F W0 M0 hnp hmk
 have hnp : Bl.np = 1 := hnp
 refine Aa fun N1 h1 => Ac ?_
 refine Az ?_
 refine Ad ?_
 refine Ab (h1 _ (Aa fun N2 h2 => Ac ?_)); clear h1
 refine Ad ?_
 refine Ab (h2 _ (Aa fun N3 h3 => As ?_)); clear h2
 refine A3 (σ := Nat) (fun s => (fun k => k ≤ P.length ∧ ∀ p ∈ P.take k, D3 p.1 g = true) s)
  (fun s => (fun k => [(0, .sl 0 0 P.length), (1, .d (.str g)), (2, .d (.int .i64 x)), (7, .d (.int .i64 (k : Nat)))]) s)
  (fun s => (fun k => [some (.vec 85 2 (rows eP P))]) s) (fun s => (fun k => P.length - k) s) hnp 0 ?_ [some 0] ?_ ?_
 dsimp only
 simp
 dsimp only
 refine ⟨by rfl, ?_, ?_⟩
 refine Aj ?_
 exact Au
 refine Aj ?_
 exact Au
 rintro k hinv N4 h4
 dsimp only at hinv ⊢
 obtain ⟨k1, k2⟩ := hinv
 refine Aa fun N5 h5 => Aa fun N6 h6 => ?_
 rcases Nat.lt_or_ge k P.length with hk | hk
 obtain ⟨p, hpe⟩ := BA hk
 obtain ⟨h, t⟩ := p
 have hxe : P[k]? = some (h, t) := hpe
 have hk' : decide ((k : Int) < (P.length : Int)) = true := by simp; omega
 have hx := And.intro @hxe (And.intro @hk' hx0)
 refine Ac ?_
 refine Az ?_
 iterate 2 refine Ad ?_
 refine AU ?_
 refine Ao ?_
 refine Ad ?_
 iterate 2 refine Cw ?_
 iterate 2 refine B9 ?_
 refine B8 ?_
 refine Cw ?_
 refine CD ?_
 refine AH ?_
 have hx := hx0
 refine Ab (h6 _ (Ak (fun hb7 => ?_) (fun hb7 => ?_))); clear h6
 refine An ?_
 try simp only [Ae]
 refine h5 _ (As (Ac ?_)); clear h5
 refine Ad ?_
 refine Ao ?_
 refine Ad ?_
 refine Ab ?_
 refine h4 _ ⟨k + 1, ?_, ?_, [some 0], ?_⟩
 dsimp only
 exact ⟨by omega, Si k2 hxe (by simpa using hb7)⟩
 dsimp only
 omega
 dsimp only
 refine ⟨by rfl, ?_, ?_⟩
 refine Aj ?_
 exact Au
 refine Aj ?_
 exact Au
 refine AJ ?_
 simp only [Ae, Nat.reduceEqDiff, reduceIte, eq_self]
 refine h3 _ (Aa fun N8 h8 => ?_); clear h3
 have hx := And.intro @hxe (And.intro @hk' hx0)
 refine Aa fun N9 h9 => Ac ?_
 iterate 2 refine Ad ?_
 refine AU ?_
 refine Ao ?_
 refine Ad ?_
 iterate 2 refine Cw ?_
 iterate 2 refine B9 ?_
 refine B8 ?_
 refine Cw ?_
 refine CD ?_
 refine AH ?_
 have hx := hx0
 refine Ab (h9 _ (Ak (fun hb10 => ?_) (fun hb10 => ?_))); clear h9
 have hx := And.intro @hxe hx0
 refine Aa fun N11 h11 => Ac ?_
 iterate 4 refine Ad ?_
 iterate 2 refine Ar ?_
 refine Aq ?_
 refine Ad ?_
 have hc := Ag (E := (Me.at_ 64)) (f := 59) (sp := Spec.pure PQ) rfl
 have hs := @PQ.eq_1
 refine Fc (hq := by (first | ((have h2 : t.length ≤ _ := hm _ (AB hxe); omega)) | exact AQ)) ?_
 iterate 2 refine Ar ?_
 refine A4 ?_
 have hx := hx0
 refine Ab (h11 _ (Aa fun N12 h12 => ?_)); clear h11
 refine Gm 0 0 rfl (by decide) rfl rfl ?_
 simp only [Bk, List.cons_append, List.nil_append]
 refine Ac ?_
 iterate 2 refine Ad ?_
 refine Ab (h12 _ (Am ?_)); clear h12
 try simp only [Ae]
 have hg : h = g := by simpa using hb10
 subst hg
 have hlb := D8 hso k2 (.inr ⟨(h, t), hxe, DX h⟩)
 have hh : Ce P h = true := decide_eq_true (List.mem_map.2 ⟨_, AB hxe, rfl⟩)
 have hr : post P h x = P.set k (h, Fh t x) := by unfold post; rw [if_pos hh, hlb, B5 hxe]
 refine Aj ?_
 refine ⟨[some 0, some 1], by rfl, ?_, ?_⟩
 refine Aj ?_
 ·(repeat' apply And.intro) <;> (first | (first | rfl | (rw [hr, ← OR]; done) | (rw [hr, List.length_set]; done)) | exact Au)
 refine Aj ?_
 ·(repeat' apply And.intro) <;> (first | (first | rfl | (rw [hr, ← OR]; done) | (rw [hr, List.length_set]; done)) | exact Au)
 refine An ?_
 try simp only [Ae]
 refine h8 _ ?_; clear h8
 refine F0 (σ := Unit) (fun s => (fun u => True) s)
  (fun s => (fun u => [(0, .sl 0 0 P.length), (1, .d (.str g)), (2, .d (.int .i64 x)), (7, .d (.int .i64 (k : Nat))), (8, .ptr 1 0 0)]) s)
  (fun s => (fun u => [some (.vec 85 2 (rows eP P)), some (.one 85 [.d (.str g), .d (.sl (rows eI [x]))])]) s) hnp ?_ ?_
 rintro u hinv
 dsimp only at hinv ⊢
 refine Aa fun N14 h14 => ?_
 refine EA [1000056] (.seq [0, 1, 2, 4, 7, 8] (.alt 3 (.alt 5 (.alt 6 (.seq [9, 10, 11] .nil) (.alt 9 (.seq [6, 10, 11] .nil) .nil)) (.alt 9 (.seq [5, 6, 10, 11] .nil) .nil)) (.alt 5 (.alt 3 (.alt 6 (.seq [9, 10, 11] .nil) (.alt 9 (.seq [6, 10, 11] .nil) .nil)) (.alt 9 (.seq [3, 6, 10, 11] .nil) .nil)) (.alt 9 (.alt 3 (.seq [5, 6, 10, 11] .nil) (.alt 5 (.seq [3, 6, 10, 11] .nil) .nil)) .nil)))) ER (by kernel_rfl) ?_
 refine A7 ?_
 simp only [Ah, Af]
 refine Az ?_
 refine Ad (hq := Al) ?_
 refine Ad (hq := Al) ?_
 refine BZ (hq := Al) ?_
 refine Aq (hq := Al) ?_
 refine Ad (hq := Al) ?_
 refine Ad (hq := Al) ?_
 refine Ab ?_
 refine A0 ?_ ?_
 simp only [Ah, Af]
 refine Bf (hq := Al) ?_
 refine Ab ?_
 refine A0 ?_ ?_
 simp only [Ah, Af]
 refine Di (hq := Al) ?_
 refine Ab ?_
 refine A0 ?_ ?_
 simp only [Ah, Af]
 refine Bf (hq := Al) ?_
 refine Ab ?_
 refine A7 ?_
 simp only [Ah, Af]
 refine BZ (hq := Al) ?_
 refine Bf (hq := Al) ?_
 refine Ad (hq := Al) ?_
 refine Ab ?_
 refine AK ?_
 refine h14 _ (Am ?_); clear h14
 try simp only [Ae]
 have hlb : Cq P g = k := D8 hso k2 (by first | exact Or.inl (by omega) | exact Or.inr ⟨(h, t), hxe, by simpa using hb7⟩)
 have hh : Ce P g = false := by first | exact Cx k2 (by omega) | (rw [CX hso k2 hxe (Cm hso hxe (by simpa using hb7))]; simpa using hb10)
 have hr : post P g x = P.take k ++ (g, [x]) :: P.drop k := by unfold post; rw [if_neg (by rw [hh]; simp), hlb]
 refine Aj ?_
 refine ⟨[some 0, some 5], by rfl, ?_, ?_⟩
 refine Aj ?_
 ·(repeat' apply And.intro) <;> (first | (first | rfl | (rw [hr]; exact AM) | (rw [hr]; simp; omega)) | exact Au)
 refine Aj ?_
 ·(repeat' apply And.intro) <;> (first | (first | rfl | (rw [hr]; exact AM) | (rw [hr]; simp; omega)) | exact Au)
 refine A0 ?_ ?_
 simp only [Ah, Af]
 refine BZ (hq := Al) ?_
 refine Ab ?_
 refine A7 ?_
 simp only [Ah, Af]
 refine Bf (hq := Al) ?_
 refine Bf (hq := Al) ?_
 refine Ad (hq := Al) ?_
 refine Ab ?_
 refine AK ?_
 refine h14 _ (Am ?_); clear h14
 try simp only [Ae]
 have hlb : Cq P g = k := D8 hso k2 (by first | exact Or.inl (by omega) | exact Or.inr ⟨(h, t), hxe, by simpa using hb7⟩)
 have hh : Ce P g = false := by first | exact Cx k2 (by omega) | (rw [CX hso k2 hxe (Cm hso hxe (by simpa using hb7))]; simpa using hb10)
 have hr : post P g x = P.take k ++ (g, [x]) :: P.drop k := by unfold post; rw [if_neg (by rw [hh]; simp), hlb]
 refine Aj ?_
 refine ⟨[some 0, some 5], by rfl, ?_, ?_⟩
 refine Aj ?_
 ·(repeat' apply And.intro) <;> (first | (first | rfl | (rw [hr]; exact AM) | (rw [hr]; simp; omega)) | exact Au)
 refine Aj ?_
 ·(repeat' apply And.intro) <;> (first | (first | rfl | (rw [hr]; exact AM) | (rw [hr]; simp; omega)) | exact Au)
 exact Bh
 refine A0 ?_ ?_
 simp only [Ah, Af]
 refine BZ (hq := Al) ?_
 refine Ab ?_
 refine A7 ?_
 simp only [Ah, Af]
 refine Di (hq := Al) ?_
 refine Bf (hq := Al) ?_
 refine Bf (hq := Al) ?_
 refine Ad (hq := Al) ?_
 refine Ab ?_
 refine AK ?_
 refine h14 _ (Am ?_); clear h14
 try simp only [Ae]
 have hlb : Cq P g = k := D8 hso k2 (by first | exact Or.inl (by omega) | exact Or.inr ⟨(h, t), hxe, by simpa using hb7⟩)
 have hh : Ce P g = false := by first | exact Cx k2 (by omega) | (rw [CX hso k2 hxe (Cm hso hxe (by simpa using hb7))]; simpa using hb10)
 have hr : post P g x = P.take k ++ (g, [x]) :: P.drop k := by unfold post; rw [if_neg (by rw [hh]; simp), hlb]
 refine Aj ?_
 refine ⟨[some 0, some 5], by rfl, ?_, ?_⟩
 refine Aj ?_
 ·(repeat' apply And.intro) <;> (first | (first | rfl | (rw [hr]; exact AM) | (rw [hr]; simp; omega)) | exact Au)
 refine Aj ?_
 ·(repeat' apply And.intro) <;> (first | (first | rfl | (rw [hr]; exact AM) | (rw [hr]; simp; omega)) | exact Au)
 exact Bh
 refine A0 ?_ ?_
 simp only [Ah, Af]
 refine Di (hq := Al) ?_
 refine Ab ?_
 refine A0 ?_ ?_
 simp only [Ah, Af]
 refine Bf (hq := Al) ?_
 refine Ab ?_
 refine A0 ?_ ?_
 simp only [Ah, Af]
 refine Bf (hq := Al) ?_
 refine Ab ?_
 refine A7 ?_
 simp only [Ah, Af]
 refine BZ (hq := Al) ?_
 refine Bf (hq := Al) ?_
 refine Ad (hq := Al) ?_
 refine Ab ?_
 refine AK ?_
 refine h14 _ (Am ?_); clear h14
 try simp only [Ae]
 have hlb : Cq P g = k := D8 hso k2 (by first | exact Or.inl (by omega) | exact Or.inr ⟨(h, t), hxe, by simpa using hb7⟩)
 have hh : Ce P g = false := by first | exact Cx k2 (by omega) | (rw [CX hso k2 hxe (Cm hso hxe (by simpa using hb7))]; simpa using hb10)
 have hr : post P g x = P.take k ++ (g, [x]) :: P.drop k := by unfold post; rw [if_neg (by rw [hh]; simp), hlb]
 refine Aj ?_
 refine ⟨[some 0, some 5], by rfl, ?_, ?_⟩
 refine Aj ?_
 ·(repeat' apply And.intro) <;> (first | (first | rfl | (rw [hr]; exact AM) | (rw [hr]; simp; omega)) | exact Au)
 refine Aj ?_
 ·(repeat' apply And.intro) <;> (first | (first | rfl | (rw [hr]; exact AM) | (rw [hr]; simp; omega)) | exact Au)
 refine A0 ?_ ?_
 simp only [Ah, Af]
 refine BZ (hq := Al) ?_
 refine Ab ?_
 refine A7 ?_
 simp only [Ah, Af]
 refine Bf (hq := Al) ?_
 refine Bf (hq := Al) ?_
 refine Ad (hq := Al) ?_
 refine Ab ?_
 refine AK ?_
 refine h14 _ (Am ?_); clear h14
 try simp only [Ae]
 have hlb : Cq P g = k := D8 hso k2 (by first | exact Or.inl (by omega) | exact Or.inr ⟨(h, t), hxe, by simpa using hb7⟩)
 have hh : Ce P g = false := by first | exact Cx k2 (by omega) | (rw [CX hso k2 hxe (Cm hso hxe (by simpa using hb7))]; simpa using hb10)
 have hr : post P g x = P.take k ++ (g, [x]) :: P.drop k := by unfold post; rw [if_neg (by rw [hh]; simp), hlb]
 refine Aj ?_
 refine ⟨[some 0, some 5], by rfl, ?_, ?_⟩
 refine Aj ?_
 ·(repeat' apply And.intro) <;> (first | (first | rfl | (rw [hr]; exact AM) | (rw [hr]; simp; omega)) | exact Au)
 refine Aj ?_
 ·(repeat' apply And.intro) <;> (first | (first | rfl | (rw [hr]; exact AM) | (rw [hr]; simp; omega)) | exact Au)
 exact Bh
 refine A0 ?_ ?_
 simp only [Ah, Af]
 refine BZ (hq := Al) ?_
 refine Ab ?_
 refine A7 ?_
 simp only [Ah, Af]
 refine Bf (hq := Al) ?_
 refine Bf (hq := Al) ?_
 refine Bf (hq := Al) ?_
 refine Ad (hq := Al) ?_
 refine Ab ?_
 refine AK ?_
 refine h14 _ (Am ?_); clear h14
 try simp only [Ae]
 have hlb : Cq P g = k := D8 hso k2 (by first | exact Or.inl (by omega) | exact Or.inr ⟨(h, t), hxe, by simpa using hb7⟩)
 have hh : Ce P g = false := by first | exact Cx k2 (by omega) | (rw [CX hso k2 hxe (Cm hso hxe (by simpa using hb7))]; simpa using hb10)
 have hr : post P g x = P.take k ++ (g, [x]) :: P.drop k := by unfold post; rw [if_neg (by rw [hh]; simp), hlb]
 refine Aj ?_
 refine ⟨[some 0, some 5], by rfl, ?_, ?_⟩
 refine Aj ?_
 ·(repeat' apply And.intro) <;> (first | (first | rfl | (rw [hr]; exact AM) | (rw [hr]; simp; omega)) | exact Au)
 refine Aj ?_
 ·(repeat' apply And.intro) <;> (first | (first | rfl | (rw [hr]; exact AM) | (rw [hr]; simp; omega)) | exact Au)
 exact Bh
 refine A0 ?_ ?_
 simp only [Ah, Af]
 refine BZ (hq := Al) ?_
 refine Ab ?_
 refine A0 ?_ ?_
 simp only [Ah, Af]
 refine Bf (hq := Al) ?_
 refine Ab ?_
 refine A7 ?_
 simp only [Ah, Af]
 refine Di (hq := Al) ?_
 refine Bf (hq := Al) ?_
 refine Bf (hq := Al) ?_
 refine Ad (hq := Al) ?_
 refine Ab ?_
 refine AK ?_
 refine h14 _ (Am ?_); clear h14
 try simp only [Ae]
 have hlb : Cq P g = k := D8 hso k2 (by first | exact Or.inl (by omega) | exact Or.inr ⟨(h, t), hxe, by simpa using hb7⟩)
 have hh : Ce P g = false := by first | exact Cx k2 (by omega) | (rw [CX hso k2 hxe (Cm hso hxe (by simpa using hb7))]; simpa using hb10)
 have hr : post P g x = P.take k ++ (g, [x]) :: P.drop k := by unfold post; rw [if_neg (by rw [hh]; simp), hlb]
 refine Aj ?_
 refine ⟨[some 0, some 5], by rfl, ?_, ?_⟩
 refine Aj ?_
 ·(repeat' apply And.intro) <;> (first | (first | rfl | (rw [hr]; exact AM) | (rw [hr]; simp; omega)) | exact Au)
 refine Aj ?_
 ·(repeat' apply And.intro) <;> (first | (first | rfl | (rw [hr]; exact AM) | (rw [hr]; simp; omega)) | exact Au)
 refine A0 ?_ ?_
 simp only [Ah, Af]
 refine Di (hq := Al) ?_
 refine Ab ?_
 refine A7 ?_
 simp only [Ah, Af]
 refine Bf (hq := Al) ?_
 refine Bf (hq := Al) ?_
 refine Bf (hq := Al) ?_
 refine Ad (hq := Al) ?_
 refine Ab ?_
 refine AK ?_
 refine h14 _ (Am ?_); clear h14
 try simp only [Ae]
 have hlb : Cq P g = k := D8 hso k2 (by first | exact Or.inl (by omega) | exact Or.inr ⟨(h, t), hxe, by simpa using hb7⟩)
 have hh : Ce P g = false := by first | exact Cx k2 (by omega) | (rw [CX hso k2 hxe (Cm hso hxe (by simpa using hb7))]; simpa using hb10)
 have hr : post P g x = P.take k ++ (g, [x]) :: P.drop k := by unfold post; rw [if_neg (by rw [hh]; simp), hlb]
 refine Aj ?_
 refine ⟨[some 0, some 5], by rfl, ?_, ?_⟩
 refine Aj ?_
 ·(repeat' apply And.intro) <;> (first | (first | rfl | (rw [hr]; exact AM) | (rw [hr]; simp; omega)) | exact Au)
 refine Aj ?_
 ·(repeat' apply And.intro) <;> (first | (first | rfl | (rw [hr]; exact AM) | (rw [hr]; simp; omega)) | exact Au)
 exact Bh
 exact Bh
 intro N13 h13
 refine Ac ?_
 iterate 2 refine Ad ?_
 refine Di ?_
 refine BD ?_
 refine Bj ?_
 refine A4 ?_
 refine Ab ?_
 refine h13 _ ⟨(), trivial, [some 0, some 2], ?_⟩
 dsimp only
 refine ⟨by rfl, ?_, ?_⟩
 refine Aj ?_
 exact Au
 refine Aj ?_
 exact Au
 have hxe : P[k]? = none := List.getElem?_eq_none hk
 have hk' : decide ((k : Int) < (P.length : Int)) = false := by simp; omega
 have hx := And.intro @hxe (And.intro @hk' hx0)
 refine Ac ?_
 refine Az ?_
 iterate 2 refine Ad ?_
 refine AU ?_
 refine Ao ?_
 refine Ad ?_
 iterate 2 refine Cw ?_
 iterate 2 refine B9 ?_
 refine B8 ?_
 refine Cw ?_
 refine CD ?_
 refine AH ?_
 have hx := hx0
 refine Ab (h6 _ (Ak (fun hb15 => ?_) (fun hb15 => ?_))); clear h6
 cases hb15
 refine AJ ?_
 simp only [Ae, Nat.reduceEqDiff, reduceIte, eq_self]
 refine h3 _ (Aa fun N16 h16 => ?_); clear h3
 have hx := And.intro @hxe (And.intro @hk' hx0)
 refine Aa fun N17 h17 => Ac ?_
 iterate 2 refine Ad ?_
 refine AU ?_
 refine Ao ?_
 refine Ad ?_
 iterate 2 refine Cw ?_
 iterate 2 refine B9 ?_
 refine B8 ?_
 refine Cw ?_
 refine CD ?_
 refine AH ?_
 have hx := hx0
 refine Ab (h17 _ (Ak (fun hb18 => ?_) (fun hb18 => ?_))); clear h17
 cases hb18
 refine An ?_
 try simp only [Ae]
 refine h16 _ ?_; clear h16
 refine F0 (σ := Unit) (fun s => (fun u => True) s)
  (fun s => (fun u => [(0, .sl 0 0 P.length), (1, .d (.str g)), (2, .d (.int .i64 x)), (7, .d (.int .i64 (k : Nat))), (8, .ptr 1 0 0)]) s)
  (fun s => (fun u => [some (.vec 85 2 (rows eP P)), some (.one 85 [.d (.str g), .d (.sl (rows eI [x]))])]) s) hnp ?_ ?_
 rintro u hinv
 dsimp only at hinv ⊢
 refine Aa fun N20 h20 => ?_
 refine EA [1000056] (.seq [0, 1, 2, 4, 7, 8] (.alt 3 (.alt 5 (.alt 6 (.seq [9, 10, 11] .nil) (.alt 9 (.seq [6, 10, 11] .nil) .nil)) (.alt 9 (.seq [5, 6, 10, 11] .nil) .nil)) (.alt 5 (.alt 3 (.alt 6 (.seq [9, 10, 11] .nil) (.alt 9 (.seq [6, 10, 11] .nil) .nil)) (.alt 9 (.seq [3, 6, 10, 11] .nil) .nil)) (.alt 9 (.alt 3 (.seq [5, 6, 10, 11] .nil) (.alt 5 (.seq [3, 6, 10, 11] .nil) .nil)) .nil)))) ER (by kernel_rfl) ?_
 refine A7 ?_
 simp only [Ah, Af]
 refine Az ?_
 refine Ad (hq := Al) ?_
 refine Ad (hq := Al) ?_
 refine BZ (hq := Al) ?_
 refine Aq (hq := Al) ?_
 refine Ad (hq := Al) ?_
 refine Ad (hq := Al) ?_
 refine Ab ?_
 refine A0 ?_ ?_
 simp only [Ah, Af]
 refine Bf (hq := Al) ?_
 refine Ab ?_
 refine A0 ?_ ?_
 simp only [Ah, Af]
 refine Di (hq := Al) ?_
 refine Ab ?_
 refine A0 ?_ ?_
 simp only [Ah, Af]
 refine Bf (hq := Al) ?_
 refine Ab ?_
 refine A7 ?_
 simp only [Ah, Af]
 refine BZ (hq := Al) ?_
 refine Bf (hq := Al) ?_
 refine Ad (hq := Al) ?_
 refine Ab ?_
 refine AK ?_
 refine h20 _ (Am ?_); clear h20
 try simp only [Ae]
 have hlb : Cq P g = k := D8 hso k2 (by first | exact Or.inl (by omega) | exact Or.inr ⟨(h, t), hxe, by simpa using hb15⟩)
 have hh : Ce P g = false := by first | exact Cx k2 (by omega) | (rw [CX hso k2 hxe (Cm hso hxe (by simpa using hb15))]; simpa using hb18)
 have hr : post P g x = P.take k ++ (g, [x]) :: P.drop k := by unfold post; rw [if_neg (by rw [hh]; simp), hlb]
 refine Aj ?_
 refine ⟨[some 0, some 5], by rfl, ?_, ?_⟩
 refine Aj ?_
 ·(repeat' apply And.intro) <;> (first | (first | rfl | (rw [hr]; exact AM) | (rw [hr]; simp; omega)) | exact Au)
 refine Aj ?_
 ·(repeat' apply And.intro) <;> (first | (first | rfl | (rw [hr]; exact AM) | (rw [hr]; simp; omega)) | exact Au)
 refine A0 ?_ ?_
 simp only [Ah, Af]
 refine BZ (hq := Al) ?_
 refine Ab ?_
 refine A7 ?_
 simp only [Ah, Af]
 refine Bf (hq := Al) ?_
 refine Bf (hq := Al) ?_
 refine Ad (hq := Al) ?_
 refine Ab ?_
 refine AK ?_
 refine h20 _ (Am ?_); clear h20
 try simp only [Ae]
 have hlb : Cq P g = k := D8 hso k2 (by first | exact Or.inl (by omega) | exact Or.inr ⟨(h, t), hxe, by simpa using hb15⟩)
 have hh : Ce P g = false := by first | exact Cx k2 (by omega) | (rw [CX hso k2 hxe (Cm hso hxe (by simpa using hb15))]; simpa using hb18)
 have hr : post P g x = P.take k ++ (g, [x]) :: P.drop k := by unfold post; rw [if_neg (by rw [hh]; simp), hlb]
 refine Aj ?_
 refine ⟨[some 0, some 5], by rfl, ?_, ?_⟩
 refine Aj ?_
 ·(repeat' apply And.intro) <;> (first | (first | rfl | (rw [hr]; exact AM) | (rw [hr]; simp; omega)) | exact Au)
 refine Aj ?_
 ·(repeat' apply And.intro) <;> (first | (first | rfl | (rw [hr]; exact AM) | (rw [hr]; simp; omega)) | exact Au)
 exact Bh
 refine A0 ?_ ?_
 simp only [Ah, Af]
 refine BZ (hq := Al) ?_
 refine Ab ?_
 refine A7 ?_
 simp only [Ah, Af]
 refine Di (hq := Al) ?_
 refine Bf (hq := Al) ?_
 refine Bf (hq := Al) ?_
 refine Ad (hq := Al) ?_
 refine Ab ?_
 refine AK ?_
 refine h20 _ (Am ?_); clear h20
 try simp only [Ae]
 have hlb : Cq P g = k := D8 hso k2 (by first | exact Or.inl (by omega) | exact Or.inr ⟨(h, t), hxe, by simpa using hb15⟩)
 have hh : Ce P g = false := by first | exact Cx k2 (by omega) | (rw [CX hso k2 hxe (Cm hso hxe (by simpa using hb15))]; simpa using hb18)
 have hr : post P g x = P.take k ++ (g, [x]) :: P.drop k := by unfold post; rw [if_neg (by rw [hh]; simp), hlb]
 refine Aj ?_
 refine ⟨[some 0, some 5], by rfl, ?_, ?_⟩
 refine Aj ?_
 ·(repeat' apply And.intro) <;> (first | (first | rfl | (rw [hr]; exact AM) | (rw [hr]; simp; omega)) | exact Au)
 refine Aj ?_
 ·(repeat' apply And.intro) <;> (first | (first | rfl | (rw [hr]; exact AM) | (rw [hr]; simp; omega)) | exact Au)
 exact Bh
 refine A0 ?_ ?_
 simp only [Ah, Af]
 refine Di (hq := Al) ?_
 refine Ab ?_
 refine A0 ?_ ?_
 simp only [Ah, Af]
 refine Bf (hq := Al) ?_
 refine Ab ?_
 refine A0 ?_ ?_
 simp only [Ah, Af]
 refine Bf (hq := Al) ?_
 refine Ab ?_
 refine A7 ?_
 simp only [Ah, Af]
 refine BZ (hq := Al) ?_
 refine Bf (hq := Al) ?_
 refine Ad (hq := Al) ?_
 refine Ab ?_
 refine AK ?_
 refine h20 _ (Am ?_); clear h20
 try simp only [Ae]
 have hlb : Cq P g = k := D8 hso k2 (by first | exact Or.inl (by omega) | exact Or.inr ⟨(h, t), hxe, by simpa using hb15⟩)
 have hh : Ce P g = false := by first | exact Cx k2 (by omega) | (rw [CX hso k2 hxe (Cm hso hxe (by simpa using hb15))]; simpa using hb18)
 have hr : post P g x = P.take k ++ (g, [x]) :: P.drop k := by unfold post; rw [if_neg (by rw [hh]; simp), hlb]
 refine Aj ?_
 refine ⟨[some 0, some 5], by rfl, ?_, ?_⟩
 refine Aj ?_
 ·(repeat' apply And.intro) <;> (first | (first | rfl | (rw [hr]; exact AM) | (rw [hr]; simp; omega)) | exact Au)
 refine Aj ?_
 ·(repeat' apply And.intro) <;> (first | (first | rfl | (rw [hr]; exact AM) | (rw [hr]; simp; omega)) | exact Au)
 refine A0 ?_ ?_
 simp only [Ah, Af]
 refine BZ (hq := Al) ?_
 refine Ab ?_
 refine A7 ?_
 simp only [Ah, Af]
 refine Bf (hq := Al) ?_
 refine Bf (hq := Al) ?_
 refine Ad (hq := Al) ?_
 refine Ab ?_
 refine AK ?_
 refine h20 _ (Am ?_); clear h20
 try simp only [Ae]
 have hlb : Cq P g = k := D8 hso k2 (by first | exact Or.inl (by omega) | exact Or.inr ⟨(h, t), hxe, by simpa using hb15⟩)
 have hh : Ce P g = false := by first | exact Cx k2 (by omega) | (rw [CX hso k2 hxe (Cm hso hxe (by simpa using hb15))]; simpa using hb18)
 have hr : post P g x = P.take k ++ (g, [x]) :: P.drop k := by unfold post; rw [if_neg (by rw [hh]; simp), hlb]
 refine Aj ?_
 refine ⟨[some 0, some 5], by rfl, ?_, ?_⟩
 refine Aj ?_
 ·(repeat' apply And.intro) <;> (first | (first | rfl | (rw [hr]; exact AM) | (rw [hr]; simp; omega)) | exact Au)
 refine Aj ?_
 ·(repeat' apply And.intro) <;> (first | (first | rfl | (rw [hr]; exact AM) | (rw [hr]; simp; omega)) | exact Au)
 exact Bh
 refine A0 ?_ ?_
 simp only [Ah, Af]
 refine BZ (hq := Al) ?_
 refine Ab ?_
 refine A7 ?_
 simp only [Ah, Af]
 refine Bf (hq := Al) ?_
 refine Bf (hq := Al) ?_
 refine Bf (hq := Al) ?_
 refine Ad (hq := Al) ?_
 refine Ab ?_
 refine AK ?_
 refine h20 _ (Am ?_); clear h20
 try simp only [Ae]
 have hlb : Cq P g = k := D8 hso k2 (by first | exact Or.inl (by omega) | exact Or.inr ⟨(h, t), hxe, by simpa using hb15⟩)
 have hh : Ce P g = false := by first | exact Cx k2 (by omega) | (rw [CX hso k2 hxe (Cm hso hxe (by simpa using hb15))]; simpa using hb18)
 have hr : post P g x = P.take k ++ (g, [x]) :: P.drop k := by unfold post; rw [if_neg (by rw [hh]; simp), hlb]
 refine Aj ?_
 refine ⟨[some 0, some 5], by rfl, ?_, ?_⟩
 refine Aj ?_
 ·(repeat' apply And.intro) <;> (first | (first | rfl | (rw [hr]; exact AM) | (rw [hr]; simp; omega)) | exact Au)
 refine Aj ?_
 ·(repeat' apply And.intro) <;> (first | (first | rfl | (rw [hr]; exact AM) | (rw [hr]; simp; omega)) | exact Au)
 exact Bh
 refine A0 ?_ ?_
 simp only [Ah, Af]
 refine BZ (hq := Al) ?_
 refine Ab ?_
 refine A0 ?_ ?_
 simp only [Ah, Af]
 refine Bf (hq := Al) ?_
 refine Ab ?_
 refine A7 ?_
 simp only [Ah, Af]
 refine Di (hq := Al) ?_
 refine Bf (hq := Al) ?_
 refine Bf (hq := Al) ?_
 refine Ad (hq := Al) ?_
 refine Ab ?_
 refine AK ?_
 refine h20 _ (Am ?_); clear h20
 try simp only [Ae]
 have hlb : Cq P g = k := D8 hso k2 (by first | exact Or.inl (by omega) | exact Or.inr ⟨(h, t), hxe, by simpa using hb15⟩)
 have hh : Ce P g = false := by first | exact Cx k2 (by omega) | (rw [CX hso k2 hxe (Cm hso hxe (by simpa using hb15))]; simpa using hb18)
 have hr : post P g x = P.take k ++ (g, [x]) :: P.drop k := by unfold post; rw [if_neg (by rw [hh]; simp), hlb]
 refine Aj ?_
 refine ⟨[some 0, some 5], by rfl, ?_, ?_⟩
 refine Aj ?_
 ·(repeat' apply And.intro) <;> (first | (first | rfl | (rw [hr]; exact AM) | (rw [hr]; simp; omega)) | exact Au)
 refine Aj ?_
 ·(repeat' apply And.intro) <;> (first | (first | rfl | (rw [hr]; exact AM) | (rw [hr]; simp; omega)) | exact Au)
 refine A0 ?_ ?_
 simp only [Ah, Af]
 refine Di (hq := Al) ?_
 refine Ab ?_
 refine A7 ?_
 simp only [Ah, Af]
 refine Bf (hq := Al) ?_
 refine Bf (hq := Al) ?_
 refine Bf (hq := Al) ?_
 refine Ad (hq := Al) ?_
 refine Ab ?_
 refine AK ?_
 refine h20 _ (Am ?_); clear h20
 try simp only [Ae]
 have hlb : Cq P g = k := D8 hso k2 (by first | exact Or.inl (by omega) | exact Or.inr ⟨(h, t), hxe, by simpa using hb15⟩)
 have hh : Ce P g = false := by first | exact Cx k2 (by omega) | (rw [CX hso k2 hxe (Cm hso hxe (by simpa using hb15))]; simpa using hb18)
 have hr : post P g x = P.take k ++ (g, [x]) :: P.drop k := by unfold post; rw [if_neg (by rw [hh]; simp), hlb]
 refine Aj ?_
 refine ⟨[some 0, some 5], by rfl, ?_, ?_⟩
 refine Aj ?_
 ·(repeat' apply And.intro) <;> (first | (first | rfl | (rw [hr]; exact AM) | (rw [hr]; simp; omega)) | exact Au)
 refine Aj ?_
 ·(repeat' apply And.intro) <;> (first | (first | rfl | (rw [hr]; exact AM) | (rw [hr]; simp; omega)) | exact Au)
 exact Bh
 exact Bh
 intro N19 h19
 refine Ac ?_
 iterate 2 refine Ad ?_
 refine Di ?_
 refine BD ?_
 refine Bj ?_
 refine A4 ?_
 refine Ab ?_
 refine h19 _ ⟨(), trivial, [some 0, some 2], ?_⟩
 dsimp only
 refine ⟨by rfl, ?_, ?_⟩
 refine Aj ?_
 exact Au
 refine Aj ?_
 exact Au
 cases hg
def Mc : Bq Tryz.prog := Me.add 60 (Spec.gen K3) OE (by kernel_rfl)
