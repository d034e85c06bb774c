/- Walks, printed by wip/gen/walk.py. -/
import Derived.Test.YtcjipciiljjfhaaDoorT50
import Derived.Test.YtcjipciiljjfhaaDoorV5
set_option linter.all false
set_option maxRecDepth 100000
set_option maxHeartbeats 4000000
namespace Go.Proofs.YtcjipciiljjfhaaDoor
open Go Go.Vc Go.RowKit
/-- An object's entry; what is written of it before link i. -/
def entH (o : Obj) : List UInt8 := [UInt8.ofNat (o.kd % 256).toNat, UInt8.ofNat (o.ln.length % 256), UInt8.ofNat (o.da.length / 256 % 256), UInt8.ofNat (o.da.length % 256)]
def entK (o : Obj) (i : Nat) : List UInt8 := entH o ++ lnB (o.ln.take i)
def entB (o : Obj) : List UInt8 := entH o ++ (lnB o.ln ++ o.da)
theorem entK_len {o : Obj} {i : Nat} (h : i ≤ o.ln.length) : (entK o i).length = 4 + 8 * i := by unfold entK entH; rw [List.length_append, lnB_len, List.length_take]; simp; omega
theorem entK_snoc {o : Obj} {i : Nat} {x : Int} (h : o.ln[i]? = some x) : entK o (i + 1) = entK o i ++ wide x := by unfold entK; rw [lnB_snoc h]; simp
theorem entK_all (o : Obj) : entK o o.ln.length ++ o.da = entB o := by unfold entK entB; rw [List.take_length]; simp
theorem entB_len (o : Obj) : (entB o).length = 4 + 8 * o.ln.length + o.da.length := by rw [← entK_all, List.length_append, entK_len (Nat.le_refl _)]
/-- A store's pack without and with its digest. -/
def pkH (n : Nat) : List UInt8 := [80, 75, UInt8.ofNat (n % 256)]
def pk0 (n : Nat) (S : List SO) : List UInt8 := pkH n ++ S.flatMap fun x => entB x.ob
def pkB (S : List SO) : List UInt8 := pk0 S.length S ++ wide (if (pk0 S.length S).length ≤ 4096 then dig (pk0 S.length S) else 0)
def okP (S : List SO) : Bool := decide ((pk0 S.length S).length + 8 ≤ 4096)
theorem pk0_snoc {n : Nat} {S : List SO} {i : Nat} {x : SO} (h : S[i]? = some x) : pk0 n (S.take (i + 1)) = pk0 n (S.take i) ++ entB x.ob := by unfold pk0; rw [List.take_add_one, h, List.flatMap_append]; simp
theorem pkB_len (S : List SO) : (pkB S).length = (pk0 S.length S).length + 8 := by unfold pkB; rw [List.length_append, wide_len]
theorem ent_le {o : Obj} (h : OkO o) : (entB o).length ≤ 1244 := by rw [entB_len]; have := h.ln; have := h.da; omega
theorem pk0_le {S : List SO} (hv : ValS S) (n i : Nat) (hi : i ≤ S.length) : (pk0 n (S.take i)).length ≤ 3 + 1244 * i := by
  induction i with
  | zero => simp [pk0, pkH]
  | succ i ih =>
    obtain ⟨x, hx⟩ : ∃ x, S[i]? = some x := ⟨_, List.getElem?_eq_getElem (by omega)⟩
    have := ih (by omega)
    have := ent_le (hv.ok x (List.mem_of_getElem? hx))
    rw [pk0_snoc hx, List.length_append]; omega
theorem pk_ok {S : List SO} (h : okP S = true) : (pk0 S.length S).length + 8 ≤ 4096 ∧ pkB S = pk0 S.length S ++ wide (dig (pk0 S.length S)) ∧ (pkB S).length ≤ 4096 := by
  have h1 : (pk0 S.length S).length + 8 ≤ 4096 := of_decide_eq_true h
  exact ⟨h1, by unfold pkB; rw [if_pos (by omega)], by rw [pkB_len]; exact h1⟩
/-- Eight bytes read as a number. -/
def numB (l : List UInt8) : Int := l.foldl (fun n b => n * 256 + (b.toNat : Int)) 0
theorem numB_snoc (l : List UInt8) (b : UInt8) : numB (l ++ [b]) = numB l * 256 + (b.toNat : Int) := by unfold numB; rw [List.foldl_append]; rfl
theorem num_take {x : Int} (h0 : 0 ≤ x) (h1 : x < 2305843009213693951) : ∀ k, k ≤ 8 → numB ((wide x).take k) = x / 256 ^ (8 - k)
  | 0, _ => by
    show (0 : Int) = x / 256 ^ 8
    rw [Int.ediv_eq_zero_of_lt h0 (by have : (256 : Int) ^ 8 = 18446744073709551616 := by decide
                                      omega)]
  | k + 1, hk => by
    have ih := num_take h0 h1 k (by omega)
    rw [wide_snoc (by omega), numB_snoc, ih]
    have e : 8 - k = (7 - k) + 1 := by omega
    have e2 : 8 - (k + 1) = 7 - k := by omega
    rw [e, e2, ← div_pow h0]
    have h2 : 0 ≤ x / 256 ^ (7 - k) := (div_rng h0 (by omega) (7 - k)).1
    have h3 : ((UInt8.ofNat (x / 256 ^ (7 - k) % 256).toNat).toNat : Int) = x / 256 ^ (7 - k) % 256 := by rw [UInt8.toNat_ofNat']; omega
    rw [h3]; omega
theorem num_wide {x : Int} (h0 : 0 ≤ x) (h1 : x < 2305843009213693951) : numB (wide x) = x := by
  have := num_take h0 h1 8 (Nat.le_refl _)
  rw [List.take_of_length_le (by rw [wide_len]; exact Nat.le_refl _)] at this
  simpa using this
theorem num_lt {x : Int} (h0 : 0 ≤ x) (h1 : x < 2305843009213693951) {k : Nat} (hk : k < 8) : 0 ≤ numB ((wide x).take k) ∧ numB ((wide x).take k) < 36028797018963968 := by
  rw [num_take h0 h1 k (by omega)]
  refine ⟨(div_rng h0 (by omega) _).1, ?_⟩
  have e : 8 - k = (7 - k) + 1 := by omega
  rw [e, ← div_pow h0]
  have h2 : x / 256 ^ (7 - k) ≤ x := Int.ediv_le_self _ h0
  have h3 := (div_rng h0 (show x ≤ 9223372036854775807 by omega) (7 - k)).1
  omega
theorem shl8 {a : Int} (h0 : 0 ≤ a) (h1 : a < 36028797018963968) : IntKind.i64.wrap (a * 2 ^ min (8 : Int).toNat IntKind.i64.bits) = a * 256 := by
  have e : (2 : Int) ^ min (8 : Int).toNat IntKind.i64.bits = 256 := by decide
  rw [e]; unfold IntKind.wrap; simp [IntKind.signed, IntKind.bits]; omega
theorem or_byte {a b : Int} (h0 : 0 ≤ a) (h1 : a < 36028797018963968) (h2 : 0 ≤ b) (h3 : b < 256) : bitsR .or .i64 (a * 256) b = a * 256 + b := by
  obtain ⟨n, rfl⟩ := Int.eq_ofNat_of_zero_le h0
  obtain ⟨m, rfl⟩ := Int.eq_ofNat_of_zero_le h2
  have e : (BitVec.ofInt IntKind.i64.bits ((n : Int) * 256) ||| BitVec.ofInt IntKind.i64.bits (m : Int)).toNat = n * 256 + m := by
    show (BitVec.ofInt 64 ((n : Int) * 256) ||| BitVec.ofInt 64 (m : Int)).toNat = n * 256 + m
    rw [BitVec.toNat_or, BitVec.toNat_ofInt, BitVec.toNat_ofInt]
    have e1 : ((n : Int) * 256 % ((2 ^ 64 : Nat) : Int)).toNat = 2 ^ 8 * n := by omega
    have e2 : ((m : Int) % ((2 ^ 64 : Nat) : Int)).toNat = m := by omega
    rw [e1, e2, ← Nat.two_pow_add_eq_or_of_lt (by omega : m < 2 ^ 8)]; omega
  show IntKind.i64.wrap ((BitVec.ofInt IntKind.i64.bits ((n : Int) * 256) ||| BitVec.ofInt IntKind.i64.bits (m : Int)).toNat : Int) = _
  rw [e]; unfold IntKind.wrap; simp [IntKind.signed, IntKind.bits]; omega
/-- What an entry is read as; what is left. -/
def rdL : Nat → List UInt8 → List Int
  | 0, _ => []
  | n + 1, b => numB (b.take 8) :: rdL n (b.drop 8)
def byt (b : List UInt8) (i : Nat) : Nat := (b.getD i 0).toNat
def decO (b : List UInt8) : Obj := ⟨(byt b 0 : Nat), rdL (byt b 1) (b.drop 4), ((b.drop 4).drop (8 * byt b 1)).take (byt b 2 * 256 + byt b 3)⟩
def decR (b : List UInt8) : List UInt8 := ((b.drop 4).drop (8 * byt b 1)).drop (byt b 2 * 256 + byt b 3)
theorem rdL_lnB {l : List Int} {r : List UInt8} (h : ∀ x ∈ l, 0 ≤ x ∧ x < 2305843009213693951) : rdL l.length (lnB l ++ r) = l := by
  induction l with
  | nil => rfl
  | cons x l ih =>
    have hx := h x (by simp)
    have e : lnB (x :: l) ++ r = wide x ++ (lnB l ++ r) := by unfold lnB; rw [List.flatMap_cons]; simp
    rw [List.length_cons, e]
    unfold rdL
    rw [List.take_left' (wide_len x), List.drop_left' (wide_len x), num_wide hx.1 hx.2, ih fun y hy => h y (by simp [hy])]
theorem ent_byt {o : Obj} (h : OkO o) (r : List UInt8) : byt (entB o ++ r) 0 = o.kd.toNat ∧ byt (entB o ++ r) 1 = o.ln.length ∧ byt (entB o ++ r) 2 * 256 + byt (entB o ++ r) 3 = o.da.length := by
  have h1 := h.kd; have h2 := h.ln; have h3 := h.da
  refine ⟨?_, ?_, ?_⟩
  · show (UInt8.ofNat (o.kd % 256).toNat).toNat = _; rw [UInt8.toNat_ofNat']; omega
  · show (UInt8.ofNat (o.ln.length % 256)).toNat = _; rw [UInt8.toNat_ofNat']; omega
  · show (UInt8.ofNat (o.da.length / 256 % 256)).toNat * 256 + (UInt8.ofNat (o.da.length % 256)).toNat = _; rw [UInt8.toNat_ofNat', UInt8.toNat_ofNat']; omega
theorem dec_ent {o : Obj} (h : OkO o) (r : List UInt8) : decO (entB o ++ r) = o ∧ decR (entB o ++ r) = r := by
  obtain ⟨e1, e2, e3⟩ := ent_byt h r
  have e4 : (entB o ++ r).drop 4 = lnB o.ln ++ (o.da ++ r) := by unfold entB entH; simp
  have hk := h.kd
  unfold decO decR
  rw [e1, e2, e3, e4, rdL_lnB h.rng, List.drop_left' (lnB_len o.ln), List.take_left' rfl, List.drop_left' rfl]
  refine ⟨?_, rfl⟩
  obtain ⟨k, l, u⟩ := o
  dsimp only at hk ⊢
  congr 1
  omega
/-- A pack is read as the store that it was made of. -/
def decN : Nat → List UInt8 → List SO
  | 0, _ => []
  | n + 1, b => ⟨objD (decO b), decO b⟩ :: decN n (decR b)
def decS (b : List UInt8) : List SO := decN (byt b 2) (b.drop 3)
theorem decN_ent {S : List SO} {r : List UInt8} (h : ∀ x ∈ S, OkO x.ob ∧ objD x.ob = x.dg) : decN S.length ((S.flatMap fun x => entB x.ob) ++ r) = S := by
  induction S with
  | nil => rfl
  | cons x S ih =>
    obtain ⟨h1, h2⟩ := h x (by simp)
    rw [List.length_cons, List.flatMap_cons, List.append_assoc]
    unfold decN
    obtain ⟨e1, e2⟩ := dec_ent h1 ((S.flatMap fun x => entB x.ob) ++ r)
    rw [e1, e2, h2, ih fun y hy => h y (by simp [hy])]
theorem dec_pk {S : List SO} (hv : ValS S) (r : List UInt8) : byt (pk0 S.length S ++ r) 2 = S.length ∧ decS (pk0 S.length S ++ r) = S := by
  have h1 : byt (pk0 S.length S ++ r) 2 = S.length := by
    show (UInt8.ofNat (S.length % 256)).toNat = _
    have := hv.len
    rw [UInt8.toNat_ofNat']; omega
  refine ⟨h1, ?_⟩
  unfold decS
  rw [h1, show (pk0 S.length S ++ r).drop 3 = (S.flatMap fun x => entB x.ob) ++ r by unfold pk0 pkH; simp]
  exact decN_ent fun x hx => ⟨hv.ok x hx, hv.dg x hx⟩
/-- What is left when i objects have been read. -/
def restB (S : List SO) (i : Nat) : List UInt8 := (S.drop i).flatMap fun x => entB x.ob
theorem restB_at {S : List SO} {i : Nat} {x : SO} (h : S[i]? = some x) : restB S i = entB x.ob ++ restB S (i + 1) := by
  obtain ⟨h1, h2⟩ := List.getElem?_eq_some_iff.1 h
  unfold restB; rw [List.drop_eq_getElem_cons h1, List.flatMap_cons, h2]
theorem pk0_rest (S : List SO) : (pk0 S.length S).drop 3 = restB S 0 := by unfold pk0 pkH restB; simp
theorem restB_le (S : List SO) (i : Nat) : (restB S i).length + 3 ≤ (pk0 S.length S).length := by
  have : S.flatMap (fun x => entB x.ob) = (S.take i).flatMap (fun x => entB x.ob) ++ restB S i := by unfold restB; rw [← List.flatMap_append, List.take_append_drop]
  unfold pk0 pkH; rw [this]; simp only [List.length_append, List.length_cons, List.length_nil]; omega

def numG : List AV → Option (Prop × AV)
  | [.d (.sl xs)] => some (∃ x r, 0 ≤ x ∧ x < 2305843009213693951 ∧ xs = rows eU (wide x ++ r), .d (.int .i64 (numB ((dU xs).take 8))))
  | _ => none
def entG : List AV → Option (Prop × AV)
  | [.agg [.d (.int .i64 k), .d (.sl ls), .d (.sl ds)]] => some (ls = rows eI (dI ls) ∧ ds = rows eU (dU ds) ∧ OkO ⟨k, dI ls, dU ds⟩, .d (.sl (rows eU (entB ⟨k, dI ls, dU ds⟩))))
  | _ => none
def of2G : List AV → Option (Prop × AV)
  | [.d (.sl xs)] => some (xs = rows eU (dU xs) ∧ (dU xs).length ≤ 1000000000, .tup [.d (.int .i64 (if (dU xs).length ≤ 4096 then dig (dU xs) else 0)), .agg [.d (.int .i64 (if (dU xs).length ≤ 4096 then 0 else 2)), .d (.int .i64 0)]])
  | _ => none
def bldG : List AV → Option (Prop × AV)
  | [.agg [.d (.sl xs)]] => some (xs = rows eO (dO xs) ∧ ValS (dO xs), .tup [.d (.sl (rows eU (pkB (dO xs)))), .d (.bool (okP (dO xs)))])
  | _ => none
def BldF (S : List SO) : Int × Int := if (stF S).1 ≠ 0 then stF S else if okP S = true then (0, 0) else (10, -1)
def BldB (S : List SO) : List UInt8 := if (BldF S).1 ≠ 0 then [] else pkB S
def BldG : List AV → Option (Prop × AV)
  | [.agg [.d (.sl xs)]] => some (xs = rows eO (dO xs) ∧ (dO xs).length ≤ 9223372036854775807 ∧ smallS (dO xs), .tup [.d (.sl (rows eU (BldB (dO xs)))), .agg [.d (.int .i64 (BldF (dO xs)).1), .d (.int .i64 (BldF (dO xs)).2)]])
  | _ => none
def objPG : List AV → Option (Prop × AV)
  | [.d (.sl xs)] => some (∃ o r, OkO o ∧ xs = rows eU (entB o ++ r) ∧ (entB o ++ r).length ≤ 4096, .tup [.agg [.d (.int .i64 (decO (dU xs)).kd), .d (.sl (rows eI (decO (dU xs)).ln)), .d (.sl (rows eU (decO (dU xs)).da))], .d (.sl (rows eU (decR (dU xs)))), .d (.bool true)])
  | _ => none
theorem wide_at {x : Int} {k : Nat} (hk : k < 8) (r : List UInt8) : ∃ b : UInt8, (wide x ++ r)[k]? = some b ∧ numB ((wide x).take (k + 1)) = numB ((wide x).take k) * 256 + (b.toNat : Int) := by
  obtain ⟨b, hb⟩ : ∃ b, (wide x)[k]? = some b := ⟨_, List.getElem?_eq_getElem (by rw [wide_len]; exact hk)⟩
  refine ⟨b, by rw [List.getElem?_append_left (by rw [wide_len]; exact hk)]; exact hb, ?_⟩
  rw [List.take_add_one, hb, ← numB_snoc]; rfl

theorem entry_meets : Meets Tryd.prog 32 (Spec.pure entG) := by
 refine meets_fun (E_filt.at_ 39) Tryd.func32 rfl rfl rfl ?_
 intro args p r hg hp
 unfold entG at hg
 split at hg
 ·rename_i k ls ds
  simp only [Option.some.injEq, Prod.mk.injEq] at hg
  obtain ⟨rfl, rfl⟩ := hg
  obtain ⟨he, he2, hok⟩ := hp
  generalize dI ls = l at *
  generalize dU ds = u at *
  subst he he2
  have hol : l.length ≤ 30 := hok.ln
  have hou : u.length ≤ 1000 := hok.da
  have hob := entB_len ⟨k, l, u⟩
  dsimp only at hob
  have hs8 : ((u.length : Int)).fdiv (2 ^ min (8 : Int).toNat IntKind.i64.bits) = ((u.length / 256 : Nat) : Int) := by
   have e : (2 : Int) ^ min (8 : Int).toNat IntKind.i64.bits = 256 := by decide
   rw [e, Int.fdiv_eq_ediv_of_nonneg _ (by decide)]; omega
  have hT : (E_filt).X = T := rfl
  have hx0 := And.intro @wrap8 (And.intro @wrap8N @Tryd.results32)
  have hx := hx0
  refine ⟨by rfl, ?_⟩
  intro F W0 hnp hmk
  refine vc_seq_k fun N1 h1 => ?_
  refine u_reg ?_
  try refine lg_mk ?_
  refine u_bx (hq := by (first | (omega) | exact sd_)) ?_
  refine u_mv (hq := by (first | (omega) | exact sd_)) ?_
  refine lg_nil ?_
  refine h1 _ ?_; clear h1; try clear N1
  refine vc_seq_k fun N2 h2 => ?_
  have hx := And.intro @hs8 hx0
  refine u_reg ?_
  try refine lg_mk ?_
  refine u_pt (hq := by (first | (omega) | exact sd_)) ?_
  refine u_ld (hq := by (first | (omega) | exact sd_)) ?_
  refine u_cv (hq := by (first | (omega) | exact sd_)) ?_
  refine u_pt (hq := by (first | (omega) | exact sd_)) ?_
  refine u_ld (hq := by (first | (omega) | exact sd_)) ?_
  refine u_ln (hq := by (first | (omega) | exact sd_)) ?_
  refine u_cv (hq := by (first | (omega) | exact sd_)) ?_
  refine u_pt (hq := by (first | (omega) | exact sd_)) ?_
  refine u_ld (hq := by (first | (omega) | exact sd_)) ?_
  refine u_ln (hq := by (first | (omega) | exact sd_)) ?_
  refine u_bn (hq := by (first | (omega) | exact sd_)) ?_
  refine u_cv (hq := by (first | (omega) | exact sd_)) ?_
  refine u_pt (hq := by (first | (omega) | exact sd_)) ?_
  refine u_ld (hq := by (first | (omega) | exact sd_)) ?_
  refine u_ln (hq := by (first | (omega) | exact sd_)) ?_
  refine u_cv (hq := by (first | (omega) | exact sd_)) ?_
  refine u_bs (hq := by (first | (omega) | exact sd_)) ?_
  refine u_mv (hq := by (first | (omega) | exact sd_)) ?_
  refine lg_nil ?_
  have hx := hx0
  refine h2 _ ?_; clear h2; try clear N2
  refine vc_seq_k fun N3 h3 => ?_
  refine vc_seq_k fun N4 h4 => ?_
  refine u_reg ?_
  try refine lg_mk ?_
  refine u_pt (hq := by (first | (omega) | exact sd_)) ?_
  refine u_ld (hq := by (first | (omega) | exact sd_)) ?_
  refine u_ln (hq := by (first | (omega) | exact sd_)) ?_
  refine u_mv (hq := by (first | (omega) | exact sd_)) ?_
  refine lg_nil ?_
  refine h4 _ ?_; clear h4; try clear N4
  refine vc_block ?_
  refine vc_loop_mk (σ := Nat) (fun s => (fun i => i ≤ l.length) s)
   (fun s => (fun i => [(1, .ptr 0 0 0), (3, .sl 1 0 (4 + 8 * i)), (24, .d (.sl (rows eI l))), (25, .d (.int .i64 (l.length : Nat))), (26, .d (.int .i64 (i : Nat)))]) s)
   (fun s => (fun i => [some (.one 44 [.d (.int .i64 k), .d (.sl (rows eI l)), .d (.sl (rows eU u))]), some (.vec 5 1 (rows eU (entK ⟨k, l, u⟩ i)))]) s) (fun s => (fun i => l.length - i) s) hnp 0 ?_ [some 0, some 1] ?_ ?_
  ·dsimp only
   omega
  ·dsimp only
   refine ⟨by rfl, ?_, ?_⟩
   ·refine fin_ ?_
    exact cl_
   ·refine fin_ ?_
    exact cl_
  ·rintro i hinv N5 h5
   dsimp only at hinv ⊢
   have i1 := hinv
   have hhl := entK_len (o := ⟨k, l, u⟩) (i := i) i1
   have htk := List.take_of_length_le (Nat.le_of_eq hhl)
   refine vc_seq_k fun N6 h6 => ?_
   refine u_reg ?_
   try refine lg_mk ?_
   refine u_bn (hq := by (first | (omega) | exact sd_)) ?_
   refine lg_nil ?_
   refine h6 _ ?_; clear h6; try clear N6
   refine vc_seq_k fun N7 h7 => ?_
   refine u_cond (fun hb8 => ?_) (fun hb8 => ?_)
   ·obtain ⟨x, hxe⟩ := getE (l := l) (i := i) (by omega)
    have hsn := entK_snoc (o := ⟨k, l, u⟩) (i := i) (x := x) hxe
    have hxr := hok.rng x (mem_at hxe)
    have hwx := wide_len x
    refine vc_skip ?_
    try simp only [k_rules]
    refine h7 _ ?_; clear h7; try clear N7
    refine vc_seq_k fun N9 h9 => ?_
    refine vc_block ?_
    refine vc_seq_k fun N10 h10 => ?_
    have hx := And.intro @hxe (And.intro @eI.eq_1 hx0)
    refine u_reg ?_
    try refine lg_mk ?_
    refine u_pt (hq := by (first | (omega) | exact sd_)) ?_
    refine u_ld (hq := by (first | (omega) | exact sd_)) ?_
    refine u_mv (hq := by (first | (omega) | exact sd_)) ?_
    refine lg_nil ?_
    have hx := hx0
    refine h10 _ ?_; clear h10; try clear N10
    refine u_reg ?_
    try refine lg_mk ?_
    refine u_mv (hq := by (first | (omega) | exact sd_)) ?_
    refine u_mv (hq := by (first | (omega) | exact sd_)) ?_
    have hc := call_rule (E := (E_filt.at_ 39)) (f := 33) (sp := Spec.pure bigG) rfl
    have hs := @bigG.eq_1
    refine u_hp (hq := by (first | (exact ⟨by omega, by omega⟩) | exact sd_)) ?_
    refine u_ap (hq := by (first | (omega) | exact sd_)) ?_
    refine u_mv (hq := by (first | (omega) | exact sd_)) ?_
    refine lg_nil ?_
    refine h9 _ ?_; clear h9; try clear N9
    refine u_reg ?_
    try refine lg_mk ?_
    refine u_bn (hq := by (first | (omega) | exact sd_)) ?_
    refine u_mv (hq := by (first | (omega) | exact sd_)) ?_
    refine lg_nil ?_
    refine h5 _ ⟨i + 1, ?_, ?_, [some 0, some 2], ?_⟩
    ·dsimp only
     omega
    ·dsimp only
     omega
    ·dsimp only
     refine ⟨by rfl, ?_, ?_⟩
     ·refine fin_ ?_
      (repeat' apply And.intro) <;> (first | (first | rfl | trivial | omega | (rw [htk, hsn]; done) | (rw [wide_len]; omega)) | exact cl_)
     ·refine fin_ ?_
      (repeat' apply And.intro) <;> (first | (first | rfl | trivial | omega | (rw [htk, hsn]; done) | (rw [wide_len]; omega)) | exact cl_)
   ·refine vc_exit ?_
    simp only [k_rules, Nat.reduceEqDiff, reduceIte, eq_self]
    refine h3 _ ?_; clear h3; try clear N3
    refine vc_seq_k fun N11 h11 => ?_
    refine u_reg ?_
    try refine lg_mk ?_
    refine u_mv (hq := by (first | (omega) | exact sd_)) ?_
    refine u_pt (hq := by (first | (omega) | exact sd_)) ?_
    refine u_ld (hq := by (first | (omega) | exact sd_)) ?_
    refine u_ap (hq := by (first | (omega) | exact sd_)) ?_
    refine u_mv (hq := by (first | (omega) | exact sd_)) ?_
    refine lg_nil ?_
    refine h11 _ ?_; clear h11; try clear N11
    refine vc_ret ?_
    try simp only [k_rules]
    obtain rfl : i = l.length := by omega
    have hall := entK_all ⟨k, l, u⟩
    dsimp only at hall
    rw [← hall]
    have hta : List.take (4 + 8 * l.length + u.length) (entK ⟨k, l, u⟩ l.length ++ u) = entK ⟨k, l, u⟩ l.length ++ u := List.take_of_length_le (by rw [List.length_append, hhl]; exact Nat.le_refl _)
    refine fin2_ ?_
    (repeat' apply And.intro) <;> (first | (first | rfl | trivial | omega | (rw [htk, hta]; done) | (left; rw [htk, hta]; done) | (simp; done)) | exact cl_)
 ·cases hg

def E_entry : Env Tryd.prog := E_filt.add 32 (Spec.pure entG) entry_meets (by kernel_rfl)
end Go.Proofs.YtcjipciiljjfhaaDoor
