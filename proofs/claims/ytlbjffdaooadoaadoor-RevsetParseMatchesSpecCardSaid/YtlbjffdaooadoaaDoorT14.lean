/- Walks, printed by wip/gen/walk.py. -/
import Derived.Test.YtlbjffdaooadoaaDoorT13
import Derived.Test.YtlbjffdaooadoaaDoorV5
import Derived.Test.YtlbjffdaooadoaaDoorChecked
import Derived.RangeFuncBox
import Derived.RangeFuncLeaves
import Derived.Shelf.Abstract
import Derived.WalkKit
import Derived.OwnWalkIn
import Derived.TacticsInMore
import Derived.LoopNIn
import Derived.LoopIn
import Derived.RegionIn
set_option linter.all false
set_option maxRecDepth 100000
set_option maxHeartbeats 4000000
namespace Go.Proofs.YtlbjffdaooadoaaDoor
open Go Go.Vc Go.RowKit
def backs (l : List Cm) : List (List AV) := (List.range l.length).map fun k => [.d (.int .i64 ((l.length - 1 - k : Nat) : Int)), .agg ((eC (l.getD (l.length - 1 - k) default)).map .d)]
theorem backs_len (l : List Cm) : (backs l).length = l.length := by simp [backs]
theorem backs_get {l : List Cm} {k : Nat} {x : List AV} (h : (backs l)[k]? = some x) : ∃ (i : Nat) (c : Cm), i < l.length ∧ l.length - k = i + 1 ∧ l.length - (k + 1) = i ∧ l.length - 1 - k = i ∧ l[i]? = some c ∧ x = [.d (.int .i64 (i : Nat)), .agg [.d (.sl (rows eI c.par)), .d (.int .i64 c.au), .d (.int .i64 c.ti), .d (.int .i64 c.tr), .d (.str c.ms)]] := by
  have hk : k < l.length := by rw [← backs_len]; exact (List.getElem?_eq_some_iff.1 h).1
  obtain ⟨c, hc⟩ := getE (l := l) (i := l.length - 1 - k) (by omega)
  refine ⟨l.length - 1 - k, c, by omega, by omega, by omega, rfl, hc, ?_⟩
  simp only [backs, List.getElem?_map, List.getElem?_range hk, Option.map_some, Option.some.injEq, getD_of hc] at h
  rw [← h]; rfl
section
open Go.Shelf
attribute [local go_sem] Oper.semAt_some
theorem back_run (l : Nat) (b1 o1 b o len cap : Nat) (a : Option Addr) (u : Nat → Nat → Value) (hlen : len ≤ 1000000) (hcap : len ≤ cap) (ha : 0 < len → a = some ⟨b, o, none⟩) (J : Nat → World → Prop) (Jx : World → Prop) (W : World)
   (hb : ∀ k W, J k W → W.cell? ⟨b1, o1, none⟩ = some (.slice a len cap)) (hc : ∀ k W, J k W → ∀ i, i < len → ∀ f, f < 5 → W.cell? ⟨b, o + i * 5 + f, none⟩ = some (u i f)) (hd : ∀ (k : Nat) (W : World) (d : Nat), J k W → J k { W with drawn := d })
   (hY : ∀ k W1, J k W1 → k < len → YieldAt Fence.wide 0 Tryd.prog l #[.int .i64 ((len - 1 - k : Nat) : Int), .agg #[u (len - 1 - k) 0, u (len - 1 - k) 1, u (len - 1 - k) 2, u (len - 1 - k) 3, u (len - 1 - k) 4]] W1 fun e W' => (e = .returned (.bool true) ∧ J (k + 1) W') ∨ (e = .returned (.bool false) ∧ Jx W')) (h0 : J 0 W) :
   CallsIn Fence.wide 0 Tryd.prog 87 #[.func (.yield l) #[] #[], .pointer (some ⟨b1, o1, none⟩)] W fun e W' => (∃ v, e = .returned v) ∧ (J len W' ∨ Jx W') := by
  refine callsIn_of_wp Tryd.func87 rfl trivial ?_ rfl
  simp only [Tryd.ntmps87, List.size_toArray, List.length_cons, List.length_nil, Nat.reduceAdd, Nat.reduceSub, Array.replicate_succ, Array.replicate_zero, List.push_toArray, List.append_toArray, List.nil_append, List.cons_append]
  have c0 := hb 0 W h0
  gi_wp2
  gi_loopw [3] (fun i wr => ∃ k : Nat, k ≤ len ∧ i = .int .i64 ((len : Int) - 1 - k) ∧ J k wr) (fun i _ => ((intOf i) + 1).toNat)
  case atStart => exact ⟨0, Nat.zero_le _, by simp, h0⟩
  case round =>
    obtain ⟨k, hk, rfl, hJs⟩ := hrel
    have c1 := hb k wr hJs
    by_cases hlt : k < len
    · have ha' := ha (by omega)
      subst ha'
      obtain ⟨fn, tmps, assign, body, hy, hR⟩ := hY k wr hJs hlt
      have hcc := hc k wr hJs (len - 1 - k) (by omega)
      have e1 : (len : Int) - 1 - k = ((len - 1 - k : Nat) : Int) := by omega
      rw [e1]
      have f0 := hcc 0 (by omega)
      have f1 := hcc 1 (by omega)
      have f2 := hcc 2 (by omega)
      have f3 := hcc 3 (by omega)
      have f4 := hcc 4 (by omega)
      simp only [Nat.add_zero] at f0
      gi_wp2
      refine ⟨rfl, hR.mono ?_⟩
      rintro e W3 (⟨rfl, hJ3⟩ | ⟨rfl, hJx3⟩)
      · gi_wp2
        go_roundw
        case rel => exact ⟨k + 1, by omega, by first | (congr 1; done) | (congr 1; omega), hJ3⟩
        case measure => first | (simp [intOf]; done) | (simp [intOf]; omega)
      · gi_wp2
        refine bodyPost_ret (results_none rfl _ _ _) rfl ?_
        exact ⟨⟨_, rfl⟩, .inr hJx3⟩
    · obtain rfl : k = len := by omega
      gi_wp2
      go_end0
      exact ⟨⟨_, rfl⟩, .inl hJs⟩
end
theorem back_it (l : List Cm) (hlen : l.length ≤ 1000000) : IterOk Tryd.prog 87 [.d (.ptr [.sl (rows eC l)])] 2 (backs l) where
  ent := by kernel_rfl
  len := by
    intro x hx
    obtain ⟨i, _, rfl⟩ := List.mem_map.1 hx
    rfl
  run := by
    intro F w S n lb hl hR
    match lb, hl with
    | [v1], _ =>
      have h1 := hR 0 _ v1 rfl rfl
      cases h1 with | d h1 =>
      cases h1 with | ptr _ b1 o1 u1 hb1 hO1 hc1 hr1 =>
      have c1 := hc1 0 _ rfl
      have r1 := hr1 0 _ rfl
      generalize u1 0 = x1 at c1 r1
      simp only [Nat.add_zero] at c1
      have hlr : (rows eC l).length = l.length := rows_len eC l
      have cell : ∀ {b o : Nat} {v : Value} {W1 : World}, b < w.heap.size → ¬ Go.Vc.own S b → KeepN w S w W1 → w.cell? ⟨b, o, none⟩ = some v → W1.cell? ⟨b, o, none⟩ = some v := fun hb hO hk hc => (cell_same (hk.2 _ hb hO)).trans hc
      obtain ⟨a, cap, rfl, hcap, b, o, u, hb, hO, ha, hc, hr⟩ : ∃ (a : Option Addr) (cap : Nat), x1 = .slice a l.length cap ∧ l.length ≤ cap ∧ ∃ (b o : Nat) (u : Nat → Nat → Value), (0 < l.length → b < w.heap.size) ∧ (0 < l.length → ¬ Go.Vc.own S b) ∧ (0 < l.length → a = some ⟨b, o, none⟩) ∧
          (∀ e f c, at2 (rows eC l) e f = some c → w.cell? ⟨b, o + e * 5 + f, none⟩ = some (u e f)) ∧ ∀ e f c, at2 (rows eC l) e f = some c → RD w (Go.Vc.own S) c (u e f) := by
        generalize hX : rows eC l = X at r1 hlr
        cases r1 with
        | sl0 a cap => exact ⟨a, cap, by rw [← hlr]; rfl, by rw [← hlr]; exact Nat.zero_le _, 0, 0, fun _ _ => undef, fun h => absurd h (by rw [← hlr]; simp), fun h => absurd h (by rw [← hlr]; simp), fun h => absurd h (by rw [← hlr]; simp), fun e f c h => (by simp [at2] at h), fun e f c h => (by simp [at2] at h)⟩
        | sl _ sz b o cap u hl' hb hO hz hc hr =>
          refine ⟨_, cap, by rw [hlr], by rw [← hlr]; exact hl', b, o, u, fun _ => hb, fun _ => hO, fun _ => rfl, fun e f c h => ?_, hr⟩
          obtain ⟨x, hx, _⟩ := at2_some h
          have h5 : sz = 5 := by
            have h6 := hz x (List.mem_of_getElem? hx)
            rw [← hX, rows_get] at hx
            obtain ⟨y, _, rfl⟩ := Option.map_eq_some_iff.1 hx
            rw [← h6]; rfl
          subst h5
          exact hc e f c h
      have at5 : ∀ {i : Nat} {c : Cm}, l[i]? = some c → ∀ f, at2 (rows eC l) i f = (eC c)[f]? := fun {i c} h f => by simp only [at2, rows_get, h, Option.map_some, Option.bind_some]
      refine ⟨fun k => [.int .i64 ((l.length - 1 - k : Nat) : Int), .agg #[u (l.length - 1 - k) 0, u (l.length - 1 - k) 1, u (l.length - 1 - k) 2, u (l.length - 1 - k) 3, u (l.length - 1 - k) 4]], fun _ => rfl, ?_, ?_⟩
      · intro k x hx i c v hcx hvx
        obtain ⟨j, cm, hj, _, _, e3, hce, rfl⟩ := backs_get hx
        dsimp only at hvx
        rw [e3] at hvx
        have h5 := at5 hce
        match i, hcx, hvx with
        | 0, hcx, hvx =>
          simp only [List.getElem?_cons_zero, Option.some.injEq] at hcx hvx
          subst hcx hvx
          exact .d (.int _ _)
        | 1, hcx, hvx =>
          simp only [List.getElem?_cons_succ, List.getElem?_cons_zero, Option.some.injEq] at hcx hvx
          subst hcx hvx
          have q0 := hr j 0 _ ((h5 0).trans rfl)
          have q1 := hr j 1 _ ((h5 1).trans rfl)
          have q2 := hr j 2 _ ((h5 2).trans rfl)
          have q3 := hr j 3 _ ((h5 3).trans rfl)
          have q4 := hr j 4 _ ((h5 4).trans rfl)
          refine .agg _ [u j 0, u j 1, u j 2, u j 3, u j 4] rfl (fun z hz => ?_) fun i' c' z hc' hz' => ?_
          · simp only [List.mem_cons, List.not_mem_nil, or_false] at hz
            rcases hz with rfl | rfl | rfl | rfl | rfl
            · exact q0.one
            · exact q1.one
            · exact q2.one
            · exact q3.one
            · exact q4.one
          · match i', hc', hz' with
            | 0, hc', hz' => cases hc'; cases hz'; exact .d q0
            | 1, hc', hz' => cases hc'; cases hz'; exact .d q1
            | 2, hc', hz' => cases hc'; cases hz'; exact .d q2
            | 3, hc', hz' => cases hc'; cases hz'; exact .d q3
            | 4, hc', hz' => cases hc'; cases hz'; exact .d q4
            | n + 5, hc', _ => simp at hc'
        | n + 2, hcx, _ => simp at hcx
      · intro lp J Jx W hJk hJd hY h0
        rw [backs_len] at hY ⊢
        refine back_run lp b1 o1 b o l.length cap a u hlen hcap ha J Jx W (fun k W1 hj => cell hb1 hO1 (hJk k W1 hj) c1) (fun k W1 hj i hi f hf => ?_) hJd hY h0
        obtain ⟨cm, hce⟩ := getE hi
        obtain ⟨d, hd⟩ : ∃ d, (eC cm)[f]? = some d := getE (l := eC cm) (i := f) hf
        exact cell (hb (by omega)) (hO (by omega)) (hJk k W1 hj) (hc i f d ((at5 hce f).trans hd))
end Go.Proofs.YtlbjffdaooadoaaDoor
