/-
  QI: Ro4.
-/
import Derived.Test.YtofkehedjcinhaaQH
import Derived.Test.YtofkehedjcinhaaQB
import Derived.RangeFuncNested
import Derived.RangeFuncCalls
import Derived.RangeFuncBox
import Derived.Shelf.Abstract
import Derived.Shelf.RegionOpen
import Derived.WalkKit
import Derived.OwnWalkIn
import Derived.TacticsInMore
import Derived.LoopNIn
import Derived.LoopIn
set_option linter.unusedVariables false
set_option linter.unusedSimpArgs false
namespace Go.Proofs.Ytofkehedjcinhaa.AM
open Go Go.Proofs Go.RowKit Go.Shelf

/-- The pairs of the first k quorums. -/
def belowP (r k : Nat) : List (Nat × Nat) := (List.range k).flatMap fun q0 => (List.range (r - q0)).map fun d => (q0 + 1, q0 + 1 + d)
/-- And of the next one so many. -/
def pfx (r k d : Nat) : List (Nat × Nat) := belowP r k ++ (List.range d).map fun e => (k + 1, k + 1 + e)
theorem pfx_zero (r k : Nat) : pfx r k 0 = belowP r k := by simp [pfx]
theorem pfx_full (r k : Nat) : pfx r k (r - k) = belowP r (k + 1) := by simp [pfx, belowP, List.range_succ]
set_option maxRecDepth 100000 in
theorem pairs_calls (v : Int) (w : World) : Calls Try.prog 16 #[.int .i64 v] w fun e w' => e = .returned (.func (.func 26) #[] #[.pointer (some ⟨w.heap.size, 0, none⟩)]) ∧ w' = w.alloc (.cells #[.int .i64 v] 3) := by
  refine callsIn_wide.1 (callsIn_of_wp (F := Fence.wide) (n := 0) Try.func16 rfl trivial ?_ rfl)
  simp only [Try.ntmps16, List.size_toArray, List.length_cons, List.length_nil, Nat.reduceAdd, Nat.reduceSub, Array.replicate_succ, Array.replicate_zero, List.push_toArray, List.append_toArray, List.nil_append, List.cons_append]
  gi_wp2
  go_ret
  exact ⟨rfl, rfl⟩

set_option maxRecDepth 100000 in
set_option maxHeartbeats 4000000 in
theorem pairs_it (l Bx r : Nat) (hr5 : r ≤ 5) (J : List (Nat × Nat) → World → Prop)
    (hbox : ∀ pre W, J pre W → W.cell? ⟨Bx, 0, none⟩ = some (.int .i64 (r : Int)))
    (hY : ∀ k d W, k < r → d < r - k → J (pfx r k d) W → YieldAt Fence.wide 0 Try.prog l #[.int .i64 ((k + 1 : Nat) : Int), .int .i64 ((k + 1 + d : Nat) : Int)] W fun e W' => e = .returned (.bool true) ∧ J (pfx r k (d + 1)) W')
    (W : World) (h0 : J [] W) :
    CallsIn Fence.wide 0 Try.prog 26 #[.func (.yield l) #[] #[], .pointer (some ⟨Bx, 0, none⟩)] W fun e W' => (∃ v, e = .returned v) ∧ J (belowP r r) W' := by
  refine callsIn_of_wp Try.func26 rfl trivial ?_ rfl
  simp only [Try.ntmps26, List.size_toArray, List.length_cons, List.length_nil, Nat.reduceAdd, Nat.reduceSub, Array.replicate_succ, Array.replicate_zero, List.push_toArray, List.append_toArray, List.nil_append, List.cons_append]
  gi_wp2
  refine wpIn_loop_rounds (r + 1) ?_
  refine (?key : ∀ (d k : Nat) (W : World) (v : Int) (t2 t4 t5 t6 t7 t8 t9 t10 t11 t12 t13 t14 t15 t16 t17 t18 t19 t20 : Value), v = ((k + 1 : Nat) : Int) → k + d = r → J (belowP r k) W →
      Code.roundsIn Fence.wide 0 Try.prog ?cc1 ?qq1 (d + 1) { tmps := #[.func (.yield l) #[] #[], .pointer (some ⟨Bx, 0, none⟩), t2, .int .i64 v, t4, t5, t6, t7, t8, t9, t10, t11, t12, t13, t14, t15, t16, t17, t18, t19, t20], defers := [] } W) r 0 W 1 _ _ _ _ _ _ _ _ _ _ _ _ _ _ _ _ _ _ (by rfl) (Nat.zero_add r) h0
  intro d
  induction d with
  | zero =>
    intro k W v t2 t4 t5 t6 t7 t8 t9 t10 t11 t12 t13 t14 t15 t16 t17 t18 t19 t20 hv hk hJ
    obtain rfl : k = r := by omega
    have hb := hbox _ W hJ
    have g1 : ¬ v ≤ (k : Int) := by omega
    rw [roundsIn_succ]
    gi_wp2
    exact ⟨rfl, _, results_none rfl _ _ _, ⟨_, rfl⟩, hJ⟩
  | succ d ih =>
    intro k W v t2 t4 t5 t6 t7 t8 t9 t10 t11 t12 t13 t14 t15 t16 t17 t18 t19 t20 hv hk hJ
    have hb := hbox _ W hJ
    have g1 : v ≤ (r : Int) := by omega
    rw [roundsIn_succ]
    gi_wp2
    refine wpIn_loop_rounds (r - k + 1) ?_
    refine (?key2 : ∀ (e d' : Nat) (W : World) (u : Int) (s5 s6 s7 s8 s9 s10 s11 s12 s13 s14 s15 s16 s17 s18 s19 s20 : Value), u = ((k + 1 + d' : Nat) : Int) → d' + e = r - k → J (pfx r k d') W →
      Code.roundsIn Fence.wide 0 Try.prog ?cc2 ?qq2 (e + 1) { tmps := #[.func (.yield l) #[] #[], .pointer (some ⟨Bx, 0, none⟩), t2, .int .i64 v, .int .i64 u, s5, s6, s7, s8, s9, s10, s11, s12, s13, s14, s15, s16, s17, s18, s19, s20], defers := [] } W) (r - k) 0 W v _ _ _ _ _ _ _ _ _ _ _ _ _ _ _ _ (by omega) (by omega) (by rw [pfx_zero]; exact hJ)
    intro e
    induction e with
    | zero =>
      intro d' W u s5 s6 s7 s8 s9 s10 s11 s12 s13 s14 s15 s16 s17 s18 s19 s20 hu hd hJ2
      obtain rfl : d' = r - k := by omega
      have hb2 := hbox _ W hJ2
      have g2 : ¬ u ≤ (r : Int) := by omega
      rw [pfx_full] at hJ2
      rw [roundsIn_succ]
      gi_wp2
      exact ih (k + 1) _ _ _ _ _ _ _ _ _ _ _ _ _ _ _ _ _ _ _ _ (by omega) (by omega) hJ2
    | succ e ih2 =>
      intro d' W u s5 s6 s7 s8 s9 s10 s11 s12 s13 s14 s15 s16 s17 s18 s19 s20 hu hd hJ2
      have hb2 := hbox _ W hJ2
      have g2 : u ≤ (r : Int) := by omega
      obtain ⟨fn, tmps, assign, body, hy, hR1⟩ := hY k d' W (by omega) (by omega) hJ2
      rw [← hv, ← hu] at hy
      have hv0 : 0 ≤ v - ((k + 1 : Nat) : Int) ∧ v - ((k + 1 : Nat) : Int) ≤ 0 := by omega
      have hu0 : 0 ≤ u - ((k + 1 + d' : Nat) : Int) ∧ u - ((k + 1 + d' : Nat) : Int) ≤ 0 := by omega
      clear hv hu
      rw [roundsIn_succ]
      gi_wp2
      refine ⟨rfl, hR1.mono ?_⟩
      rintro e3 W3 ⟨rfl, hJ3⟩
      gi_wp2
      exact ih2 (d' + 1) _ _ _ _ _ _ _ _ _ _ _ _ _ _ _ _ _ _ (by omega) (by omega) hJ3

end Go.Proofs.Ytofkehedjcinhaa.AM
