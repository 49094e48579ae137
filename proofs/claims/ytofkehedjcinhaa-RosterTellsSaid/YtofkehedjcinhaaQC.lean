/-
  QC: Mk6.
-/
import Derived.Test.YtofkehedjcinhaaQA
import Derived.Test.YtofkehedjcinhaaQB
import Derived.RangeFuncNested
import Derived.RangeFuncCalls
import Derived.RangeFuncBox
import Derived.Shelf.Abstract
import Derived.Shelf.RegionOpen
import Derived.WalkKit
import Derived.OwnWalkIn
import Derived.TacticsInMore
import Derived.LoopNIn
import Derived.LoopIn
set_option linter.unusedVariables false
set_option linter.unusedSimpArgs false
namespace Go.Proofs.Ytofkehedjcinhaa.AM
open Go Go.Proofs Go.RowKit Go.Shelf

variable {Γ : FuncId → Contract}

/-- Two lists of texts. -/
structure Tx2 where
  a : List (List UInt8)
  b : List (List UInt8)
set_option maxRecDepth 100000 in
theorem rows_calls (ad : Option Addr) (len cap : Nat) (w : World) : Calls Try.prog 36 #[.slice ad len cap] w fun e w' => e = .returned (.func (.func 52) #[] #[.pointer (some ⟨w.heap.size, 0, none⟩)]) ∧ w' = w.alloc (.cells #[.slice ad len cap] 43) := by
  refine callsIn_wide.1 (callsIn_of_wp (F := Fence.wide) (n := 0) Try.func36 rfl trivial ?_ rfl)
  simp only [Try.ntmps36, List.size_toArray, List.length_cons, List.length_nil, Nat.reduceAdd, Nat.reduceSub, Array.replicate_succ, Array.replicate_zero, List.push_toArray, List.append_toArray, List.nil_append, List.cons_append]
  gi_wp2
  go_ret
  exact ⟨rfl, rfl⟩

set_option maxRecDepth 100000 in
set_option maxHeartbeats 4000000 in
/-- The rows, from the leaves on: each is yielded; the next one is made of it, as long as it has more than one. -/
theorem rows_it (l Bx k : Nat) (rs : Nat → Nat) (J J' : Nat → World → Prop) (hlen : ∀ i, i < k → 1 < rs i) (hk : rs k ≤ 1)
    (hbox : ∀ i W, J i W → ∃ v, W.cell? ⟨Bx, 0, none⟩ = some v) (hbox' : ∀ i W, J' i W → ∃ ad cap, W.cell? ⟨Bx, 0, none⟩ = some (.slice ad (rs i) cap))
    (hY : ∀ i W v, i ≤ k → J i W → W.cell? ⟨Bx, 0, none⟩ = some v → YieldAt Fence.wide 0 Try.prog l #[v] W fun e W' => e = .returned (.bool true) ∧ J' i W')
    (hUp : ∀ i W v, i < k → J' i W → W.cell? ⟨Bx, 0, none⟩ = some v → Calls Try.prog 53 #[v] W fun e W' => ∃ ad n cap, e = .returned (.slice ad n cap) ∧ (∃ x, W'.cell? ⟨Bx, 0, none⟩ = some x) ∧ W'.frozen? ⟨Bx, 0, none⟩ = false ∧ J (i + 1) (W'.setCell ⟨Bx, 0, none⟩ (.slice ad n cap)))
    (W : World) (h0 : J 0 W) :
    CallsIn Fence.wide 0 Try.prog 52 #[.func (.yield l) #[] #[], .pointer (some ⟨Bx, 0, none⟩)] W fun e W' => (∃ v, e = .returned v) ∧ J' k W' := by
  refine callsIn_of_wp Try.func52 rfl trivial ?_ rfl
  simp only [Try.ntmps52, List.size_toArray, List.length_cons, List.length_nil, Nat.reduceAdd, Nat.reduceSub, Array.replicate_succ, Array.replicate_zero, List.push_toArray, List.append_toArray, List.nil_append, List.cons_append]
  refine wpIn_block (wpIn_loop_rounds (k + 1) ?_)
  refine (?key : ∀ (d i : Nat) (W : World) (t2 t3 t4 t5 t6 t7 t8 t9 t10 t11 t12 : Value), i + d = k → J i W →
      Code.roundsIn Fence.wide 0 Try.prog ?c ?Q (d + 1) { tmps := #[.func (.yield l) #[] #[], .pointer (some ⟨Bx, 0, none⟩), t2, t3, t4, t5, t6, t7, t8, t9, t10, t11, t12], defers := [] } W) k 0 W _ _ _ _ _ _ _ _ _ _ _ (Nat.zero_add k) h0
  intro d
  induction d with
  | zero =>
    intro i W t2 t3 t4 t5 t6 t7 t8 t9 t10 t11 t12 hi hJ
    obtain rfl : i = k := by omega
    obtain ⟨v, hv⟩ := hbox i W hJ
    obtain ⟨fn, tmps, assign, body, hy, hR1⟩ := hY i W v (Nat.le_refl _) hJ hv
    rw [roundsIn_succ]
    gi_wp2
    refine ⟨rfl, hR1.mono ?_⟩
    rintro e W3 ⟨rfl, hJ3⟩
    obtain ⟨ad, cap, hc⟩ := hbox' i W3 hJ3
    have g1 : ¬ ((rs i : Nat) : Int) > 1 := by omega
    gi_wp2
    exact ⟨rfl, _, results_none rfl _ _ _, ⟨_, rfl⟩, hJ3⟩
  | succ d ih =>
    intro i W t2 t3 t4 t5 t6 t7 t8 t9 t10 t11 t12 hi hJ
    obtain ⟨v, hv⟩ := hbox i W hJ
    obtain ⟨fn, tmps, assign, body, hy, hR1⟩ := hY i W v (by omega) hJ hv
    have hlt : i < k := by omega
    have hg := hlen i hlt
    rw [roundsIn_succ]
    gi_wp2
    refine ⟨rfl, hR1.mono ?_⟩
    rintro e W3 ⟨rfl, hJ3⟩
    obtain ⟨ad, cap, hc⟩ := hbox' i W3 hJ3
    have g1 : (1 : Int) < ((rs i : Nat) : Int) := by omega
    have hup := (callsIn_wide (n := 0)).2 (hUp i W3 _ hlt hJ3 hc)
    gi_wp2
    refine ⟨trivial, rfl, hup.mono ?_⟩
    rintro e w' ⟨ad', n', cap', rfl, ⟨x, hx⟩, hfr, hJ4⟩
    gi_wp2
    exact ih (i + 1) _ _ _ _ _ _ _ _ _ _ _ _ (by omega) hJ4

end Go.Proofs.Ytofkehedjcinhaa.AM
