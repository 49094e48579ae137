/-
  PACK: what was put in octets comes back.
-/
import Derived.Test.YtjdokoldiemobaaPkC
set_option linter.unusedVariables false
set_option linter.unusedSimpArgs false
namespace Go.Proofs.Ytjdokoldiemobaa.AM
open Go

theorem getTo_all (l : List UInt8) : getB l = ((getTo l l.length : Nat) : Int) := by
  unfold getB getTo
  rw [List.take_length]

theorem ofN (x : Nat) : (UInt8.ofNat (x % 256)).toNat = x % 256 := UInt8.toNat_ofNat_of_lt' (Nat.mod_lt _ (by decide))

theorem getB_putB6 (n : Int) (h0 : 0 ≤ n) (h1 : n ≤ 1099511627776) : getB (putB n 6) = n := by
  obtain ⟨m, rfl⟩ : ∃ m : Nat, n = (m : Int) := ⟨n.toNat, by omega⟩
  have hw : (IntKind.u64.wrap (m : Int)).toNat = m := by rw [wrapU (by omega)]; omega
  unfold getB putB
  rw [hw, show (min (max (6 : Int) 0) 8).toNat = 6 from rfl, show List.range 6 = [0, 1, 2, 3, 4, 5] from rfl]
  simp only [List.map_cons, List.map_nil, List.foldl_cons, List.foldl_nil, ofN, Nat.reduceSub, Nat.reducePow]
  congr 1
  omega

theorem getB_putB2 (n : Nat) (h1 : n ≤ 4096) : getB (putB (n : Int) 2) = (n : Int) := by
  have hw : (IntKind.u64.wrap (n : Int)).toNat = n := by rw [wrapU (by omega)]; omega
  unfold getB putB
  rw [hw, show (min (max (2 : Int) 0) 8).toNat = 2 from rfl, show List.range 2 = [0, 1] from rfl]
  simp only [List.map_cons, List.map_nil, List.foldl_cons, List.foldl_nil, ofN, Nat.reduceSub, Nat.reducePow]
  congr 1
  omega

end Go.Proofs.Ytjdokoldiemobaa.AM
