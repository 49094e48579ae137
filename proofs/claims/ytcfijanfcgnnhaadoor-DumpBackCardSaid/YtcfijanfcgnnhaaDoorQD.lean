/-
  QD: Dw2.
-/
import Derived.Test.YtcfijanfcgnnhaaDoorQA
import Derived.Test.YtcfijanfcgnnhaaDoorQ5
set_option linter.unusedVariables false
namespace Go.Proofs
open Go.RowKit
open Go.Proofs.YtcfijanfcgnnhaaDoor.AM

theorem hx_at : ∀ n : Fin 16, (⟨#[48, 49, 50, 51, 52, 53, 54, 55, 56, 57, 97, 98, 99, 100, 101, 102]⟩ : ByteArray)[n.1]'n.2 = hx n.1 := by decide
theorem hexL_succ (l : List UInt8) (k : Nat) (h : k < l.length) : hexL (l.take (k + 1)) = hexL (l.take k) ++ [hx (l[k].toNat / 16), hx (l[k].toNat % 16)] := by
  rw [List.take_add_one, List.getElem?_eq_getElem h, hexL_append]
  rfl

set_option maxHeartbeats 4000000 in
set_option maxRecDepth 1000000 in
theorem Tryd.hex_walk (s : ByteArray) (w : World) (hs : s.size ≤ 35184372088832) :
    Calls Tryd.prog 10 #[.string s] w fun e w' => e = .returned (.string ⟨(hexS s.data.toList).toArray⟩) ∧ Below w.heap.size w w' := by
  go_enter Tryd.func10, Tryd.ntmps10
  by_cases h : s.data.toList = []
  · have h0 : s.toList.isEmpty = true := by rw [Lib.toList_data, h]; rfl
    go_wp2
    go_ret
    refine ⟨?_, Below.refl _ _⟩
    rw [hexS, if_pos h]
    rfl
  · have h0 : s.toList.isEmpty = false := by
      rw [Lib.toList_data]
      cases hl : s.data.toList with
      | nil => exact absurd hl h
      | cons x l => rfl
    go_wp2
    clear h0
    go_loopw [9] (fun i wr => ∃ k : Nat, k ≤ s.size ∧ i = .int .i64 k ∧ Lib.IsBuilderF 60 5 w.heap.size w.heap.size (Lib.byteCells (hexL (s.data.toList.take k))) wr ∧ Below w.heap.size w wr) (fun i _ => s.size - (intOf i).toNat)
    case atStart =>
      refine ⟨0, Nat.zero_le _, rfl, Lib.IsBuilderF.of (Lib.fresh_isBuilder 60 5 w), (Below.refl _ w).alloc (Nat.le_refl _) _⟩
    case round =>
      obtain ⟨k, hk, rfl, hI, hbw⟩ := hrel
      have hsz2 := hbw.size
      by_cases hp : k < s.size
      · have hks : ((k : Int) < (s.size : Int)) = True := eq_true (by omega)
        have hb : s[k].toNat < 256 := s[k].toNat_lt
        have hln : (Lib.byteCells (hexL (s.data.toList.take k))).length ≤ 2 * k := by
          rw [Lib.byteCells_length, hexL_length, List.length_take]; omega
        go_wp2_with (go_at_call 21; refine (Tryd.wb_k w.heap.size w.heap.size _ _ _ hI (by omega) hsz2).mono ?_)
        rintro e W1 ⟨rfl, h1, b1, k1⟩
        have hsz3 := b1.size
        go_wp2_with (go_at_call 21; refine (Tryd.wb_k w.heap.size w.heap.size _ _ _ (Or.inr h1) (by rw [List.length_append]; simp only [List.length_cons, List.length_nil]; omega) (by omega)).mono ?_)
        rintro e W2 ⟨rfl, h2, b2, k2⟩
        go_wp2
        go_roundw
        case rel =>
          refine ⟨k + 1, by omega, by go_num, Or.inr ?_, (hbw.trans b1).trans b2⟩
          have hl : k < s.data.toList.length := by rw [Array.length_toList]; exact hp
          have e3 := hx_at ⟨s[k].toNat / 16, by omega⟩
          have e4 := hx_at ⟨s[k].toNat % 16, by omega⟩
          dsimp only at e3 e4
          rw [e3, e4, List.append_assoc] at h2
          rw [hexL_succ _ _ hl, Lib.byteCells_append, Array.getElem_toList]
          exact h2
        case measure => simp [intOf]; omega
      · go_wp2_with (go_at_call 22; refine (Tryd.Builder_String_any_k w.heap.size w.heap.size _ _ hI (by omega)).mono ?_)
        rintro e W1 ⟨rfl, _, b1, _⟩
        go_wp2
        go_ret
        have hkk : k = s.size := by omega
        refine ⟨?_, hbw.trans b1⟩
        rw [hexS, if_neg h, hkk, List.take_of_length_le (by rw [Array.length_toList]; exact Nat.le_refl _)]
        rfl

end Go.Proofs
