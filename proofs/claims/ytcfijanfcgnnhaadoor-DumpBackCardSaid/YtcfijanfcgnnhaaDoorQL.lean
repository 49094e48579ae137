/-
  QL: Dv8.
-/
import Derived.Test.YtcfijanfcgnnhaaDoorQJ
import Derived.Test.YtcfijanfcgnnhaaDoorQK
set_option linter.unusedVariables false
set_option linter.unusedSimpArgs false
namespace Go.Proofs
open Go.Shelf
open Go.RowKit
open Go.Proofs.YtcfijanfcgnnhaaDoor.AM

set_option maxHeartbeats 4000000 in
theorem Tryd.split_one (s : ByteArray) (w : World) (hs : s.size < 4294967281) :
    Calls Tryd.prog 17 #[.string s, .string ⟨#[32]⟩] w fun e w' =>
      e = .returned (.slice (some ⟨w.heap.size, 0, none⟩) (Lib.countB s ⟨#[32]⟩ + 1) (Lib.countB s ⟨#[32]⟩ + 1)) ∧ w' = w.alloc (.cells ((Lib.splitB ⟨#[32]⟩ 0 (Lib.countB s ⟨#[32]⟩) s).map Value.string).toArray 9) := by
  have L := Tryd.lays146
  have h1 : 1 ≤ (⟨#[32]⟩ : ByteArray).size := by decide
  have hi9 : (Tryd.prog.info? 9).map (fun i => (i.zero, i.size, i.bytes)) = some (some (.string ByteArray.empty), 1, 16) := by kernel_rfl
  have hle := Lib.countB_le (⟨#[32]⟩ : ByteArray) h1 s.size s (Nat.le_refl _)
  have hlen := Lib.splitB_all (⟨#[32]⟩ : ByteArray) h1 0 _ s rfl
  have c := Any.strings_genSplit_core { L with } hi9 s ⟨#[32]⟩ 0 (-1) (Lib.countB s ⟨#[32]⟩ + 1) w hs h1 (Nat.zero_le _)
    (fun x c hx => by
      refine (Tryd.strings_Index_one x 32 _).mono ?_
      rintro e w' ⟨rfl, rfl⟩
      refine ⟨?_, rfl⟩
      show _ = Ending.returned (Value.int .i64 (Lib.index x.data.toList [32]))
      rw [Lib.index_one])
    (by
      refine (Tryd.strings_Count_one s 32 w).mono ?_
      rintro e w' ⟨rfl, rfl⟩
      refine ⟨?_, rfl⟩
      show _ = Ending.returned (Value.int .i64 ((Lib.count s.data.toList [32] : Nat) : Int))
      rw [Lib.count_one]
      rfl) (by decide) (by decide) (by rw [if_pos (by decide)]; omega)
  rw [Nat.add_sub_cancel, hlen] at c
  have e2 : Lib.cellsOf (Lib.splitB ⟨#[32]⟩ 0 (Lib.countB s ⟨#[32]⟩) s) (Lib.countB s ⟨#[32]⟩ + 1) = ((Lib.splitB ⟨#[32]⟩ 0 (Lib.countB s ⟨#[32]⟩) s).map Value.string).toArray := by rw [← hlen]; exact Lib.cellsOf_full _
  rw [e2] at c
  go_enter Tryd.func17, Tryd.ntmps17
  go_wp2_with (go_at_call 29; refine c.mono ?_; rintro e w' ⟨rfl, hw⟩; rw [hw])
  go_ret
  exact ⟨rfl, rfl⟩

theorem splitB_sp32 (s : ByteArray) : (Lib.splitB ⟨#[32]⟩ 0 (Lib.countB s ⟨#[32]⟩) s).map Value.string = (sp32 s.data.toList).map fun l => Value.string ⟨l.toArray⟩ := by
  have h := Lib.splitB_data ⟨#[32]⟩ 0 (Lib.countB s ⟨#[32]⟩) s
  have h2 : Lib.splitK [32] 0 (Lib.count s.data.toList [32]) s.data.toList = sp32 s.data.toList := split_sp32 s.data.toList
  have h3 : (Lib.splitB ⟨#[32]⟩ 0 (Lib.countB s ⟨#[32]⟩) s).map (·.data.toList) = sp32 s.data.toList := h.trans h2
  rw [← h3, List.map_map]
  rfl
/-- strings.Split at a space: the words. -/
theorem Tryd.split_k (s : ByteArray) (w : World) (hs : s.size < 4294967281) :
    Calls Tryd.prog 17 #[.string s, .string ⟨#[32]⟩] w fun e w' =>
      e = .returned (.slice (some ⟨w.heap.size, 0, none⟩) (sp32 s.data.toList).length (sp32 s.data.toList).length) ∧ w' = w.alloc (.cells ((sp32 s.data.toList).map fun l => Value.string ⟨l.toArray⟩).toArray 9) := by
  refine (Tryd.split_one s w hs).mono fun e w' ⟨h1, h2⟩ => ?_
  have hl := Lib.splitB_all (⟨#[32]⟩ : ByteArray) (by decide) 0 _ s rfl
  have hm := splitB_sp32 s
  have hn := congrArg List.length hm
  rw [List.length_map, List.length_map, hl] at hn
  rw [hm] at h2
  have hn2 : ((Lib.countB s ⟨#[32]⟩ : Nat) : Int) + 1 = ((sp32 s.data.toList).length : Nat) := by omega
  exact ⟨by rw [h1, ← hn], h2⟩

end Go.Proofs
