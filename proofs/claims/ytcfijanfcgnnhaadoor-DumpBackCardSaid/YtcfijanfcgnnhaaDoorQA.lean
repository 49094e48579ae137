/-
  QA: Dw1 Dw3.
-/
import Derived.Test.YtcfijanfcgnnhaaDoorQ9
import Derived.WalkKit
import Derived.BigCall
import Derived.Test.YtcfijanfcgnnhaaDoorQ5
import Derived.BigQuiet
set_option linter.unusedVariables false
namespace Go.Proofs
open Go.RowKit

theorem Tryd.bd_size : (Tryd.prog.info? 60).map (·.size) = some 2 := by kernel_rfl
theorem Tryd.bd_lies : liesAt Tryd.prog Tryd.prog.depth 60 (2 / Tryd.prog.cellsOf 60) 0 60 1 = true := by kernel_rfl
theorem Tryd.bd_byte : (Tryd.prog.info? 5).map (fun i => (i.zero, i.size, i.bytes)) = some (some (.int .u8 0), 1, 1) := by kernel_rfl

set_option maxHeartbeats 1000000 in
set_option maxRecDepth 100000 in
theorem Tryd.cc_used (b : Nat) (w : World) (h0 : w.cell? ⟨b, 0, none⟩ = some (.pointer (some ⟨b, 0, none⟩))) :
    Calls Tryd.prog 34 #[.pointer (some ⟨b, 0, none⟩)] w fun e w' => e = .returned (.tuple #[]) ∧ w' = w := by
  obtain ⟨j, hj, _⟩ := Option.map_eq_some_iff.1 Tryd.bd_size
  go_enter Tryd.func34, Tryd.ntmps34
  go_wp2
  rw [Lib.run_neq_ptr_same w _ Tryd.underlying57 hj]
  go_wp2
  go_end0
  exact ⟨rfl, rfl⟩

set_option maxHeartbeats 1000000 in
set_option maxRecDepth 100000 in
theorem Tryd.cc_fresh (b : Nat) (w : World) (h0 : w.cell? ⟨b, 0, none⟩ = some (.pointer none)) (hsh : w.shape? b = some (60, 2)) (hfz : w.frozen? ⟨b, 0, none⟩ = false) :
    Calls Tryd.prog 34 #[.pointer (some ⟨b, 0, none⟩)] w fun e w' => e = .returned (.tuple #[]) ∧ w' = w.setCell ⟨b, 0, none⟩ (.pointer (some ⟨b, 0, none⟩)) := by
  obtain ⟨j, hj, hjs⟩ := Option.map_eq_some_iff.1 Tryd.bd_size
  go_enter Tryd.func34, Tryd.ntmps34
  go_wp2
  rw [Lib.run_to_unsafe w ⟨b, 0, none⟩ Tryd.underlying57 Tryd.underlying80 hj (by rw [hjs]; decide) hsh (Nat.zero_lt_succ 1)]
  simp only [Result.andThen]
  rw [Oper.upon_value]
  go_wp2
  rw [run_callFunc_extern Tryd.func41 (by kernel_rfl) (by kernel_rfl) (by kernel_rfl) (e := Extern.AbiNoEscape.same) (by kernel_rfl)]
  rw [Lib.run_noEscape]
  simp only [Result.andThen]
  rw [Oper.upon_value]
  go_wp2
  rw [Lib.run_from_unsafe w ⟨b, 0, none⟩ Tryd.underlying80 Tryd.underlying57 hj hsh Tryd.bd_lies]
  simp only [Result.andThen]
  rw [Oper.upon_value]
  go_wp2
  go_end0
  exact ⟨rfl, rfl⟩

theorem Tryd.cc_k (B b : Nat) (bs : List Value) (w : World) (h : Lib.IsBuilderF 60 5 B b bs w) :
    Calls Tryd.prog 34 #[.pointer (some ⟨b, 0, none⟩)] w fun e w' => e = .returned (.tuple #[]) ∧ (Lib.BuilderAtF 60 5 B b (.pointer (some ⟨b, 0, none⟩)) bs w' ∧ Below B w w' ∧ Lib.OthersKept 5 (some b) w w') := by
  rcases h with h | h
  · refine (Tryd.cc_fresh b w h.cell0 h.shape h.frozen0).mono ?_
    rintro e w' ⟨rfl, rfl⟩
    exact ⟨rfl, h.used _, (Below.refl B w).setCell (p := ⟨b, 0, none⟩) h.1 _, (Lib.OthersKept.refl _ _ w).setCell ⟨b, 0, none⟩ rfl _⟩
  · refine (Tryd.cc_used b w h.cell0).mono ?_
    rintro e w' ⟨rfl, rfl⟩
    exact ⟨rfl, h, Below.refl B _, Lib.OthersKept.refl _ _ _⟩

set_option maxHeartbeats 2000000 in
set_option maxRecDepth 100000 in
theorem Tryd.wb_k (B b : Nat) (bs : List Value) (c : Int) (w : World) (h : Lib.IsBuilderF 60 5 B b bs w) (hlen : bs.length + 1 ≤ 140737488355328) (hBw : B ≤ w.heap.size) :
    Calls Tryd.prog 21 #[.pointer (some ⟨b, 0, none⟩), .int .u8 c] w fun e w' => e = .returned .nilIface ∧ (Lib.BuilderAtF 60 5 B b (.pointer (some ⟨b, 0, none⟩)) (bs ++ [.int .u8 c]) w' ∧ Below B w w' ∧ Lib.OthersKept 5 (some b) w w') := by
  obtain ⟨i0, hi, hz0, hz1, hz2⟩ := info_parts Tryd.bd_byte
  go_enter Tryd.func21, Tryd.ntmps21
  go_wp2_with (go_at_call 34; refine (Tryd.cc_k B b bs _ h).mono ?_)
  rintro e w1 ⟨rfl, h1, hb1, hk1⟩
  obtain ⟨hB, v, hbk, hown, hne⟩ := h1
  have c0 : w1.cell? ⟨b, 0, none⟩ = some (.pointer (some ⟨b, 0, none⟩)) := by rw [Lib.cell_of_heap hbk]; rfl
  have c1 : w1.cell? ⟨b, 1, none⟩ = some v := by rw [Lib.cell_of_heap hbk]; rfl
  go_wp2_with (at_builtin; refine wpList_append_ownF _ rfl _ _ 58 rfl B 5 i0 (.int .u8 0) 1 1 Tryd.underlying58 hi hz0 hz1 hz2 rfl (by decide) _ _ _ rfl (hown.alloc _) ⟨w1.heap.size, 0, none⟩ 1 1 [.int .u8 c] rfl rfl ?c1 ?c2 ?c3 ?c4 ?c5 ?_)
  case c1 =>
    intro j u hj
    match j, hj with
    | 0, hj => simp at hj; subst hj; simp [Addr.add]
  case c2 => intro u hu; simp at hu; subst hu; rfl
  case c3 => unfold maxLen; omega
  case c4 => omega
  case c5 => have := hb1.size; simp; omega
  intro v' w2 hown' hgrow _
  have hlt : b < w1.heap.size := by
    rcases Nat.lt_or_ge b w1.heap.size with h' | h'
    · exact h'
    · simp [Array.getElem?_eq_none h'] at hbk
  have hb2 : w2.heap[b]? = some (.cells #[.pointer (some ⟨b, 0, none⟩), v] 60 (0, 0)) := by
    rw [hgrow.block b (by simp; omega) (fun e => hne e.symm), Lib.alloc_old w1 _ b hlt]
    exact hbk
  have d0 : w2.cell? ⟨b, 0, none⟩ = some (.pointer (some ⟨b, 0, none⟩)) := by rw [Lib.cell_of_heap hb2]; rfl
  have d1 : w2.cell? ⟨b, 1, none⟩ = some v := by rw [Lib.cell_of_heap hb2]; rfl
  have f1 : w2.frozen? ⟨b, 1, none⟩ = false := Lib.frozen_of_heap hb2 1
  obtain ⟨g, cap, rfl⟩ : ∃ g cap, v' = .slice (some ⟨g, 0, none⟩) (bs.length + 1) cap := by
    rcases hown'.2 with ⟨_, h0⟩ | ⟨g, cap, cur, fz, hv, _⟩
    · omega
    · exact ⟨g, cap, hv⟩
  go_wp2
  go_ret
  refine ⟨rfl, ?_, ?_, ((hk1.alloc _).grown hgrow (Lib.ownsRowF_kind (hown.alloc _))).setCell ⟨b, 1, none⟩ rfl _⟩
  · exact Lib.BuilderAtF.put (T := 60) (e := 5) hB hb2 (bs' := bs ++ [.int .u8 c]) (by simpa using hown') (by decide)
  · exact ((hb1.alloc (by have := hb1.size; omega) _).grown hgrow (by have := hb1.size; simp; omega) (fun k hk => (hown.lt k hk).1)).setCell (p := ⟨b, 1, none⟩) hB _

open Go.RowKit
open Go.Proofs.YtcfijanfcgnnhaaDoor.AM

theorem unL_append : ∀ (a b : List UInt8), a.length % 2 = 0 → unL (a ++ b) = match unL a with | none => none | some x => (unL b).map (x ++ ·)
  | [], b, _ => by simp [unL]
  | [_], b, h => by simp at h
  | x :: y :: r, b, h => by
    have ih := unL_append r b (by simp at h; omega)
    simp only [List.cons_append, unL]
    split
    · rfl
    · rw [ih]
      cases unL r with
      | none => rfl
      | some m =>
        cases unL b with
        | none => rfl
        | some n => rfl
theorem unL_two (l : List UInt8) (j : Nat) (hj : j % 2 = 0) (h : j + 1 < l.length) {acc : List UInt8} (ha : unL (l.take j) = some acc) :
    (Lib.indexByte letters l[j] < 0 ∨ Lib.indexByte letters l[j + 1] < 0 → unL l = none) ∧
    (¬ Lib.indexByte letters l[j] < 0 → ¬ Lib.indexByte letters l[j + 1] < 0 → unL (l.take (j + 2)) = some (acc ++ [UInt8.ofNat ((Lib.indexByte letters l[j]).toNat * 16 + (Lib.indexByte letters l[j + 1]).toNat)])) := by
  have e1 : l = l.take j ++ l[j] :: l[j + 1] :: l.drop (j + 2) := by
    rw [← List.drop_eq_getElem_cons, ← List.drop_eq_getElem_cons, List.take_append_drop]
  have e2 : l.take (j + 2) = l.take j ++ [l[j], l[j + 1]] := by
    rw [show j + 2 = j + 1 + 1 by omega, List.take_add_one, List.take_add_one, List.getElem?_eq_getElem h, List.getElem?_eq_getElem (by omega : j < l.length), List.append_assoc]
    rfl
  have hl : (l.take j).length % 2 = 0 := by rw [List.length_take]; omega
  constructor
  · intro hb
    have : unL (l.take j ++ l[j] :: l[j + 1] :: l.drop (j + 2)) = none := by
      rw [unL_append _ _ hl, ha]
      dsimp only
      rw [unL, if_pos hb]
      rfl
    rw [← e1] at this
    exact this
  · intro h1 h2
    rw [e2, unL_append _ _ hl, ha]
    dsimp only
    rw [unL, if_neg (not_or.2 ⟨h1, h2⟩)]
    rfl
theorem ix_lt (c : UInt8) : Lib.indexByte letters c < 16 := by
  by_cases h : Lib.indexByte letters c < 0
  · omega
  · have := (hx_ix' c h).1; omega
theorem or16f : ∀ x y : Fin 16, Go.bits BinOp.or IntKind.i64 ((x.1 : Int) * 16) (y.1 : Int) % 256 = ((UInt8.ofNat (x.1 * 16 + y.1)).toNat : Int) := by decide +kernel
theorem or16 {X Y : Int} (h1 : ¬ X < 0) (h2 : X < 16) (h3 : ¬ Y < 0) (h4 : Y < 16) : Go.bits BinOp.or IntKind.i64 (X * 16) Y % 256 = ((UInt8.ofNat (X.toNat * 16 + Y.toNat)).toNat : Int) := by
  have h := or16f ⟨X.toNat, by omega⟩ ⟨Y.toNat, by omega⟩
  dsimp only at h
  rw [Int.toNat_of_nonneg (by omega), Int.toNat_of_nonneg (by omega)] at h
  exact h
set_option maxHeartbeats 4000000 in
set_option maxRecDepth 1000000 in
theorem Tryd.unhex_walk (s : ByteArray) (w : World) (hs : s.size ≤ 35184372088832) :
    Calls Tryd.prog 9 #[.string s] w fun e w' => e = .returned (.tuple #[.string ⟨((unS s.data.toList).getD []).toArray⟩, .bool (unS s.data.toList).isSome]) ∧ Below w.heap.size w w' := by
  go_enter Tryd.func9, Tryd.ntmps9
  have hsl : s.data.toList.length = s.size := by rw [Array.length_toList]; rfl
  by_cases hd : s.data.toList = [46]
  · have h0 : (s.toList == [46]) = true := by rw [Lib.toList_data, hd]; rfl
    go_wp2
    go_ret2
    refine ⟨?_, Below.refl _ _⟩
    rw [unS, if_pos hd]
    rfl
  have h0 : (s.toList == [46]) = false := by
    rw [Lib.toList_data]
    simpa using hd
  by_cases h : s.data.toList = []
  · have h1 : s.toList.isEmpty = true := by rw [Lib.toList_data, h]; rfl
    go_wp2
    go_ret2
    refine ⟨?_, Below.refl _ _⟩
    rw [unS, if_neg hd, if_pos h]
    rfl
  have h1 : s.toList.isEmpty = false := by
    rw [Lib.toList_data]
    cases hl : s.data.toList with
    | nil => exact absurd hl h
    | cons x l => rfl
  by_cases ho : s.size % 2 = 1
  · have h2 : ((s.size : Int) % 2 != 0) = true := by
      have : (s.size : Int) % 2 = 1 := by omega
      rw [this]; rfl
    go_wp2
    go_ret2
    refine ⟨?_, Below.refl _ _⟩
    rw [unS, if_neg hd, if_neg h]
    cases hu : unL s.data.toList with
    | none => rfl
    | some m =>
      have := (unL_even _ _ hu).1
      omega
  have h2 : ((s.size : Int) % 2 != 0) = false := by
    have : (s.size : Int) % 2 = 0 := by omega
    rw [this]; rfl
  go_wp2
  clear h0 h1 h2
  go_loopw [5] (fun i wr => ∃ (j : Nat) (acc : List UInt8), j % 2 = 0 ∧ j ≤ s.size ∧ i = .int .i64 (j : Int) ∧ unL (s.data.toList.take j) = some acc ∧ Lib.IsBuilderF 60 5 w.heap.size w.heap.size (Lib.byteCells acc) wr ∧ Below w.heap.size w wr) (fun i _ => s.size - (intOf i).toNat)
  case atStart =>
    refine ⟨0, [], rfl, Nat.zero_le _, rfl, rfl, Lib.IsBuilderF.of (Lib.fresh_isBuilder 60 5 w), (Below.refl _ w).alloc (Nat.le_refl _) _⟩
  case round =>
    obtain ⟨j, acc, hj2, hk, rfl, hu, hI, hbw⟩ := hrel
    have hsz2 := hbw.size
    by_cases hp : j < s.size
    · have hp2 : j + 1 < s.size := by omega
      have f1 : (j : Int) < (s.size : Int) := by omega
      have f2 : (j : Int) + 1 < (s.size : Int) := by omega
      have f3 : ((j : Int) + 1).toNat = j + 1 := by omega
      have f4 : IntKind.i64.wrap ((j : Int) + 1) = (j : Int) + 1 := by rw [IntKind.wrap_i64]; omega
      have f5 : (0 : Int) ≤ (j : Int) + 1 := by omega
      go_wp2
      go_quiet ((go_at_call 20; refine Calls.quiet_of_same (Tryd.strings_IndexByte _ _ _)))
      have hl : j + 1 < s.data.toList.length := by omega
      obtain ⟨t1, t2⟩ := unL_two s.data.toList j hj2 hl hu
      rw [Array.getElem_toList, Array.getElem_toList] at t1 t2
      have hx1 := ix_lt s[j]
      have hy1 := ix_lt s[j + 1]
      unfold letters at hx1 hy1 t1 t2
      have hsz3 : w.heap.size ≤ (wr.drewN nq).heap.size := hsz2
      have hI2 : Lib.IsBuilderF 60 5 w.heap.size w.heap.size (Lib.byteCells acc) (wr.drewN nq) := hI
      have hbw2 : Below w.heap.size w (wr.drewN nq) := hbw.trans ⟨rfl, rfl, rfl, Nat.le_refl _, fun _ _ => rfl⟩
      have hal : (Lib.byteCells acc).length ≤ j := by
        rw [Lib.byteCells_length]
        have h5 := (unL_even _ _ hu).1
        rw [List.length_take] at h5
        omega
      generalize wr.drewN nq = wq at *
      by_cases hX : Lib.indexByte [48, 49, 50, 51, 52, 53, 54, 55, 56, 57, 97, 98, 99, 100, 101, 102] s[j] < 0
      · have hX' : decide (Lib.indexByte [48, 49, 50, 51, 52, 53, 54, 55, 56, 57, 97, 98, 99, 100, 101, 102] s[j] < 0) = true := decide_eq_true hX
        go_wp2
        go_ret2
        refine ⟨?_, hbw2⟩
        rw [unS, if_neg hd, if_neg h, t1 (.inl hX)]
        rfl
      · have hX' : decide (Lib.indexByte [48, 49, 50, 51, 52, 53, 54, 55, 56, 57, 97, 98, 99, 100, 101, 102] s[j] < 0) = false := decide_eq_false hX
        by_cases hY : Lib.indexByte [48, 49, 50, 51, 52, 53, 54, 55, 56, 57, 97, 98, 99, 100, 101, 102] s[j + 1] < 0
        · have hY' : decide (Lib.indexByte [48, 49, 50, 51, 52, 53, 54, 55, 56, 57, 97, 98, 99, 100, 101, 102] s[j + 1] < 0) = true := decide_eq_true hY
          go_wp2
          go_ret2
          refine ⟨?_, hbw2⟩
          rw [unS, if_neg hd, if_neg h, t1 (.inr hY)]
          rfl
        · have hY' : decide (Lib.indexByte [48, 49, 50, 51, 52, 53, 54, 55, 56, 57, 97, 98, 99, 100, 101, 102] s[j + 1] < 0) = false := decide_eq_false hY
          go_wp2_with (go_at_call 21; refine (Tryd.wb_k w.heap.size w.heap.size _ _ _ hI2 (by omega) hsz3).mono ?_)
          rintro e W1 rfl h1 b1 k1
          go_wp2
          go_roundw
          case rel =>
            refine ⟨j + 2, acc ++ [UInt8.ofNat ((Lib.indexByte letters s[j]).toNat * 16 + (Lib.indexByte letters s[j + 1]).toNat)], by omega, by omega, by go_num, by first | exact t2 (Int.not_lt.2 hX) (Int.not_lt.2 hY) | exact t2 hX hY, Or.inr ?_, hbw2.trans b1⟩
            rw [Lib.byteCells_append]
            rw [or16 (Int.not_lt.2 hX) hx1 (Int.not_lt.2 hY) hy1] at h1
            exact h1
          case measure => simp [intOf]; omega
    · go_wp2_with (go_at_call 22; refine (Tryd.Builder_String_any_k w.heap.size w.heap.size _ _ hI (by omega)).mono ?_)
      rintro e W1 ⟨rfl, _, b1, _⟩
      go_wp2
      go_ret2
      have hjj : j = s.size := by omega
      refine ⟨?_, hbw.trans b1⟩
      rw [hjj, List.take_of_length_le (by omega)] at hu
      rw [unS, if_neg hd, if_neg h, hu]
      rfl

end Go.Proofs
