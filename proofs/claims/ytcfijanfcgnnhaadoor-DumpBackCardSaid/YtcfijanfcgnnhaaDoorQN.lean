/-
  QN: Dvc.
-/
import Derived.Test.YtcfijanfcgnnhaaDoorQM
set_option linter.unusedVariables false
set_option linter.unusedSimpArgs false
namespace Go.Proofs
open Go.RowKit
open Go.Proofs.YtcfijanfcgnnhaaDoor.AM

/-- All is as it was, but for one block. -/
structure PutO (b : Nat) (o : Obj) (w w' : World) : Prop where
  os : w'.os = w.os
  tape : w'.tape = w.tape
  output : w'.output = w.output
  size : w'.heap.size = w.heap.size
  here : w'.heap[b]? = some o
  rest : ∀ k, k ≠ b → w'.heap[k]? = w.heap[k]?
theorem PutO.cell {w : World} {b k : Nat} {c : Array Value} {t : TypeId} {v : Value} (h : w.heap[b]? = some (.cells c t (0, 0))) : PutO b (.cells (c.setIfInBounds k v) t (0, 0)) w (w.setCell ⟨b, k, none⟩ v) :=
  ⟨rfl, rfl, rfl, by simp [World.setCell], blk_same h, fun k hk => Below.heap_setCell w _ v k hk⟩
theorem PutO.trans {b : Nat} {o o' : Obj} {a w w' : World} (h : PutO b o a w) (k : PutO b o' w w') : PutO b o' a w' :=
  ⟨k.os.trans h.os, k.tape.trans h.tape, k.output.trans h.output, k.size.trans h.size, k.here, fun i hi => (k.rest i hi).trans (h.rest i hi)⟩
theorem put16 {w : World} {b : Nat} {E0 : En} {v0 v1 v2 v3 v4 v5 v6 v7 v8 v9 v10 v11 v12 v13 v14 v15 : Value} (h : w.heap[b]? = some (.cells (enC E0) 35 (0, 0))) :
    PutO b (.cells #[v0, v1, v2, v3, v4, v5, v6, v7, v8, v9, v10, v11, v12, v13, v14, v15] 35 (0, 0)) w ((((((((((((((((w.setCell ⟨b, 0, none⟩ v0).setCell ⟨b, 1, none⟩ v1).setCell ⟨b, 2, none⟩ v2).setCell ⟨b, 3, none⟩ v3).setCell ⟨b, 4, none⟩ v4).setCell ⟨b, 5, none⟩ v5).setCell ⟨b, 6, none⟩ v6).setCell ⟨b, 7, none⟩ v7).setCell ⟨b, 8, none⟩ v8).setCell ⟨b, 9, none⟩ v9).setCell ⟨b, 10, none⟩ v10).setCell ⟨b, 11, none⟩ v11).setCell ⟨b, 12, none⟩ v12).setCell ⟨b, 13, none⟩ v13).setCell ⟨b, 14, none⟩ v14).setCell ⟨b, 15, none⟩ v15) := by
  have s0 := PutO.cell (k := 0) (v := v0) h
  have s1 := s0.trans (PutO.cell (k := 1) (v := v1) s0.here)
  clear s0
  have s2 := s1.trans (PutO.cell (k := 2) (v := v2) s1.here)
  clear s1
  have s3 := s2.trans (PutO.cell (k := 3) (v := v3) s2.here)
  clear s2
  have s4 := s3.trans (PutO.cell (k := 4) (v := v4) s3.here)
  clear s3
  have s5 := s4.trans (PutO.cell (k := 5) (v := v5) s4.here)
  clear s4
  have s6 := s5.trans (PutO.cell (k := 6) (v := v6) s5.here)
  clear s5
  have s7 := s6.trans (PutO.cell (k := 7) (v := v7) s6.here)
  clear s6
  have s8 := s7.trans (PutO.cell (k := 8) (v := v8) s7.here)
  clear s7
  have s9 := s8.trans (PutO.cell (k := 9) (v := v9) s8.here)
  clear s8
  have s10 := s9.trans (PutO.cell (k := 10) (v := v10) s9.here)
  clear s9
  have s11 := s10.trans (PutO.cell (k := 11) (v := v11) s10.here)
  clear s10
  have s12 := s11.trans (PutO.cell (k := 12) (v := v12) s11.here)
  clear s11
  have s13 := s12.trans (PutO.cell (k := 13) (v := v13) s12.here)
  clear s12
  have s14 := s13.trans (PutO.cell (k := 14) (v := v14) s13.here)
  clear s13
  have s15 := s14.trans (PutO.cell (k := 15) (v := v15) s14.here)
  clear s14
  have e16 : (((((((((((((((((enC E0).setIfInBounds 0 v0).setIfInBounds 1 v1).setIfInBounds 2 v2).setIfInBounds 3 v3).setIfInBounds 4 v4).setIfInBounds 5 v5).setIfInBounds 6 v6).setIfInBounds 7 v7).setIfInBounds 8 v8).setIfInBounds 9 v9).setIfInBounds 10 v10).setIfInBounds 11 v11).setIfInBounds 12 v12).setIfInBounds 13 v13).setIfInBounds 14 v14).setIfInBounds 15 v15) = #[v0, v1, v2, v3, v4, v5, v6, v7, v8, v9, v10, v11, v12, v13, v14, v15] := by simp [enC]
  rw [e16] at s15
  exact s15

/-- Behind the closure: both results are told anew. -/
structure Told (b1 b2 : Nat) (E : En) (n : Int) (w w' : World) : Prop where
  os : w'.os = w.os
  tape : w'.tape = w.tape
  output : w'.output = w.output
  size : w.heap.size ≤ w'.heap.size
  res : w'.heap[b1]? = some (.cells (enC E) 35 (0, 0))
  err : w'.heap[b2]? = some (.cells #[.int .i64 n] 29 (0, 0))
  rest : ∀ k, k < w.heap.size → k ≠ b1 → k ≠ b2 → w'.heap[k]? = w.heap[k]?
theorem told_of {w : World} {b1 b2 : Nat} {E0 E : En} {v0 v1 v2 v3 v4 v5 v6 v7 v8 v9 v10 v11 v12 v13 v14 v15 : Value} {n m : Int} (h1 : w.heap[b1]? = some (.cells (enC E0) 35 (0, 0))) (h2 : w.heap[b2]? = some (.cells #[.int .i64 m] 29 (0, 0))) (hb : b1 ≠ b2) (hE : #[v0, v1, v2, v3, v4, v5, v6, v7, v8, v9, v10, v11, v12, v13, v14, v15] = enC E) :
    Told b1 b2 E n w (((((((((((((((((w.setCell ⟨b1, 0, none⟩ v0).setCell ⟨b1, 1, none⟩ v1).setCell ⟨b1, 2, none⟩ v2).setCell ⟨b1, 3, none⟩ v3).setCell ⟨b1, 4, none⟩ v4).setCell ⟨b1, 5, none⟩ v5).setCell ⟨b1, 6, none⟩ v6).setCell ⟨b1, 7, none⟩ v7).setCell ⟨b1, 8, none⟩ v8).setCell ⟨b1, 9, none⟩ v9).setCell ⟨b1, 10, none⟩ v10).setCell ⟨b1, 11, none⟩ v11).setCell ⟨b1, 12, none⟩ v12).setCell ⟨b1, 13, none⟩ v13).setCell ⟨b1, 14, none⟩ v14).setCell ⟨b1, 15, none⟩ v15).setCell ⟨b2, 0, none⟩ (.int .i64 n)) := by
  have s := put16 (v0 := v0) (v1 := v1) (v2 := v2) (v3 := v3) (v4 := v4) (v5 := v5) (v6 := v6) (v7 := v7) (v8 := v8) (v9 := v9) (v10 := v10) (v11 := v11) (v12 := v12) (v13 := v13) (v14 := v14) (v15 := v15) h1
  generalize ((((((((((((((((w.setCell ⟨b1, 0, none⟩ v0).setCell ⟨b1, 1, none⟩ v1).setCell ⟨b1, 2, none⟩ v2).setCell ⟨b1, 3, none⟩ v3).setCell ⟨b1, 4, none⟩ v4).setCell ⟨b1, 5, none⟩ v5).setCell ⟨b1, 6, none⟩ v6).setCell ⟨b1, 7, none⟩ v7).setCell ⟨b1, 8, none⟩ v8).setCell ⟨b1, 9, none⟩ v9).setCell ⟨b1, 10, none⟩ v10).setCell ⟨b1, 11, none⟩ v11).setCell ⟨b1, 12, none⟩ v12).setCell ⟨b1, 13, none⟩ v13).setCell ⟨b1, 14, none⟩ v14).setCell ⟨b1, 15, none⟩ v15) = w1 at s ⊢
  have h3 : w1.heap[b2]? = some (.cells #[.int .i64 m] 29 (0, 0)) := (s.rest b2 (Ne.symm hb)).trans h2
  have u := PutO.cell (k := 0) (v := .int .i64 n) h3
  rw [hE] at s
  exact ⟨u.os.trans s.os, u.tape.trans s.tape, u.output.trans s.output, by rw [u.size, s.size]; exact Nat.le_refl _, (u.rest b1 hb).trans s.here, u.here, fun k _ k1 k2 => (u.rest k k2).trans (s.rest k k1)⟩
theorem Told.after {b1 b2 : Nat} {E : En} {n : Int} {a w w' : World} (h : Told b1 b2 E n w w') (hs : a.heap.size ≤ w.heap.size) (h1 : w.os = a.os) (h2 : w.tape = a.tape) (h3 : w.output = a.output) (hr : ∀ k, k < a.heap.size → k ≠ b1 → k ≠ b2 → w.heap[k]? = a.heap[k]?) : Told b1 b2 E n a w' :=
  ⟨h.os.trans h1, h.tape.trans h2, h.output.trans h3, Nat.le_trans hs h.size, h.res, h.err, fun k hk k1 k2 => (h.rest k (by omega) k1 k2).trans (hr k hk k1 k2)⟩

theorem blk1 {w : World} {b : Nat} {v : Value} {t : TypeId} (h : w.heap[b]? = some (.cells #[v] t (0, 0))) : w.cell? ⟨b, 0, none⟩ = some v ∧ w.frozen? ⟨b, 0, none⟩ = false := by
  refine ⟨?_, ?_⟩
  all_goals simp [World.cell?, World.frozen?, h]
theorem Told.alloc {b1 b2 : Nat} {E : En} {n : Int} {w w' : World} (h : Told b1 b2 E n w w') (o : Obj) : Told b1 b2 E n w (w'.alloc o) := by
  have l1 := (Array.getElem?_eq_some_iff.1 h.res).1
  have l2 := (Array.getElem?_eq_some_iff.1 h.err).1
  exact ⟨h.os, h.tape, h.output, Nat.le_trans h.size (by simp), (Below.heap_alloc w' o b1 l1).trans h.res, (Below.heap_alloc w' o b2 l2).trans h.err, fun k hk k1 k2 => (Below.heap_alloc w' o k (Nat.lt_of_lt_of_le hk h.size)).trans (h.rest k hk k1 k2)⟩
set_option maxHeartbeats 4000000 in
set_option maxRecDepth 1000000 in
theorem Tryd.catch_fault (b1 b2 : Nat) (older : List PanicEntry) (E0 : En) (n : Int) (w : World) (o1 : w.heap[b1]? = some (.cells (enC E0) 35 (0, 0))) (o2 : w.heap[b2]? = some (.cells #[.int .i64 n] 29 (0, 0))) (hb : b1 ≠ b2) :
    CallsD Tryd.prog 16 #[.pointer (some ⟨b1, 0, none⟩), .pointer (some ⟨b2, 0, none⟩)] (.panicking (faultV 51 :: older)) w fun e u' w' => e = .returned (.tuple #[]) ∧ u' = .panicking ({ v := .iface 51 (.agg #[]), recovered := true } :: older) ∧ Told b1 b2 ⟨[], zeroV, zeroT, zeroM⟩ 33 w w' := by
  have ta := Tryd.ta_fault
  have l1 : b1 < w.heap.size := (Array.getElem?_eq_some_iff.1 o1).1
  have l2 : b2 < w.heap.size := (Array.getElem?_eq_some_iff.1 o2).1
  obtain ⟨y0, y1, y2, y3, y4, y5, y6, y7, y8, y9, y10, y11, y12, y13, y14, y15, y16⟩ := ent16 o1
  obtain ⟨x0, x1⟩ := blk1 o2
  have ca1 : ∀ (w' : World) (o : Obj) (k : Nat), w'.heap.size = w.heap.size → (w'.alloc o).cell? ⟨b1, k, none⟩ = w'.cell? ⟨b1, k, none⟩ := fun w' o k h => World.cell?_of_block (a := ⟨b1, k, none⟩) (Below.heap_alloc w' o b1 (by omega))
  have ca2 : ∀ (w' : World) (o : Obj) (k : Nat), w'.heap.size = w.heap.size → (w'.alloc o).cell? ⟨b2, k, none⟩ = w'.cell? ⟨b2, k, none⟩ := fun w' o k h => World.cell?_of_block (a := ⟨b2, k, none⟩) (Below.heap_alloc w' o b2 (by omega))
  have cf1 : ∀ (w' : World) (o : Obj) (k : Nat), w'.heap.size = w.heap.size → (w'.alloc o).frozen? ⟨b1, k, none⟩ = w'.frozen? ⟨b1, k, none⟩ := fun w' o k h => by
    unfold World.frozen?
    rw [Below.heap_alloc w' o b1 (by omega)]
  have cf2 : ∀ (w' : World) (o : Obj) (k : Nat), w'.heap.size = w.heap.size → (w'.alloc o).frozen? ⟨b2, k, none⟩ = w'.frozen? ⟨b2, k, none⟩ := fun w' o k h => by
    unfold World.frozen?
    rw [Below.heap_alloc w' o b2 (by omega)]
  have hb' : b2 ≠ b1 := Ne.symm hb
  refine callsD_of_wpS Tryd.func16 rfl fun c₀ cs hu => ?_
  simp only [Tryd.ntmps16, List.size_toArray, List.length_cons, List.length_nil, Nat.reduceAdd, Nat.reduceSub, Array.replicate_succ, Array.replicate_zero, List.push_toArray, List.append_toArray, List.nil_append, List.cons_append]
  refine wpS_recover (v := .iface 51 (.agg #[])) (cs' := { c₀ with mode := .panicking ({ v := .iface 51 (.agg #[]), recovered := true } :: older) } :: cs) rfl rfl (by simp [recStep, recoverD, hu, faultV]) ?_
  go_wp2
  exact ⟨rfl, _, rfl, .tuple #[], by simp [results, Tryd.results16, go_sem], rfl, rfl, (told_of (n := 33) (E := ⟨[], zeroV, zeroT, zeroM⟩) o1 o2 hb rfl).alloc _⟩

end Go.Proofs
