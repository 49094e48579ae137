/-
  QR: Dvh.
-/
import Derived.Test.YtcfijanfcgnnhaaDoorQP
set_option linter.unusedVariables false
set_option linter.unusedSimpArgs false
namespace Go.Proofs
open Go.RowKit
open Go.Proofs.YtcfijanfcgnnhaaDoor.AM

set_option maxHeartbeats 8000000 in
set_option maxRecDepth 1000000 in
theorem Tryd.parse_none (s : ByteArray) (w : World) (hs : s.size ≤ 16384) {q : En} {rest : Wd} (hq : entP (sp32 s.data.toList) = none) :
    Calls Tryd.prog 8 #[.string s] w fun e w' => e = .returned (.tuple #[.agg (enC zeroEn), .int .i64 33]) ∧ Below w.heap.size w w' := by
  have hmf : ∀ (fn : Fn) (first cap : Array Value) (w : World), (Instr.makeFunc fn first cap).run Tryd.prog w = .ok (.func fn first cap) w := fun _ _ _ _ => rfl
  have c1 : decide ((s.size : Int) > 16384) = false := decide_eq_false (by omega)
  have hsl : s.data.toList.length ≤ 16384 := hs
  have hlen := sp32_len s.data.toList
  have hl : WL (sp32 s.data.toList) := fun x hx => Nat.le_trans (sp32_mem _ _ hx) hsl
  generalize hws : sp32 s.data.toList = ws at hl hlen hq
  have hn : ws.length ≤ 1000000 := by omega
  clear hsl hlen
  have hE := Tryd.entry_no (w := w) hl hn hq
  clear hq hl hn
  go_enter_defers Tryd.func8, Tryd.ntmps8
  go_wp2_with (go_at_call 17; refine (Tryd.split_k s _ (by omega)).mono ?_; rintro e w1 ⟨rfl, rfl⟩; rw [hws])
  go_wp2_with (go_at_call 18; refine hE.mono ?_; rintro e w4 ⟨⟨g1, g2, bel, sz⟩, rfl⟩)
  exact Tryd.parse_bad rfl rfl g1 g2 bel
set_option maxHeartbeats 8000000 in
set_option maxRecDepth 1000000 in
theorem Tryd.parse_more (s : ByteArray) (w : World) (hs : s.size ≤ 16384) {q : En} {rest : Wd} (hq : entP (sp32 s.data.toList) = some (q, rest)) (hr : rest ≠ []) :
    Calls Tryd.prog 8 #[.string s] w fun e w' => e = .returned (.tuple #[.agg (enC zeroEn), .int .i64 33]) ∧ Below w.heap.size w w' := by
  have hmf : ∀ (fn : Fn) (first cap : Array Value) (w : World), (Instr.makeFunc fn first cap).run Tryd.prog w = .ok (.func fn first cap) w := fun _ _ _ _ => rfl
  have c1 : decide ((s.size : Int) > 16384) = false := decide_eq_false (by omega)
  have hsl : s.data.toList.length ≤ 16384 := hs
  have hlen := sp32_len s.data.toList
  have hl : WL (sp32 s.data.toList) := fun x hx => Nat.le_trans (sp32_mem _ _ hx) hsl
  generalize hws : sp32 s.data.toList = ws at hl hlen hq
  have hn : ws.length ≤ 1000000 := by omega
  clear hsl hlen
  have hE := Tryd.entry_more (w := w) hl hn hq hr
  clear hq hl hn
  go_enter_defers Tryd.func8, Tryd.ntmps8
  go_wp2_with (go_at_call 17; refine (Tryd.split_k s _ (by omega)).mono ?_; rintro e w1 ⟨rfl, rfl⟩; rw [hws])
  have c2 : decide (((rest.length : Nat) : Int) > 0) = true := decide_eq_true (by have h0 := List.length_pos_iff.2 hr; omega)
  have c3 : 0 < rest.length := List.length_pos_iff.2 hr
  clear hr
  go_wp2_with (go_at_call 18; refine hE.mono ?_; rintro e w4 ⟨⟨g1, g2, bel, sz⟩, off, cap, rfl, hc⟩; obtain ⟨y0, y1, y2, y3, y4, y5, y6, y7, y8, y9, y10, y11, y12, y13, y14, y15, y16⟩ := ent16 g1; obtain ⟨x0, x1⟩ := blk1 g2; have ca := alloc_cell (w4 := w4); have cf := alloc_frozen (w4 := w4); have sz0 : w.heap.size < w4.heap.size := (by omega); have sz1 : w.heap.size + 1 < w4.heap.size := (by omega); have sz3 : w.heap.size + 1 + 1 + 1 < w4.heap.size := (by omega); have bne : w.heap.size ≠ w.heap.size + 1 := (by omega))
  exact Tryd.parse_fin rfl rfl ((told_of (n := 33) (E := ⟨[], zeroV, zeroT, zeroM⟩) g1 g2 bne rfl).alloc _) bel

end Go.Proofs
