/-
  QS: Dvi.
-/
import Derived.Test.YtcfijanfcgnnhaaDoorQP
set_option linter.unusedVariables false
set_option linter.unusedSimpArgs false
namespace Go.Proofs
open Go.RowKit
open Go.Proofs.YtcfijanfcgnnhaaDoor.AM

set_option maxHeartbeats 8000000 in
set_option maxRecDepth 1000000 in
theorem Tryd.parse_wrong (s : ByteArray) (w : World) (hs : s.size ≤ 16384) {q : En} {rest : Wd} (hq : entP (sp32 s.data.toList) = some (q, [])) (hb : rgtS q = false) :
    Calls Tryd.prog 8 #[.string s] w fun e w' => e = .returned (.tuple #[.agg (enC zeroEn), .int .i64 33]) ∧ Below w.heap.size w w' := by
  have hmf : ∀ (fn : Fn) (first cap : Array Value) (w : World), (Instr.makeFunc fn first cap).run Tryd.prog w = .ok (.func fn first cap) w := fun _ _ _ _ => rfl
  have c1 : decide ((s.size : Int) > 16384) = false := decide_eq_false (by omega)
  have hsl : s.data.toList.length ≤ 16384 := hs
  have hlen := sp32_len s.data.toList
  have hl : WL (sp32 s.data.toList) := fun x hx => Nat.le_trans (sp32_mem _ _ hx) hsl
  generalize hws : sp32 s.data.toList = ws at hl hlen hq
  have hn : ws.length ≤ 1000000 := by omega
  clear hsl hlen
  have hE := Tryd.entry_all (w := w) hl hn hq
  clear hq hl hn
  go_enter_defers Tryd.func8, Tryd.ntmps8
  go_wp2_with (go_at_call 17; refine (Tryd.split_k s _ (by omega)).mono ?_; rintro e w1 ⟨rfl, rfl⟩; rw [hws])
  go_wp2_with (go_at_call 18; refine hE.mono ?_; rintro e w4 ⟨⟨g1, g2, bel, sz⟩, off, cap, rfl, hc⟩; have ca := alloc_cell (w4 := w4); have sz0 : w.heap.size < w4.heap.size := (by omega); have sz1 : w.heap.size + 1 < w4.heap.size := (by omega); have sz3 : w.heap.size + 1 + 1 + 1 < w4.heap.size := (by omega); have bne : w.heap.size ≠ w.heap.size + 1 := (by omega))
  clear hE hmf hws ca hc
  go_wp2_with (go_at_call 19; refine (rg_calls q _).mono ?_; rintro e w5 ⟨rfl, b5⟩; rw [hb]; have k1 := (b5.block w.heap.size (by simp; omega)).trans (old_blk g1 _); have k2 := (b5.block (w.heap.size + 1) (by simp; omega)).trans (old_blk g2 _); have k5 := (b5.block w4.heap.size (by simp)).trans (new_blk w4 _); obtain ⟨z0, z1, z2, z3, z4, z5, z6, z7, z8, z9, z10, z11, z12, z13, z14, z15, z16⟩ := ent16 k1; obtain ⟨u0, u1⟩ := blk1 k2)
  exact Tryd.parse_fin rfl rfl (told_of (n := 33) (E := ⟨[], zeroV, zeroT, zeroM⟩) k1 k2 bne rfl) ((bel.alloc (by omega) _).trans (b5.mono (by simp; omega)))

end Go.Proofs
