/-
  Q6: Dv0.
-/
import Derived.Test.YtcfijanfcgnnhaaDoorQ5
import Derived.Test.YtcfijanfcgnnhaaDoorChecked
import Derived.Below
import Derived.WalkSmall
import Derived.WalkKit
import Derived.RowKitTokens
set_option linter.unusedVariables false
set_option linter.unusedSimpArgs false
namespace Go.Proofs
open Go.RowKit
open Go.Proofs.YtcfijanfcgnnhaaDoor.AM

/-- The words that are left lie behind a variable. -/
structure WdsAt (w : World) (p bk : Nat) (ws : List (List UInt8)) : Prop where
  lt : bk < p
  sz : p < w.heap.size
  fr : w.frozen? ⟨p, 0, none⟩ = false
  cell : ∃ off cap, ws.length ≤ cap ∧ cap ≤ 1000000 ∧ w.cell? ⟨p, 0, none⟩ = some (.slice (some ⟨bk, off, none⟩) ws.length cap) ∧ ∀ (i : Nat) (s : List UInt8), ws[i]? = some s → w.cell? ⟨bk, off + i, none⟩ = some (.string ⟨s.toArray⟩)

theorem WdsAt.below {w w' : World} {p bk B : Nat} {ws : List (List UInt8)} (h : WdsAt w p bk ws) (b : Below B w w') (hB : p < B) : WdsAt w' p bk ws := by
  obtain ⟨hlt, hsz, hfr, off, cap, hcap, hcm, hc, hk⟩ := h
  refine ⟨hlt, Nat.lt_of_lt_of_le hsz b.size, (b.frozen (p := ⟨p, 0, none⟩) hB).trans hfr, off, cap, hcap, hcm, (b.cell (p := ⟨p, 0, none⟩) hB).trans hc, fun i s hi => ?_⟩
  exact (b.cell (p := ⟨bk, off + i, none⟩) (Nat.lt_trans hlt hB)).trans (hk i s hi)
/-- The next word is taken. -/
theorem WdsAt.take {w : World} {p bk off cap : Nat} {ws : List (List UInt8)} (hlt : bk < p) (hsz : p < w.heap.size) (hfr : w.frozen? ⟨p, 0, none⟩ = false) {u : Value} (hc : w.cell? ⟨p, 0, none⟩ = some u) (hcap : ws.length ≤ cap) (hcm : cap ≤ 1000000)
    (hk : ∀ (i : Nat) (s : List UInt8), ws[i]? = some s → w.cell? ⟨bk, off + i, none⟩ = some (.string ⟨s.toArray⟩)) : WdsAt (w.setCell ⟨p, 0, none⟩ (.slice (some ⟨bk, off, none⟩) ws.length cap)) p bk ws := by
  refine ⟨hlt, by simpa [World.setCell] using hsz, by rw [World.frozen?_setCell]; exact hfr, off, cap, hcap, hcm, World.cell?_setCell_same _ _ _ hc, fun i s hi => ?_⟩
  rw [World.cell?_setCell_other _ _ _ _ (by intro e; have e2 := congrArg Addr.block e; dsimp only at e2; omega)]
  exact hk i s hi

/-- All that was there is as it was, but for one block. -/
structure Bes (p : Nat) (w w' : World) : Prop where
  os : w'.os = w.os
  tape : w'.tape = w.tape
  output : w'.output = w.output
  size : w.heap.size ≤ w'.heap.size
  block : ∀ k, k < w.heap.size → k ≠ p → w'.heap[k]? = w.heap[k]?
theorem Bes.refl (p : Nat) (w : World) : Bes p w w := ⟨rfl, rfl, rfl, Nat.le_refl _, fun _ _ _ => rfl⟩
theorem Bes.trans {p : Nat} {a b c : World} (h : Bes p a b) (k : Bes p b c) : Bes p a c :=
  ⟨k.os.trans h.os, k.tape.trans h.tape, k.output.trans h.output, Nat.le_trans h.size k.size, fun i hi hp => (k.block i (Nat.lt_of_lt_of_le hi h.size) hp).trans (h.block i hi hp)⟩
theorem Bes.of {p : Nat} {w w' : World} (h : Below w.heap.size w w') : Bes p w w' := ⟨h.os, h.tape, h.output, h.size, fun k hk _ => h.block k hk⟩
theorem Bes.set (p : Nat) (w : World) (u : Value) : Bes p w (w.setCell ⟨p, 0, none⟩ u) :=
  ⟨rfl, rfl, rfl, by simp [World.setCell], fun k _ hp => Below.heap_setCell w _ u k hp⟩
theorem Bes.below {p : Nat} {w w' : World} (h : Bes p w w') (hp : p ≤ w.heap.size) : Below p w w' := ⟨h.os, h.tape, h.output, h.size, fun k hk => h.block k (Nat.lt_of_lt_of_le hk hp) (Nat.ne_of_lt hk)⟩
/-- What the program's fault is. -/
def faultV (t : TypeId) : PanicEntry := { v := .iface t (.agg #[]), recovered := false }

set_option maxHeartbeats 1000000 in
theorem Tryd.next_some (p bk : Nat) (s : List UInt8) (ws : List (List UInt8)) (w : World) (h : WdsAt w p bk (s :: ws)) :
    Calls Tryd.prog 30 #[.pointer (some ⟨p, 0, none⟩)] w fun e w' => e = .returned (.string ⟨s.toArray⟩) ∧ WdsAt w' p bk ws ∧ Bes p w w' := by
  obtain ⟨hlt, hsz, hfr, off, cap, hcap, hcm, hc, hk⟩ := h
  rw [List.length_cons] at hc hcap
  have h0 := hk 0 s rfl
  rw [Nat.add_zero] at h0
  go_enter Tryd.func30, Tryd.ntmps30
  go_wp2
  · go_ret
    have hw0 : ws = [] := List.length_eq_zero_iff.1 (by omega)
    subst hw0
    exact ⟨rfl, WdsAt.take (ws := []) hlt hsz hfr hc (by simp) (by omega) (fun i s hi => by simp at hi), Bes.set p w _⟩
  · go_ret
    refine ⟨rfl, WdsAt.take hlt hsz hfr hc (by omega) (by omega) (fun i s hi => ?_), Bes.set p w _⟩
    have := hk (i + 1) s hi
    rwa [show off + (i + 1) = off + 1 + i by omega] at this

set_option maxHeartbeats 1000000 in
theorem Tryd.next_none (p bk : Nat) (w : World) (h : WdsAt w p bk []) :
    Calls Tryd.prog 30 #[.pointer (some ⟨p, 0, none⟩)] w fun e w' => e = .panicked [faultV 51] ∧ Bes p w w' := by
  obtain ⟨hlt, hsz, hfr, off, cap, hcap, hcm, hc, hk⟩ := h
  rw [List.length_nil] at hc
  go_enter Tryd.func30, Tryd.ntmps30
  go_wp2
  exact ⟨rfl, rfl, Bes.refl p w⟩

end Go.Proofs
