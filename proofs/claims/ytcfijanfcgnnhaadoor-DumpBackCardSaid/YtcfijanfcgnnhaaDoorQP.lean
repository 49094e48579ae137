/-
  QP: Dvd Dvf.
-/
import Derived.Test.YtcfijanfcgnnhaaDoorQN
import Derived.Test.YtcfijanfcgnnhaaDoorQO
set_option linter.unusedVariables false
set_option linter.unusedSimpArgs false
namespace Go.Proofs
open Go.RowKit
open Go.Proofs.YtcfijanfcgnnhaaDoor.AM

def dfr (b1 b2 : Nat) : Deferred := { target := .fn (.func 16) #[.pointer (some ⟨b1, 0, none⟩), .pointer (some ⟨b2, 0, none⟩)], args := #[] }
theorem Tryd.parse_res {w : World} {tm : Array Value} {b1 b2 : Nat} {E : En} {n : Int} (h2 : tm[2]? = some (.pointer (some ⟨b1, 0, none⟩))) (h3 : tm[3]? = some (.pointer (some ⟨b2, 0, none⟩)))
    (g1 : w.heap[b1]? = some (.cells (enC E) 35 (0, 0))) (g2 : w.heap[b2]? = some (.cells #[.int .i64 n] 29 (0, 0))) : (results Tryd.f8 tm).run Tryd.prog w = .ok (.tuple #[.agg (enC E), .int .i64 n]) w := by
  obtain ⟨y0, y1, y2, y3, y4, y5, y6, y7, y8, y9, y10, y11, y12, y13, y14, y15, y16⟩ := ent16 g1
  obtain ⟨x0, x1⟩ := blk1 g2
  simp [results, Tryd.results8, go_sem, h2, h3, x0, x1, y0, y1, y2, y3, y4, y5, y6, y7, y8, y9, y10, y11, y12, y13, y14, y15, y16]
  try rfl
theorem Tryd.leave_ret {w : World} {tm : Array Value} {b1 b2 : Nat} {E : En} {n : Int} {R : Ending → World → Prop} (h2 : tm[2]? = some (.pointer (some ⟨b1, 0, none⟩))) (h3 : tm[3]? = some (.pointer (some ⟨b2, 0, none⟩)))
    (g1 : w.heap[b1]? = some (.cells (enC E) 35 (0, 0))) (g2 : w.heap[b2]? = some (.cells #[.int .i64 n] 29 (0, 0))) (hR : R (.returned (.tuple #[.agg (enC E), .int .i64 n])) (w.alloc (.cells #[] 51))) :
    Leaves Tryd.prog Tryd.f8 tm R [dfr b1 b2] .returning w := by
  refine leaves_cons (f := 16) (args := #[.pointer (some ⟨b1, 0, none⟩), .pointer (some ⟨b2, 0, none⟩)]) (by simp) (by simp [go_sem]) ?_
  refine (Tryd.catch_idle ⟨b1, 0, none⟩ ⟨b2, 0, none⟩ w).mono ?_
  rintro e u' w'' ⟨rfl, rfl, rfl⟩
  show Leaves _ _ _ _ [] .returning _
  have l1 : b1 < w.heap.size := (Array.getElem?_eq_some_iff.1 g1).1
  have l2 : b2 < w.heap.size := (Array.getElem?_eq_some_iff.1 g2).1
  exact ⟨_, Tryd.parse_res h2 h3 ((Below.heap_alloc w _ b1 l1).trans g1) ((Below.heap_alloc w _ b2 l2).trans g2), hR⟩
theorem Tryd.leave_fault {w : World} {tm : Array Value} {b1 b2 : Nat} {E0 : En} {n : Int} {R : Ending → World → Prop} (h2 : tm[2]? = some (.pointer (some ⟨b1, 0, none⟩))) (h3 : tm[3]? = some (.pointer (some ⟨b2, 0, none⟩)))
    (g1 : w.heap[b1]? = some (.cells (enC E0) 35 (0, 0))) (g2 : w.heap[b2]? = some (.cells #[.int .i64 n] 29 (0, 0))) (hb : b1 ≠ b2) (hR : ∀ w', Told b1 b2 zeroEn 33 w w' → R (.returned (.tuple #[.agg (enC zeroEn), .int .i64 33])) w') :
    Leaves Tryd.prog Tryd.f8 tm R [dfr b1 b2] (.panicking [faultV 51]) w := by
  refine leaves_cons (f := 16) (args := #[.pointer (some ⟨b1, 0, none⟩), .pointer (some ⟨b2, 0, none⟩)]) (by simp) (by simp [go_sem]) ?_
  refine (Tryd.catch_fault b1 b2 [] E0 n w g1 g2 hb).mono ?_
  rintro e u' w'' ⟨rfl, rfl, T⟩
  show Leaves _ _ _ _ [] .returning _
  exact ⟨_, Tryd.parse_res h2 h3 T.res T.err, hR w'' T⟩
open Go.RowKit
open Go.Proofs.YtcfijanfcgnnhaaDoor.AM

theorem new_blk (w : World) (o : Obj) : (w.alloc o).heap[w.heap.size]? = some o := by
  show (w.heap.push o)[w.heap.size]? = _
  simp
theorem old_blk {w : World} {b : Nat} {o : Obj} (h : w.heap[b]? = some o) (x : Obj) : (w.alloc x).heap[b]? = some o :=
  (Below.heap_alloc w x b (Array.getElem?_eq_some_iff.1 h).1).trans h
theorem WdsAt.start2 {w : World} {bk p : Nat} {ws : Wd} (hb : w.heap[bk]? = some (.cells (ws.map fun l => Value.string ⟨l.toArray⟩).toArray 9 (0, 0))) (hl : ws.length ≤ 1000000) (hp : p = w.heap.size) :
    WdsAt (w.alloc (.cells #[.slice (some ⟨bk, 0, none⟩) ws.length ws.length] 53)) p bk ws := by
  subst hp
  have l1 : bk < w.heap.size := (Array.getElem?_eq_some_iff.1 hb).1
  obtain ⟨x0, x1⟩ := blk1 (new_blk w (.cells #[.slice (some ⟨bk, 0, none⟩) ws.length ws.length] 53))
  refine ⟨l1, by simp, x1, 0, ws.length, Nat.le_refl _, hl, x0, fun i s hi => ?_⟩
  have h2 := (Below.heap_alloc w (.cells #[.slice (some ⟨bk, 0, none⟩) ws.length ws.length] 53) bk l1).trans hb
  simp [World.cell?, h2, hi]
theorem Told.below {w w5 W : World} {E : En} {n : Int} (T : Told w.heap.size (w.heap.size + 1) E n w5 W) (B : Below w.heap.size w w5) : Below w.heap.size w W :=
  B.trans ⟨T.os, T.tape, T.output, T.size, fun k hk => T.rest k (Nat.lt_of_lt_of_le hk B.size) (Nat.ne_of_lt hk) (Nat.ne_of_lt (Nat.lt_succ_of_lt hk))⟩
theorem Tryd.parse_fin {w w5 W : World} {tm : Array Value} {E : En} {n : Int} (h2 : tm[2]? = some (.pointer (some ⟨w.heap.size, 0, none⟩))) (h3 : tm[3]? = some (.pointer (some ⟨w.heap.size + 1, 0, none⟩))) (T : Told w.heap.size (w.heap.size + 1) E n w5 W) (B : Below w.heap.size w w5) :
    bodyPostD Tryd.prog Tryd.f8 (fun e w' => e = .returned (.tuple #[.agg (enC E), .int .i64 n]) ∧ Below w.heap.size w w') .ret { tmps := tm, defers := [dfr w.heap.size (w.heap.size + 1)] } W :=
  Tryd.leave_ret h2 h3 T.res T.err ⟨rfl, (T.below B).alloc (Nat.le_trans B.size T.size) _⟩
theorem Tryd.parse_bad {w w5 : World} {tm : Array Value} {E0 : En} {n : Int} (h2 : tm[2]? = some (.pointer (some ⟨w.heap.size, 0, none⟩))) (h3 : tm[3]? = some (.pointer (some ⟨w.heap.size + 1, 0, none⟩))) (g1 : w5.heap[w.heap.size]? = some (.cells (enC E0) 35 (0, 0))) (g2 : w5.heap[w.heap.size + 1]? = some (.cells #[.int .i64 n] 29 (0, 0))) (B : Below w.heap.size w w5) :
    bodyPostD Tryd.prog Tryd.f8 (fun e w' => e = .returned (.tuple #[.agg (enC zeroEn), .int .i64 33]) ∧ Below w.heap.size w w') (.panic [faultV 51]) { tmps := tm, defers := [dfr w.heap.size (w.heap.size + 1)] } w5 :=
  Tryd.leave_fault h2 h3 g1 g2 (by omega) fun w' T => ⟨rfl, T.below B⟩

theorem new_blk2 (w : World) (o : Obj) {b : Nat} (h : b = w.heap.size) : (w.alloc o).heap[b]? = some o := by
  subst h
  exact new_blk w o
set_option maxHeartbeats 8000000 in
set_option maxRecDepth 1000000 in
theorem Tryd.parse_long (s : ByteArray) (w : World) (hlong : 16384 < s.size) :
    Calls Tryd.prog 8 #[.string s] w fun e w' => e = .returned (.tuple #[.agg (enC zeroEn), .int .i64 5]) ∧ Below w.heap.size w w' := by
  have hmf : ∀ (fn : Fn) (first cap : Array Value) (w : World), (Instr.makeFunc fn first cap).run Tryd.prog w = .ok (.func fn first cap) w := fun _ _ _ _ => rfl
  have c1 : decide ((s.size : Int) > 16384) = true := decide_eq_true (by omega)
  go_enter_defers Tryd.func8, Tryd.ntmps8
  go_wp2
  exact ⟨_, Tryd.parse_res (b1 := w.heap.size) (b2 := w.heap.size + 1) (E := zeroEn) (n := 5) rfl rfl (old_blk (new_blk w _) _) (new_blk2 _ _ (by simp)), rfl, ((Below.refl _ w).alloc (Nat.le_refl _) _).alloc (by simp) _⟩

/-- The world ahead of entry. -/
def parV (w : World) (ws : Wd) : World := (((w.alloc (.cells (enC zeroEn) 35)).alloc (.cells #[.int .i64 0] 29)).alloc (.cells (ws.map fun l => Value.string ⟨l.toArray⟩).toArray 9)).alloc (.cells #[.slice (some ⟨w.heap.size + 1 + 1, 0, none⟩) ws.length ws.length] 53)
structure ParM (w w4 : World) : Prop where
  g1 : w4.heap[w.heap.size]? = some (.cells (enC zeroEn) 35 (0, 0))
  g2 : w4.heap[w.heap.size + 1]? = some (.cells #[.int .i64 0] 29 (0, 0))
  bel : Below w.heap.size w w4
  sz : w.heap.size + 4 ≤ w4.heap.size
def EntQ (w w4 : World) (ws : Wd) (e : Ending) : Prop := (entP ws = none ∧ e = .panicked [faultV 51]) ∨
  (∃ q rest off cap, entP ws = some (q, rest) ∧ rest ≠ [] ∧ e = .returned (.agg #[.string ⟨q.kind.toArray⟩, .int .i64 q.v.kd, .int .i64 q.v.vw, .int .i64 q.v.ht, .string ⟨q.v.bl.toArray⟩, .int .i64 q.v.tk, .int .i64 q.v.sg, .string ⟨q.v.sig.toArray⟩, .int .i64 q.t.fr, .int .i64 q.t.to, .int .i64 q.t.am, .int .i64 q.t.no, .string ⟨q.t.sig.toArray⟩, .int .i64 q.m.vw, .int .i64 q.m.ht, .string ⟨q.m.bl.toArray⟩]) ∧ w4.cell? ⟨w.heap.size + 1 + 1 + 1, 0, none⟩ = some (.slice (some ⟨w.heap.size + 1 + 1, off, none⟩) rest.length cap) ∧ decide (((rest.length : Nat) : Int) > 0) = true ∧ 0 < rest.length) ∨
  (∃ q off cap, entP ws = some (q, []) ∧ e = .returned (.agg #[.string ⟨q.kind.toArray⟩, .int .i64 q.v.kd, .int .i64 q.v.vw, .int .i64 q.v.ht, .string ⟨q.v.bl.toArray⟩, .int .i64 q.v.tk, .int .i64 q.v.sg, .string ⟨q.v.sig.toArray⟩, .int .i64 q.t.fr, .int .i64 q.t.to, .int .i64 q.t.am, .int .i64 q.t.no, .string ⟨q.t.sig.toArray⟩, .int .i64 q.m.vw, .int .i64 q.m.ht, .string ⟨q.m.bl.toArray⟩]) ∧ w4.cell? ⟨w.heap.size + 1 + 1 + 1, 0, none⟩ = some (.slice (some ⟨w.heap.size + 1 + 1, off, none⟩) 0 cap))
theorem Tryd.parse_entry (w : World) (ws : Wd) (hl : WL ws) (hn : ws.length ≤ 1000000) :
    Calls Tryd.prog 18 #[.pointer (some ⟨w.heap.size + 1 + 1 + 1, 0, none⟩)] (parV w ws) fun e w4 => ParM w w4 ∧ EntQ w w4 ws e := by
  have hW : WdsAt (parV w ws) (w.heap.size + 1 + 1 + 1) (w.heap.size + 1 + 1) ws := WdsAt.start2 (new_blk2 _ _ (by simp)) hn (by simp)
  have vs : (parV w ws).heap.size = w.heap.size + 4 := by simp [parV]
  refine (Tryd.entry_k _ _ ws _ hW hl).mono fun e w4 ⟨b4, h4⟩ => ⟨⟨?_, ?_, ?_, ?_⟩, ?_⟩
  · exact (b4.block _ (by omega) (by omega)).trans (old_blk (old_blk (old_blk (new_blk w _) _) _) _)
  · exact (b4.block _ (by omega) (by omega)).trans (old_blk (old_blk (new_blk2 _ _ (by simp)) _) _)
  · have b0 : Below w.heap.size w (parV w ws) := ((((Below.refl _ w).alloc (Nat.le_refl _) _).alloc (by simp) _).alloc (by simp; omega) _).alloc (by simp; omega) _
    exact b0.trans ⟨b4.os, b4.tape, b4.output, b4.size, fun k hk => b4.block k (by omega) (by omega)⟩
  · have := b4.size
    omega
  · rcases h4 with ⟨h, rfl⟩ | ⟨⟨q, rest⟩, h, rfl, hW4⟩
    · exact .inl ⟨h, rfl⟩
    · obtain ⟨off, cap, _, _, hc, _⟩ := hW4.cell
      cases rest with
      | nil => exact .inr (.inr ⟨q, off, cap, h, rfl, hc⟩)
      | cons x r => exact .inr (.inl ⟨q, x :: r, off, cap, h, by simp, rfl, hc, decide_eq_true (by simp only [List.length_cons]; omega), by simp⟩)

theorem alloc_cell {w4 : World} (w' : World) (o : Obj) (b k : Nat) (h : w'.heap.size = w4.heap.size) (hb : b < w4.heap.size) : (w'.alloc o).cell? ⟨b, k, none⟩ = w'.cell? ⟨b, k, none⟩ := World.cell?_of_block (a := ⟨b, k, none⟩) (Below.heap_alloc w' o b (by omega))
theorem alloc_frozen {w4 : World} (w' : World) (o : Obj) (b k : Nat) (h : w'.heap.size = w4.heap.size) (hb : b < w4.heap.size) : (w'.alloc o).frozen? ⟨b, k, none⟩ = w'.frozen? ⟨b, k, none⟩ := by
  unfold World.frozen?
  rw [Below.heap_alloc w' o b (by omega)]
theorem parS_none {s : List UInt8} (hs : s.length ≤ 16384) (h : entP (sp32 s) = none) : parS s = (zeroEn, 33) := by
  unfold parS parE
  rw [h, if_neg (by omega)]
theorem parS_more {s : List UInt8} {q : En} {rest : Wd} (hs : s.length ≤ 16384) (h : entP (sp32 s) = some (q, rest)) (hr : rest ≠ []) : parS s = (zeroEn, 33) := by
  unfold parS parE
  rw [h, if_neg (by omega)]
  cases rest with
  | nil => exact absurd rfl hr
  | cons x r => rfl
theorem parS_all {s : List UInt8} {q : En} (hs : s.length ≤ 16384) (h : entP (sp32 s) = some (q, [])) : parS s = if rgtS q then (q, 0) else (zeroEn, 33) := by
  unfold parS parE
  rw [h, if_neg (by omega)]
  dsimp only
  cases rgtS q <;> rfl
theorem Tryd.entry_no {w : World} {ws : Wd} (hl : WL ws) (hn : ws.length ≤ 1000000) (hq : entP ws = none) :
    Calls Tryd.prog 18 #[.pointer (some ⟨w.heap.size + 1 + 1 + 1, 0, none⟩)] (parV w ws) fun e w4 => ParM w w4 ∧ e = .panicked [faultV 51] :=
  (Tryd.parse_entry w ws hl hn).mono fun e w4 ⟨h1, h2⟩ => ⟨h1, by
    rcases h2 with ⟨_, h⟩ | ⟨q, rest, off, cap, h, _⟩ | ⟨q, off, cap, h, _⟩
    · exact h
    · rw [hq] at h; cases h
    · rw [hq] at h; cases h⟩
theorem Tryd.entry_more {w : World} {ws : Wd} {q : En} {rest : Wd} (hl : WL ws) (hn : ws.length ≤ 1000000) (hq : entP ws = some (q, rest)) (hr : rest ≠ []) :
    Calls Tryd.prog 18 #[.pointer (some ⟨w.heap.size + 1 + 1 + 1, 0, none⟩)] (parV w ws) fun e w4 => ParM w w4 ∧ ∃ off cap, e = .returned (.agg #[.string ⟨q.kind.toArray⟩, .int .i64 q.v.kd, .int .i64 q.v.vw, .int .i64 q.v.ht, .string ⟨q.v.bl.toArray⟩, .int .i64 q.v.tk, .int .i64 q.v.sg, .string ⟨q.v.sig.toArray⟩, .int .i64 q.t.fr, .int .i64 q.t.to, .int .i64 q.t.am, .int .i64 q.t.no, .string ⟨q.t.sig.toArray⟩, .int .i64 q.m.vw, .int .i64 q.m.ht, .string ⟨q.m.bl.toArray⟩]) ∧ w4.cell? ⟨w.heap.size + 1 + 1 + 1, 0, none⟩ = some (.slice (some ⟨w.heap.size + 1 + 1, off, none⟩) rest.length cap) :=
  (Tryd.parse_entry w ws hl hn).mono fun e w4 ⟨h1, h2⟩ => ⟨h1, by
    rcases h2 with ⟨h, _⟩ | ⟨q', rest', off, cap, h, _, h3, h4, _⟩ | ⟨q', off, cap, h, _⟩
    · rw [hq] at h; cases h
    · rw [hq] at h; cases h; exact ⟨off, cap, h3, h4⟩
    · rw [hq] at h; cases h; exact absurd rfl hr⟩
theorem Tryd.entry_all {w : World} {ws : Wd} {q : En} (hl : WL ws) (hn : ws.length ≤ 1000000) (hq : entP ws = some (q, [])) :
    Calls Tryd.prog 18 #[.pointer (some ⟨w.heap.size + 1 + 1 + 1, 0, none⟩)] (parV w ws) fun e w4 => ParM w w4 ∧ ∃ off cap, e = .returned (.agg #[.string ⟨q.kind.toArray⟩, .int .i64 q.v.kd, .int .i64 q.v.vw, .int .i64 q.v.ht, .string ⟨q.v.bl.toArray⟩, .int .i64 q.v.tk, .int .i64 q.v.sg, .string ⟨q.v.sig.toArray⟩, .int .i64 q.t.fr, .int .i64 q.t.to, .int .i64 q.t.am, .int .i64 q.t.no, .string ⟨q.t.sig.toArray⟩, .int .i64 q.m.vw, .int .i64 q.m.ht, .string ⟨q.m.bl.toArray⟩]) ∧ w4.cell? ⟨w.heap.size + 1 + 1 + 1, 0, none⟩ = some (.slice (some ⟨w.heap.size + 1 + 1, off, none⟩) 0 cap) :=
  (Tryd.parse_entry w ws hl hn).mono fun e w4 ⟨h1, h2⟩ => ⟨h1, by
    rcases h2 with ⟨h, _⟩ | ⟨q', rest', off, cap, h, hr, _⟩ | ⟨q', off, cap, h, h3, h4⟩
    · rw [hq] at h; cases h
    · rw [hq] at h; cases h; exact absurd rfl hr
    · rw [hq] at h; cases h; exact ⟨off, cap, h3, h4⟩⟩

end Go.Proofs
