/-
  QJ: Dv3 Dv4 Dv5 Dv6 Dv7.
-/
import Derived.Test.YtcfijanfcgnnhaaDoorQB
import Derived.Test.YtcfijanfcgnnhaaDoorQI
set_option linter.unusedVariables false
set_option linter.unusedSimpArgs false
namespace Go.Proofs
open Go.RowKit
open Go.Proofs.YtcfijanfcgnnhaaDoor.AM

def NmR (p bk : Nat) : Option (Int × Wd) → Ending → World → Prop
  | some q, e, w' => e = .returned (.int .i64 q.1) ∧ WdsAt w' p bk q.2
  | none, e, w' => e = .panicked [faultV 51]
def TxR (p bk : Nat) : Option (List UInt8 × Wd) → Ending → World → Prop
  | some q, e, w' => e = .returned (.string ⟨q.1.toArray⟩) ∧ WdsAt w' p bk q.2
  | none, e, w' => e = .panicked [faultV 51]
def WL (ws : Wd) : Prop := ∀ s ∈ ws, s.length ≤ 16384
theorem nmP_rest {ws r : Wd} {n : Int} (h : nmP ws = some (n, r)) (hl : WL ws) : WL r := by
  rw [(nmP_inv h).1] at hl
  exact fun s hs => hl s (by simp [hs])
theorem txP_rest {ws r : Wd} {s : List UInt8} (h : txP ws = some (s, r)) (hl : WL ws) : WL r := by
  rw [txP_inv h] at hl
  exact fun s hs => hl s (by simp [hs])
theorem Tryd.nm_k (p bk : Nat) (ws : Wd) (w : World) (h : WdsAt w p bk ws) (hl : WL ws) :
    Calls Tryd.prog 31 #[.pointer (some ⟨p, 0, none⟩)] w fun e w' => Bes p w w' ∧ NmR p bk (nmP ws) e w' := by
  cases ws with
  | nil => exact (Tryd.number_none p bk w h).mono fun e w' ⟨h1, h2⟩ => ⟨h2, h1⟩
  | cons s r =>
    refine (Tryd.number_some p bk s r w h (hl s (by simp))).mono fun e w' ⟨h1, h2⟩ => ⟨h1, ?_⟩
    have e1 : nmP (s :: r) = (numP s).map fun n => ((n : Int), r) := rfl
    rw [e1]
    cases hq : numP s with
    | none => rw [hq] at h2; exact h2
    | some n => rw [hq] at h2; exact h2
theorem Tryd.tx_k (p bk : Nat) (ws : Wd) (w : World) (h : WdsAt w p bk ws) (hl : WL ws) :
    Calls Tryd.prog 32 #[.pointer (some ⟨p, 0, none⟩)] w fun e w' => Bes p w w' ∧ TxR p bk (txP ws) e w' := by
  cases ws with
  | nil => exact (Tryd.text_none p bk w h).mono fun e w' ⟨h1, h2⟩ => ⟨h2, h1⟩
  | cons s r =>
    refine (Tryd.text_some p bk s r w h (hl s (by simp))).mono fun e w' ⟨h1, h2⟩ => ⟨h1, ?_⟩
    have e1 : txP (s :: r) = (unS s).map fun n => (n, r) := rfl
    rw [e1]
    cases hq : unS s with
    | none => rw [hq] at h2; exact h2
    | some n => rw [hq] at h2; exact h2

theorem Tryd.nm_o (p bk : Nat) (ws : Wd) (w : World) (h : WdsAt w p bk ws) (hl : WL ws) :
    Calls Tryd.prog 31 #[.pointer (some ⟨p, 0, none⟩)] w fun e w' => Bes p w w' ∧ ((nmP ws = none ∧ e = .panicked [faultV 51]) ∨ ∃ n r, nmP ws = some (n, r) ∧ e = .returned (.int .i64 n) ∧ WdsAt w' p bk r ∧ WL r) := by
  refine (Tryd.nm_k p bk ws w h hl).mono fun e w' ⟨h1, h2⟩ => ⟨h1, ?_⟩
  cases hq : nmP ws with
  | none => rw [hq] at h2; exact .inl ⟨rfl, h2⟩
  | some q => rw [hq] at h2; exact .inr ⟨q.1, q.2, rfl, h2.1, h2.2, nmP_rest (n := q.1) hq hl⟩
theorem Tryd.tx_o (p bk : Nat) (ws : Wd) (w : World) (h : WdsAt w p bk ws) (hl : WL ws) :
    Calls Tryd.prog 32 #[.pointer (some ⟨p, 0, none⟩)] w fun e w' => Bes p w w' ∧ ((txP ws = none ∧ e = .panicked [faultV 51]) ∨ ∃ s r, txP ws = some (s, r) ∧ e = .returned (.string ⟨s.toArray⟩) ∧ WdsAt w' p bk r ∧ WL r) := by
  refine (Tryd.tx_k p bk ws w h hl).mono fun e w' ⟨h1, h2⟩ => ⟨h1, ?_⟩
  cases hq : txP ws with
  | none => rw [hq] at h2; exact .inl ⟨rfl, h2⟩
  | some q => rw [hq] at h2; exact .inr ⟨q.1, q.2, rfl, h2.1, h2.2, txP_rest (s := q.1) hq hl⟩
theorem WdsAt.alloc {w : World} {p bk : Nat} {ws : Wd} (h : WdsAt w p bk ws) (o : Obj) : WdsAt (w.alloc o) p bk ws := h.below (B := w.heap.size) ((Below.refl _ _).alloc (Nat.le_refl _) _) h.sz
theorem Bes.alloc {p : Nat} {a w : World} (h : Bes p a w) (o : Obj) : Bes p a (w.alloc o) := h.trans (Bes.of ((Below.refl _ w).alloc (Nat.le_refl _) _))

/-- An entry's cells. -/
def enC (e : En) : Array Value := #[.string ⟨e.kind.toArray⟩, .int .i64 e.v.kd, .int .i64 e.v.vw, .int .i64 e.v.ht, .string ⟨e.v.bl.toArray⟩, .int .i64 e.v.tk, .int .i64 e.v.sg, .string ⟨e.v.sig.toArray⟩, .int .i64 e.t.fr, .int .i64 e.t.to, .int .i64 e.t.am, .int .i64 e.t.no, .string ⟨e.t.sig.toArray⟩, .int .i64 e.m.vw, .int .i64 e.m.ht, .string ⟨e.m.bl.toArray⟩]
theorem Bes.new {p : Nat} {a w' : World} {o : Obj} (h : Bes p (a.alloc o) w') (hp : p < a.heap.size) : w'.heap[a.heap.size]? = some o := by
  rw [h.block a.heap.size (by simp) (by omega)]
  show (a.heap.push o)[a.heap.size]? = _
  simp
theorem Bes.set2 {p : Nat} {a w : World} (h : Bes p a w) {q : Addr} (hq : a.heap.size ≤ q.block) (u : Value) : Bes p a (w.setCell q u) :=
  ⟨h.os, h.tape, h.output, by simpa [World.setCell] using h.size, fun k hk hp => (Below.heap_setCell w q u k (by omega)).trans (h.block k hk hp)⟩
theorem WdsAt.set2 {p bk : Nat} {w : World} {ws : Wd} (h : WdsAt w p bk ws) {q : Addr} (hq : p < q.block) (u : Value) : WdsAt (w.setCell q u) p bk ws :=
  h.below (B := q.block) ((Below.refl _ w).setCell (Nat.le_refl _) u) hq
theorem ent16 {w : World} {b : Nat} {E : En} (h : w.heap[b]? = some (.cells (enC E) 35 (0, 0))) : w.cell? ⟨b, 0, none⟩ = some (.string ⟨E.kind.toArray⟩) ∧ w.cell? ⟨b, 1, none⟩ = some (.int .i64 E.v.kd) ∧ w.cell? ⟨b, 2, none⟩ = some (.int .i64 E.v.vw) ∧ w.cell? ⟨b, 3, none⟩ = some (.int .i64 E.v.ht) ∧ w.cell? ⟨b, 4, none⟩ = some (.string ⟨E.v.bl.toArray⟩) ∧ w.cell? ⟨b, 5, none⟩ = some (.int .i64 E.v.tk) ∧ w.cell? ⟨b, 6, none⟩ = some (.int .i64 E.v.sg) ∧ w.cell? ⟨b, 7, none⟩ = some (.string ⟨E.v.sig.toArray⟩) ∧ w.cell? ⟨b, 8, none⟩ = some (.int .i64 E.t.fr) ∧ w.cell? ⟨b, 9, none⟩ = some (.int .i64 E.t.to) ∧ w.cell? ⟨b, 10, none⟩ = some (.int .i64 E.t.am) ∧ w.cell? ⟨b, 11, none⟩ = some (.int .i64 E.t.no) ∧ w.cell? ⟨b, 12, none⟩ = some (.string ⟨E.t.sig.toArray⟩) ∧ w.cell? ⟨b, 13, none⟩ = some (.int .i64 E.m.vw) ∧ w.cell? ⟨b, 14, none⟩ = some (.int .i64 E.m.ht) ∧ w.cell? ⟨b, 15, none⟩ = some (.string ⟨E.m.bl.toArray⟩) ∧ (∀ k, w.frozen? ⟨b, k, none⟩ = false) := by
  refine ⟨?_, ?_, ?_, ?_, ?_, ?_, ?_, ?_, ?_, ?_, ?_, ?_, ?_, ?_, ?_, ?_, fun k => ?_⟩
  all_goals simp [World.cell?, World.frozen?, h, enC]
theorem blk_same {w : World} {b k : Nat} {c : Array Value} {t : TypeId} {v : Value} (h : w.heap[b]? = some (.cells c t (0, 0))) : (w.setCell ⟨b, k, none⟩ v).heap[b]? = some (.cells (c.setIfInBounds k v) t (0, 0)) := by
  simp [World.setCell, Array.getElem?_modify, h]
theorem blk_other {w : World} {b : Nat} {o : Obj} {q : Addr} {v : Value} (h : w.heap[b]? = some o) (hb : b ≠ q.block) : (w.setCell q v).heap[b]? = some o :=
  (Below.heap_setCell w q v b hb).trans h
def EntR (p bk : Nat) : Option (En × Wd) → Ending → World → Prop
  | some q, e, w' => e = .returned (.agg (enC q.1)) ∧ WdsAt w' p bk q.2
  | none, e, w' => e = .panicked [faultV 51]
theorem blk16 {w : World} {b : Nat} {v0 v1 v2 v3 v4 v5 v6 v7 v8 v9 v10 v11 v12 v13 v14 v15 : Value} (h : w.heap[b]? = some (.cells #[v0, v1, v2, v3, v4, v5, v6, v7, v8, v9, v10, v11, v12, v13, v14, v15] 35 (0, 0))) : w.cell? ⟨b, 0, none⟩ = some v0 ∧ w.cell? ⟨b, 1, none⟩ = some v1 ∧ w.cell? ⟨b, 2, none⟩ = some v2 ∧ w.cell? ⟨b, 3, none⟩ = some v3 ∧ w.cell? ⟨b, 4, none⟩ = some v4 ∧ w.cell? ⟨b, 5, none⟩ = some v5 ∧ w.cell? ⟨b, 6, none⟩ = some v6 ∧ w.cell? ⟨b, 7, none⟩ = some v7 ∧ w.cell? ⟨b, 8, none⟩ = some v8 ∧ w.cell? ⟨b, 9, none⟩ = some v9 ∧ w.cell? ⟨b, 10, none⟩ = some v10 ∧ w.cell? ⟨b, 11, none⟩ = some v11 ∧ w.cell? ⟨b, 12, none⟩ = some v12 ∧ w.cell? ⟨b, 13, none⟩ = some v13 ∧ w.cell? ⟨b, 14, none⟩ = some v14 ∧ w.cell? ⟨b, 15, none⟩ = some v15 ∧ (∀ k, w.frozen? ⟨b, k, none⟩ = false) := by
  refine ⟨?_, ?_, ?_, ?_, ?_, ?_, ?_, ?_, ?_, ?_, ?_, ?_, ?_, ?_, ?_, ?_, fun k => ?_⟩
  all_goals simp [World.cell?, World.frozen?, h]
set_option maxHeartbeats 8000000 in
theorem Tryd.entry_ret {p bk : Nat} {w wE : World} {tm : Array Value} {rb : Nat} {E0 E : En} {r : Wd} {o : Option (En × Wd)} {v0 v1 v2 v3 v4 v5 v6 v7 v8 v9 v10 v11 v12 v13 v14 v15 : Value} (ht : tm[2]? = some (.pointer (some ⟨rb, 0, none⟩))) (hr : rb = w.heap.size) (hp : p < w.heap.size)
    (hh : wE.heap[rb]? = some (.cells (enC E0) 35 (0, 0))) (hB : Bes p w wE) (hW : WdsAt wE p bk r) (ho : o = some (E, r)) (hE : #[v0, v1, v2, v3, v4, v5, v6, v7, v8, v9, v10, v11, v12, v13, v14, v15] = enC E) :
    bodyPost Tryd.prog Tryd.f18 (fun e w' => Bes p w w' ∧ EntR p bk o e w') .ret { tmps := tm, defers := [] } ((((((((((((((((wE.setCell ⟨rb, 0, none⟩ v0).setCell ⟨rb, 1, none⟩ v1).setCell ⟨rb, 2, none⟩ v2).setCell ⟨rb, 3, none⟩ v3).setCell ⟨rb, 4, none⟩ v4).setCell ⟨rb, 5, none⟩ v5).setCell ⟨rb, 6, none⟩ v6).setCell ⟨rb, 7, none⟩ v7).setCell ⟨rb, 8, none⟩ v8).setCell ⟨rb, 9, none⟩ v9).setCell ⟨rb, 10, none⟩ v10).setCell ⟨rb, 11, none⟩ v11).setCell ⟨rb, 12, none⟩ v12).setCell ⟨rb, 13, none⟩ v13).setCell ⟨rb, 14, none⟩ v14).setCell ⟨rb, 15, none⟩ v15) := by
  subst hr ho
  have s0 := blk_same (k := 0) (v := v0) hh
  have t0 := Bes.set2 hB (q := ⟨w.heap.size, 0, none⟩) (Nat.le_refl _) v0
  have u0 := WdsAt.set2 hW (q := ⟨w.heap.size, 0, none⟩) hp v0
  have s1 := blk_same (k := 1) (v := v1) s0
  have t1 := Bes.set2 t0 (q := ⟨w.heap.size, 1, none⟩) (Nat.le_refl _) v1
  have u1 := WdsAt.set2 u0 (q := ⟨w.heap.size, 1, none⟩) hp v1
  clear s0 t0 u0
  have s2 := blk_same (k := 2) (v := v2) s1
  have t2 := Bes.set2 t1 (q := ⟨w.heap.size, 2, none⟩) (Nat.le_refl _) v2
  have u2 := WdsAt.set2 u1 (q := ⟨w.heap.size, 2, none⟩) hp v2
  clear s1 t1 u1
  have s3 := blk_same (k := 3) (v := v3) s2
  have t3 := Bes.set2 t2 (q := ⟨w.heap.size, 3, none⟩) (Nat.le_refl _) v3
  have u3 := WdsAt.set2 u2 (q := ⟨w.heap.size, 3, none⟩) hp v3
  clear s2 t2 u2
  have s4 := blk_same (k := 4) (v := v4) s3
  have t4 := Bes.set2 t3 (q := ⟨w.heap.size, 4, none⟩) (Nat.le_refl _) v4
  have u4 := WdsAt.set2 u3 (q := ⟨w.heap.size, 4, none⟩) hp v4
  clear s3 t3 u3
  have s5 := blk_same (k := 5) (v := v5) s4
  have t5 := Bes.set2 t4 (q := ⟨w.heap.size, 5, none⟩) (Nat.le_refl _) v5
  have u5 := WdsAt.set2 u4 (q := ⟨w.heap.size, 5, none⟩) hp v5
  clear s4 t4 u4
  have s6 := blk_same (k := 6) (v := v6) s5
  have t6 := Bes.set2 t5 (q := ⟨w.heap.size, 6, none⟩) (Nat.le_refl _) v6
  have u6 := WdsAt.set2 u5 (q := ⟨w.heap.size, 6, none⟩) hp v6
  clear s5 t5 u5
  have s7 := blk_same (k := 7) (v := v7) s6
  have t7 := Bes.set2 t6 (q := ⟨w.heap.size, 7, none⟩) (Nat.le_refl _) v7
  have u7 := WdsAt.set2 u6 (q := ⟨w.heap.size, 7, none⟩) hp v7
  clear s6 t6 u6
  have s8 := blk_same (k := 8) (v := v8) s7
  have t8 := Bes.set2 t7 (q := ⟨w.heap.size, 8, none⟩) (Nat.le_refl _) v8
  have u8 := WdsAt.set2 u7 (q := ⟨w.heap.size, 8, none⟩) hp v8
  clear s7 t7 u7
  have s9 := blk_same (k := 9) (v := v9) s8
  have t9 := Bes.set2 t8 (q := ⟨w.heap.size, 9, none⟩) (Nat.le_refl _) v9
  have u9 := WdsAt.set2 u8 (q := ⟨w.heap.size, 9, none⟩) hp v9
  clear s8 t8 u8
  have s10 := blk_same (k := 10) (v := v10) s9
  have t10 := Bes.set2 t9 (q := ⟨w.heap.size, 10, none⟩) (Nat.le_refl _) v10
  have u10 := WdsAt.set2 u9 (q := ⟨w.heap.size, 10, none⟩) hp v10
  clear s9 t9 u9
  have s11 := blk_same (k := 11) (v := v11) s10
  have t11 := Bes.set2 t10 (q := ⟨w.heap.size, 11, none⟩) (Nat.le_refl _) v11
  have u11 := WdsAt.set2 u10 (q := ⟨w.heap.size, 11, none⟩) hp v11
  clear s10 t10 u10
  have s12 := blk_same (k := 12) (v := v12) s11
  have t12 := Bes.set2 t11 (q := ⟨w.heap.size, 12, none⟩) (Nat.le_refl _) v12
  have u12 := WdsAt.set2 u11 (q := ⟨w.heap.size, 12, none⟩) hp v12
  clear s11 t11 u11
  have s13 := blk_same (k := 13) (v := v13) s12
  have t13 := Bes.set2 t12 (q := ⟨w.heap.size, 13, none⟩) (Nat.le_refl _) v13
  have u13 := WdsAt.set2 u12 (q := ⟨w.heap.size, 13, none⟩) hp v13
  clear s12 t12 u12
  have s14 := blk_same (k := 14) (v := v14) s13
  have t14 := Bes.set2 t13 (q := ⟨w.heap.size, 14, none⟩) (Nat.le_refl _) v14
  have u14 := WdsAt.set2 u13 (q := ⟨w.heap.size, 14, none⟩) hp v14
  clear s13 t13 u13
  have s15 := blk_same (k := 15) (v := v15) s14
  have t15 := Bes.set2 t14 (q := ⟨w.heap.size, 15, none⟩) (Nat.le_refl _) v15
  have u15 := WdsAt.set2 u14 (q := ⟨w.heap.size, 15, none⟩) hp v15
  clear s14 t14 u14
  have e16 : ((((((((((((((((enC E0).setIfInBounds 0 v0).setIfInBounds 1 v1).setIfInBounds 2 v2).setIfInBounds 3 v3).setIfInBounds 4 v4).setIfInBounds 5 v5).setIfInBounds 6 v6).setIfInBounds 7 v7).setIfInBounds 8 v8).setIfInBounds 9 v9).setIfInBounds 10 v10).setIfInBounds 11 v11).setIfInBounds 12 v12).setIfInBounds 13 v13).setIfInBounds 14 v14).setIfInBounds 15 v15 = #[v0, v1, v2, v3, v4, v5, v6, v7, v8, v9, v10, v11, v12, v13, v14, v15] := by simp [enC]
  rw [e16] at s15
  generalize ((((((((((((((((wE.setCell ⟨w.heap.size, 0, none⟩ v0).setCell ⟨w.heap.size, 1, none⟩ v1).setCell ⟨w.heap.size, 2, none⟩ v2).setCell ⟨w.heap.size, 3, none⟩ v3).setCell ⟨w.heap.size, 4, none⟩ v4).setCell ⟨w.heap.size, 5, none⟩ v5).setCell ⟨w.heap.size, 6, none⟩ v6).setCell ⟨w.heap.size, 7, none⟩ v7).setCell ⟨w.heap.size, 8, none⟩ v8).setCell ⟨w.heap.size, 9, none⟩ v9).setCell ⟨w.heap.size, 10, none⟩ v10).setCell ⟨w.heap.size, 11, none⟩ v11).setCell ⟨w.heap.size, 12, none⟩ v12).setCell ⟨w.heap.size, 13, none⟩ v13).setCell ⟨w.heap.size, 14, none⟩ v14).setCell ⟨w.heap.size, 15, none⟩ v15) = wF at *
  obtain ⟨y0, y1, y2, y3, y4, y5, y6, y7, y8, y9, y10, y11, y12, y13, y14, y15, y16⟩ := blk16 s15
  refine bodyPost_ret (v := .agg #[v0, v1, v2, v3, v4, v5, v6, v7, v8, v9, v10, v11, v12, v13, v14, v15]) ?_ rfl ⟨t15, by rw [hE], u15⟩
  simp [results, Tryd.results18, go_sem, ht, y0, y1, y2, y3, y4, y5, y6, y7, y8, y9, y10, y11, y12, y13, y14, y15, y16]
  try rfl

set_option maxHeartbeats 8000000 in
set_option maxRecDepth 1000000 in
theorem Tryd.entry_none (p bk : Nat) (w : World) (h : WdsAt w p bk []) :
    Calls Tryd.prog 18 #[.pointer (some ⟨p, 0, none⟩)] w fun e w' => e = .panicked [faultV 51] ∧ Bes p w w' := by
  go_enter Tryd.func18, Tryd.ntmps18
  go_wp2_with (go_at_call 30; refine (Tryd.next_none p bk _ (h.alloc _)).mono ?_; rintro e w1 ⟨rfl, b1⟩)
  exact ⟨rfl, rfl, ((Bes.refl p w).alloc _).trans b1⟩

open Go.RowKit
open Go.Proofs.YtcfijanfcgnnhaaDoor.AM

set_option maxHeartbeats 8000000 in
set_option maxRecDepth 1000000 in
theorem Tryd.entry_vote (p bk : Nat) (r0 : Wd) (w : World) (hA : WdsAt w p bk (wVote :: r0)) (hl : WL r0) :
    Calls Tryd.prog 18 #[.pointer (some ⟨p, 0, none⟩)] w fun e w' => Bes p w w' ∧ EntR p bk ((vtP r0).map fun q => (⟨wVote, q.1, zeroT, zeroM⟩, q.2)) e w' := by
  have hsz := hA.sz
  go_enter Tryd.func18, Tryd.ntmps18
  go_wp2_with (go_at_call 30; refine (Tryd.next_some p bk wVote r0 _ (hA.alloc _)).mono ?_; rintro e u0 ⟨rfl, hW0, b0⟩)
  have b1 : Bes p (w.alloc (.cells (enC ⟨[], zeroV, zeroT, zeroM⟩) 35)) (u0.alloc (.cells (enC ⟨wVote, zeroV, zeroT, zeroM⟩) 35)) := b0.alloc _
  have k0 := Bes.refl p (u0.alloc (.cells (enC ⟨wVote, zeroV, zeroT, zeroM⟩) 35))
  have hV0 := hW0.alloc (.cells (enC ⟨wVote, zeroV, zeroT, zeroM⟩) 35)
  have bw : Bes p w (w.alloc (.cells (enC ⟨[], zeroV, zeroT, zeroM⟩) 35)) := (Bes.refl p w).alloc _
  go_wp2_with (go_at_call 31; refine (Tryd.nm_o p bk r0 _ hV0 hl).mono ?_; rintro e u1 ⟨c1, hh1⟩; rcases hh1 with ⟨hq1, rfl⟩ | ⟨x1, r1, hq1, rfl, hW1, hL1⟩)
  · exact ⟨rfl, bw.trans (b1.trans c1), by simp only [vtP, hq1, Option.bind_some, Option.bind_none, Option.map_none]; rfl⟩
  have d1 := b1.trans c1
  have k1 := k0.trans c1
  go_wp2_with (go_at_call 31; refine (Tryd.nm_o p bk r1 _ hW1 hL1).mono ?_; rintro e u2 ⟨c2, hh2⟩; rcases hh2 with ⟨hq2, rfl⟩ | ⟨x2, r2, hq2, rfl, hW2, hL2⟩)
  · exact ⟨rfl, bw.trans (d1.trans c2), by simp only [vtP, hq1, hq2, Option.bind_some, Option.bind_none, Option.map_none]; rfl⟩
  have d2 := d1.trans c2
  have k2 := k1.trans c2
  go_wp2_with (go_at_call 31; refine (Tryd.nm_o p bk r2 _ hW2 hL2).mono ?_; rintro e u3 ⟨c3, hh3⟩; rcases hh3 with ⟨hq3, rfl⟩ | ⟨x3, r3, hq3, rfl, hW3, hL3⟩)
  · exact ⟨rfl, bw.trans (d2.trans c3), by simp only [vtP, hq1, hq2, hq3, Option.bind_some, Option.bind_none, Option.map_none]; rfl⟩
  have d3 := d2.trans c3
  have k3 := k2.trans c3
  go_wp2_with (go_at_call 32; refine (Tryd.tx_o p bk r3 _ hW3 hL3).mono ?_; rintro e u4 ⟨c4, hh4⟩; rcases hh4 with ⟨hq4, rfl⟩ | ⟨x4, r4, hq4, rfl, hW4, hL4⟩)
  · exact ⟨rfl, bw.trans (d3.trans c4), by simp only [vtP, hq1, hq2, hq3, hq4, Option.bind_some, Option.bind_none, Option.map_none]; rfl⟩
  have d4 := d3.trans c4
  have k4 := k3.trans c4
  go_wp2_with (go_at_call 31; refine (Tryd.nm_o p bk r4 _ hW4 hL4).mono ?_; rintro e u5 ⟨c5, hh5⟩; rcases hh5 with ⟨hq5, rfl⟩ | ⟨x5, r5, hq5, rfl, hW5, hL5⟩)
  · exact ⟨rfl, bw.trans (d4.trans c5), by simp only [vtP, hq1, hq2, hq3, hq4, hq5, Option.bind_some, Option.bind_none, Option.map_none]; rfl⟩
  have d5 := d4.trans c5
  have k5 := k4.trans c5
  go_wp2_with (go_at_call 31; refine (Tryd.nm_o p bk r5 _ hW5 hL5).mono ?_; rintro e u6 ⟨c6, hh6⟩; rcases hh6 with ⟨hq6, rfl⟩ | ⟨x6, r6, hq6, rfl, hW6, hL6⟩)
  · exact ⟨rfl, bw.trans (d5.trans c6), by simp only [vtP, hq1, hq2, hq3, hq4, hq5, hq6, Option.bind_some, Option.bind_none, Option.map_none]; rfl⟩
  have d6 := d5.trans c6
  have k6 := k5.trans c6
  go_wp2_with (go_at_call 32; refine (Tryd.tx_o p bk r6 _ hW6 hL6).mono ?_; rintro e u7 ⟨c7, hh7⟩; have d7 := d6.trans c7; have k7 := k6.trans c7; have hp0 : p < u0.heap.size := hW0.sz; have hsu : w.heap.size + 1 ≤ u0.heap.size := (by have := b0.size; simpa using this); have g1 := ent16 (d7.new hsz); have g2 := ent16 (k7.new hp0); obtain ⟨y0, y1, y2, y3, y4, y5, y6, y7, y8, y9, y10, y11, y12, y13, y14, y15, y16⟩ := g1; obtain ⟨z0, z1, z2, z3, z4, z5, z6, z7, z8, z9, z10, z11, z12, z13, z14, z15, z16⟩ := g2; rcases hh7 with ⟨hq7, rfl⟩ | ⟨x7, r7, hq7, rfl, hW7, hL7⟩)
  · exact ⟨rfl, bw.trans (d6.trans c7), by simp only [vtP, hq1, hq2, hq3, hq4, hq5, hq6, hq7, Option.bind_some, Option.bind_none, Option.map_none]; rfl⟩
  refine Tryd.entry_ret (E0 := ⟨[], zeroV, zeroT, zeroM⟩) (r := r7) (E := ⟨wVote, ⟨x1, x2, x3, x4, x5, x6, x7⟩, zeroT, zeroM⟩) rfl rfl hsz ?_ ?_ ?_ ?_ rfl
  · iterate 7 refine blk_other ?_ (by dsimp only; omega)
    exact d7.new hsz
  · iterate 7 refine Bes.set2 ?_ (by dsimp only; omega) _
    exact bw.trans d7
  · iterate 7 refine WdsAt.set2 ?_ (by dsimp only; omega) _
    exact hW7
  · simp only [vtP, hq1, hq2, hq3, hq4, hq5, hq6, hq7, Option.bind_some, Option.map_some]

open Go.RowKit
open Go.Proofs.YtcfijanfcgnnhaaDoor.AM

set_option maxHeartbeats 8000000 in
set_option maxRecDepth 1000000 in
theorem Tryd.entry_tx (p bk : Nat) (r0 : Wd) (w : World) (hA : WdsAt w p bk (wTx :: r0)) (hl : WL r0) :
    Calls Tryd.prog 18 #[.pointer (some ⟨p, 0, none⟩)] w fun e w' => Bes p w w' ∧ EntR p bk ((tnP r0).map fun q => (⟨wTx, zeroV, q.1, zeroM⟩, q.2)) e w' := by
  have hsz := hA.sz
  go_enter Tryd.func18, Tryd.ntmps18
  go_wp2_with (go_at_call 30; refine (Tryd.next_some p bk wTx r0 _ (hA.alloc _)).mono ?_; rintro e u0 ⟨rfl, hW0, b0⟩)
  have b1 : Bes p (w.alloc (.cells (enC ⟨[], zeroV, zeroT, zeroM⟩) 35)) (u0.alloc (.cells (enC ⟨wTx, zeroV, zeroT, zeroM⟩) 35)) := b0.alloc _
  have k0 := Bes.refl p (u0.alloc (.cells (enC ⟨wTx, zeroV, zeroT, zeroM⟩) 35))
  have hV0 := hW0.alloc (.cells (enC ⟨wTx, zeroV, zeroT, zeroM⟩) 35)
  have bw : Bes p w (w.alloc (.cells (enC ⟨[], zeroV, zeroT, zeroM⟩) 35)) := (Bes.refl p w).alloc _
  go_wp2_with (go_at_call 31; refine (Tryd.nm_o p bk r0 _ hV0 hl).mono ?_; rintro e u1 ⟨c1, hh1⟩; rcases hh1 with ⟨hq1, rfl⟩ | ⟨x1, r1, hq1, rfl, hW1, hL1⟩)
  · exact ⟨rfl, bw.trans (b1.trans c1), by simp only [tnP, hq1, Option.bind_some, Option.bind_none, Option.map_none]; rfl⟩
  have d1 := b1.trans c1
  have k1 := k0.trans c1
  go_wp2_with (go_at_call 31; refine (Tryd.nm_o p bk r1 _ hW1 hL1).mono ?_; rintro e u2 ⟨c2, hh2⟩; rcases hh2 with ⟨hq2, rfl⟩ | ⟨x2, r2, hq2, rfl, hW2, hL2⟩)
  · exact ⟨rfl, bw.trans (d1.trans c2), by simp only [tnP, hq1, hq2, Option.bind_some, Option.bind_none, Option.map_none]; rfl⟩
  have d2 := d1.trans c2
  have k2 := k1.trans c2
  go_wp2_with (go_at_call 31; refine (Tryd.nm_o p bk r2 _ hW2 hL2).mono ?_; rintro e u3 ⟨c3, hh3⟩; rcases hh3 with ⟨hq3, rfl⟩ | ⟨x3, r3, hq3, rfl, hW3, hL3⟩)
  · exact ⟨rfl, bw.trans (d2.trans c3), by simp only [tnP, hq1, hq2, hq3, Option.bind_some, Option.bind_none, Option.map_none]; rfl⟩
  have d3 := d2.trans c3
  have k3 := k2.trans c3
  go_wp2_with (go_at_call 31; refine (Tryd.nm_o p bk r3 _ hW3 hL3).mono ?_; rintro e u4 ⟨c4, hh4⟩; rcases hh4 with ⟨hq4, rfl⟩ | ⟨x4, r4, hq4, rfl, hW4, hL4⟩)
  · exact ⟨rfl, bw.trans (d3.trans c4), by simp only [tnP, hq1, hq2, hq3, hq4, Option.bind_some, Option.bind_none, Option.map_none]; rfl⟩
  have d4 := d3.trans c4
  have k4 := k3.trans c4
  go_wp2_with (go_at_call 32; refine (Tryd.tx_o p bk r4 _ hW4 hL4).mono ?_; rintro e u5 ⟨c5, hh5⟩; have d5 := d4.trans c5; have k5 := k4.trans c5; have hp0 : p < u0.heap.size := hW0.sz; have hsu : w.heap.size + 1 ≤ u0.heap.size := (by have := b0.size; simpa using this); have g1 := ent16 (d5.new hsz); have g2 := ent16 (k5.new hp0); obtain ⟨y0, y1, y2, y3, y4, y5, y6, y7, y8, y9, y10, y11, y12, y13, y14, y15, y16⟩ := g1; obtain ⟨z0, z1, z2, z3, z4, z5, z6, z7, z8, z9, z10, z11, z12, z13, z14, z15, z16⟩ := g2; rcases hh5 with ⟨hq5, rfl⟩ | ⟨x5, r5, hq5, rfl, hW5, hL5⟩)
  · exact ⟨rfl, bw.trans (d4.trans c5), by simp only [tnP, hq1, hq2, hq3, hq4, hq5, Option.bind_some, Option.bind_none, Option.map_none]; rfl⟩
  refine Tryd.entry_ret (E0 := ⟨[], zeroV, zeroT, zeroM⟩) (r := r5) (E := ⟨wTx, zeroV, ⟨x1, x2, x3, x4, x5⟩, zeroM⟩) rfl rfl hsz ?_ ?_ ?_ ?_ rfl
  · iterate 5 refine blk_other ?_ (by dsimp only; omega)
    exact d5.new hsz
  · iterate 5 refine Bes.set2 ?_ (by dsimp only; omega) _
    exact bw.trans d5
  · iterate 5 refine WdsAt.set2 ?_ (by dsimp only; omega) _
    exact hW5
  · simp only [tnP, hq1, hq2, hq3, hq4, hq5, Option.bind_some, Option.map_some]

open Go.RowKit
open Go.Proofs.YtcfijanfcgnnhaaDoor.AM

set_option maxHeartbeats 8000000 in
set_option maxRecDepth 1000000 in
theorem Tryd.entry_mark (p bk : Nat) (r0 : Wd) (w : World) (hA : WdsAt w p bk (wMark :: r0)) (hl : WL r0) :
    Calls Tryd.prog 18 #[.pointer (some ⟨p, 0, none⟩)] w fun e w' => Bes p w w' ∧ EntR p bk ((mkP r0).map fun q => (⟨wMark, zeroV, zeroT, q.1⟩, q.2)) e w' := by
  have hsz := hA.sz
  go_enter Tryd.func18, Tryd.ntmps18
  go_wp2_with (go_at_call 30; refine (Tryd.next_some p bk wMark r0 _ (hA.alloc _)).mono ?_; rintro e u0 ⟨rfl, hW0, b0⟩)
  have b1 : Bes p (w.alloc (.cells (enC ⟨[], zeroV, zeroT, zeroM⟩) 35)) (u0.alloc (.cells (enC ⟨wMark, zeroV, zeroT, zeroM⟩) 35)) := b0.alloc _
  have k0 := Bes.refl p (u0.alloc (.cells (enC ⟨wMark, zeroV, zeroT, zeroM⟩) 35))
  have hV0 := hW0.alloc (.cells (enC ⟨wMark, zeroV, zeroT, zeroM⟩) 35)
  have bw : Bes p w (w.alloc (.cells (enC ⟨[], zeroV, zeroT, zeroM⟩) 35)) := (Bes.refl p w).alloc _
  go_wp2_with (go_at_call 31; refine (Tryd.nm_o p bk r0 _ hV0 hl).mono ?_; rintro e u1 ⟨c1, hh1⟩; rcases hh1 with ⟨hq1, rfl⟩ | ⟨x1, r1, hq1, rfl, hW1, hL1⟩)
  · exact ⟨rfl, bw.trans (b1.trans c1), by simp only [mkP, hq1, Option.bind_some, Option.bind_none, Option.map_none]; rfl⟩
  have d1 := b1.trans c1
  have k1 := k0.trans c1
  go_wp2_with (go_at_call 31; refine (Tryd.nm_o p bk r1 _ hW1 hL1).mono ?_; rintro e u2 ⟨c2, hh2⟩; rcases hh2 with ⟨hq2, rfl⟩ | ⟨x2, r2, hq2, rfl, hW2, hL2⟩)
  · exact ⟨rfl, bw.trans (d1.trans c2), by simp only [mkP, hq1, hq2, Option.bind_some, Option.bind_none, Option.map_none]; rfl⟩
  have d2 := d1.trans c2
  have k2 := k1.trans c2
  go_wp2_with (go_at_call 32; refine (Tryd.tx_o p bk r2 _ hW2 hL2).mono ?_; rintro e u3 ⟨c3, hh3⟩; have d3 := d2.trans c3; have k3 := k2.trans c3; have hp0 : p < u0.heap.size := hW0.sz; have hsu : w.heap.size + 1 ≤ u0.heap.size := (by have := b0.size; simpa using this); have g1 := ent16 (d3.new hsz); have g2 := ent16 (k3.new hp0); obtain ⟨y0, y1, y2, y3, y4, y5, y6, y7, y8, y9, y10, y11, y12, y13, y14, y15, y16⟩ := g1; obtain ⟨z0, z1, z2, z3, z4, z5, z6, z7, z8, z9, z10, z11, z12, z13, z14, z15, z16⟩ := g2; rcases hh3 with ⟨hq3, rfl⟩ | ⟨x3, r3, hq3, rfl, hW3, hL3⟩)
  · exact ⟨rfl, bw.trans (d2.trans c3), by simp only [mkP, hq1, hq2, hq3, Option.bind_some, Option.bind_none, Option.map_none]; rfl⟩
  refine Tryd.entry_ret (E0 := ⟨[], zeroV, zeroT, zeroM⟩) (r := r3) (E := ⟨wMark, zeroV, zeroT, ⟨x1, x2, x3⟩⟩) rfl rfl hsz ?_ ?_ ?_ ?_ rfl
  · iterate 3 refine blk_other ?_ (by dsimp only; omega)
    exact d3.new hsz
  · iterate 3 refine Bes.set2 ?_ (by dsimp only; omega) _
    exact bw.trans d3
  · iterate 3 refine WdsAt.set2 ?_ (by dsimp only; omega) _
    exact hW3
  · simp only [mkP, hq1, hq2, hq3, Option.bind_some, Option.map_some]

open Go.RowKit
open Go.Proofs.YtcfijanfcgnnhaaDoor.AM

theorem ent16A {w : World} {b : Nat} {E : En} (h : w.heap[b]? = some (.cells (enC E) 35 (0, 0))) (hb : b < w.heap.size) : (∀ o : Obj, (w.alloc o).cell? ⟨b, 0, none⟩ = some (.string ⟨E.kind.toArray⟩)) ∧ (∀ o : Obj, (w.alloc o).cell? ⟨b, 1, none⟩ = some (.int .i64 E.v.kd)) ∧ (∀ o : Obj, (w.alloc o).cell? ⟨b, 2, none⟩ = some (.int .i64 E.v.vw)) ∧ (∀ o : Obj, (w.alloc o).cell? ⟨b, 3, none⟩ = some (.int .i64 E.v.ht)) ∧ (∀ o : Obj, (w.alloc o).cell? ⟨b, 4, none⟩ = some (.string ⟨E.v.bl.toArray⟩)) ∧ (∀ o : Obj, (w.alloc o).cell? ⟨b, 5, none⟩ = some (.int .i64 E.v.tk)) ∧ (∀ o : Obj, (w.alloc o).cell? ⟨b, 6, none⟩ = some (.int .i64 E.v.sg)) ∧ (∀ o : Obj, (w.alloc o).cell? ⟨b, 7, none⟩ = some (.string ⟨E.v.sig.toArray⟩)) ∧ (∀ o : Obj, (w.alloc o).cell? ⟨b, 8, none⟩ = some (.int .i64 E.t.fr)) ∧ (∀ o : Obj, (w.alloc o).cell? ⟨b, 9, none⟩ = some (.int .i64 E.t.to)) ∧ (∀ o : Obj, (w.alloc o).cell? ⟨b, 10, none⟩ = some (.int .i64 E.t.am)) ∧ (∀ o : Obj, (w.alloc o).cell? ⟨b, 11, none⟩ = some (.int .i64 E.t.no)) ∧ (∀ o : Obj, (w.alloc o).cell? ⟨b, 12, none⟩ = some (.string ⟨E.t.sig.toArray⟩)) ∧ (∀ o : Obj, (w.alloc o).cell? ⟨b, 13, none⟩ = some (.int .i64 E.m.vw)) ∧ (∀ o : Obj, (w.alloc o).cell? ⟨b, 14, none⟩ = some (.int .i64 E.m.ht)) ∧ (∀ o : Obj, (w.alloc o).cell? ⟨b, 15, none⟩ = some (.string ⟨E.m.bl.toArray⟩)) ∧ (∀ (o : Obj) (k : Nat), (w.alloc o).frozen? ⟨b, k, none⟩ = false) := by
  refine ⟨fun o => ?_, fun o => ?_, fun o => ?_, fun o => ?_, fun o => ?_, fun o => ?_, fun o => ?_, fun o => ?_, fun o => ?_, fun o => ?_, fun o => ?_, fun o => ?_, fun o => ?_, fun o => ?_, fun o => ?_, fun o => ?_, fun o k => ?_⟩
  all_goals simp [World.cell?, World.frozen?, Below.heap_alloc w _ b hb, h, enC]
set_option maxHeartbeats 8000000 in
set_option maxRecDepth 1000000 in
theorem Tryd.entry_other (p bk : Nat) (k : List UInt8) (r0 : Wd) (w : World) (hA : WdsAt w p bk (k :: r0)) (h1 : k ≠ wVote) (h2 : k ≠ wTx) (h3 : k ≠ wMark) :
    Calls Tryd.prog 18 #[.pointer (some ⟨p, 0, none⟩)] w fun e w' => Bes p w w' ∧ EntR p bk (some (⟨k, zeroV, zeroT, zeroM⟩, r0)) e w' := by
  have hsz := hA.sz
  have j1 : (k == [118, 111, 116, 101]) = false := beq_eq_false_iff_ne.2 h1
  have j2 : (k == [116, 120]) = false := beq_eq_false_iff_ne.2 h2
  have j3 : (k == [109, 97, 114, 107]) = false := beq_eq_false_iff_ne.2 h3
  go_enter Tryd.func18, Tryd.ntmps18
  go_wp2_with (go_at_call 30; refine (Tryd.next_some p bk k r0 _ (hA.alloc _)).mono ?_; rintro e u0 ⟨rfl, hW0, b0⟩; have hp0 : p < u0.heap.size := hW0.sz; have hsu : w.heap.size + 1 ≤ u0.heap.size := (by have := b0.size; simpa using this); have b1 : Bes p (w.alloc (.cells (enC ⟨[], zeroV, zeroT, zeroM⟩) 35)) (u0.alloc (.cells (enC ⟨k, zeroV, zeroT, zeroM⟩) 35)) := b0.alloc _; have k0 := Bes.refl p (u0.alloc (.cells (enC ⟨k, zeroV, zeroT, zeroM⟩) 35)); have hV0 := hW0.alloc (.cells (enC ⟨k, zeroV, zeroT, zeroM⟩) 35); have bw : Bes p w (w.alloc (.cells (enC ⟨[], zeroV, zeroT, zeroM⟩) 35)) := (Bes.refl p w).alloc _; obtain ⟨y0, y1, y2, y3, y4, y5, y6, y7, y8, y9, y10, y11, y12, y13, y14, y15, y16⟩ := ent16A (Bes.new (o := .cells (enC ⟨[], zeroV, zeroT, zeroM⟩) 35) b0 hsz) (by omega))
  refine Tryd.entry_ret (E0 := ⟨[], zeroV, zeroT, zeroM⟩) (r := r0) (E := ⟨k, zeroV, zeroT, zeroM⟩) ?_ ?_ hsz ?_ ?_ ?_ ?_ ?_
  · rfl
  · rfl
  · exact b1.new hsz
  · exact bw.trans b1
  · exact hV0
  · rfl
  · rfl
def EntO (p bk : Nat) (o : Option (En × Wd)) (e : Ending) (w' : World) : Prop := (o = none ∧ e = .panicked [faultV 51]) ∨ ∃ q, o = some q ∧ e = .returned (.agg (enC q.1)) ∧ WdsAt w' p bk q.2
theorem EntR.o {p bk : Nat} {o : Option (En × Wd)} {e : Ending} {w' : World} (h : EntR p bk o e w') : EntO p bk o e w' := by
  cases o with
  | none => exact .inl ⟨rfl, h⟩
  | some q => exact .inr ⟨q, rfl, h.1, h.2⟩
/-- entry: what the words tell. -/
theorem Tryd.entry_k (p bk : Nat) (ws : Wd) (w : World) (hA : WdsAt w p bk ws) (hl : WL ws) :
    Calls Tryd.prog 18 #[.pointer (some ⟨p, 0, none⟩)] w fun e w' => Bes p w w' ∧ EntO p bk (entP ws) e w' := by
  cases ws with
  | nil => exact (Tryd.entry_none p bk w hA).mono fun e w' ⟨h1, h2⟩ => ⟨h2, .inl ⟨rfl, h1⟩⟩
  | cons k r =>
    have hl2 : WL r := fun s hs => hl s (by simp [hs])
    have e0 : entP (k :: r) = if k = wVote then (vtP r).map fun q => (⟨k, q.1, zeroT, zeroM⟩, q.2)
      else if k = wTx then (tnP r).map fun q => (⟨k, zeroV, q.1, zeroM⟩, q.2)
      else if k = wMark then (mkP r).map fun q => (⟨k, zeroV, zeroT, q.1⟩, q.2)
      else some (⟨k, zeroV, zeroT, zeroM⟩, r) := rfl
    rw [e0]
    by_cases h1 : k = wVote
    · subst h1
      rw [if_pos rfl]
      exact (Tryd.entry_vote p bk r w hA hl2).mono fun e w' ⟨h1, h2⟩ => ⟨h1, h2.o⟩
    rw [if_neg h1]
    by_cases h2 : k = wTx
    · subst h2
      rw [if_pos rfl]
      exact (Tryd.entry_tx p bk r w hA hl2).mono fun e w' ⟨h1, h2⟩ => ⟨h1, h2.o⟩
    rw [if_neg h2]
    by_cases h3 : k = wMark
    · subst h3
      rw [if_pos rfl]
      exact (Tryd.entry_mark p bk r w hA hl2).mono fun e w' ⟨h1, h2⟩ => ⟨h1, h2.o⟩
    rw [if_neg h3]
    exact (Tryd.entry_other p bk k r w hA h1 h2 h3).mono fun e w' ⟨h1, h2⟩ => ⟨h1, h2.o⟩

end Go.Proofs
