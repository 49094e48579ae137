/-
  Q8: Put.
-/
import Derived.RangeFuncNested
import Derived.RangeFuncBound
import Derived.RangeFuncCalls
import Derived.RangeFuncLeaves
import Derived.RangeFuncBox
import Derived.Shelf.Abstract
import Derived.Shelf.RegionOpen
import Derived.WalkKit
import Derived.OwnWalkIn
import Derived.TacticsInMore
import Derived.LoopNIn
import Derived.LoopIn
import Derived.Test.YtofkehedjcinhaaQ6
set_option linter.unusedVariables false
set_option linter.unusedSimpArgs false
namespace Go.Proofs.Ytofkehedjcinhaa.AM
open Go Go.Proofs Go.RowKit Go.Shelf
attribute [local go_sem] Oper.semAt_some

/-- The box holds the slice, the slice's places hold octets. -/
def Rd (Bs b k cap : Nat) (W : World) : Prop :=
  W.cell? ⟨Bs, 0, none⟩ = some (.slice (some ⟨b, 0, none⟩) k cap) ∧ ∀ j, j < k → ∃ x, W.cell? ⟨b, j, none⟩ = some (.int .u8 x)

set_option maxRecDepth 100000 in
set_option maxHeartbeats 4000000 in
theorem back1_in (F : Fence) (n : Nat) (h7 : F.fn 67) (hro : F.round = none) (hn : 1 ≤ n) (l Bs b k cap : Nat) (hk : k ≤ 140737488351232) (J Jx : List (Nat × Value) → World → Prop)
    (hY : ∀ pre x W, J pre W → pre.length < k → x.1 < k → YieldAt F (n - 1) Try.prog l #[.int .i64 (x.1 : Int), x.2] W fun e W' =>
      (e = .returned (.bool true) ∧ J (pre ++ [x]) W' ∧ (Rd Bs b k cap W → Rd Bs b k cap W')) ∨ (e = .returned (.bool false) ∧ Jx (pre ++ [x]) W'))
    (W : World) (hR : Rd Bs b k cap W) (h0 : J [] W) :
    CallsIn F n Try.prog 67 #[.func (.yield l) #[] #[], .pointer (some ⟨Bs, 0, none⟩)] W fun e W' => (∃ v, e = .returned v) ∧
      ((∃ ys, ys.map (·.1) = (List.range k).map (fun m => k - 1 - m) ∧ J ys W') ∨ (∃ pre, True ∧ Jx pre W')) := by
  refine callsIn_of_wp Try.func67 rfl h7 ?_ hro
  simp only [Try.ntmps67, List.size_toArray, List.length_cons, List.length_nil, Nat.reduceAdd, Nat.reduceSub, Array.replicate_succ, Array.replicate_zero, List.push_toArray, List.append_toArray, List.nil_append, List.cons_append]
  have hbox := hR.1
  gi_wp2
  gi_loopw [3] (fun i wr => ∃ (m : Nat) (ys : List (Nat × Value)), m ≤ k ∧ i = .int .i64 ((k : Int) - 1 - m) ∧ ys.map (·.1) = (List.range m).map (fun j => k - 1 - j) ∧ J ys wr ∧ Rd Bs b k cap wr)
    (fun i _ => (intOf i + 1).toNat)
  case atStart => exact ⟨0, [], Nat.zero_le _, by simp, rfl, h0, hR⟩
  case round =>
    obtain ⟨m, ys, hm, rfl, hys, hJs, hRs⟩ := hrel
    by_cases hlt : m < k
    · obtain ⟨x, hx⟩ := hRs.2 (k - 1 - m) (by omega)
      obtain ⟨fn, tmps, assign, body, hy, hR1⟩ := hY ys (k - 1 - m, .int .u8 x) wr hJs (by have := congrArg List.length hys; simp at this; omega) (by omega)
      dsimp only at hy
      have hbx := hRs.1
      have e1 : ((k - 1 - m : Nat) : Int) = (k : Int) - 1 - m := by omega
      rw [e1] at hy
      gi_wp2
      refine hR1.mono ?_
      rintro e W3 (⟨rfl, hJ3, hk3⟩ | ⟨rfl, hJx3⟩)
      · gi_wp2
        go_roundw
        case rel => exact ⟨m + 1, ys ++ [(k - 1 - m, .int .u8 x)], by omega, by congr 1; omega, by simp [hys, List.range_succ], hJ3, hk3 hRs⟩
        case measure => simp [intOf]; omega
      · gi_wp2
        refine bodyPost_ret (results_none rfl _ _ _) rfl ?_
        exact ⟨⟨_, rfl⟩, .inr ⟨_, trivial, hJx3⟩⟩
    · obtain rfl : m = k := by omega
      gi_wp2
      go_end0
      exact ⟨⟨_, rfl⟩, .inl ⟨ys, hys, hJs⟩⟩

/-- slices.Backward: the slice is boxed. -/
theorem back_in (F : Fence) (n : Nat) (h5 : F.fn 63) (hro : F.round = none) (a : Option Addr) (len cap : Nat) (w : World) :
    CallsIn F n Try.prog 63 #[.slice a len cap] w fun e w' => e = .returned (.func (.func 67) #[] #[.pointer (some ⟨w.heap.size, 0, none⟩)]) ∧ w' = w.alloc (.cells #[.slice a len cap] 73) := by
  refine callsIn_of_wp Try.func63 rfl h5 ?_ hro
  simp only [Try.ntmps63, List.size_toArray, List.length_cons, List.length_nil, Nat.reduceAdd, Nat.reduceSub, Array.replicate_succ, Array.replicate_zero, List.push_toArray, List.append_toArray, List.nil_append, List.cons_append]
  gi_wp2
  go_ret
  exact ⟨rfl, rfl⟩

theorem Rd.putObj {Bs b k cap l : Nat} {W : World} (h : Rd Bs b k cap W) (o : Obj) (h1 : Bs ≠ l) (h2 : b ≠ l) : Rd Bs b k cap (W.putObj l o) := by
  have e : ∀ (c j : Nat), c ≠ l → (W.putObj l o).cell? ⟨c, j, none⟩ = W.cell? ⟨c, j, none⟩ := fun c j hc => by
    simp only [World.cell?, World.putObj_heap_other hc]
  exact ⟨by rw [e _ _ h1]; exact h.1, fun j hj => by rw [e _ _ h2]; exact h.2 j hj⟩

theorem Rd.below {Bs b k cap B : Nat} {A W : World} (h : Rd Bs b k cap A) (hb : Below B A W) (h1 : Bs < B) (h2 : b < B) : Rd Bs b k cap W :=
  ⟨(hb.cell (p := ⟨Bs, 0, none⟩) h1).trans h.1, fun j hj => let ⟨x, hx⟩ := h.2 j hj; ⟨x, (hb.cell (p := ⟨b, j, none⟩) h2).trans hx⟩⟩

theorem back_stops (F : Fence) (n : Nat) (h7 : F.fn 67) (hro : F.round = none) (hn : 1 ≤ n) (Bs b k cap : Nat) (hk : k ≤ 140737488351232) (w : World) (hBs : Bs < w.heap.size) (hb : b < w.heap.size)
    (hR : Rd Bs b k cap w) :
    SeqStopsK F n Try.prog 67 #[.pointer (some ⟨Bs, 0, none⟩)] (fun x : Fin k × Value => #[Value.int .i64 ((x.1.val : Nat) : Int), x.2]) (fun A B => Rd Bs b k cap A → Rd Bs b k cap B)
      (fun ys => ys.map (fun x => x.1.val) = (List.range k).map (fun m => k - 1 - m)) (fun _ => True) k w := fun l J Jx W hW _ _ hY h0 => by
  have := back1_in F n h7 hro hn l Bs b k cap hk (fun ys W => ∃ zs : List (Fin k × Value), zs.map (fun x => (x.1.val, x.2)) = ys ∧ J zs W) (fun ys W => ∃ zs : List (Fin k × Value), zs.map (fun x => (x.1.val, x.2)) = ys ∧ Jx zs W) (fun pre x W hJ hlen hx => ?_) W (hR.below hW hBs hb) ⟨[], rfl, h0⟩
  · refine this.mono ?_
    rintro e W' ⟨he, ⟨ys, hys, zs, rfl, hJ⟩ | ⟨pre, _, zs, rfl, hJ⟩⟩
    · exact ⟨he, .inl ⟨zs, by rw [← hys]; simp, hJ⟩⟩
    · exact ⟨he, .inr ⟨zs, trivial, hJ⟩⟩
  · obtain ⟨zs, rfl, hJ⟩ := hJ
    obtain ⟨fn, tmps, assign, body, hy, hR1⟩ := hY zs (⟨x.1, hx⟩, x.2) W hJ (by simpa using hlen)
    refine ⟨fn, tmps, assign, body, hy, hR1.mono ?_⟩
    rintro e W' (⟨rfl, hJ', hk'⟩ | ⟨rfl, hJx'⟩)
    · exact .inl ⟨rfl, ⟨_, by simp, hJ'⟩, hk'⟩
    · exact .inr ⟨rfl, ⟨_, by simp, hJx'⟩⟩

/-- One round: a place is written. -/
def putStep (t : List Value × Int) (i : Nat) : List Value × Int := (t.1.set i (.int .u8 (t.2 % 256)), t.2 / 256)

theorem mk_run (k : Nat) (hk : k ≤ 8) (w : World) : (Instr.makeSlice 73 (.int .i64 (k : Int)) (.int .i64 (k : Int))).run Try.prog w = .ok (.slice (some ⟨w.heap.size, 0, none⟩) k k) (w.alloc (.cells (Array.replicate k (.int .u8 0)) 5)) := by
  have hi : (Try.prog.info? 5).map (fun i => (i.zero, i.size, i.bytes)) = some (some (.int .u8 0), 1, 1) := by kernel_rfl
  cases h : Try.prog.info? 5 with
  | none => rw [h] at hi; cases hi
  | some i =>
    rw [h] at hi
    simp only [Option.map_some, Option.some.injEq, Prod.mk.injEq] at hi
    obtain ⟨h2, h3, h4⟩ := hi
    have := run_makeSlice (P := Try.prog) (w := w) 73 5 i _ Try.underlying73 h h2 .i64 .i64 (k : Int) (k : Int) (by omega) (Int.le_refl _) (by rw [h3]; simp; omega) (by rw [h4]; omega) (by omega)
    simp only [Int.toNat_natCast] at this
    rw [this]
    have e : madeCells (Value.int .u8 0).cells (k * i.size) = Array.replicate k (.int .u8 0) := by
      rw [h3, Nat.mul_one]
      apply Array.ext
      · simp [madeCells]
      · intro j hj1 hj2
        simp [madeCells, Value.cells, Nat.mod_one]
    rw [e]

theorem heap_own {W W' : World} {row : Option Nat} {b : Nat} {vs : Array Value} {ty : TypeId} {fz : Nat × Nat} (h : W.heap[b]? = some (.cells vs ty fz)) (hg : W.grownBy W' row)
    (hr : ∀ r, row = some r → ∃ o : Obj, W.heap[r]? = some o ∧ o.isCells = false) : W'.heap[b]? = some (.cells vs ty fz) := by
  have hlt : b < W.heap.size := (Array.getElem?_eq_some_iff.1 h).1
  refine (hg.block b hlt (fun e => ?_)).trans h
  obtain ⟨o, ho, hc⟩ := hr b e.symm
  rw [h] at ho
  cases ho
  simp [Obj.isCells] at hc
theorem heap_set {W : World} {b o : Nat} {vs : Array Value} {ty : TypeId} {fz : Nat × Nat} (h : W.heap[b]? = some (.cells vs ty fz)) (v : Value) : (W.setCell ⟨b, o, none⟩ v).heap[b]? = some (.cells (vs.setIfInBounds o v) ty fz) := by
  simp [World.setCell, Array.getElem?_modify, h]

/-- What a round finds. -/
structure PutI (w : World) (k : Nat) (x : Int) (pre : List (Fin k × Value)) (W : World) : Prop where
  row : W.heap[w.heap.size]? = some (.cells (pre.foldl (fun t y => putStep t y.1.val) (List.replicate k (.int .u8 0), IntKind.u64.wrap x)).1.toArray 5 (0, 0))
  out : W.heap[w.heap.size + 1]? = some (.cells #[.slice (some ⟨w.heap.size, 0, none⟩) k k] 73 (0, 0))
  u : W.heap[w.heap.size + 1 + 1]? = some (.cells #[.int .u64 (pre.foldl (fun t y => putStep t y.1.val) (List.replicate k (.int .u8 0), IntKind.u64.wrap x)).2] 131 (0, 0))
  box : W.heap[w.heap.size + 1 + 1 + 1]? = some (.cells #[.slice (some ⟨w.heap.size, 0, none⟩) k k] 73 (0, 0))
  bel : Below w.heap.size w W

theorem put_len {k : Nat} : ∀ (pre : List (Fin k × Value)) (t : List Value × Int), (pre.foldl (fun t y => putStep t y.1.val) t).1.length = t.1.length := by
  intro pre
  induction pre with
  | nil => intro t; rfl
  | cons y pre ih => intro t; rw [List.foldl_cons, ih]; simp [putStep]

set_option maxRecDepth 100000 in
set_option maxHeartbeats 4000000 in
theorem put_in (F : Fence) (n : Nat) (h3 : F.fn 60) (h5 : F.fn 63) (h7 : F.fn 67) (hro : F.round = none) (hn : 3 ≤ n) (x : Int) (k : Nat) (hk : k ≤ 8) (w : World) :
    CallsIn F n Try.prog 60 #[.int .i64 x, .int .i64 (k : Int)] w fun e W' => e = .returned (.slice (some ⟨w.heap.size, 0, none⟩) k k) ∧ Below w.heap.size w W' ∧
      ∃ pre : List (Fin k × Value), pre.map (fun x => x.1.val) = (List.range k).map (fun m => k - 1 - m) ∧
        W'.heap[w.heap.size]? = some (.cells (pre.foldl (fun t y => putStep t y.1.val) (List.replicate k (.int .u8 0), IntKind.u64.wrap x)).1.toArray 5 (0, 0)) := by
  have h1 : 1 ≤ n := by omega
  have g1 : ¬ ((0 : Int) > (k : Int)) := by omega
  have g2 : ¬ ((8 : Int) < (k : Int)) := by omega
  have hmk := mk_run k hk
  refine callsIn_of_wp_marks Try.func60 rfl h3 ?_ hro
  simp only [Try.ntmps60, List.size_toArray, List.length_cons, List.length_nil, Nat.reduceAdd, Nat.reduceSub, Array.replicate_succ, Array.replicate_zero, List.push_toArray, List.append_toArray, List.nil_append, List.cons_append]
  gi_wp2_with (gi_at_call 63; refine (back_in F (n - 1) h5 hro _ _ _ _).mono ?_; rintro e w' ⟨rfl, rfl⟩)
  have hI0 : PutI w k x [] ((((w.alloc (.cells (Array.replicate k (.int .u8 0)) 5)).alloc (.cells #[.slice (some ⟨w.heap.size, 0, none⟩) k k] 73)).alloc (.cells #[.int .u64 (IntKind.u64.wrap x)] 131)).alloc (.cells #[.slice (some ⟨w.heap.size, 0, none⟩) k k] 73)) := by
    have a0 : ∀ (v : World) (o : Obj) (b : Nat), b < v.heap.size → (v.alloc o).heap[b]? = v.heap[b]? := fun v o b hb => Below.heap_alloc v o b hb
    have a1 : ∀ (v : World) (o : Obj), (v.alloc o).heap[v.heap.size]? = some o := fun v o => World.alloc_heap_new v o
    refine ⟨?_, ?_, ?_, ?_, ?_⟩
    · rw [a0 _ _ _ (by simp; omega), a0 _ _ _ (by simp; omega), a0 _ _ _ (by simp), a1]; simp
    · rw [a0 _ _ _ (by simp), a0 _ _ _ (by simp)]
      have := a1 (w.alloc (.cells (Array.replicate k (.int .u8 0)) 5)) (.cells #[.slice (some ⟨w.heap.size, 0, none⟩) k k] 73)
      rwa [World.size_alloc] at this
    · rw [a0 _ _ _ (by simp)]
      have := a1 ((w.alloc (.cells (Array.replicate k (.int .u8 0)) 5)).alloc (.cells #[.slice (some ⟨w.heap.size, 0, none⟩) k k] 73)) (.cells #[.int .u64 (IntKind.u64.wrap x)] 131)
      rwa [World.size_alloc, World.size_alloc] at this
    · have := a1 (((w.alloc (.cells (Array.replicate k (.int .u8 0)) 5)).alloc (.cells #[.slice (some ⟨w.heap.size, 0, none⟩) k k] 73)).alloc (.cells #[.int .u64 (IntKind.u64.wrap x)] 131)) (.cells #[.slice (some ⟨w.heap.size, 0, none⟩) k k] 73)
      rwa [World.size_alloc, World.size_alloc, World.size_alloc] at this
    · exact ((((Below.refl _ w).alloc (Nat.le_refl _) _).alloc (by simp) _).alloc (by simp; omega) _).alloc (by simp; omega) _
  generalize hW0 : ((((w.alloc (.cells (Array.replicate k (.int .u8 0)) 5)).alloc (.cells #[.slice (some ⟨w.heap.size, 0, none⟩) k k] 73)).alloc (.cells #[.int .u64 (IntKind.u64.wrap x)] 131)).alloc (.cells #[.slice (some ⟨w.heap.size, 0, none⟩) k k] 73)) = W0 at hI0 ⊢
  have hsz : W0.heap.size = w.heap.size + 4 := by rw [← hW0]; simp
  have hRd : ∀ pre W, PutI w k x pre W → Rd (w.heap.size + 1 + 1 + 1) w.heap.size k k W := by
    intro pre W hP
    refine ⟨by simp [World.cell?, hP.box], fun j hj => ?_⟩
    have hrow := hP.row
    have hu8 : ∀ (pre : List (Fin k × Value)) (t : List Value × Int), (∀ v ∈ t.1, ∃ z, v = .int .u8 z) → ∀ v ∈ (pre.foldl (fun t y => putStep t y.1.val) t).1, ∃ z, v = .int .u8 z := by
      intro pre
      induction pre with
      | nil => intro t h; exact h
      | cons y pre ih =>
        intro t h
        rw [List.foldl_cons]
        refine ih _ fun v hv => ?_
        rcases List.mem_or_eq_of_mem_set hv with h1 | h1
        · exact h v h1
        · exact ⟨_, h1⟩
    have hl := put_len (k := k) pre (List.replicate k (.int .u8 0), IntKind.u64.wrap x)
    rw [List.length_replicate] at hl
    generalize hT : pre.foldl (fun t y => putStep t y.1.val) (List.replicate k (.int .u8 0), IntKind.u64.wrap x) = T at hrow hl
    have h8 : ∀ v ∈ T.1, ∃ z, v = .int .u8 z := by
      rw [← hT]
      exact hu8 pre _ (fun v hv => ⟨0, (List.mem_replicate.1 hv).2⟩)
    obtain ⟨z, hz⟩ := h8 (T.1[j]'(by omega)) (by simp)
    exact ⟨z, by simp [World.cell?, hrow, ← hz, hl, hj]⟩
  refine wpIn_rangeFunc_ownF hro h1 (gf := 67) (lb := #[.pointer (some ⟨w.heap.size + 1 + 1 + 1, 0, none⟩)]) rfl h7 (enters_of Try.func67 (by kernel_rfl) rfl)
    (back_stops F (n - 1) h7 hro (by omega) (w.heap.size + 1 + 1 + 1) w.heap.size k k (by omega) W0 (by omega) (by omega) (hRd _ _ hI0))
    (fun h g r => g (h r)) (fun W l o o' hl _ _ _ r => r.putObj o' (by omega) (by omega)) (Below.refl _ _) (fun _ => rfl)
    (PutI w k x) (fun _ _ _ => False)
    (fun s A B row hs hg hr => ?own)
    (fun _ _ _ _ _ hs _ _ => hs)
    hI0
    (fun y => { tmps := #[.int .i64 x, .int .i64 (k : Int), undef, undef, .slice none 0 0, .pointer (some ⟨w.heap.size + 1, 0, none⟩), .pointer (some ⟨w.heap.size + 1 + 1, 0, none⟩), .int .i64 (y.1.val : Int), .int .i64 (k : Int),
      .int .i64 (k : Int), .int .i64 (k : Int), .slice (some ⟨w.heap.size, 0, none⟩) k k, .int .i64 x, .int .u64 (IntKind.u64.wrap x), .slice (some ⟨w.heap.size, 0, none⟩) k k,
      .func (.func 67) #[] #[.pointer (some ⟨w.heap.size + 1 + 1 + 1, 0, none⟩)], .int .i64 (y.1.val : Int), y.2, undef, undef, undef, undef, undef, undef, undef, undef], defers := [] }) ?assign ?body ?done ?stop
  case own =>
    have hr' : ∀ r, row = some r → ∃ o : Obj, A.heap[r]? = some o ∧ o.isCells = false := fun r e => (hr r e).2
    exact ⟨heap_own hs.row hg hr', heap_own hs.out hg hr', heap_own hs.u hg hr', heap_own hs.box hg hr', hs.bel.grown hg hs.bel.size (fun j e => by have := (hr j e).1; omega)⟩
  case assign =>
    intro l y W K hK
    gi_wp2
    exact hK
  case body =>
    rintro l pre y W hP _
    have hrow := hP.row
    have hout := hP.out
    have hu := hP.u
    have hylt := y.1.isLt
    generalize hT : pre.foldl (fun t y => putStep t y.1.val) (List.replicate k (.int .u8 0), IntKind.u64.wrap x) = T at hrow hu
    have c1 : W.cell? ⟨w.heap.size + 1, 0, none⟩ = some (.slice (some ⟨w.heap.size, 0, none⟩) k k) := by simp [World.cell?, hout]
    have c2 : W.cell? ⟨w.heap.size + 1 + 1, 0, none⟩ = some (.int .u64 T.2) := by simp [World.cell?, hu]
    have hTl : T.1.length = k := by rw [← hT, put_len]; simp
    have c3 : W.cell? ⟨w.heap.size, y.1.val, none⟩ = some (T.1[y.1.val]'(by omega)) := by simp [World.cell?, hrow, hTl]
    have f1 : W.frozen? ⟨w.heap.size, y.1.val, none⟩ = false := by simp [World.frozen?, hrow]
    have f2 : W.frozen? ⟨w.heap.size + 1 + 1, 0, none⟩ = false := by simp [World.frozen?, hu]
    gi_wp2
    have hstep : (pre ++ [y]).foldl (fun t y => putStep t y.1.val) (List.replicate k (.int .u8 0), IntKind.u64.wrap x) = putStep T y.1.val := by rw [List.foldl_append, hT]; rfl
    have hP' : PutI w k x (pre ++ [y]) ((W.setCell ⟨w.heap.size, y.1.val, none⟩ (.int .u8 (T.2 % 256))).setCell ⟨w.heap.size + 1 + 1, 0, none⟩ (.int .u64 (T.2 / 256))) := by
      refine ⟨?_, ?_, ?_, ?_, ?_⟩
      · rw [hstep, Below.heap_setCell _ _ _ _ (by dsimp only; omega), heap_set hrow]
        simp [putStep]
      · rw [Below.heap_setCell _ _ _ _ (by dsimp only; omega), Below.heap_setCell _ _ _ _ (by dsimp only; omega)]; exact hout
      · rw [hstep, heap_set (by rw [Below.heap_setCell _ _ _ _ (by dsimp only; omega)]; exact hu)]
        simp [putStep]
      · rw [Below.heap_setCell _ _ _ _ (by dsimp only; omega), Below.heap_setCell _ _ _ _ (by dsimp only; omega)]; exact hP.box
      · exact (hP.bel.setCell (p := ⟨w.heap.size, y.1.val, none⟩) (Nat.le_refl _) _).setCell (p := ⟨w.heap.size + 1 + 1, 0, none⟩) (by simp; omega) _
    exact ⟨(KeepsOthers.setCell _ _ _).trans (KeepsOthers.setCell _ _ _), fun _ => hRd _ _ hP', hP'⟩
  case done =>
    rintro D ys W hD hys hP hK
    have hout := hP.out
    have c1 : W.cell? ⟨w.heap.size + 1, 0, none⟩ = some (.slice (some ⟨w.heap.size, 0, none⟩) k k) := by simp [World.cell?, hout]
    gi_wp2
    refine ⟨by simp, .inl ⟨_, _, rfl, run_takeDeferred hK, ?_⟩⟩
    refine ⟨_, results_tmp rfl _ _ _, rfl, hP.bel.trans (belowK_b (w := w) (Nat.le_refl _) W D _ _ (by omega) hK rfl rfl), ys, hys, ?_⟩
    rw [World.putObj_heap_other (by omega)]
    exact hP.row
  case stop =>
    rintro D c pre W _ _ h _
    exact h.elim

/-- What the rounds have written: the number's octets. -/
theorem put_fold (k : Nat) (U : Int) (hU : 0 ≤ U) : ∀ m, m ≤ k → ∃ T : List Value × Int, ((List.range m).map (fun j => k - 1 - j)).foldl putStep (List.replicate k (.int .u8 0), U) = T ∧ T.2 = U / 256 ^ m ∧ T.1.length = k ∧
    ∀ i, i < k → k - m ≤ i → T.1[i]? = some (.int .u8 (U / 256 ^ (k - 1 - i) % 256)) := by
  intro m
  induction m with
  | zero => exact fun _ => ⟨_, rfl, by simp, by simp, fun i h1 h2 => by omega⟩
  | succ m ih =>
    intro hm
    obtain ⟨T, h1, h2, h3, h4⟩ := ih (by omega)
    rw [List.range_succ, List.map_append, List.foldl_append, h1]
    refine ⟨_, rfl, ?_, ?_, fun i hi hle => ?_⟩
    · simp only [List.map_cons, List.map_nil, List.foldl_cons, List.foldl_nil, putStep, h2]
      rw [Int.ediv_ediv_of_nonneg (Int.le_of_lt (Int.pow_pos (by decide))), Int.pow_succ]
    · simp [putStep, h3]
    · simp only [List.map_cons, List.map_nil, List.foldl_cons, List.foldl_nil, putStep]
      rw [List.getElem?_set]
      by_cases e : k - 1 - m = i
      · rw [if_pos e, if_pos (by omega), h2]
        have : m = k - 1 - i := by omega
        rw [this]
      · rw [if_neg e]
        exact h4 i hi (by omega)

theorem put_sound : SoundC Try.prog 60 putC := by
  refine ⟨⟨_, Try.func60, rfl, rfl⟩, fun args objs r hr => ?_⟩
  unfold putC at hr
  split at hr
  · rename_i n size
    split at hr
    · rename_i hs
      cases hr
      refine ⟨fun x hx => ?_, fun Ext G w vals M hl hx => ?_⟩
      · simp at hx
      · obtain ⟨k, hk⟩ : ∃ k : Nat, size = (k : Int) := ⟨size.toNat, by omega⟩
        subst hk
        have hk8 : k ≤ 8 := by omega
        match vals, hl with
        | [v1, v2], _ =>
        have e1 : v1 = .int .i64 n := by
          have := hx 0 _ v1 rfl rfl
          cases this with
          | c _ _ h => cases h; rfl
        have e2 : v2 = .int .i64 (k : Int) := by
          have := hx 1 _ v2 rfl rfl
          cases this with
          | c _ _ h => cases h; rfl
        subst e1 e2
        refine Calls.mono (callsIn_wide.1 (put_in Fence.wide 3 trivial trivial trivial rfl (by omega) n k hk8 w)) ?_
        rintro e W' ⟨rfl, bel, pre, hpre, hrow⟩
        rw [← List.foldl_map (f := fun y : Fin k × Value => y.1.val) (g := putStep), hpre] at hrow
        have hU : 0 ≤ IntKind.u64.wrap n := wrap_u64_nonneg n
        obtain ⟨T, h1, h2, h3, h4⟩ := put_fold k (IntKind.u64.wrap n) hU k (Nat.le_refl _)
        rw [h1] at hrow
        have hlen : (putB n (k : Int)).length = k := by rw [putB_length]; omega
        have hv : ∀ (j : Nat) (r : List PC) (i : Nat) (c : PC), (bytes (putB n (k : Int)))[j]? = some r → r[i]? = some c → ∃ v, T.1.toArray[j * 1 + i]? = some v ∧ VR G.K c v := by
          intro j r i c hj hi
          simp only [bytes, List.getElem?_map, Option.map_eq_some_iff] at hj
          obtain ⟨b, hb, rfl⟩ := hj
          have hjk : j < k := by rw [← hlen]; exact (List.getElem?_eq_some_iff.1 hb).1
          have hi0 : i = 0 := by
            have := (List.getElem?_eq_some_iff.1 hi).1
            simpa using this
          subst hi0
          simp at hi
          subst hi
          refine ⟨.int .u8 (IntKind.u64.wrap n / 256 ^ (k - 1 - j) % 256), ?_, ?_⟩
          · have := h4 j hjk (by omega)
            simpa using this
          · have hm : (min (max (k : Int) 0) 8).toNat = k := by omega
            have : b = UInt8.ofNat ((IntKind.u64.wrap n).toNat / 256 ^ (k - 1 - j) % 256) := by
              unfold putB at hb
              rw [hm, List.getElem?_map, List.getElem?_range hjk] at hb
              simpa using hb.symm
            rw [this, UInt8.toNat_ofNat_of_lt' (Nat.mod_lt _ (by decide))]
            have e : ((( IntKind.u64.wrap n).toNat / 256 ^ (k - 1 - j) % 256 : Nat) : Int) = IntKind.u64.wrap n / 256 ^ (k - 1 - j) % 256 := by
              rw [Int.natCast_emod, Int.natCast_ediv, Int.natCast_pow, Int.toNat_of_nonneg hU]
              rfl
            rw [e]
            exact .int _ _
        obtain ⟨G', g1, g2, g3⟩ := M.newRow (w' := W') (n := outName 0) rfl (z := 1) (cap := k) (rows := bytes (putB n (k : Int))) (by decide) (bytes_rows _) (by rw [bytes_length, hlen]; exact Nat.le_refl _) (by simp [h3]) hrow hv (fun b hb => bel.block b hb) bel.os bel.tape bel.output bel.size
        · rw [bytes_length, hlen] at g2
          refine ⟨G', _, rfl, g1, ?_, g2⟩
          refine g3.congr fun i => ?_
          simp only [exitMem, entryMem, List.nil_append, resAt, look, mset, bytes_length]
    · cases hr
  · cases hr

end Go.Proofs.Ytofkehedjcinhaa.AM
