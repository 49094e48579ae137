/-
  QG: Bk0 Vo1 Vo2 Vo3.
-/
import Derived.Test.YtldehcnaepgamaaQF
set_option linter.unusedVariables false
set_option linter.unusedSimpArgs false
namespace Go.Proofs.Ytldehcnaepgamaa.AM
open Go

structure Vt where
  kd : Int
  vw : Int
  ht : Int
  bl : List UInt8
  tk : Int
  sg : Int
  sig : List UInt8
  deriving DecidableEq
def Vt.pcs (t : Vt) : List PC := [.int .i64 t.kd, .int .i64 t.vw, .int .i64 t.ht, .str t.bl, .int .i64 t.tk, .int .i64 t.sg, .str t.sig]
def Vt.av (t : Vt) : AV := .agg [.c (.int .i64 t.kd), .c (.int .i64 t.vw), .c (.int .i64 t.ht), .c (.str t.bl), .c (.int .i64 t.tk), .c (.int .i64 t.sg), .c (.str t.sig)]
structure Mk where
  vw : Int
  ht : Int
  bl : List UInt8
  deriving DecidableEq
def Mk.pcs (t : Mk) : List PC := [.int .i64 t.vw, .int .i64 t.ht, .str t.bl]
def Mk.av (t : Mk) : AV := .agg [.c (.int .i64 t.vw), .c (.int .i64 t.ht), .c (.str t.bl)]
theorem Vt.av_inj {a b : Vt} (h : a.av = b.av) : a = b := by
  obtain ⟨a0, a1, a2, a3, a4, a5, a6⟩ := a
  obtain ⟨b0, b1, b2, b3, b4, b5, b6⟩ := b
  simp only [Vt.av, AV.agg.injEq, List.cons.injEq, AV.c.injEq, PC.str.injEq, PC.int.injEq, true_and, and_true] at h
  obtain ⟨rfl, rfl, rfl, rfl, rfl, rfl, rfl⟩ := h
  rfl
theorem Vt.av_iff {a b : Vt} : a.av = b.av ↔ a = b := ⟨Vt.av_inj, fun h => by rw [h]⟩
theorem Vt.pcs_inj {a b : Vt} (h : a.pcs = b.pcs) : a = b := by
  obtain ⟨a0, a1, a2, a3, a4, a5, a6⟩ := a
  obtain ⟨b0, b1, b2, b3, b4, b5, b6⟩ := b
  simp only [Vt.pcs, List.cons.injEq, PC.str.injEq, PC.int.injEq, true_and, and_true] at h
  obtain ⟨rfl, rfl, rfl, rfl, rfl, rfl, rfl⟩ := h
  rfl
theorem Mk.av_inj {a b : Mk} (h : a.av = b.av) : a = b := by
  obtain ⟨a0, a1, a2⟩ := a
  obtain ⟨b0, b1, b2⟩ := b
  simp only [Mk.av, AV.agg.injEq, List.cons.injEq, AV.c.injEq, PC.str.injEq, PC.int.injEq, true_and, and_true] at h
  obtain ⟨rfl, rfl, rfl⟩ := h
  rfl
theorem Mk.av_iff {a b : Mk} : a.av = b.av ↔ a = b := ⟨Mk.av_inj, fun h => by rw [h]⟩
theorem Mk.pcs_inj {a b : Mk} (h : a.pcs = b.pcs) : a = b := by
  obtain ⟨a0, a1, a2⟩ := a
  obtain ⟨b0, b1, b2⟩ := b
  simp only [Mk.pcs, List.cons.injEq, PC.str.injEq, PC.int.injEq, true_and, and_true] at h
  obtain ⟨rfl, rfl, rfl⟩ := h
  rfl
theorem Txn.pcs_inj {a b : Txn} (h : a.pcs = b.pcs) : a = b := by
  obtain ⟨a1, a2, a3, a4, a5⟩ := a
  obtain ⟨b1, b2, b3, b4, b5⟩ := b
  simp only [Txn.pcs, List.cons.injEq, PC.str.injEq, PC.int.injEq, true_and, and_true] at h
  obtain ⟨rfl, rfl, rfl, rfl, rfl⟩ := h
  rfl
def zeroV : Vt := ⟨0, 0, 0, [], 0, 0, []⟩
theorem map_inj' {α β : Type} {f : α → β} (hf : ∀ a b, f a = f b → a = b) : ∀ {l m : List α}, l.map f = m.map f → l = m
  | [], [], _ => rfl
  | [], _ :: _, h => by simp at h
  | _ :: _, [], h => by simp at h
  | a :: l, b :: m, h => by
    simp only [List.map_cons, List.cons.injEq] at h
    rw [hf _ _ h.1, map_inj' hf h.2]
def votes (l : List Vt) : List (List PC) := l.map Vt.pcs
theorem votes_iff {a b : List Vt} : votes a = votes b ↔ a = b := ⟨map_inj' fun _ _ => Vt.pcs_inj, fun h => by rw [h]⟩
theorem votes_length (l : List Vt) : (votes l).length = l.length := by simp [votes]
theorem votes_nil : votes [] = [] := rfl
theorem votes_app (a b : List Vt) : votes a ++ votes b = votes (a ++ b) := by simp [votes]
theorem votes_one (t : Vt) : [Vt.pcs t] = votes [t] := rfl
theorem votesD (l : List Vt) (i : Nat) (h : i < l.length) : (votes l)[i]? = some (Vt.pcs (l.getD i zeroV)) := by
  simp [votes, List.getD, h]
def trows (l : List Txn) : List (List PC) := l.map Txn.pcs
theorem trows_iff {a b : List Txn} : trows a = trows b ↔ a = b := ⟨map_inj' fun _ _ => Txn.pcs_inj, fun h => by rw [h]⟩
theorem trows_length (l : List Txn) : (trows l).length = l.length := by simp [trows]
theorem trowsD (l : List Txn) (i : Nat) (h : i < l.length) : (trows l)[i]? = some (Txn.pcs (l.getD i zeroT)) := by
  simp [trows, List.getD, h]
structure Ct where
  vw : Int
  ht : Int
  bl : List UInt8
  vs : List Vt
  deriving DecidableEq
def Ct.pcs (c : Ct) : List PC := [.int .i64 c.vw, .int .i64 c.ht, .str c.bl, .sl (votes c.vs)]
def Ct.av (c : Ct) : AV := .agg [.c (.int .i64 c.vw), .c (.int .i64 c.ht), .c (.str c.bl), .c (.sl (votes c.vs))]
theorem Ct.av_inj {a b : Ct} (h : a.av = b.av) : a = b := by
  obtain ⟨a1, a2, a3, a4⟩ := a
  obtain ⟨b1, b2, b3, b4⟩ := b
  simp only [Ct.av, AV.agg.injEq, List.cons.injEq, AV.c.injEq, PC.str.injEq, PC.int.injEq, PC.sl.injEq, votes_iff, true_and, and_true] at h
  obtain ⟨rfl, rfl, rfl, rfl⟩ := h
  rfl
theorem Ct.av_iff {a b : Ct} : a.av = b.av ↔ a = b := ⟨Ct.av_inj, fun h => by rw [h]⟩
structure Blk where
  vw : Int
  ht : Int
  pa : List UInt8
  ju : Ct
  txs : List Txn
  sig : List UInt8
  deriving DecidableEq
def Blk.pcs (b : Blk) : List PC := [.int .i64 b.vw, .int .i64 b.ht, .str b.pa, .int .i64 b.ju.vw, .int .i64 b.ju.ht, .str b.ju.bl, .sl (votes b.ju.vs), .sl (trows b.txs), .str b.sig]
def Blk.av (b : Blk) : AV := .agg [.c (.int .i64 b.vw), .c (.int .i64 b.ht), .c (.str b.pa), .c (.int .i64 b.ju.vw), .c (.int .i64 b.ju.ht), .c (.str b.ju.bl), .c (.sl (votes b.ju.vs)), .c (.sl (trows b.txs)), .c (.str b.sig)]
theorem Blk.av_inj {a b : Blk} (h : a.av = b.av) : a = b := by
  obtain ⟨a1, a2, a3, ⟨a4, a5, a6, a7⟩, a8, a9⟩ := a
  obtain ⟨b1, b2, b3, ⟨b4, b5, b6, b7⟩, b8, b9⟩ := b
  simp only [Blk.av, AV.agg.injEq, List.cons.injEq, AV.c.injEq, PC.str.injEq, PC.int.injEq, PC.sl.injEq, votes_iff, trows_iff, true_and, and_true] at h
  obtain ⟨rfl, rfl, rfl, rfl, rfl, rfl, rfl, rfl, rfl⟩ := h
  rfl
theorem Blk.av_iff {a b : Blk} : a.av = b.av ↔ a = b := ⟨Blk.av_inj, fun h => by rw [h]⟩
theorem Blk.pcs_inj {a b : Blk} (h : a.pcs = b.pcs) : a = b := by
  obtain ⟨a1, a2, a3, ⟨a4, a5, a6, a7⟩, a8, a9⟩ := a
  obtain ⟨b1, b2, b3, ⟨b4, b5, b6, b7⟩, b8, b9⟩ := b
  simp only [Blk.pcs, List.cons.injEq, PC.str.injEq, PC.int.injEq, PC.sl.injEq, votes_iff, trows_iff, true_and, and_true] at h
  obtain ⟨rfl, rfl, rfl, rfl, rfl, rfl, rfl, rfl, rfl⟩ := h
  rfl
def zeroBk : Blk := ⟨0, 0, [], ⟨0, 0, [], []⟩, [], []⟩

def idxP {α : Type} (p : α → Bool) (l : List α) : Int := match l.findIdx? p with | some i => (i : Int) | none => -1
theorem idxP_some {α : Type} {p : α → Bool} {l : List α} {d : α} {i : Nat} (hi : i < l.length) (h : p (l.getD i d) = true) (hb : ∀ k, k < i → p (l.getD k d) = false) : idxP p l = (i : Int) := by
  have : l.findIdx? p = some i := by
    rw [List.findIdx?_eq_some_iff_getElem]
    refine ⟨hi, ?_, fun j hj => ?_⟩
    · rw [List.getD, List.getElem?_eq_getElem hi] at h
      simpa using h
    · have := hb j hj
      rw [List.getD, List.getElem?_eq_getElem (by omega)] at this
      simpa using this
  unfold idxP
  rw [this]
theorem idxP_none {α : Type} {p : α → Bool} {l : List α} {d : α} (h : ∀ k, k < l.length → p (l.getD k d) = false) : idxP p l = -1 := by
  have : l.findIdx? p = none := by
    rw [List.findIdx?_eq_none_iff]
    intro x hx
    obtain ⟨k, hk, rfl⟩ := List.getElem_of_mem hx
    have := h k hk
    rw [List.getD, List.getElem?_eq_getElem hk] at this
    simpa using this
  unfold idxP
  rw [this]
theorem idxP_ge {α : Type} (p : α → Bool) (l : List α) : decide (idxP p l ≥ 0) = l.any p := by
  unfold idxP
  cases h : l.findIdx? p with
  | none =>
    rw [List.findIdx?_eq_none_iff] at h
    have : l.any p = false := by
      rw [List.any_eq_false]
      intro x hx
      simpa using h x hx
    simp [this]
  | some i =>
    have hi := (List.findIdx?_eq_some_iff_getElem.1 h)
    obtain ⟨h1, h2, _⟩ := hi
    have : l.any p = true := List.any_eq_true.2 ⟨l[i], List.getElem_mem h1, h2⟩
    simp [this]


variable {Γ : FuncId → Contract}

def aboutP (t : Vt) : Prop := if t.kd = 4 then t.ht = 0 ∧ t.bl = [] else (0 ≤ t.ht ∧ t.ht ≤ 1048576) ∧ t.bl.length = 32
def tickP (t : Vt) : Prop := if t.kd = 3 then 1 ≤ t.tk ∧ t.tk ≤ 1048576 else t.tk = 0
instance (t : Vt) : Decidable (aboutP t) := by unfold aboutP; infer_instance
instance (t : Vt) : Decidable (tickP t) := by unfold tickP; infer_instance
def okV (t : Vt) : Prop := 1 ≤ t.kd ∧ t.kd ≤ 4 ∧ 0 ≤ t.vw ∧ t.vw ≤ 1048576 ∧ aboutP t ∧ tickP t ∧ (0 ≤ t.sg ∧ t.sg ≤ 6) ∧ t.sig.length ≤ 4096
instance (t : Vt) : Decidable (okV t) := inferInstanceAs (Decidable (_ ∧ _))
def voS (t : Vt) : Int := if okV t then 0 else 9

def replC : Contract := fun args objs => match args, objs with
  | [.c (.int .i64 n)], [] => some ⟨[.pv (.c (.bool (decide (n ≥ 0) && decide (n < 7))))], []⟩
  | _, _ => none
set_option maxHeartbeats 1000000 in
theorem repl_sound : SoundC Try.prog 97 replC := by
  refine sound_fn Try.func97 (by kernel_rfl) rfl rfl ?_
  intro args objs r hr
  unfold replC at hr
  split at hr
  · rename_i n
    cases hr
    refine ⟨rfl, by show 1 ≤ _; decide, fun E hN hns hF => ?_⟩
    refine vc_sound none0_sound mixed _ _ _ ?_
    have hN := hN.trans nt_97
    cases g1 : decide (n ≥ 0) <;> cases g2 : decide (n < 7)
    all_goals
      simp only [runA, runB, runC, runD, runE, runF, fieldE, storeE, binE, ↓reduceIte, Nat.reduceLT, Nat.reduceLeDiff, Nat.reduceEqDiff, Nat.reduceAdd, Nat.reduceMul, Nat.reduceSub, reduceCtorEq, putAt, unE, Nat.reduceBEq, convE, buildE, List.replicate, Int.reduceLT, Int.reduceLE, Int.reduceToNat, mkE, mapSetE, hN, hF, ty_3, ty_4, notIf, isEq, g1, g2]
    all_goals
      simp only [runB, finC, finD, Option.isSome_some, Option.isSome_none, ↓reduceIte, Nat.reduceEqDiff, Nat.reduceAdd, Nat.reduceMul, forall_eq_or_imp, forall_eq, implies_true, Nat.reduceBEq, reduceCtorEq, false_implies, List.zip_cons_cons, List.zip_nil_left, List.zip_nil_right, Nat.reduceLeDiff, List.forall_mem_nil, rs_97, Bool.and_true, Bool.and_false, Bool.false_and, Bool.true_and]
  · cases hr
noncomputable def abC : Contract := mkC (α := Vt) (fun _ => True) (fun t => [t.av]) (fun _ => []) (fun t => ⟨[.pv (.c (.bool (decide (aboutP t))))], []⟩)
noncomputable def tkC : Contract := mkC (α := Vt) (fun _ => True) (fun t => [t.av]) (fun _ => []) (fun t => ⟨[.pv (.c (.bool (decide (tickP t))))], []⟩)
noncomputable def voCkC : Contract := mkC (α := Vt) (fun _ => True) (fun t => [t.av]) (fun _ => []) (fun t => ⟨[.pv (.c (.int .i64 (voS t)))], []⟩)
theorem ab_at (t : Vt) : abC [.agg [.c (.int .i64 t.kd), .c (.int .i64 t.vw), .c (.int .i64 t.ht), .c (.str t.bl), .c (.int .i64 t.tk), .c (.int .i64 t.sg), .c (.str t.sig)]] [] = some ⟨[.pv (.c (.bool (decide (aboutP t))))], []⟩ :=
  mkC_at (α := Vt) t trivial (by
    rintro y _ h _
    have h' : [y.av] = [t.av] := h
    have e : y = t := Vt.av_inj (by simpa using h')
    rw [e])
theorem tk_at (t : Vt) : tkC [.agg [.c (.int .i64 t.kd), .c (.int .i64 t.vw), .c (.int .i64 t.ht), .c (.str t.bl), .c (.int .i64 t.tk), .c (.int .i64 t.sg), .c (.str t.sig)]] [] = some ⟨[.pv (.c (.bool (decide (tickP t))))], []⟩ :=
  mkC_at (α := Vt) t trivial (by
    rintro y _ h _
    have h' : [y.av] = [t.av] := h
    have e : y = t := Vt.av_inj (by simpa using h')
    rw [e])
theorem voCk_at (t : Vt) : voCkC [.agg [.c (.int .i64 t.kd), .c (.int .i64 t.vw), .c (.int .i64 t.ht), .c (.str t.bl), .c (.int .i64 t.tk), .c (.int .i64 t.sg), .c (.str t.sig)]] [] = some ⟨[.pv (.c (.int .i64 (voS t)))], []⟩ :=
  mkC_at (α := Vt) t trivial (by
    rintro y _ h _
    have h' : [y.av] = [t.av] := h
    have e : y = t := Vt.av_inj (by simpa using h')
    rw [e])

set_option maxRecDepth 100000 in
set_option maxHeartbeats 4000000 in
theorem ab_sound : SoundC Try.prog 128 abC := by
  refine sound_fn Try.func128 (by kernel_rfl) rfl rfl ?_
  intro args objs r hr
  obtain ⟨⟨kd, vw, ht, bl, tk, sg, sig⟩, _, rfl, rfl, rfl⟩ := mkC_inv hr
  refine ⟨rfl, by show 1 ≤ _; decide, fun E hN hns hF => ?_⟩
  refine vc_sound none0_sound mixed _ _ _ ?_
  have hN := hN.trans nt_128
  unfold Vt.av
  by_cases c4 : kd = 4
  · have g4 : (kd == 4) = true := by simpa using c4
    have hA : aboutP ⟨kd, vw, ht, bl, tk, sg, sig⟩ ↔ (ht = 0 ∧ bl = []) := by unfold aboutP; rw [if_pos c4]
    by_cases c5 : ht = 0
    · have g5 : (ht == 0) = true := by simpa using c5
      by_cases c6 : bl = []
      · have g6 : (bl == []) = true := by simpa using c6
        have hS : decide (aboutP ⟨kd, vw, ht, bl, tk, sg, sig⟩) = true := decide_eq_true (hA.2 ⟨c5, c6⟩)
        simp only [runA, runB, runC, runD, runE, runF, fieldE, storeE, binE, ↓reduceIte, Nat.reduceLT, Nat.reduceLeDiff, Nat.reduceEqDiff, Nat.reduceAdd, Nat.reduceMul, Nat.reduceSub, reduceCtorEq, putAt, unE, Nat.reduceBEq, convE, buildE, List.replicate, Int.reduceLT, Int.reduceLE, Int.reduceToNat, mkE, mapSetE, hN, hF, ty_3, ty_4, ty_9, ty_74, notIf, isEq, g4, g5, g6]
        simp only [runB, finC, finD, Option.isSome_some, Option.isSome_none, ↓reduceIte, Nat.reduceEqDiff, Nat.reduceAdd, Nat.reduceMul, forall_eq_or_imp, forall_eq, implies_true, Nat.reduceBEq, reduceCtorEq, false_implies, List.zip_cons_cons, List.zip_nil_left, List.zip_nil_right, Nat.reduceLeDiff, List.forall_mem_nil, rs_128, hS]
      · have g6 : (bl == []) = false := by simpa using c6
        have hS : decide (aboutP ⟨kd, vw, ht, bl, tk, sg, sig⟩) = false := decide_eq_false (fun h => c6 (hA.1 h).2)
        simp only [runA, runB, runC, runD, runE, runF, fieldE, storeE, binE, ↓reduceIte, Nat.reduceLT, Nat.reduceLeDiff, Nat.reduceEqDiff, Nat.reduceAdd, Nat.reduceMul, Nat.reduceSub, reduceCtorEq, putAt, unE, Nat.reduceBEq, convE, buildE, List.replicate, Int.reduceLT, Int.reduceLE, Int.reduceToNat, mkE, mapSetE, hN, hF, ty_3, ty_4, ty_9, ty_74, notIf, isEq, g4, g5, g6]
        simp only [runB, finC, finD, Option.isSome_some, Option.isSome_none, ↓reduceIte, Nat.reduceEqDiff, Nat.reduceAdd, Nat.reduceMul, forall_eq_or_imp, forall_eq, implies_true, Nat.reduceBEq, reduceCtorEq, false_implies, List.zip_cons_cons, List.zip_nil_left, List.zip_nil_right, Nat.reduceLeDiff, List.forall_mem_nil, rs_128, hS]
    · have g5 : (ht == 0) = false := by simpa using c5
      have hS : decide (aboutP ⟨kd, vw, ht, bl, tk, sg, sig⟩) = false := decide_eq_false (fun h => c5 (hA.1 h).1)
      simp only [runA, runB, runC, runD, runE, runF, fieldE, storeE, binE, ↓reduceIte, Nat.reduceLT, Nat.reduceLeDiff, Nat.reduceEqDiff, Nat.reduceAdd, Nat.reduceMul, Nat.reduceSub, reduceCtorEq, putAt, unE, Nat.reduceBEq, convE, buildE, List.replicate, Int.reduceLT, Int.reduceLE, Int.reduceToNat, mkE, mapSetE, hN, hF, ty_3, ty_4, ty_9, ty_74, notIf, isEq, g4, g5]
      simp only [runB, finC, finD, Option.isSome_some, Option.isSome_none, ↓reduceIte, Nat.reduceEqDiff, Nat.reduceAdd, Nat.reduceMul, forall_eq_or_imp, forall_eq, implies_true, Nat.reduceBEq, reduceCtorEq, false_implies, List.zip_cons_cons, List.zip_nil_left, List.zip_nil_right, Nat.reduceLeDiff, List.forall_mem_nil, rs_128, hS]
  · have g4 : (kd == 4) = false := by simpa using c4
    have hA : aboutP ⟨kd, vw, ht, bl, tk, sg, sig⟩ ↔ ((0 ≤ ht ∧ ht ≤ 1048576) ∧ bl.length = 32) := by unfold aboutP; rw [if_neg c4]
    by_cases c5 : 0 ≤ ht
    · have g5 : decide (ht ≥ 0) = true := by simpa using c5
      by_cases c6 : ht ≤ 1048576
      · have g6 : decide (ht ≤ 1048576) = true := by simpa using c6
        by_cases c7 : bl.length = 32
        · have g7 : ((bl.length : Int) == 32) = true := by rw [c7]; rfl
          have hS : decide (aboutP ⟨kd, vw, ht, bl, tk, sg, sig⟩) = true := decide_eq_true (hA.2 ⟨⟨c5, c6⟩, c7⟩)
          simp only [runA, runB, runC, runD, runE, runF, fieldE, storeE, binE, ↓reduceIte, Nat.reduceLT, Nat.reduceLeDiff, Nat.reduceEqDiff, Nat.reduceAdd, Nat.reduceMul, Nat.reduceSub, reduceCtorEq, putAt, unE, Nat.reduceBEq, convE, buildE, List.replicate, Int.reduceLT, Int.reduceLE, Int.reduceToNat, mkE, mapSetE, hN, hF, ty_3, ty_4, ty_9, ty_74, notIf, isEq, g4, g5, g6, g7]
          simp only [runB, finC, finD, Option.isSome_some, Option.isSome_none, ↓reduceIte, Nat.reduceEqDiff, Nat.reduceAdd, Nat.reduceMul, forall_eq_or_imp, forall_eq, implies_true, Nat.reduceBEq, reduceCtorEq, false_implies, List.zip_cons_cons, List.zip_nil_left, List.zip_nil_right, Nat.reduceLeDiff, List.forall_mem_nil, rs_128, hS]
        · have g7 : ((bl.length : Int) == 32) = false := by rw [beq_eq_false_iff_ne]; omega
          have hS : decide (aboutP ⟨kd, vw, ht, bl, tk, sg, sig⟩) = false := decide_eq_false (fun h => c7 (hA.1 h).2)
          simp only [runA, runB, runC, runD, runE, runF, fieldE, storeE, binE, ↓reduceIte, Nat.reduceLT, Nat.reduceLeDiff, Nat.reduceEqDiff, Nat.reduceAdd, Nat.reduceMul, Nat.reduceSub, reduceCtorEq, putAt, unE, Nat.reduceBEq, convE, buildE, List.replicate, Int.reduceLT, Int.reduceLE, Int.reduceToNat, mkE, mapSetE, hN, hF, ty_3, ty_4, ty_9, ty_74, notIf, isEq, g4, g5, g6, g7]
          simp only [runB, finC, finD, Option.isSome_some, Option.isSome_none, ↓reduceIte, Nat.reduceEqDiff, Nat.reduceAdd, Nat.reduceMul, forall_eq_or_imp, forall_eq, implies_true, Nat.reduceBEq, reduceCtorEq, false_implies, List.zip_cons_cons, List.zip_nil_left, List.zip_nil_right, Nat.reduceLeDiff, List.forall_mem_nil, rs_128, hS]
      · have g6 : decide (ht ≤ 1048576) = false := by simpa using c6
        have hS : decide (aboutP ⟨kd, vw, ht, bl, tk, sg, sig⟩) = false := decide_eq_false (fun h => c6 (hA.1 h).1.2)
        simp only [runA, runB, runC, runD, runE, runF, fieldE, storeE, binE, ↓reduceIte, Nat.reduceLT, Nat.reduceLeDiff, Nat.reduceEqDiff, Nat.reduceAdd, Nat.reduceMul, Nat.reduceSub, reduceCtorEq, putAt, unE, Nat.reduceBEq, convE, buildE, List.replicate, Int.reduceLT, Int.reduceLE, Int.reduceToNat, mkE, mapSetE, hN, hF, ty_3, ty_4, ty_9, ty_74, notIf, isEq, g4, g5, g6]
        simp only [runB, finC, finD, Option.isSome_some, Option.isSome_none, ↓reduceIte, Nat.reduceEqDiff, Nat.reduceAdd, Nat.reduceMul, forall_eq_or_imp, forall_eq, implies_true, Nat.reduceBEq, reduceCtorEq, false_implies, List.zip_cons_cons, List.zip_nil_left, List.zip_nil_right, Nat.reduceLeDiff, List.forall_mem_nil, rs_128, hS]
    · have g5 : decide (ht ≥ 0) = false := by simpa using c5
      have hS : decide (aboutP ⟨kd, vw, ht, bl, tk, sg, sig⟩) = false := decide_eq_false (fun h => c5 (hA.1 h).1.1)
      simp only [runA, runB, runC, runD, runE, runF, fieldE, storeE, binE, ↓reduceIte, Nat.reduceLT, Nat.reduceLeDiff, Nat.reduceEqDiff, Nat.reduceAdd, Nat.reduceMul, Nat.reduceSub, reduceCtorEq, putAt, unE, Nat.reduceBEq, convE, buildE, List.replicate, Int.reduceLT, Int.reduceLE, Int.reduceToNat, mkE, mapSetE, hN, hF, ty_3, ty_4, ty_9, ty_74, notIf, isEq, g4, g5]
      simp only [runB, finC, finD, Option.isSome_some, Option.isSome_none, ↓reduceIte, Nat.reduceEqDiff, Nat.reduceAdd, Nat.reduceMul, forall_eq_or_imp, forall_eq, implies_true, Nat.reduceBEq, reduceCtorEq, false_implies, List.zip_cons_cons, List.zip_nil_left, List.zip_nil_right, Nat.reduceLeDiff, List.forall_mem_nil, rs_128, hS]

set_option maxRecDepth 100000 in
set_option maxHeartbeats 4000000 in
theorem tk_sound : SoundC Try.prog 129 tkC := by
  refine sound_fn Try.func129 (by kernel_rfl) rfl rfl ?_
  intro args objs r hr
  obtain ⟨⟨kd, vw, ht, bl, tk, sg, sig⟩, _, rfl, rfl, rfl⟩ := mkC_inv hr
  refine ⟨rfl, by show 1 ≤ _; decide, fun E hN hns hF => ?_⟩
  refine vc_sound none0_sound mixed _ _ _ ?_
  have hN := hN.trans nt_129
  unfold Vt.av
  by_cases c4 : kd = 3
  · have g4 : (kd == 3) = true := by simpa using c4
    have hA : tickP ⟨kd, vw, ht, bl, tk, sg, sig⟩ ↔ (1 ≤ tk ∧ tk ≤ 1048576) := by unfold tickP; rw [if_pos c4]
    by_cases c5 : 1 ≤ tk
    · have g5 : decide (tk ≥ 1) = true := by simpa using c5
      by_cases c6 : tk ≤ 1048576
      · have g6 : decide (tk ≤ 1048576) = true := by simpa using c6
        have hS : decide (tickP ⟨kd, vw, ht, bl, tk, sg, sig⟩) = true := decide_eq_true (hA.2 ⟨c5, c6⟩)
        simp only [runA, runB, runC, runD, runE, runF, fieldE, storeE, binE, ↓reduceIte, Nat.reduceLT, Nat.reduceLeDiff, Nat.reduceEqDiff, Nat.reduceAdd, Nat.reduceMul, Nat.reduceSub, reduceCtorEq, putAt, unE, Nat.reduceBEq, convE, buildE, List.replicate, Int.reduceLT, Int.reduceLE, Int.reduceToNat, mkE, mapSetE, hN, hF, ty_3, ty_4, ty_9, ty_74, notIf, isEq, g4, g5, g6]
        simp only [runB, finC, finD, Option.isSome_some, Option.isSome_none, ↓reduceIte, Nat.reduceEqDiff, Nat.reduceAdd, Nat.reduceMul, forall_eq_or_imp, forall_eq, implies_true, Nat.reduceBEq, reduceCtorEq, false_implies, List.zip_cons_cons, List.zip_nil_left, List.zip_nil_right, Nat.reduceLeDiff, List.forall_mem_nil, rs_129, hS]
      · have g6 : decide (tk ≤ 1048576) = false := by simpa using c6
        have hS : decide (tickP ⟨kd, vw, ht, bl, tk, sg, sig⟩) = false := decide_eq_false (fun h => c6 (hA.1 h).2)
        simp only [runA, runB, runC, runD, runE, runF, fieldE, storeE, binE, ↓reduceIte, Nat.reduceLT, Nat.reduceLeDiff, Nat.reduceEqDiff, Nat.reduceAdd, Nat.reduceMul, Nat.reduceSub, reduceCtorEq, putAt, unE, Nat.reduceBEq, convE, buildE, List.replicate, Int.reduceLT, Int.reduceLE, Int.reduceToNat, mkE, mapSetE, hN, hF, ty_3, ty_4, ty_9, ty_74, notIf, isEq, g4, g5, g6]
        simp only [runB, finC, finD, Option.isSome_some, Option.isSome_none, ↓reduceIte, Nat.reduceEqDiff, Nat.reduceAdd, Nat.reduceMul, forall_eq_or_imp, forall_eq, implies_true, Nat.reduceBEq, reduceCtorEq, false_implies, List.zip_cons_cons, List.zip_nil_left, List.zip_nil_right, Nat.reduceLeDiff, List.forall_mem_nil, rs_129, hS]
    · have g5 : decide (tk ≥ 1) = false := by simpa using c5
      have hS : decide (tickP ⟨kd, vw, ht, bl, tk, sg, sig⟩) = false := decide_eq_false (fun h => c5 (hA.1 h).1)
      simp only [runA, runB, runC, runD, runE, runF, fieldE, storeE, binE, ↓reduceIte, Nat.reduceLT, Nat.reduceLeDiff, Nat.reduceEqDiff, Nat.reduceAdd, Nat.reduceMul, Nat.reduceSub, reduceCtorEq, putAt, unE, Nat.reduceBEq, convE, buildE, List.replicate, Int.reduceLT, Int.reduceLE, Int.reduceToNat, mkE, mapSetE, hN, hF, ty_3, ty_4, ty_9, ty_74, notIf, isEq, g4, g5]
      simp only [runB, finC, finD, Option.isSome_some, Option.isSome_none, ↓reduceIte, Nat.reduceEqDiff, Nat.reduceAdd, Nat.reduceMul, forall_eq_or_imp, forall_eq, implies_true, Nat.reduceBEq, reduceCtorEq, false_implies, List.zip_cons_cons, List.zip_nil_left, List.zip_nil_right, Nat.reduceLeDiff, List.forall_mem_nil, rs_129, hS]
  · have g4 : (kd == 3) = false := by simpa using c4
    have hA : tickP ⟨kd, vw, ht, bl, tk, sg, sig⟩ ↔ tk = 0 := by unfold tickP; rw [if_neg c4]
    have hS : decide (tickP ⟨kd, vw, ht, bl, tk, sg, sig⟩) = (tk == 0) := by
      by_cases c5 : tk = 0
      · rw [decide_eq_true (hA.2 c5)]; simp [c5]
      · rw [decide_eq_false (fun h => c5 (hA.1 h))]; simp [c5]
    simp only [runA, runB, runC, runD, runE, runF, fieldE, storeE, binE, ↓reduceIte, Nat.reduceLT, Nat.reduceLeDiff, Nat.reduceEqDiff, Nat.reduceAdd, Nat.reduceMul, Nat.reduceSub, reduceCtorEq, putAt, unE, Nat.reduceBEq, convE, buildE, List.replicate, Int.reduceLT, Int.reduceLE, Int.reduceToNat, mkE, mapSetE, hN, hF, ty_3, ty_4, ty_9, ty_74, notIf, isEq, g4]
    simp only [runB, finC, finD, Option.isSome_some, Option.isSome_none, ↓reduceIte, Nat.reduceEqDiff, Nat.reduceAdd, Nat.reduceMul, forall_eq_or_imp, forall_eq, implies_true, Nat.reduceBEq, reduceCtorEq, false_implies, List.zip_cons_cons, List.zip_nil_left, List.zip_nil_right, Nat.reduceLeDiff, List.forall_mem_nil, rs_129, hS]
theorem replA_at (n : Int) : replC [.c (.int .i64 n)] [] = some ⟨[.pv (.c (.bool (decide (n ≥ 0) && decide (n < 7))))], []⟩ := rfl

set_option maxRecDepth 100000 in
set_option maxHeartbeats 4000000 in
theorem voCk_sound (hΓ : SoundG Try.prog Γ) (h1 : Γ 128 = abC) (h2 : Γ 129 = tkC) (h3 : Γ 97 = replC) : SoundC Try.prog 96 voCkC := by
  refine sound_fn Try.func96 (by kernel_rfl) rfl rfl ?_
  intro args objs r hr
  obtain ⟨⟨kd, vw, ht, bl, tk, sg, sig⟩, _, rfl, rfl, rfl⟩ := mkC_inv hr
  refine ⟨rfl, by show 1 ≤ _; decide, fun E hN hns hF => ?_⟩
  refine vc_sound hΓ mixed _ _ _ ?_
  have hN := hN.trans nt_96
  unfold Vt.av
  have q1 := ab_at ⟨kd, vw, ht, bl, tk, sg, sig⟩
  have q2 := tk_at ⟨kd, vw, ht, bl, tk, sg, sig⟩
  dsimp only at q1 q2
  simp +contextual (maxSteps := 10000000) only [runA, runB, runC, runD, runE, runF, fieldE, storeE, binE, ↓reduceIte, Nat.reduceLT, Nat.reduceLeDiff, Nat.reduceEqDiff, Nat.reduceAdd, Nat.reduceMul, Nat.reduceSub, reduceCtorEq, putAt, unE, Nat.reduceBEq, convE, buildE, List.replicate, Int.reduceLT, Int.reduceLE, Int.reduceToNat, mkE, mapSetE, hN, hF, ty_3, ty_4, ty_9, ty_27, ty_74, notIf, isEq, bytes_length, false_implies, implies_true, h1, h2, h3, q1, q2, replA_at]
  refine ⟨fun b1 => ?_, fun b1 => ?_⟩
  · have hS : voS ⟨kd, vw, ht, bl, tk, sg, sig⟩ = 9 := if_neg (fun ⟨a1, a2, a3, a4, a5, a6, ⟨a7, a7'⟩, a8⟩ => by
      simp only at a1 a2 a3 a4 a7 a7' a8
      rw [decide_eq_true a5, decide_eq_true a6] at b1
      revert b1; simp; omega)
    simp only [runB, finC, finD, Option.isSome_some, Option.isSome_none, ↓reduceIte, Nat.reduceEqDiff, Nat.reduceAdd, Nat.reduceMul, forall_eq_or_imp, forall_eq, implies_true, Nat.reduceBEq, reduceCtorEq, false_implies, List.zip_cons_cons, List.zip_nil_left, List.zip_nil_right, Nat.reduceLeDiff, List.forall_mem_nil, rs_96, ty_3, ty_4, ty_9, ty_27, ty_74, hS]
  · have hS : voS ⟨kd, vw, ht, bl, tk, sg, sig⟩ = 0 := if_pos (by
      simp only [Bool.or_eq_false_iff, decide_eq_false_iff_not, Bool.not_eq_false', Bool.and_eq_true, decide_eq_true_eq] at b1
      obtain ⟨⟨⟨⟨⟨⟨⟨x1, x2⟩, x3⟩, x4⟩, x5⟩, x6⟩, x7⟩, x8⟩ := b1
      exact ⟨by simp only; omega, by simp only; omega, by simp only; omega, by simp only; omega, x5, x6, ⟨by simp only; omega, by simp only; omega⟩, by simp only; omega⟩)
    simp only [runB, finC, finD, Option.isSome_some, Option.isSome_none, ↓reduceIte, Nat.reduceEqDiff, Nat.reduceAdd, Nat.reduceMul, forall_eq_or_imp, forall_eq, implies_true, Nat.reduceBEq, reduceCtorEq, false_implies, List.zip_cons_cons, List.zip_nil_left, List.zip_nil_right, Nat.reduceLeDiff, List.forall_mem_nil, rs_96, ty_3, ty_4, ty_9, ty_27, ty_74, hS]


variable {Γ : FuncId → Contract}

/-- The fields, one behind another. -/
def voF (w : WS) (t : Vt) : WS := wNum (wNum (rText (wNum (wNum (wNum (rText w [118, 111, 116, 101]) t.kd) t.vw) t.ht) t.bl) t.tk) t.sg
theorem voF_len (w : WS) (t : Vt) : (voF w t).b.length ≤ w.b.length + 4134 := by
  have l0 := (rText_len w [118, 111, 116, 101]).1
  have l1 := wNum_len (rText w [118, 111, 116, 101]) t.kd
  have l2 := wNum_len (wNum (rText w [118, 111, 116, 101]) t.kd) t.vw
  have l3 := wNum_len (wNum (wNum (rText w [118, 111, 116, 101]) t.kd) t.vw) t.ht
  have l4 := (rText_len (wNum (wNum (wNum (rText w [118, 111, 116, 101]) t.kd) t.vw) t.ht) t.bl).2
  have l5 := wNum_len (rText (wNum (wNum (wNum (rText w [118, 111, 116, 101]) t.kd) t.vw) t.ht) t.bl) t.tk
  have l6 := wNum_len (wNum (rText (wNum (wNum (wNum (rText w [118, 111, 116, 101]) t.kd) t.vw) t.ht) t.bl) t.tk) t.sg
  simp only [List.length_cons, List.length_nil] at l0
  unfold voF
  omega
def voB (t : Vt) : List UInt8 := putB 4 2 ++ ([118, 111, 116, 101] ++ (putB t.kd 6 ++ (putB t.vw 6 ++ (putB t.ht 6 ++ (putB (t.bl.length : Int) 2 ++ (t.bl ++ (putB t.tk 6 ++ putB t.sg 6)))))))
theorem okV_bl {t : Vt} (h : okV t) : t.bl.length ≤ 32 := by
  obtain ⟨h1, h2, h3, h4, h5, h6, h7, h8⟩ := h
  unfold aboutP at h5
  split at h5
  · rw [h5.2]; decide
  · omega
theorem okV_nums {t : Vt} (h : okV t) : (0 ≤ t.ht ∧ t.ht ≤ 1048576) ∧ (0 ≤ t.tk ∧ t.tk ≤ 1048576) := by
  obtain ⟨h1, h2, h3, h4, h5, h6, h7, h8⟩ := h
  unfold aboutP at h5
  unfold tickP at h6
  constructor
  · split at h5 <;> omega
  · split at h6 <;> omega
noncomputable def voTxC : Contract := mkC (α := WS × Vt) (fun p => p.1.b.length ≤ 85000 ∧ p.2.bl.length ≤ 9223372036854775807) (fun p => [.ptr 6400000 0, p.2.av]) (fun p => [[.own 1 (bytes p.1.b), .c (.int .i64 p.1.e), .c (.bool true)]]) (fun p => ⟨[], [[.own 1 (bytes (voF p.1 p.2).b), .c (.int .i64 (voF p.1 p.2).e), .c (.bool true)]]⟩)
theorem voTx_at (w : WS) (tkd : Int) (tvw : Int) (tht : Int) (tbl : List UInt8) (ttk : Int) (tsg : Int) (tsig : List UInt8) (g0 : w.b.length ≤ 85000) (g1 : tbl.length ≤ 9223372036854775807) : voTxC [.ptr 6400000 0, .agg [.c (.int .i64 tkd), .c (.int .i64 tvw), .c (.int .i64 tht), .c (.str tbl), .c (.int .i64 ttk), .c (.int .i64 tsg), .c (.str tsig)]] [[.own 1 (bytes w.b), .c (.int .i64 w.e), .c (.bool true)]] = some ⟨[], [[.own 1 (bytes (voF w (⟨tkd, tvw, tht, tbl, ttk, tsg, tsig⟩ : Vt)).b), .c (.int .i64 (voF w (⟨tkd, tvw, tht, tbl, ttk, tsg, tsig⟩ : Vt)).e), .c (.bool true)]]⟩ := by
  obtain ⟨wb, we⟩ := w
  exact mkC_at (α := WS × Vt) (⟨wb, we⟩, ⟨tkd, tvw, tht, tbl, ttk, tsg, tsig⟩) ⟨g0, g1⟩ (by
    rintro ⟨⟨w'b, w'e⟩, t'⟩ _ h ho
    have hh := And.intro h ho
    clear h ho
    simp only [List.cons.injEq, AV.c.injEq, AV.agg.injEq, PC.int.injEq, PC.str.injEq, PC.bool.injEq, PC.sl.injEq, OV.c.injEq, OV.own.injEq, OV.mp.injEq, bytes_iff, texts_iff, true_and, and_true, and_self, beq_self_eq_true, Vt.av_iff] at hh
    simp only [hh])
noncomputable def voPutC : Contract := mkC (α := WS × Vt) (fun p => p.1.b.length ≤ 85000 ∧ p.2.bl.length ≤ 9223372036854775807 ∧ p.2.sig.length ≤ 9223372036854775807) (fun p => [.ptr 6400000 0, p.2.av]) (fun p => [[.own 1 (bytes p.1.b), .c (.int .i64 p.1.e), .c (.bool true)]]) (fun p => ⟨[], [[.own 1 (bytes (rText (voF p.1 p.2) p.2.sig).b), .c (.int .i64 (rText (voF p.1 p.2) p.2.sig).e), .c (.bool true)]]⟩)
theorem voPut_at (w : WS) (tkd : Int) (tvw : Int) (tht : Int) (tbl : List UInt8) (ttk : Int) (tsg : Int) (tsig : List UInt8) (g0 : w.b.length ≤ 85000) (g1 : tbl.length ≤ 9223372036854775807) (g2 : tsig.length ≤ 9223372036854775807) : voPutC [.ptr 6400000 0, .agg [.c (.int .i64 tkd), .c (.int .i64 tvw), .c (.int .i64 tht), .c (.str tbl), .c (.int .i64 ttk), .c (.int .i64 tsg), .c (.str tsig)]] [[.own 1 (bytes w.b), .c (.int .i64 w.e), .c (.bool true)]] = some ⟨[], [[.own 1 (bytes (rText (voF w (⟨tkd, tvw, tht, tbl, ttk, tsg, tsig⟩ : Vt)) tsig).b), .c (.int .i64 (rText (voF w (⟨tkd, tvw, tht, tbl, ttk, tsg, tsig⟩ : Vt)) tsig).e), .c (.bool true)]]⟩ := by
  obtain ⟨wb, we⟩ := w
  exact mkC_at (α := WS × Vt) (⟨wb, we⟩, ⟨tkd, tvw, tht, tbl, ttk, tsg, tsig⟩) ⟨g0, g1, g2⟩ (by
    rintro ⟨⟨w'b, w'e⟩, t'⟩ _ h ho
    have hh := And.intro h ho
    clear h ho
    simp only [List.cons.injEq, AV.c.injEq, AV.agg.injEq, PC.int.injEq, PC.str.injEq, PC.bool.injEq, PC.sl.injEq, OV.c.injEq, OV.own.injEq, OV.mp.injEq, bytes_iff, texts_iff, true_and, and_true, and_self, beq_self_eq_true, Vt.av_iff] at hh
    simp only [hh])
set_option maxRecDepth 100000 in
set_option maxHeartbeats 4000000 in
theorem voTx_sound (hΓ : SoundG Try.prog Γ) (h1 : Γ 83 = textC) (h2 : Γ 80 = numC) : SoundC Try.prog 99 voTxC := by
  refine sound_fn Try.func99 (by kernel_rfl) rfl rfl ?_
  intro args objs r0 hr
  obtain ⟨⟨w, t⟩, ⟨hl, hbl⟩, rfl, rfl, rfl⟩ := mkC_inv hr
  refine ⟨rfl, by show 2 ≤ _; decide, fun E hN hns hF => ?_⟩
  refine vc_sound hΓ mixed _ _ _ ?_
  have hN := hN.trans nt_99
  have hl : w.b.length ≤ 85000 := hl
  have hbl : t.bl.length ≤ 9223372036854775807 := hbl
  have l0 := (rText_len w [118, 111, 116, 101]).2
  have l1 := wNum_len (rText w [118, 111, 116, 101]) t.kd
  have l2 := wNum_len (wNum (rText w [118, 111, 116, 101]) t.kd) t.vw
  have l3 := wNum_len (wNum (wNum (rText w [118, 111, 116, 101]) t.kd) t.vw) t.ht
  have l4 := (rText_len (wNum (wNum (wNum (rText w [118, 111, 116, 101]) t.kd) t.vw) t.ht) t.bl).2
  have l5 := wNum_len (rText (wNum (wNum (wNum (rText w [118, 111, 116, 101]) t.kd) t.vw) t.ht) t.bl) t.tk
  have q0 := text_atw w [118, 111, 116, 101] (by omega) (by decide)
  have q1 := num_atw (rText w [118, 111, 116, 101]) t.kd (by omega)
  have q2 := num_atw (wNum (rText w [118, 111, 116, 101]) t.kd) t.vw (by omega)
  have q3 := num_atw (wNum (wNum (rText w [118, 111, 116, 101]) t.kd) t.vw) t.ht (by omega)
  have q4 := text_atw (wNum (wNum (wNum (rText w [118, 111, 116, 101]) t.kd) t.vw) t.ht) t.bl (by omega) (by omega)
  have q5 := num_atw (rText (wNum (wNum (wNum (rText w [118, 111, 116, 101]) t.kd) t.vw) t.ht) t.bl) t.tk (by omega)
  have q6 := num_atw (wNum (rText (wNum (wNum (wNum (rText w [118, 111, 116, 101]) t.kd) t.vw) t.ht) t.bl) t.tk) t.sg (by omega)
  unfold voF Vt.av
  simp only [runA, runB, runC, runD, runE, runF, fieldE, storeE, binE, ↓reduceIte, Nat.reduceLT, Nat.reduceLeDiff, Nat.reduceEqDiff, Nat.reduceAdd, Nat.reduceMul, Nat.reduceSub, reduceCtorEq, putAt, unE, Nat.reduceBEq, convE, buildE, List.replicate, Int.reduceLT, Int.reduceLE, Int.reduceToNat, mkE, mapSetE, hN, hF, ty_3, ty_9, ty_74, ty_86, notIf, isEq, h1, h2, q0, q1, q2, q3, q4, q5, q6, bytes_length]
  simp only [runB, finC, finD, Option.isSome_some, Option.isSome_none, ↓reduceIte, Nat.reduceEqDiff, Nat.reduceAdd, Nat.reduceMul, forall_eq_or_imp, forall_eq, implies_true, Nat.reduceBEq, reduceCtorEq, false_implies, List.zip_cons_cons, List.zip_nil_left, List.zip_nil_right, Nat.reduceLeDiff, List.forall_mem_nil, rs_99, bytes_length]

set_option maxRecDepth 100000 in
set_option maxHeartbeats 4000000 in
theorem voPut_sound (hΓ : SoundG Try.prog Γ) (h1 : Γ 99 = voTxC) (h2 : Γ 83 = textC) : SoundC Try.prog 53 voPutC := by
  refine sound_fn Try.func53 (by kernel_rfl) rfl rfl ?_
  intro args objs r0 hr
  obtain ⟨⟨w, t⟩, ⟨hl, hbl, hs⟩, rfl, rfl, rfl⟩ := mkC_inv hr
  refine ⟨rfl, by show 2 ≤ _; decide, fun E hN hns hF => ?_⟩
  refine vc_sound hΓ mixed _ _ _ ?_
  have hN := hN.trans nt_53
  have hl : w.b.length ≤ 85000 := hl
  have hbl : t.bl.length ≤ 9223372036854775807 := hbl
  have hs : t.sig.length ≤ 9223372036854775807 := hs
  have l0 := voF_len w t
  have q0 := voTx_at w t.kd t.vw t.ht t.bl t.tk t.sg t.sig hl hbl
  have q1 := text_atw (voF w t) t.sig (by omega) (by omega)
  have hT : (⟨t.kd, t.vw, t.ht, t.bl, t.tk, t.sg, t.sig⟩ : Vt) = t := rfl
  rw [hT] at q0
  unfold Vt.av
  generalize voF w t = w1 at l0 q0 q1 ⊢
  simp only [runA, runB, runC, runD, runE, runF, fieldE, storeE, binE, ↓reduceIte, Nat.reduceLT, Nat.reduceLeDiff, Nat.reduceEqDiff, Nat.reduceAdd, Nat.reduceMul, Nat.reduceSub, reduceCtorEq, putAt, unE, Nat.reduceBEq, convE, buildE, List.replicate, Int.reduceLT, Int.reduceLE, Int.reduceToNat, mkE, mapSetE, hN, hF, ty_3, ty_9, ty_74, ty_86, notIf, isEq, h1, h2, q0, q1, bytes_length]
  simp only [runB, finC, finD, Option.isSome_some, Option.isSome_none, ↓reduceIte, Nat.reduceEqDiff, Nat.reduceAdd, Nat.reduceMul, forall_eq_or_imp, forall_eq, implies_true, Nat.reduceBEq, reduceCtorEq, false_implies, List.zip_cons_cons, List.zip_nil_left, List.zip_nil_right, Nat.reduceLeDiff, List.forall_mem_nil, rs_53, bytes_length]


variable {Γ : FuncId → Contract}

def vA (r : RS) := rd (rdT r 4).2 4
def vB (r : RS) := rd (vA r).2 1048576
def vC (r : RS) := rd (vB r).2 1048576
def vD (r : RS) := rdT (vC r).2 32
def vE (r : RS) := rd (vD r).2 1048576
def vF (r : RS) := rd (vE r).2 7
def vG (r : RS) := rdT (vF r).2 4096
def gotV (r : RS) : Vt := ⟨(vA r).1, (vB r).1, (vC r).1, (vD r).1, (vE r).1, (vF r).1, (vG r).1⟩
def readV (r : RS) : Vt × RS := if (rdT r 4).1 ≠ [118, 111, 116, 101] then (zeroV, (rdT r 4).2) else if (vG r).2.e ≠ 0 ∨ ¬ okV (gotV r) then (zeroV, (vG r).2) else (gotV r, (vG r).2)
theorem readV_len (r : RS) : (readV r).2.b.length ≤ r.b.length := by
  have h0 := rdT_len r 4
  have h1 : (vA r).2.b.length ≤ _ := rd_len _ _
  have h2 : (vB r).2.b.length ≤ _ := rd_len _ _
  have h3 : (vC r).2.b.length ≤ _ := rd_len _ _
  have h4 : (vD r).2.b.length ≤ _ := rdT_len _ _
  have h5 : (vE r).2.b.length ≤ _ := rd_len _ _
  have h6 : (vF r).2.b.length ≤ _ := rd_len _ _
  have h7 : (vG r).2.b.length ≤ _ := rdT_len _ _
  unfold readV
  split
  · exact h0
  · split <;> simp only <;> omega
/-- What was put is read. -/
def voE (t : Vt) : List UInt8 := voB t ++ (putB (t.sig.length : Int) 2 ++ t.sig)
theorem read_putV {t : Vt} (h : okV t) (rest : List UInt8) : readV ⟨voE t ++ rest, 0⟩ = (t, ⟨rest, 0⟩) := by
  have hk := h
  have h0 := okV_bl h
  have h9 := okV_nums h
  obtain ⟨h1, h2, h3, h4, h5, h6, h7, h8⟩ := h
  have e : voE t ++ rest = putB ((([118, 111, 116, 101] : List UInt8).length : Nat) : Int) 2 ++ ([118, 111, 116, 101] ++ (putB t.kd 6 ++ (putB t.vw 6 ++ (putB t.ht 6 ++ (putB (t.bl.length : Int) 2 ++ (t.bl ++ (putB t.tk 6 ++ (putB t.sg 6 ++ (putB (t.sig.length : Int) 2 ++ (t.sig ++ rest)))))))))) := by
    simp [voE, voB]
  have c0 := rdT_put (s := [118, 111, 116, 101]) (most := 4) (by decide) (by decide) (putB t.kd 6 ++ (putB t.vw 6 ++ (putB t.ht 6 ++ (putB (t.bl.length : Int) 2 ++ (t.bl ++ (putB t.tk 6 ++ (putB t.sg 6 ++ (putB (t.sig.length : Int) 2 ++ (t.sig ++ rest)))))))))
  rw [← e] at c0
  generalize voE t ++ rest = bb at c0
  have c1 : vA ⟨bb, 0⟩ = (t.kd, ⟨putB t.vw 6 ++ (putB t.ht 6 ++ (putB (t.bl.length : Int) 2 ++ (t.bl ++ (putB t.tk 6 ++ (putB t.sg 6 ++ (putB (t.sig.length : Int) 2 ++ (t.sig ++ rest))))))), 0⟩) := by
    unfold vA; rw [c0]; exact rd_put (by omega) (by omega) (by omega) _
  have c2 : vB ⟨bb, 0⟩ = (t.vw, ⟨putB t.ht 6 ++ (putB (t.bl.length : Int) 2 ++ (t.bl ++ (putB t.tk 6 ++ (putB t.sg 6 ++ (putB (t.sig.length : Int) 2 ++ (t.sig ++ rest)))))), 0⟩) := by
    unfold vB; rw [c1]; exact rd_put (by omega) (by omega) (by omega) _
  have c3 : vC ⟨bb, 0⟩ = (t.ht, ⟨putB (t.bl.length : Int) 2 ++ (t.bl ++ (putB t.tk 6 ++ (putB t.sg 6 ++ (putB (t.sig.length : Int) 2 ++ (t.sig ++ rest))))), 0⟩) := by
    unfold vC; rw [c2]; exact rd_put (by omega) (by omega) (by omega) _
  have c4 : vD ⟨bb, 0⟩ = (t.bl, ⟨putB t.tk 6 ++ (putB t.sg 6 ++ (putB (t.sig.length : Int) 2 ++ (t.sig ++ rest))), 0⟩) := by
    unfold vD; rw [c3]; exact rdT_put (by omega) (by omega) _
  have c5 : vE ⟨bb, 0⟩ = (t.tk, ⟨putB t.sg 6 ++ (putB (t.sig.length : Int) 2 ++ (t.sig ++ rest)), 0⟩) := by
    unfold vE; rw [c4]; exact rd_put (by omega) (by omega) (by omega) _
  have c6 : vF ⟨bb, 0⟩ = (t.sg, ⟨putB (t.sig.length : Int) 2 ++ (t.sig ++ rest), 0⟩) := by
    unfold vF; rw [c5]; exact rd_put (by omega) (by omega) (by omega) _
  have c7 : vG ⟨bb, 0⟩ = (t.sig, ⟨rest, 0⟩) := by
    unfold vG; rw [c6]; exact rdT_put (by omega) (by omega) _
  have c8 : gotV ⟨bb, 0⟩ = t := by unfold gotV; rw [c1, c2, c3, c4, c5, c6, c7]
  unfold readV
  rw [c0, if_neg (by simp), c7, c8, if_neg (by simp [hk])]

noncomputable def voRdC : Contract := mkC (α := RS) (fun p => p.b.length ≤ 140737488355328) (fun p => [.ptr 6400000 0]) (fun p => [[.c (.sl (bytes p.b)), .c (.int .i64 p.e), .c (.bool true)]]) (fun p => ⟨[.pv (readV p).1.av], [[.c (.sl (bytes (readV p).2.b)), .c (.int .i64 (readV p).2.e), .c (.bool true)]]⟩)
theorem voRd_at (r : RS) (g0 : r.b.length ≤ 140737488355328) : voRdC [.ptr 6400000 0] [[.c (.sl (bytes r.b)), .c (.int .i64 r.e), .c (.bool true)]] = some ⟨[.pv (readV r).1.av], [[.c (.sl (bytes (readV r).2.b)), .c (.int .i64 (readV r).2.e), .c (.bool true)]]⟩ := by
  obtain ⟨rb, re⟩ := r
  exact mkC_at (α := RS) ⟨rb, re⟩ g0 (by
    rintro ⟨r'b, r'e⟩ _ h ho
    have hh := And.intro h ho
    clear h ho
    simp only [List.cons.injEq, AV.c.injEq, AV.agg.injEq, PC.int.injEq, PC.str.injEq, PC.bool.injEq, PC.sl.injEq, OV.c.injEq, OV.own.injEq, OV.mp.injEq, bytes_iff, texts_iff, true_and, and_true, and_self, beq_self_eq_true] at hh
    simp only [hh])

set_option maxRecDepth 100000 in
set_option maxHeartbeats 4000000 in
theorem voRd_sound (hΓ : SoundG Try.prog Γ) (h1 : Γ 94 = rdTextC) (h2 : Γ 95 = rdNumC) (h3 : Γ 85 = errC) (h4 : Γ 96 = voCkC) : SoundC Try.prog 55 voRdC := by
  refine sound_fn Try.func55 (by kernel_rfl) rfl rfl ?_
  intro args objs r0 hr
  obtain ⟨r, hl, rfl, rfl, rfl⟩ := mkC_inv hr
  have hl : r.b.length ≤ 140737488355328 := hl
  refine ⟨rfl, by show 1 ≤ _; decide, fun E hN hns hF => ?_⟩
  refine vc_sound hΓ mixed _ _ _ ?_
  have hN := hN.trans nt_55
  have l0 := rdT_len r 4
  have lvA : (vA r).2.b.length ≤ _ := rd_len _ _
  have lvB : (vB r).2.b.length ≤ _ := rd_len _ _
  have lvC : (vC r).2.b.length ≤ _ := rd_len _ _
  have lvD : (vD r).2.b.length ≤ _ := rdT_len _ _
  have lvE : (vE r).2.b.length ≤ _ := rd_len _ _
  have lvF : (vF r).2.b.length ≤ _ := rd_len _ _
  have lvG : (vG r).2.b.length ≤ _ := rdT_len _ _
  have q0 := text_atr r 4 hl
  by_cases c0 : (rdT r 4).1 = [118, 111, 116, 101]
  case neg =>
    have g0 : ((rdT r 4).1 == [118, 111, 116, 101]) = false := by simpa using c0
    have hS : readV r = (zeroV, (rdT r 4).2) := if_pos c0
    rw [hS]
    generalize rdT r 4 = q at q0 g0 ⊢
    simp only [runA, runB, runC, runD, runE, runF, fieldE, storeE, binE, ↓reduceIte, Nat.reduceLT, Nat.reduceLeDiff, Nat.reduceEqDiff, Nat.reduceAdd, Nat.reduceMul, Nat.reduceSub, reduceCtorEq, putAt, unE, Nat.reduceBEq, convE, buildE, List.replicate, Int.reduceLT, Int.reduceLE, Int.reduceToNat, mkE, mapSetE, hN, hF, ty_3, ty_9, ty_27, ty_74, ty_91, notIf, isEq, h1, q0, g0]
    simp only [runB, finC, finD, Option.isSome_some, Option.isSome_none, ↓reduceIte, Nat.reduceEqDiff, Nat.reduceAdd, Nat.reduceMul, forall_eq_or_imp, forall_eq, implies_true, Nat.reduceBEq, reduceCtorEq, false_implies, List.zip_cons_cons, List.zip_nil_left, List.zip_nil_right, Nat.reduceLeDiff, List.forall_mem_nil, rs_55, agg_74, sz_74, zeroV, Vt.av]
  have g0 : ((rdT r 4).1 == [118, 111, 116, 101]) = true := by rw [c0]; decide
  have q1 := num_atr (rdT r 4).2 4 (by omega)
  rw [show rd (rdT r 4).2 4 = vA r from rfl] at q1
  have q2 := num_atr (vA r).2 1048576 (by omega)
  rw [show rd (vA r).2 1048576 = vB r from rfl] at q2
  have q3 := num_atr (vB r).2 1048576 (by omega)
  rw [show rd (vB r).2 1048576 = vC r from rfl] at q3
  have q4 := text_atr (vC r).2 32 (by omega)
  rw [show rdT (vC r).2 32 = vD r from rfl] at q4
  have q5 := num_atr (vD r).2 1048576 (by omega)
  rw [show rd (vD r).2 1048576 = vE r from rfl] at q5
  have q6 := num_atr (vE r).2 7 (by omega)
  rw [show rd (vE r).2 7 = vF r from rfl] at q6
  have q7 := text_atr (vF r).2 4096 (by omega)
  rw [show rdT (vF r).2 4096 = vG r from rfl] at q7
  have q8 := err_atr (vG r).2
  have q9 := voCk_at (gotV r)
  have hR : readV r = if (vG r).2.e ≠ 0 ∨ ¬ okV (gotV r) then (zeroV, (vG r).2) else (gotV r, (vG r).2) := if_neg (by simp [c0])
  rw [hR]
  have hgot : gotV r = ⟨(vA r).1, (vB r).1, (vC r).1, (vD r).1, (vE r).1, (vF r).1, (vG r).1⟩ := rfl
  rw [hgot] at q9 ⊢
  dsimp only at q9
  generalize rdT r 4 = z0 at q0 q1 g0
  generalize vA r = z1 at q1 q2 q9 ⊢
  generalize vB r = z2 at q2 q3 q9 ⊢
  generalize vC r = z3 at q3 q4 q9 ⊢
  generalize vD r = z4 at q4 q5 q9 ⊢
  generalize vE r = z5 at q5 q6 q9 ⊢
  generalize vF r = z6 at q6 q7 q9 ⊢
  generalize vG r = z7 at q7 q8 q9 ⊢
  by_cases c1 : z7.2.e = 0
  case neg =>
    have g1 : (z7.2.e != 0) = true := by simpa using c1
    rw [if_pos (Or.inl c1)]
    simp only [runA, runB, runC, runD, runE, runF, fieldE, storeE, binE, ↓reduceIte, Nat.reduceLT, Nat.reduceLeDiff, Nat.reduceEqDiff, Nat.reduceAdd, Nat.reduceMul, Nat.reduceSub, reduceCtorEq, putAt, unE, Nat.reduceBEq, convE, buildE, List.replicate, Int.reduceLT, Int.reduceLE, Int.reduceToNat, mkE, mapSetE, hN, hF, ty_3, ty_9, ty_27, ty_74, ty_91, notIf, isEq, h1, h2, h3, q0, q1, q2, q3, q4, q5, q6, q7, q8, g0, g1]
    simp only [runB, finC, finD, Option.isSome_some, Option.isSome_none, ↓reduceIte, Nat.reduceEqDiff, Nat.reduceAdd, Nat.reduceMul, forall_eq_or_imp, forall_eq, implies_true, Nat.reduceBEq, reduceCtorEq, false_implies, List.zip_cons_cons, List.zip_nil_left, List.zip_nil_right, Nat.reduceLeDiff, List.forall_mem_nil, rs_55, agg_74, sz_74, zeroV, Vt.av]
  have g1 : (z7.2.e != 0) = false := by simpa using c1
  by_cases c2 : okV ⟨z1.1, z2.1, z3.1, z4.1, z5.1, z6.1, z7.1⟩
  · rw [show voS ⟨z1.1, z2.1, z3.1, z4.1, z5.1, z6.1, z7.1⟩ = 0 from if_pos c2] at q9
    have b0 : ((0 : Int) != 0) = false := rfl
    rw [if_neg (by rintro (h | h); exact h c1; exact h c2)]
    simp only [runA, runB, runC, runD, runE, runF, fieldE, storeE, binE, ↓reduceIte, Nat.reduceLT, Nat.reduceLeDiff, Nat.reduceEqDiff, Nat.reduceAdd, Nat.reduceMul, Nat.reduceSub, reduceCtorEq, putAt, unE, Nat.reduceBEq, convE, buildE, List.replicate, Int.reduceLT, Int.reduceLE, Int.reduceToNat, mkE, mapSetE, hN, hF, ty_3, ty_9, ty_27, ty_74, ty_91, notIf, isEq, h1, h2, h3, h4, q0, q1, q2, q3, q4, q5, q6, q7, q8, q9, g0, g1, b0]
    simp only [runB, finC, finD, Option.isSome_some, Option.isSome_none, ↓reduceIte, Nat.reduceEqDiff, Nat.reduceAdd, Nat.reduceMul, forall_eq_or_imp, forall_eq, implies_true, Nat.reduceBEq, reduceCtorEq, false_implies, List.zip_cons_cons, List.zip_nil_left, List.zip_nil_right, Nat.reduceLeDiff, List.forall_mem_nil, rs_55, agg_74, sz_74, Vt.av]
  · rw [show voS ⟨z1.1, z2.1, z3.1, z4.1, z5.1, z6.1, z7.1⟩ = 9 from if_neg c2] at q9
    have b0 : ((9 : Int) != 0) = true := rfl
    rw [if_pos (Or.inr c2)]
    simp only [runA, runB, runC, runD, runE, runF, fieldE, storeE, binE, ↓reduceIte, Nat.reduceLT, Nat.reduceLeDiff, Nat.reduceEqDiff, Nat.reduceAdd, Nat.reduceMul, Nat.reduceSub, reduceCtorEq, putAt, unE, Nat.reduceBEq, convE, buildE, List.replicate, Int.reduceLT, Int.reduceLE, Int.reduceToNat, mkE, mapSetE, hN, hF, ty_3, ty_9, ty_27, ty_74, ty_91, notIf, isEq, h1, h2, h3, h4, q0, q1, q2, q3, q4, q5, q6, q7, q8, q9, g0, g1, b0]
    simp only [runB, finC, finD, Option.isSome_some, Option.isSome_none, ↓reduceIte, Nat.reduceEqDiff, Nat.reduceAdd, Nat.reduceMul, forall_eq_or_imp, forall_eq, implies_true, Nat.reduceBEq, reduceCtorEq, false_implies, List.zip_cons_cons, List.zip_nil_left, List.zip_nil_right, Nat.reduceLeDiff, List.forall_mem_nil, rs_55, agg_74, sz_74, zeroV, Vt.av]

def Vt.signed (t : Vt) (s : List UInt8) : Vt := ⟨t.kd, t.vw, t.ht, t.bl, t.tk, t.sg, s⟩
end Go.Proofs.Ytldehcnaepgamaa.AM
