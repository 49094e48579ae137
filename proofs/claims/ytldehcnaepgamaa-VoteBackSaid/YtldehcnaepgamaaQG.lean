/-
  QG: Bk0 Vo1 Vo6 Vo2 Vo3 Vo4 Vo5.
-/
import Derived.Test.YtldehcnaepgamaaQF
import Derived.Test.YtldehcnaepgamaaQE
set_option linter.unusedVariables false
set_option linter.unusedSimpArgs false
namespace Go.Proofs.Ytldehcnaepgamaa.AM
open Go

structure Vt where
  kd : Int
  vw : Int
  ht : Int
  bl : List UInt8
  tk : Int
  sg : Int
  sig : List UInt8
  deriving DecidableEq
def Vt.pcs (t : Vt) : List PC := [.int .i64 t.kd, .int .i64 t.vw, .int .i64 t.ht, .str t.bl, .int .i64 t.tk, .int .i64 t.sg, .str t.sig]
def Vt.av (t : Vt) : AV := .agg [.c (.int .i64 t.kd), .c (.int .i64 t.vw), .c (.int .i64 t.ht), .c (.str t.bl), .c (.int .i64 t.tk), .c (.int .i64 t.sg), .c (.str t.sig)]
structure Mk where
  vw : Int
  ht : Int
  bl : List UInt8
  deriving DecidableEq
def Mk.pcs (t : Mk) : List PC := [.int .i64 t.vw, .int .i64 t.ht, .str t.bl]
def Mk.av (t : Mk) : AV := .agg [.c (.int .i64 t.vw), .c (.int .i64 t.ht), .c (.str t.bl)]
theorem Vt.av_inj {a b : Vt} (h : a.av = b.av) : a = b := by
  obtain ⟨a0, a1, a2, a3, a4, a5, a6⟩ := a
  obtain ⟨b0, b1, b2, b3, b4, b5, b6⟩ := b
  simp only [Vt.av, AV.agg.injEq, List.cons.injEq, AV.c.injEq, PC.str.injEq, PC.int.injEq, true_and, and_true] at h
  obtain ⟨rfl, rfl, rfl, rfl, rfl, rfl, rfl⟩ := h
  rfl
theorem Vt.av_iff {a b : Vt} : a.av = b.av ↔ a = b := ⟨Vt.av_inj, fun h => by rw [h]⟩
theorem Vt.pcs_inj {a b : Vt} (h : a.pcs = b.pcs) : a = b := by
  obtain ⟨a0, a1, a2, a3, a4, a5, a6⟩ := a
  obtain ⟨b0, b1, b2, b3, b4, b5, b6⟩ := b
  simp only [Vt.pcs, List.cons.injEq, PC.str.injEq, PC.int.injEq, true_and, and_true] at h
  obtain ⟨rfl, rfl, rfl, rfl, rfl, rfl, rfl⟩ := h
  rfl
theorem Mk.av_inj {a b : Mk} (h : a.av = b.av) : a = b := by
  obtain ⟨a0, a1, a2⟩ := a
  obtain ⟨b0, b1, b2⟩ := b
  simp only [Mk.av, AV.agg.injEq, List.cons.injEq, AV.c.injEq, PC.str.injEq, PC.int.injEq, true_and, and_true] at h
  obtain ⟨rfl, rfl, rfl⟩ := h
  rfl
theorem Mk.av_iff {a b : Mk} : a.av = b.av ↔ a = b := ⟨Mk.av_inj, fun h => by rw [h]⟩
theorem Mk.pcs_inj {a b : Mk} (h : a.pcs = b.pcs) : a = b := by
  obtain ⟨a0, a1, a2⟩ := a
  obtain ⟨b0, b1, b2⟩ := b
  simp only [Mk.pcs, List.cons.injEq, PC.str.injEq, PC.int.injEq, true_and, and_true] at h
  obtain ⟨rfl, rfl, rfl⟩ := h
  rfl
theorem Txn.pcs_inj {a b : Txn} (h : a.pcs = b.pcs) : a = b := by
  obtain ⟨a1, a2, a3, a4, a5⟩ := a
  obtain ⟨b1, b2, b3, b4, b5⟩ := b
  simp only [Txn.pcs, List.cons.injEq, PC.str.injEq, PC.int.injEq, true_and, and_true] at h
  obtain ⟨rfl, rfl, rfl, rfl, rfl⟩ := h
  rfl
def zeroV : Vt := ⟨0, 0, 0, [], 0, 0, []⟩
theorem map_inj' {α β : Type} {f : α → β} (hf : ∀ a b, f a = f b → a = b) : ∀ {l m : List α}, l.map f = m.map f → l = m
  | [], [], _ => rfl
  | [], _ :: _, h => by simp at h
  | _ :: _, [], h => by simp at h
  | a :: l, b :: m, h => by
    simp only [List.map_cons, List.cons.injEq] at h
    rw [hf _ _ h.1, map_inj' hf h.2]
def votes (l : List Vt) : List (List PC) := l.map Vt.pcs
theorem votes_iff {a b : List Vt} : votes a = votes b ↔ a = b := ⟨map_inj' fun _ _ => Vt.pcs_inj, fun h => by rw [h]⟩
theorem votes_length (l : List Vt) : (votes l).length = l.length := by simp [votes]
theorem votes_nil : votes [] = [] := rfl
theorem votes_app (a b : List Vt) : votes a ++ votes b = votes (a ++ b) := by simp [votes]
theorem votes_one (t : Vt) : [Vt.pcs t] = votes [t] := rfl
theorem votesD (l : List Vt) (i : Nat) (h : i < l.length) : (votes l)[i]? = some (Vt.pcs (l.getD i zeroV)) := by
  simp [votes, List.getD, h]
def trows (l : List Txn) : List (List PC) := l.map Txn.pcs
theorem trows_iff {a b : List Txn} : trows a = trows b ↔ a = b := ⟨map_inj' fun _ _ => Txn.pcs_inj, fun h => by rw [h]⟩
theorem trows_length (l : List Txn) : (trows l).length = l.length := by simp [trows]
theorem trows_nil : trows [] = [] := rfl
theorem trows_app (a b : List Txn) : trows a ++ trows b = trows (a ++ b) := by simp [trows]
theorem trows_one (t : Txn) : [Txn.pcs t] = trows [t] := rfl
theorem trowsD (l : List Txn) (i : Nat) (h : i < l.length) : (trows l)[i]? = some (Txn.pcs (l.getD i zeroT)) := by
  simp [trows, List.getD, h]
theorem rowsOK_votes (l : List Vt) : rowsOK 7 (votes l) := by
  intro r hr
  obtain ⟨t, _, rfl⟩ := List.mem_map.1 hr
  rfl
theorem rowsOK_trows (l : List Txn) : rowsOK 5 (trows l) := by
  intro r hr
  obtain ⟨t, _, rfl⟩ := List.mem_map.1 hr
  rfl
structure Ct where
  vw : Int
  ht : Int
  bl : List UInt8
  vs : List Vt
  deriving DecidableEq
def Ct.pcs (c : Ct) : List PC := [.int .i64 c.vw, .int .i64 c.ht, .str c.bl, .sl (votes c.vs)]
def Ct.av (c : Ct) : AV := .agg [.c (.int .i64 c.vw), .c (.int .i64 c.ht), .c (.str c.bl), .c (.sl (votes c.vs))]
theorem Ct.av_inj {a b : Ct} (h : a.av = b.av) : a = b := by
  obtain ⟨a1, a2, a3, a4⟩ := a
  obtain ⟨b1, b2, b3, b4⟩ := b
  simp only [Ct.av, AV.agg.injEq, List.cons.injEq, AV.c.injEq, PC.str.injEq, PC.int.injEq, PC.sl.injEq, votes_iff, true_and, and_true] at h
  obtain ⟨rfl, rfl, rfl, rfl⟩ := h
  rfl
theorem Ct.av_iff {a b : Ct} : a.av = b.av ↔ a = b := ⟨Ct.av_inj, fun h => by rw [h]⟩
structure Blk where
  vw : Int
  ht : Int
  pa : List UInt8
  ju : Ct
  txs : List Txn
  sig : List UInt8
  deriving DecidableEq
def Blk.pcs (b : Blk) : List PC := [.int .i64 b.vw, .int .i64 b.ht, .str b.pa, .int .i64 b.ju.vw, .int .i64 b.ju.ht, .str b.ju.bl, .sl (votes b.ju.vs), .sl (trows b.txs), .str b.sig]
def Blk.av (b : Blk) : AV := .agg [.c (.int .i64 b.vw), .c (.int .i64 b.ht), .c (.str b.pa), .c (.int .i64 b.ju.vw), .c (.int .i64 b.ju.ht), .c (.str b.ju.bl), .c (.sl (votes b.ju.vs)), .c (.sl (trows b.txs)), .c (.str b.sig)]
theorem Blk.av_inj {a b : Blk} (h : a.av = b.av) : a = b := by
  obtain ⟨a1, a2, a3, ⟨a4, a5, a6, a7⟩, a8, a9⟩ := a
  obtain ⟨b1, b2, b3, ⟨b4, b5, b6, b7⟩, b8, b9⟩ := b
  simp only [Blk.av, AV.agg.injEq, List.cons.injEq, AV.c.injEq, PC.str.injEq, PC.int.injEq, PC.sl.injEq, votes_iff, trows_iff, true_and, and_true] at h
  obtain ⟨rfl, rfl, rfl, rfl, rfl, rfl, rfl, rfl, rfl⟩ := h
  rfl
theorem Blk.av_iff {a b : Blk} : a.av = b.av ↔ a = b := ⟨Blk.av_inj, fun h => by rw [h]⟩
theorem Blk.pcs_inj {a b : Blk} (h : a.pcs = b.pcs) : a = b := by
  obtain ⟨a1, a2, a3, ⟨a4, a5, a6, a7⟩, a8, a9⟩ := a
  obtain ⟨b1, b2, b3, ⟨b4, b5, b6, b7⟩, b8, b9⟩ := b
  simp only [Blk.pcs, List.cons.injEq, PC.str.injEq, PC.int.injEq, PC.sl.injEq, votes_iff, trows_iff, true_and, and_true] at h
  obtain ⟨rfl, rfl, rfl, rfl, rfl, rfl, rfl, rfl, rfl⟩ := h
  rfl
def zeroBk : Blk := ⟨0, 0, [], ⟨0, 0, [], []⟩, [], []⟩

/-! the first of which something holds -/
def idxP {α : Type} (p : α → Bool) (l : List α) : Int := match l.findIdx? p with | some i => (i : Int) | none => -1
theorem idxP_some {α : Type} {p : α → Bool} {l : List α} {d : α} {i : Nat} (hi : i < l.length) (h : p (l.getD i d) = true) (hb : ∀ k, k < i → p (l.getD k d) = false) : idxP p l = (i : Int) := by
  have : l.findIdx? p = some i := by
    rw [List.findIdx?_eq_some_iff_getElem]
    refine ⟨hi, ?_, fun j hj => ?_⟩
    · rw [List.getD, List.getElem?_eq_getElem hi] at h
      simpa using h
    · have := hb j hj
      rw [List.getD, List.getElem?_eq_getElem (by omega)] at this
      simpa using this
  unfold idxP
  rw [this]
theorem idxP_none {α : Type} {p : α → Bool} {l : List α} {d : α} (h : ∀ k, k < l.length → p (l.getD k d) = false) : idxP p l = -1 := by
  have : l.findIdx? p = none := by
    rw [List.findIdx?_eq_none_iff]
    intro x hx
    obtain ⟨k, hk, rfl⟩ := List.getElem_of_mem hx
    have := h k hk
    rw [List.getD, List.getElem?_eq_getElem hk] at this
    simpa using this
  unfold idxP
  rw [this]
theorem idxP_ge {α : Type} (p : α → Bool) (l : List α) : decide (idxP p l ≥ 0) = l.any p := by
  unfold idxP
  cases h : l.findIdx? p with
  | none =>
    rw [List.findIdx?_eq_none_iff] at h
    have : l.any p = false := by
      rw [List.any_eq_false]
      intro x hx
      simpa using h x hx
    simp [this]
  | some i =>
    have hi := (List.findIdx?_eq_some_iff_getElem.1 h)
    obtain ⟨h1, h2, _⟩ := hi
    have : l.any p = true := List.any_eq_true.2 ⟨l[i], List.getElem_mem h1, h2⟩
    simp [this]

end Go.Proofs.Ytldehcnaepgamaa.AM
set_option linter.unusedVariables false
set_option linter.unusedSimpArgs false
namespace Go.Proofs.Ytldehcnaepgamaa.AM
open Go

variable {Γ : FuncId → Contract}

def aboutP (t : Vt) : Prop := if t.kd = 4 then t.ht = 0 ∧ t.bl = [] else (0 ≤ t.ht ∧ t.ht ≤ 1048576) ∧ t.bl.length = 32
def tickP (t : Vt) : Prop := if t.kd = 3 then 1 ≤ t.tk ∧ t.tk ≤ 1048576 else t.tk = 0
instance (t : Vt) : Decidable (aboutP t) := by unfold aboutP; infer_instance
instance (t : Vt) : Decidable (tickP t) := by unfold tickP; infer_instance
def okV (t : Vt) : Prop := 1 ≤ t.kd ∧ t.kd ≤ 4 ∧ 0 ≤ t.vw ∧ t.vw ≤ 1048576 ∧ aboutP t ∧ tickP t ∧ (0 ≤ t.sg ∧ t.sg ≤ 6) ∧ t.sig.length ≤ 4096
instance (t : Vt) : Decidable (okV t) := inferInstanceAs (Decidable (_ ∧ _))
def voS (t : Vt) : Int := if okV t then 0 else 9

def replC : Contract := fun args objs => match args, objs with
  | [.c (.int .i64 n)], [] => some ⟨[.pv (.c (.bool (decide (n ≥ 0) && decide (n < 7))))], []⟩
  | _, _ => none
set_option maxHeartbeats 1000000 in
theorem repl_sound : SoundC Try.prog 97 replC := by
  refine sound_fn Try.func97 (by kernel_rfl) rfl rfl ?_
  intro args objs r hr
  unfold replC at hr
  split at hr
  · rename_i n
    cases hr
    refine ⟨rfl, by show 1 ≤ _; decide, fun E hN hns hF => ?_⟩
    refine vc_sound none0_sound mixed _ _ _ ?_
    have hN := hN.trans nt_97
    cases g1 : decide (n ≥ 0) <;> cases g2 : decide (n < 7)
    all_goals
      simp only [runA, runB, runC, runD, runE, runF, fieldE, storeE, binE, ↓reduceIte, Nat.reduceLT, Nat.reduceLeDiff, Nat.reduceEqDiff, Nat.reduceAdd, Nat.reduceMul, Nat.reduceSub, reduceCtorEq, putAt, unE, Nat.reduceBEq, convE, buildE, List.replicate, Int.reduceLT, Int.reduceLE, Int.reduceToNat, mkE, mapSetE, hN, hF, ty_3, ty_4, notIf, isEq, g1, g2]
    all_goals
      simp only [runB, finC, finD, Option.isSome_some, Option.isSome_none, ↓reduceIte, Nat.reduceEqDiff, Nat.reduceAdd, Nat.reduceMul, forall_eq_or_imp, forall_eq, implies_true, Nat.reduceBEq, reduceCtorEq, false_implies, List.zip_cons_cons, List.zip_nil_left, List.zip_nil_right, Nat.reduceLeDiff, List.forall_mem_nil, rs_97, Bool.and_true, Bool.and_false, Bool.false_and, Bool.true_and]
  · cases hr
theorem repl_t {n : Int} (h : 0 ≤ n ∧ n ≤ 6) : replC [.c (.int .i64 n)] [] = some ⟨[.pv (.c (.bool true))], []⟩ := by
  have h1 : (decide (n ≥ 0) && decide (n < 7)) = true := by simp; omega
  simp only [replC, h1]
theorem repl_f {n : Int} (h : ¬ (0 ≤ n ∧ n ≤ 6)) : replC [.c (.int .i64 n)] [] = some ⟨[.pv (.c (.bool false))], []⟩ := by
  have h1 : (decide (n ≥ 0) && decide (n < 7)) = false := by simp; omega
  simp only [replC, h1]

noncomputable def abC : Contract := mkC (α := Vt) (fun _ => True) (fun t => [t.av]) (fun _ => []) (fun t => ⟨[.pv (.c (.bool (decide (aboutP t))))], []⟩)
noncomputable def tkC : Contract := mkC (α := Vt) (fun _ => True) (fun t => [t.av]) (fun _ => []) (fun t => ⟨[.pv (.c (.bool (decide (tickP t))))], []⟩)
noncomputable def voCkC : Contract := mkC (α := Vt) (fun _ => True) (fun t => [t.av]) (fun _ => []) (fun t => ⟨[.pv (.c (.int .i64 (voS t)))], []⟩)
theorem ab_at (t : Vt) : abC [.agg [.c (.int .i64 t.kd), .c (.int .i64 t.vw), .c (.int .i64 t.ht), .c (.str t.bl), .c (.int .i64 t.tk), .c (.int .i64 t.sg), .c (.str t.sig)]] [] = some ⟨[.pv (.c (.bool (decide (aboutP t))))], []⟩ :=
  mkC_at (α := Vt) t trivial (by
    rintro y _ h _
    have h' : [y.av] = [t.av] := h
    have e : y = t := Vt.av_inj (by simpa using h')
    rw [e])
theorem tk_at (t : Vt) : tkC [.agg [.c (.int .i64 t.kd), .c (.int .i64 t.vw), .c (.int .i64 t.ht), .c (.str t.bl), .c (.int .i64 t.tk), .c (.int .i64 t.sg), .c (.str t.sig)]] [] = some ⟨[.pv (.c (.bool (decide (tickP t))))], []⟩ :=
  mkC_at (α := Vt) t trivial (by
    rintro y _ h _
    have h' : [y.av] = [t.av] := h
    have e : y = t := Vt.av_inj (by simpa using h')
    rw [e])
theorem voCk_at (t : Vt) : voCkC [.agg [.c (.int .i64 t.kd), .c (.int .i64 t.vw), .c (.int .i64 t.ht), .c (.str t.bl), .c (.int .i64 t.tk), .c (.int .i64 t.sg), .c (.str t.sig)]] [] = some ⟨[.pv (.c (.int .i64 (voS t)))], []⟩ :=
  mkC_at (α := Vt) t trivial (by
    rintro y _ h _
    have h' : [y.av] = [t.av] := h
    have e : y = t := Vt.av_inj (by simpa using h')
    rw [e])

set_option maxRecDepth 100000 in
set_option maxHeartbeats 4000000 in
theorem ab_sound : SoundC Try.prog 128 abC := by
  refine sound_fn Try.func128 (by kernel_rfl) rfl rfl ?_
  intro args objs r hr
  obtain ⟨⟨kd, vw, ht, bl, tk, sg, sig⟩, _, rfl, rfl, rfl⟩ := mkC_inv hr
  refine ⟨rfl, by show 1 ≤ _; decide, fun E hN hns hF => ?_⟩
  refine vc_sound none0_sound mixed _ _ _ ?_
  have hN := hN.trans nt_128
  unfold Vt.av
  by_cases c4 : kd = 4
  · have g4 : (kd == 4) = true := by simpa using c4
    have hA : aboutP ⟨kd, vw, ht, bl, tk, sg, sig⟩ ↔ (ht = 0 ∧ bl = []) := by unfold aboutP; rw [if_pos c4]
    by_cases c5 : ht = 0
    · have g5 : (ht == 0) = true := by simpa using c5
      by_cases c6 : bl = []
      · have g6 : (bl == []) = true := by simpa using c6
        have hS : decide (aboutP ⟨kd, vw, ht, bl, tk, sg, sig⟩) = true := decide_eq_true (hA.2 ⟨c5, c6⟩)
        simp only [runA, runB, runC, runD, runE, runF, fieldE, storeE, binE, ↓reduceIte, Nat.reduceLT, Nat.reduceLeDiff, Nat.reduceEqDiff, Nat.reduceAdd, Nat.reduceMul, Nat.reduceSub, reduceCtorEq, putAt, unE, Nat.reduceBEq, convE, buildE, List.replicate, Int.reduceLT, Int.reduceLE, Int.reduceToNat, mkE, mapSetE, hN, hF, ty_3, ty_4, ty_9, ty_74, notIf, isEq, g4, g5, g6]
        simp only [runB, finC, finD, Option.isSome_some, Option.isSome_none, ↓reduceIte, Nat.reduceEqDiff, Nat.reduceAdd, Nat.reduceMul, forall_eq_or_imp, forall_eq, implies_true, Nat.reduceBEq, reduceCtorEq, false_implies, List.zip_cons_cons, List.zip_nil_left, List.zip_nil_right, Nat.reduceLeDiff, List.forall_mem_nil, rs_128, hS]
      · have g6 : (bl == []) = false := by simpa using c6
        have hS : decide (aboutP ⟨kd, vw, ht, bl, tk, sg, sig⟩) = false := decide_eq_false (fun h => c6 (hA.1 h).2)
        simp only [runA, runB, runC, runD, runE, runF, fieldE, storeE, binE, ↓reduceIte, Nat.reduceLT, Nat.reduceLeDiff, Nat.reduceEqDiff, Nat.reduceAdd, Nat.reduceMul, Nat.reduceSub, reduceCtorEq, putAt, unE, Nat.reduceBEq, convE, buildE, List.replicate, Int.reduceLT, Int.reduceLE, Int.reduceToNat, mkE, mapSetE, hN, hF, ty_3, ty_4, ty_9, ty_74, notIf, isEq, g4, g5, g6]
        simp only [runB, finC, finD, Option.isSome_some, Option.isSome_none, ↓reduceIte, Nat.reduceEqDiff, Nat.reduceAdd, Nat.reduceMul, forall_eq_or_imp, forall_eq, implies_true, Nat.reduceBEq, reduceCtorEq, false_implies, List.zip_cons_cons, List.zip_nil_left, List.zip_nil_right, Nat.reduceLeDiff, List.forall_mem_nil, rs_128, hS]
    · have g5 : (ht == 0) = false := by simpa using c5
      have hS : decide (aboutP ⟨kd, vw, ht, bl, tk, sg, sig⟩) = false := decide_eq_false (fun h => c5 (hA.1 h).1)
      simp only [runA, runB, runC, runD, runE, runF, fieldE, storeE, binE, ↓reduceIte, Nat.reduceLT, Nat.reduceLeDiff, Nat.reduceEqDiff, Nat.reduceAdd, Nat.reduceMul, Nat.reduceSub, reduceCtorEq, putAt, unE, Nat.reduceBEq, convE, buildE, List.replicate, Int.reduceLT, Int.reduceLE, Int.reduceToNat, mkE, mapSetE, hN, hF, ty_3, ty_4, ty_9, ty_74, notIf, isEq, g4, g5]
      simp only [runB, finC, finD, Option.isSome_some, Option.isSome_none, ↓reduceIte, Nat.reduceEqDiff, Nat.reduceAdd, Nat.reduceMul, forall_eq_or_imp, forall_eq, implies_true, Nat.reduceBEq, reduceCtorEq, false_implies, List.zip_cons_cons, List.zip_nil_left, List.zip_nil_right, Nat.reduceLeDiff, List.forall_mem_nil, rs_128, hS]
  · have g4 : (kd == 4) = false := by simpa using c4
    have hA : aboutP ⟨kd, vw, ht, bl, tk, sg, sig⟩ ↔ ((0 ≤ ht ∧ ht ≤ 1048576) ∧ bl.length = 32) := by unfold aboutP; rw [if_neg c4]
    by_cases c5 : 0 ≤ ht
    · have g5 : decide (ht ≥ 0) = true := by simpa using c5
      by_cases c6 : ht ≤ 1048576
      · have g6 : decide (ht ≤ 1048576) = true := by simpa using c6
        by_cases c7 : bl.length = 32
        · have g7 : ((bl.length : Int) == 32) = true := by rw [c7]; rfl
          have hS : decide (aboutP ⟨kd, vw, ht, bl, tk, sg, sig⟩) = true := decide_eq_true (hA.2 ⟨⟨c5, c6⟩, c7⟩)
          simp only [runA, runB, runC, runD, runE, runF, fieldE, storeE, binE, ↓reduceIte, Nat.reduceLT, Nat.reduceLeDiff, Nat.reduceEqDiff, Nat.reduceAdd, Nat.reduceMul, Nat.reduceSub, reduceCtorEq, putAt, unE, Nat.reduceBEq, convE, buildE, List.replicate, Int.reduceLT, Int.reduceLE, Int.reduceToNat, mkE, mapSetE, hN, hF, ty_3, ty_4, ty_9, ty_74, notIf, isEq, g4, g5, g6, g7]
          simp only [runB, finC, finD, Option.isSome_some, Option.isSome_none, ↓reduceIte, Nat.reduceEqDiff, Nat.reduceAdd, Nat.reduceMul, forall_eq_or_imp, forall_eq, implies_true, Nat.reduceBEq, reduceCtorEq, false_implies, List.zip_cons_cons, List.zip_nil_left, List.zip_nil_right, Nat.reduceLeDiff, List.forall_mem_nil, rs_128, hS]
        · have g7 : ((bl.length : Int) == 32) = false := by rw [beq_eq_false_iff_ne]; omega
          have hS : decide (aboutP ⟨kd, vw, ht, bl, tk, sg, sig⟩) = false := decide_eq_false (fun h => c7 (hA.1 h).2)
          simp only [runA, runB, runC, runD, runE, runF, fieldE, storeE, binE, ↓reduceIte, Nat.reduceLT, Nat.reduceLeDiff, Nat.reduceEqDiff, Nat.reduceAdd, Nat.reduceMul, Nat.reduceSub, reduceCtorEq, putAt, unE, Nat.reduceBEq, convE, buildE, List.replicate, Int.reduceLT, Int.reduceLE, Int.reduceToNat, mkE, mapSetE, hN, hF, ty_3, ty_4, ty_9, ty_74, notIf, isEq, g4, g5, g6, g7]
          simp only [runB, finC, finD, Option.isSome_some, Option.isSome_none, ↓reduceIte, Nat.reduceEqDiff, Nat.reduceAdd, Nat.reduceMul, forall_eq_or_imp, forall_eq, implies_true, Nat.reduceBEq, reduceCtorEq, false_implies, List.zip_cons_cons, List.zip_nil_left, List.zip_nil_right, Nat.reduceLeDiff, List.forall_mem_nil, rs_128, hS]
      · have g6 : decide (ht ≤ 1048576) = false := by simpa using c6
        have hS : decide (aboutP ⟨kd, vw, ht, bl, tk, sg, sig⟩) = false := decide_eq_false (fun h => c6 (hA.1 h).1.2)
        simp only [runA, runB, runC, runD, runE, runF, fieldE, storeE, binE, ↓reduceIte, Nat.reduceLT, Nat.reduceLeDiff, Nat.reduceEqDiff, Nat.reduceAdd, Nat.reduceMul, Nat.reduceSub, reduceCtorEq, putAt, unE, Nat.reduceBEq, convE, buildE, List.replicate, Int.reduceLT, Int.reduceLE, Int.reduceToNat, mkE, mapSetE, hN, hF, ty_3, ty_4, ty_9, ty_74, notIf, isEq, g4, g5, g6]
        simp only [runB, finC, finD, Option.isSome_some, Option.isSome_none, ↓reduceIte, Nat.reduceEqDiff, Nat.reduceAdd, Nat.reduceMul, forall_eq_or_imp, forall_eq, implies_true, Nat.reduceBEq, reduceCtorEq, false_implies, List.zip_cons_cons, List.zip_nil_left, List.zip_nil_right, Nat.reduceLeDiff, List.forall_mem_nil, rs_128, hS]
    · have g5 : decide (ht ≥ 0) = false := by simpa using c5
      have hS : decide (aboutP ⟨kd, vw, ht, bl, tk, sg, sig⟩) = false := decide_eq_false (fun h => c5 (hA.1 h).1.1)
      simp only [runA, runB, runC, runD, runE, runF, fieldE, storeE, binE, ↓reduceIte, Nat.reduceLT, Nat.reduceLeDiff, Nat.reduceEqDiff, Nat.reduceAdd, Nat.reduceMul, Nat.reduceSub, reduceCtorEq, putAt, unE, Nat.reduceBEq, convE, buildE, List.replicate, Int.reduceLT, Int.reduceLE, Int.reduceToNat, mkE, mapSetE, hN, hF, ty_3, ty_4, ty_9, ty_74, notIf, isEq, g4, g5]
      simp only [runB, finC, finD, Option.isSome_some, Option.isSome_none, ↓reduceIte, Nat.reduceEqDiff, Nat.reduceAdd, Nat.reduceMul, forall_eq_or_imp, forall_eq, implies_true, Nat.reduceBEq, reduceCtorEq, false_implies, List.zip_cons_cons, List.zip_nil_left, List.zip_nil_right, Nat.reduceLeDiff, List.forall_mem_nil, rs_128, hS]

set_option maxRecDepth 100000 in
set_option maxHeartbeats 4000000 in
theorem tk_sound : SoundC Try.prog 129 tkC := by
  refine sound_fn Try.func129 (by kernel_rfl) rfl rfl ?_
  intro args objs r hr
  obtain ⟨⟨kd, vw, ht, bl, tk, sg, sig⟩, _, rfl, rfl, rfl⟩ := mkC_inv hr
  refine ⟨rfl, by show 1 ≤ _; decide, fun E hN hns hF => ?_⟩
  refine vc_sound none0_sound mixed _ _ _ ?_
  have hN := hN.trans nt_129
  unfold Vt.av
  by_cases c4 : kd = 3
  · have g4 : (kd == 3) = true := by simpa using c4
    have hA : tickP ⟨kd, vw, ht, bl, tk, sg, sig⟩ ↔ (1 ≤ tk ∧ tk ≤ 1048576) := by unfold tickP; rw [if_pos c4]
    by_cases c5 : 1 ≤ tk
    · have g5 : decide (tk ≥ 1) = true := by simpa using c5
      by_cases c6 : tk ≤ 1048576
      · have g6 : decide (tk ≤ 1048576) = true := by simpa using c6
        have hS : decide (tickP ⟨kd, vw, ht, bl, tk, sg, sig⟩) = true := decide_eq_true (hA.2 ⟨c5, c6⟩)
        simp only [runA, runB, runC, runD, runE, runF, fieldE, storeE, binE, ↓reduceIte, Nat.reduceLT, Nat.reduceLeDiff, Nat.reduceEqDiff, Nat.reduceAdd, Nat.reduceMul, Nat.reduceSub, reduceCtorEq, putAt, unE, Nat.reduceBEq, convE, buildE, List.replicate, Int.reduceLT, Int.reduceLE, Int.reduceToNat, mkE, mapSetE, hN, hF, ty_3, ty_4, ty_9, ty_74, notIf, isEq, g4, g5, g6]
        simp only [runB, finC, finD, Option.isSome_some, Option.isSome_none, ↓reduceIte, Nat.reduceEqDiff, Nat.reduceAdd, Nat.reduceMul, forall_eq_or_imp, forall_eq, implies_true, Nat.reduceBEq, reduceCtorEq, false_implies, List.zip_cons_cons, List.zip_nil_left, List.zip_nil_right, Nat.reduceLeDiff, List.forall_mem_nil, rs_129, hS]
      · have g6 : decide (tk ≤ 1048576) = false := by simpa using c6
        have hS : decide (tickP ⟨kd, vw, ht, bl, tk, sg, sig⟩) = false := decide_eq_false (fun h => c6 (hA.1 h).2)
        simp only [runA, runB, runC, runD, runE, runF, fieldE, storeE, binE, ↓reduceIte, Nat.reduceLT, Nat.reduceLeDiff, Nat.reduceEqDiff, Nat.reduceAdd, Nat.reduceMul, Nat.reduceSub, reduceCtorEq, putAt, unE, Nat.reduceBEq, convE, buildE, List.replicate, Int.reduceLT, Int.reduceLE, Int.reduceToNat, mkE, mapSetE, hN, hF, ty_3, ty_4, ty_9, ty_74, notIf, isEq, g4, g5, g6]
        simp only [runB, finC, finD, Option.isSome_some, Option.isSome_none, ↓reduceIte, Nat.reduceEqDiff, Nat.reduceAdd, Nat.reduceMul, forall_eq_or_imp, forall_eq, implies_true, Nat.reduceBEq, reduceCtorEq, false_implies, List.zip_cons_cons, List.zip_nil_left, List.zip_nil_right, Nat.reduceLeDiff, List.forall_mem_nil, rs_129, hS]
    · have g5 : decide (tk ≥ 1) = false := by simpa using c5
      have hS : decide (tickP ⟨kd, vw, ht, bl, tk, sg, sig⟩) = false := decide_eq_false (fun h => c5 (hA.1 h).1)
      simp only [runA, runB, runC, runD, runE, runF, fieldE, storeE, binE, ↓reduceIte, Nat.reduceLT, Nat.reduceLeDiff, Nat.reduceEqDiff, Nat.reduceAdd, Nat.reduceMul, Nat.reduceSub, reduceCtorEq, putAt, unE, Nat.reduceBEq, convE, buildE, List.replicate, Int.reduceLT, Int.reduceLE, Int.reduceToNat, mkE, mapSetE, hN, hF, ty_3, ty_4, ty_9, ty_74, notIf, isEq, g4, g5]
      simp only [runB, finC, finD, Option.isSome_some, Option.isSome_none, ↓reduceIte, Nat.reduceEqDiff, Nat.reduceAdd, Nat.reduceMul, forall_eq_or_imp, forall_eq, implies_true, Nat.reduceBEq, reduceCtorEq, false_implies, List.zip_cons_cons, List.zip_nil_left, List.zip_nil_right, Nat.reduceLeDiff, List.forall_mem_nil, rs_129, hS]
  · have g4 : (kd == 3) = false := by simpa using c4
    have hA : tickP ⟨kd, vw, ht, bl, tk, sg, sig⟩ ↔ tk = 0 := by unfold tickP; rw [if_neg c4]
    have hS : decide (tickP ⟨kd, vw, ht, bl, tk, sg, sig⟩) = (tk == 0) := by
      by_cases c5 : tk = 0
      · rw [decide_eq_true (hA.2 c5)]; simp [c5]
      · rw [decide_eq_false (fun h => c5 (hA.1 h))]; simp [c5]
    simp only [runA, runB, runC, runD, runE, runF, fieldE, storeE, binE, ↓reduceIte, Nat.reduceLT, Nat.reduceLeDiff, Nat.reduceEqDiff, Nat.reduceAdd, Nat.reduceMul, Nat.reduceSub, reduceCtorEq, putAt, unE, Nat.reduceBEq, convE, buildE, List.replicate, Int.reduceLT, Int.reduceLE, Int.reduceToNat, mkE, mapSetE, hN, hF, ty_3, ty_4, ty_9, ty_74, notIf, isEq, g4]
    simp only [runB, finC, finD, Option.isSome_some, Option.isSome_none, ↓reduceIte, Nat.reduceEqDiff, Nat.reduceAdd, Nat.reduceMul, forall_eq_or_imp, forall_eq, implies_true, Nat.reduceBEq, reduceCtorEq, false_implies, List.zip_cons_cons, List.zip_nil_left, List.zip_nil_right, Nat.reduceLeDiff, List.forall_mem_nil, rs_129, hS]
theorem replA_at (n : Int) : replC [.c (.int .i64 n)] [] = some ⟨[.pv (.c (.bool (decide (n ≥ 0) && decide (n < 7))))], []⟩ := rfl

set_option maxRecDepth 100000 in
set_option maxHeartbeats 4000000 in
theorem voCk_sound (hΓ : SoundG Try.prog Γ) (h1 : Γ 128 = abC) (h2 : Γ 129 = tkC) (h3 : Γ 97 = replC) : SoundC Try.prog 96 voCkC := by
  refine sound_fn Try.func96 (by kernel_rfl) rfl rfl ?_
  intro args objs r hr
  obtain ⟨⟨kd, vw, ht, bl, tk, sg, sig⟩, _, rfl, rfl, rfl⟩ := mkC_inv hr
  refine ⟨rfl, by show 1 ≤ _; decide, fun E hN hns hF => ?_⟩
  refine vc_sound hΓ mixed _ _ _ ?_
  have hN := hN.trans nt_96
  unfold Vt.av
  have q1 := ab_at ⟨kd, vw, ht, bl, tk, sg, sig⟩
  have q2 := tk_at ⟨kd, vw, ht, bl, tk, sg, sig⟩
  dsimp only at q1 q2
  simp +contextual (maxSteps := 10000000) only [runA, runB, runC, runD, runE, runF, fieldE, storeE, binE, ↓reduceIte, Nat.reduceLT, Nat.reduceLeDiff, Nat.reduceEqDiff, Nat.reduceAdd, Nat.reduceMul, Nat.reduceSub, reduceCtorEq, putAt, unE, Nat.reduceBEq, convE, buildE, List.replicate, Int.reduceLT, Int.reduceLE, Int.reduceToNat, mkE, mapSetE, hN, hF, ty_3, ty_4, ty_9, ty_27, ty_74, notIf, isEq, bytes_length, false_implies, implies_true, h1, h2, h3, q1, q2, replA_at]
  refine ⟨fun b1 => ?_, fun b1 => ?_⟩
  · have hS : voS ⟨kd, vw, ht, bl, tk, sg, sig⟩ = 9 := if_neg (fun ⟨a1, a2, a3, a4, a5, a6, ⟨a7, a7'⟩, a8⟩ => by
      simp only at a1 a2 a3 a4 a7 a7' a8
      rw [decide_eq_true a5, decide_eq_true a6] at b1
      revert b1; simp; omega)
    simp only [runB, finC, finD, Option.isSome_some, Option.isSome_none, ↓reduceIte, Nat.reduceEqDiff, Nat.reduceAdd, Nat.reduceMul, forall_eq_or_imp, forall_eq, implies_true, Nat.reduceBEq, reduceCtorEq, false_implies, List.zip_cons_cons, List.zip_nil_left, List.zip_nil_right, Nat.reduceLeDiff, List.forall_mem_nil, rs_96, ty_3, ty_4, ty_9, ty_27, ty_74, hS]
  · have hS : voS ⟨kd, vw, ht, bl, tk, sg, sig⟩ = 0 := if_pos (by
      simp only [Bool.or_eq_false_iff, decide_eq_false_iff_not, Bool.not_eq_false', Bool.and_eq_true, decide_eq_true_eq] at b1
      obtain ⟨⟨⟨⟨⟨⟨⟨x1, x2⟩, x3⟩, x4⟩, x5⟩, x6⟩, x7⟩, x8⟩ := b1
      exact ⟨by simp only; omega, by simp only; omega, by simp only; omega, by simp only; omega, x5, x6, ⟨by simp only; omega, by simp only; omega⟩, by simp only; omega⟩)
    simp only [runB, finC, finD, Option.isSome_some, Option.isSome_none, ↓reduceIte, Nat.reduceEqDiff, Nat.reduceAdd, Nat.reduceMul, forall_eq_or_imp, forall_eq, implies_true, Nat.reduceBEq, reduceCtorEq, false_implies, List.zip_cons_cons, List.zip_nil_left, List.zip_nil_right, Nat.reduceLeDiff, List.forall_mem_nil, rs_96, ty_3, ty_4, ty_9, ty_27, ty_74, hS]

end Go.Proofs.Ytldehcnaepgamaa.AM
set_option linter.unusedVariables false
set_option linter.unusedSimpArgs false
namespace Go.Proofs.Ytldehcnaepgamaa.AM
open Go

variable {Γ : FuncId → Contract}

theorem okV_ref (kd vw ht : Int) (bl : List UInt8) (tk sg : Int) (sig : List UInt8) : okV ⟨kd, vw, ht, bl, tk, sg, sig⟩ ↔ ((1 ≤ kd ∧ kd ≤ 4) ∧ (0 ≤ vw ∧ vw ≤ 1048576) ∧ (0 ≤ ht ∧ ht ≤ 1048576) ∧ (0 ≤ sg ∧ sg ≤ 6) ∧ sig.length ≤ 4096) ∧ ((kd = 4 → ht = 0 ∧ bl = []) ∧ (kd ≠ 4 → bl.length = 32)) ∧ ((kd = 3 → 1 ≤ tk ∧ tk ≤ 1048576) ∧ (kd ≠ 3 → tk = 0)) := by
  unfold okV aboutP tickP
  dsimp only
  constructor
  · rintro ⟨a1, a2, a3, a4, a5, a6, a7, a8⟩
    by_cases c4 : kd = 4
    · rw [if_pos c4] at a5
      rw [if_neg (by omega)] at a6
      exact ⟨⟨⟨a1, a2⟩, ⟨a3, a4⟩, by omega, a7, a8⟩, ⟨fun _ => a5, fun h => absurd c4 h⟩, ⟨fun h => by omega, fun _ => a6⟩⟩
    · rw [if_neg c4] at a5
      refine ⟨⟨⟨a1, a2⟩, ⟨a3, a4⟩, a5.1, a7, a8⟩, ⟨fun h => absurd h c4, fun _ => a5.2⟩, ⟨fun h => ?_, fun h => ?_⟩⟩
      · rw [if_pos h] at a6; exact a6
      · rw [if_neg h] at a6; exact a6
  · rintro ⟨⟨⟨a1, a2⟩, ⟨a3, a4⟩, h9, a7, a8⟩, ⟨b1, b2⟩, ⟨b3, b4⟩⟩
    refine ⟨a1, a2, a3, a4, ?_, ?_, a7, a8⟩
    · by_cases c4 : kd = 4
      · rw [if_pos c4]; exact b1 c4
      · rw [if_neg c4]; exact ⟨h9, b2 c4⟩
    · by_cases c3 : kd = 3
      · rw [if_pos c3]; exact b3 c3
      · rw [if_neg c3]; exact b4 c3

set_option maxRecDepth 100000 in
set_option maxHeartbeats 40000000 in
theorem refVoCk_sound : SoundC Try.prog 52 voCkC := by
  refine sound_fn Try.func52 (by kernel_rfl) rfl rfl ?_
  intro args objs r hr
  obtain ⟨⟨kd, vw, ht, bl, tk, sg, sig⟩, _, rfl, rfl, rfl⟩ := mkC_inv hr
  refine ⟨rfl, by show 1 ≤ _; decide, fun E hN hns hF => ?_⟩
  refine vc_sound none0_sound mixed _ _ _ ?_
  have hN := hN.trans nt_52
  unfold Vt.av
  by_cases hca : 1 ≤ kd
  case neg =>
    have ga : decide (kd < 1) = true := by simp; omega
    have hS : voS ⟨kd, vw, ht, bl, tk, sg, sig⟩ = 9 := if_neg (by rintro ⟨a1, a2, a3, a4, a5, a6, a7, a8⟩; exact hca a1)
    simp (maxSteps := 10000000) only [runA, runB, runC, runD, runE, runF, fieldE, storeE, binE, ↓reduceIte, Nat.reduceLT, Nat.reduceLeDiff, Nat.reduceEqDiff, Nat.reduceAdd, Nat.reduceMul, Nat.reduceSub, reduceCtorEq, putAt, unE, Nat.reduceBEq, convE, buildE, List.replicate, Int.reduceLT, Int.reduceLE, Int.reduceToNat, mkE, mapSetE, hN, hF, ty_3, ty_9, ty_74, notIf, isEq, ga]
    simp only [runB, finC, finD, Option.isSome_some, Option.isSome_none, ↓reduceIte, Nat.reduceEqDiff, Nat.reduceAdd, Nat.reduceMul, forall_eq_or_imp, forall_eq, implies_true, Nat.reduceBEq, reduceCtorEq, false_implies, List.zip_cons_cons, List.zip_nil_left, List.zip_nil_right, Nat.reduceLeDiff, List.forall_mem_nil, rs_52, hS]
  have ga : decide (kd < 1) = false := by simp; omega
  by_cases hcb : kd ≤ 4
  case neg =>
    have gb : decide (kd > 4) = true := by simp; omega
    have hS : voS ⟨kd, vw, ht, bl, tk, sg, sig⟩ = 9 := if_neg (by rintro ⟨a1, a2, a3, a4, a5, a6, a7, a8⟩; exact hcb a2)
    simp (maxSteps := 10000000) only [runA, runB, runC, runD, runE, runF, fieldE, storeE, binE, ↓reduceIte, Nat.reduceLT, Nat.reduceLeDiff, Nat.reduceEqDiff, Nat.reduceAdd, Nat.reduceMul, Nat.reduceSub, reduceCtorEq, putAt, unE, Nat.reduceBEq, convE, buildE, List.replicate, Int.reduceLT, Int.reduceLE, Int.reduceToNat, mkE, mapSetE, hN, hF, ty_3, ty_9, ty_74, notIf, isEq, ga, gb]
    simp only [runB, finC, finD, Option.isSome_some, Option.isSome_none, ↓reduceIte, Nat.reduceEqDiff, Nat.reduceAdd, Nat.reduceMul, forall_eq_or_imp, forall_eq, implies_true, Nat.reduceBEq, reduceCtorEq, false_implies, List.zip_cons_cons, List.zip_nil_left, List.zip_nil_right, Nat.reduceLeDiff, List.forall_mem_nil, rs_52, hS]
  have gb : decide (kd > 4) = false := by simp; omega
  by_cases hcc : 0 ≤ vw
  case neg =>
    have gc : decide (vw < 0) = true := by simp; omega
    have hS : voS ⟨kd, vw, ht, bl, tk, sg, sig⟩ = 9 := if_neg (by rintro ⟨a1, a2, a3, a4, a5, a6, a7, a8⟩; exact hcc a3)
    simp (maxSteps := 10000000) only [runA, runB, runC, runD, runE, runF, fieldE, storeE, binE, ↓reduceIte, Nat.reduceLT, Nat.reduceLeDiff, Nat.reduceEqDiff, Nat.reduceAdd, Nat.reduceMul, Nat.reduceSub, reduceCtorEq, putAt, unE, Nat.reduceBEq, convE, buildE, List.replicate, Int.reduceLT, Int.reduceLE, Int.reduceToNat, mkE, mapSetE, hN, hF, ty_3, ty_9, ty_74, notIf, isEq, ga, gb, gc]
    simp only [runB, finC, finD, Option.isSome_some, Option.isSome_none, ↓reduceIte, Nat.reduceEqDiff, Nat.reduceAdd, Nat.reduceMul, forall_eq_or_imp, forall_eq, implies_true, Nat.reduceBEq, reduceCtorEq, false_implies, List.zip_cons_cons, List.zip_nil_left, List.zip_nil_right, Nat.reduceLeDiff, List.forall_mem_nil, rs_52, hS]
  have gc : decide (vw < 0) = false := by simp; omega
  by_cases hcd : vw ≤ 1048576
  case neg =>
    have gd : decide (vw > 1048576) = true := by simp; omega
    have hS : voS ⟨kd, vw, ht, bl, tk, sg, sig⟩ = 9 := if_neg (by rintro ⟨a1, a2, a3, a4, a5, a6, a7, a8⟩; exact hcd a4)
    simp (maxSteps := 10000000) only [runA, runB, runC, runD, runE, runF, fieldE, storeE, binE, ↓reduceIte, Nat.reduceLT, Nat.reduceLeDiff, Nat.reduceEqDiff, Nat.reduceAdd, Nat.reduceMul, Nat.reduceSub, reduceCtorEq, putAt, unE, Nat.reduceBEq, convE, buildE, List.replicate, Int.reduceLT, Int.reduceLE, Int.reduceToNat, mkE, mapSetE, hN, hF, ty_3, ty_9, ty_74, notIf, isEq, ga, gb, gc, gd]
    simp only [runB, finC, finD, Option.isSome_some, Option.isSome_none, ↓reduceIte, Nat.reduceEqDiff, Nat.reduceAdd, Nat.reduceMul, forall_eq_or_imp, forall_eq, implies_true, Nat.reduceBEq, reduceCtorEq, false_implies, List.zip_cons_cons, List.zip_nil_left, List.zip_nil_right, Nat.reduceLeDiff, List.forall_mem_nil, rs_52, hS]
  have gd : decide (vw > 1048576) = false := by simp; omega
  by_cases hci : 0 ≤ ht
  case neg =>
    have gi : decide (ht < 0) = true := by simp; omega
    have hS : voS ⟨kd, vw, ht, bl, tk, sg, sig⟩ = 9 := if_neg (by rintro ⟨a1, a2, a3, a4, a5, a6, a7, a8⟩; unfold aboutP at a5; dsimp only at a5; split at a5 <;> omega)
    simp (maxSteps := 10000000) only [runA, runB, runC, runD, runE, runF, fieldE, storeE, binE, ↓reduceIte, Nat.reduceLT, Nat.reduceLeDiff, Nat.reduceEqDiff, Nat.reduceAdd, Nat.reduceMul, Nat.reduceSub, reduceCtorEq, putAt, unE, Nat.reduceBEq, convE, buildE, List.replicate, Int.reduceLT, Int.reduceLE, Int.reduceToNat, mkE, mapSetE, hN, hF, ty_3, ty_9, ty_74, notIf, isEq, ga, gb, gc, gd, gi]
    simp only [runB, finC, finD, Option.isSome_some, Option.isSome_none, ↓reduceIte, Nat.reduceEqDiff, Nat.reduceAdd, Nat.reduceMul, forall_eq_or_imp, forall_eq, implies_true, Nat.reduceBEq, reduceCtorEq, false_implies, List.zip_cons_cons, List.zip_nil_left, List.zip_nil_right, Nat.reduceLeDiff, List.forall_mem_nil, rs_52, hS]
  have gi : decide (ht < 0) = false := by simp; omega
  by_cases hcj : ht ≤ 1048576
  case neg =>
    have gj : decide (ht > 1048576) = true := by simp; omega
    have hS : voS ⟨kd, vw, ht, bl, tk, sg, sig⟩ = 9 := if_neg (by rintro ⟨a1, a2, a3, a4, a5, a6, a7, a8⟩; unfold aboutP at a5; dsimp only at a5; split at a5 <;> omega)
    simp (maxSteps := 10000000) only [runA, runB, runC, runD, runE, runF, fieldE, storeE, binE, ↓reduceIte, Nat.reduceLT, Nat.reduceLeDiff, Nat.reduceEqDiff, Nat.reduceAdd, Nat.reduceMul, Nat.reduceSub, reduceCtorEq, putAt, unE, Nat.reduceBEq, convE, buildE, List.replicate, Int.reduceLT, Int.reduceLE, Int.reduceToNat, mkE, mapSetE, hN, hF, ty_3, ty_9, ty_74, notIf, isEq, ga, gb, gc, gd, gi, gj]
    simp only [runB, finC, finD, Option.isSome_some, Option.isSome_none, ↓reduceIte, Nat.reduceEqDiff, Nat.reduceAdd, Nat.reduceMul, forall_eq_or_imp, forall_eq, implies_true, Nat.reduceBEq, reduceCtorEq, false_implies, List.zip_cons_cons, List.zip_nil_left, List.zip_nil_right, Nat.reduceLeDiff, List.forall_mem_nil, rs_52, hS]
  have gj : decide (ht > 1048576) = false := by simp; omega
  by_cases hck : 0 ≤ sg
  case neg =>
    have gk : decide (sg < 0) = true := by simp; omega
    have hS : voS ⟨kd, vw, ht, bl, tk, sg, sig⟩ = 9 := if_neg (by rintro ⟨a1, a2, a3, a4, a5, a6, a7, a8⟩; exact hck a7.1)
    simp (maxSteps := 10000000) only [runA, runB, runC, runD, runE, runF, fieldE, storeE, binE, ↓reduceIte, Nat.reduceLT, Nat.reduceLeDiff, Nat.reduceEqDiff, Nat.reduceAdd, Nat.reduceMul, Nat.reduceSub, reduceCtorEq, putAt, unE, Nat.reduceBEq, convE, buildE, List.replicate, Int.reduceLT, Int.reduceLE, Int.reduceToNat, mkE, mapSetE, hN, hF, ty_3, ty_9, ty_74, notIf, isEq, ga, gb, gc, gd, gi, gj, gk]
    simp only [runB, finC, finD, Option.isSome_some, Option.isSome_none, ↓reduceIte, Nat.reduceEqDiff, Nat.reduceAdd, Nat.reduceMul, forall_eq_or_imp, forall_eq, implies_true, Nat.reduceBEq, reduceCtorEq, false_implies, List.zip_cons_cons, List.zip_nil_left, List.zip_nil_right, Nat.reduceLeDiff, List.forall_mem_nil, rs_52, hS]
  have gk : decide (sg < 0) = false := by simp; omega
  by_cases hcl : sg ≤ 6
  case neg =>
    have gl : decide (sg > 6) = true := by simp; omega
    have hS : voS ⟨kd, vw, ht, bl, tk, sg, sig⟩ = 9 := if_neg (by rintro ⟨a1, a2, a3, a4, a5, a6, a7, a8⟩; exact hcl a7.2)
    simp (maxSteps := 10000000) only [runA, runB, runC, runD, runE, runF, fieldE, storeE, binE, ↓reduceIte, Nat.reduceLT, Nat.reduceLeDiff, Nat.reduceEqDiff, Nat.reduceAdd, Nat.reduceMul, Nat.reduceSub, reduceCtorEq, putAt, unE, Nat.reduceBEq, convE, buildE, List.replicate, Int.reduceLT, Int.reduceLE, Int.reduceToNat, mkE, mapSetE, hN, hF, ty_3, ty_9, ty_74, notIf, isEq, ga, gb, gc, gd, gi, gj, gk, gl]
    simp only [runB, finC, finD, Option.isSome_some, Option.isSome_none, ↓reduceIte, Nat.reduceEqDiff, Nat.reduceAdd, Nat.reduceMul, forall_eq_or_imp, forall_eq, implies_true, Nat.reduceBEq, reduceCtorEq, false_implies, List.zip_cons_cons, List.zip_nil_left, List.zip_nil_right, Nat.reduceLeDiff, List.forall_mem_nil, rs_52, hS]
  have gl : decide (sg > 6) = false := by simp; omega
  by_cases hch : sig.length ≤ 4096
  case neg =>
    have gh : decide ((sig.length : Int) > 4096) = true := by simp; omega
    have hS : voS ⟨kd, vw, ht, bl, tk, sg, sig⟩ = 9 := if_neg (by rintro ⟨a1, a2, a3, a4, a5, a6, a7, a8⟩; exact hch a8)
    simp (maxSteps := 10000000) only [runA, runB, runC, runD, runE, runF, fieldE, storeE, binE, ↓reduceIte, Nat.reduceLT, Nat.reduceLeDiff, Nat.reduceEqDiff, Nat.reduceAdd, Nat.reduceMul, Nat.reduceSub, reduceCtorEq, putAt, unE, Nat.reduceBEq, convE, buildE, List.replicate, Int.reduceLT, Int.reduceLE, Int.reduceToNat, mkE, mapSetE, hN, hF, ty_3, ty_9, ty_74, notIf, isEq, ga, gb, gc, gd, gi, gj, gk, gl, gh]
    simp only [runB, finC, finD, Option.isSome_some, Option.isSome_none, ↓reduceIte, Nat.reduceEqDiff, Nat.reduceAdd, Nat.reduceMul, forall_eq_or_imp, forall_eq, implies_true, Nat.reduceBEq, reduceCtorEq, false_implies, List.zip_cons_cons, List.zip_nil_left, List.zip_nil_right, Nat.reduceLeDiff, List.forall_mem_nil, rs_52, hS]
  have gh : decide ((sig.length : Int) > 4096) = false := by simp; omega
  by_cases c4 : kd = 4
  · have g4 : (kd == 4) = true := by simpa using c4
    have g4' : (kd != 4) = false := by simp [c4]
    have g3 : (kd == 3) = false := by simp; omega
    have g3' : (kd != 3) = true := by simp; omega
    have hA : aboutP ⟨kd, vw, ht, bl, tk, sg, sig⟩ ↔ (ht = 0 ∧ bl = []) := by unfold aboutP; rw [if_pos c4]
    have hT : tickP ⟨kd, vw, ht, bl, tk, sg, sig⟩ ↔ tk = 0 := by unfold tickP; rw [if_neg (by show ¬ kd = 3; omega)]
    by_cases c5 : ht = 0
    case neg =>
      have g5 : (ht != 0) = true := by simpa using c5
      have hS : voS ⟨kd, vw, ht, bl, tk, sg, sig⟩ = 9 := if_neg (by rintro ⟨a1, a2, a3, a4, a5, a6, a7, a8⟩; exact c5 (hA.1 a5).1)
      simp (maxSteps := 10000000) only [runA, runB, runC, runD, runE, runF, fieldE, storeE, binE, ↓reduceIte, Nat.reduceLT, Nat.reduceLeDiff, Nat.reduceEqDiff, Nat.reduceAdd, Nat.reduceMul, Nat.reduceSub, reduceCtorEq, putAt, unE, Nat.reduceBEq, convE, buildE, List.replicate, Int.reduceLT, Int.reduceLE, Int.reduceToNat, mkE, mapSetE, hN, hF, ty_3, ty_9, ty_74, notIf, isEq, ga, gb, gc, gd, gi, gj, gk, gl, gh, g4, g4', g3, g3', g5]
      simp only [runB, finC, finD, Option.isSome_some, Option.isSome_none, ↓reduceIte, Nat.reduceEqDiff, Nat.reduceAdd, Nat.reduceMul, forall_eq_or_imp, forall_eq, implies_true, Nat.reduceBEq, reduceCtorEq, false_implies, List.zip_cons_cons, List.zip_nil_left, List.zip_nil_right, Nat.reduceLeDiff, List.forall_mem_nil, rs_52, hS]
    have g5 : (ht != 0) = false := by simpa using c5
    by_cases c6 : bl = []
    case neg =>
      have g6 : (bl == []) = false := by simpa using c6
      have hS : voS ⟨kd, vw, ht, bl, tk, sg, sig⟩ = 9 := if_neg (by rintro ⟨a1, a2, a3, a4, a5, a6, a7, a8⟩; exact c6 (hA.1 a5).2)
      simp (maxSteps := 10000000) only [runA, runB, runC, runD, runE, runF, fieldE, storeE, binE, ↓reduceIte, Nat.reduceLT, Nat.reduceLeDiff, Nat.reduceEqDiff, Nat.reduceAdd, Nat.reduceMul, Nat.reduceSub, reduceCtorEq, putAt, unE, Nat.reduceBEq, convE, buildE, List.replicate, Int.reduceLT, Int.reduceLE, Int.reduceToNat, mkE, mapSetE, hN, hF, ty_3, ty_9, ty_74, notIf, isEq, ga, gb, gc, gd, gi, gj, gk, gl, gh, g4, g4', g3, g3', g5, g6]
      simp only [runB, finC, finD, Option.isSome_some, Option.isSome_none, ↓reduceIte, Nat.reduceEqDiff, Nat.reduceAdd, Nat.reduceMul, forall_eq_or_imp, forall_eq, implies_true, Nat.reduceBEq, reduceCtorEq, false_implies, List.zip_cons_cons, List.zip_nil_left, List.zip_nil_right, Nat.reduceLeDiff, List.forall_mem_nil, rs_52, hS]
    have g6 : (bl == []) = true := by simpa using c6
    by_cases c7 : tk = 0
    case neg =>
      have g7 : (tk != 0) = true := by simpa using c7
      have hS : voS ⟨kd, vw, ht, bl, tk, sg, sig⟩ = 9 := if_neg (by rintro ⟨a1, a2, a3, a4, a5, a6, a7, a8⟩; exact c7 (hT.1 a6))
      simp (maxSteps := 10000000) only [runA, runB, runC, runD, runE, runF, fieldE, storeE, binE, ↓reduceIte, Nat.reduceLT, Nat.reduceLeDiff, Nat.reduceEqDiff, Nat.reduceAdd, Nat.reduceMul, Nat.reduceSub, reduceCtorEq, putAt, unE, Nat.reduceBEq, convE, buildE, List.replicate, Int.reduceLT, Int.reduceLE, Int.reduceToNat, mkE, mapSetE, hN, hF, ty_3, ty_9, ty_74, notIf, isEq, ga, gb, gc, gd, gi, gj, gk, gl, gh, g4, g4', g3, g3', g5, g6, g7]
      simp only [runB, finC, finD, Option.isSome_some, Option.isSome_none, ↓reduceIte, Nat.reduceEqDiff, Nat.reduceAdd, Nat.reduceMul, forall_eq_or_imp, forall_eq, implies_true, Nat.reduceBEq, reduceCtorEq, false_implies, List.zip_cons_cons, List.zip_nil_left, List.zip_nil_right, Nat.reduceLeDiff, List.forall_mem_nil, rs_52, hS]
    have g7 : (tk != 0) = false := by simpa using c7
    have hS : voS ⟨kd, vw, ht, bl, tk, sg, sig⟩ = 0 := if_pos ⟨hca, hcb, hcc, hcd, hA.2 ⟨c5, c6⟩, hT.2 c7, ⟨hck, hcl⟩, hch⟩
    simp (maxSteps := 10000000) only [runA, runB, runC, runD, runE, runF, fieldE, storeE, binE, ↓reduceIte, Nat.reduceLT, Nat.reduceLeDiff, Nat.reduceEqDiff, Nat.reduceAdd, Nat.reduceMul, Nat.reduceSub, reduceCtorEq, putAt, unE, Nat.reduceBEq, convE, buildE, List.replicate, Int.reduceLT, Int.reduceLE, Int.reduceToNat, mkE, mapSetE, hN, hF, ty_3, ty_9, ty_74, notIf, isEq, ga, gb, gc, gd, gi, gj, gk, gl, gh, g4, g4', g3, g3', g5, g6, g7]
    simp only [runB, finC, finD, Option.isSome_some, Option.isSome_none, ↓reduceIte, Nat.reduceEqDiff, Nat.reduceAdd, Nat.reduceMul, forall_eq_or_imp, forall_eq, implies_true, Nat.reduceBEq, reduceCtorEq, false_implies, List.zip_cons_cons, List.zip_nil_left, List.zip_nil_right, Nat.reduceLeDiff, List.forall_mem_nil, rs_52, hS]
  have g4 : (kd == 4) = false := by simpa using c4
  have g4' : (kd != 4) = true := by simpa using c4
  have hA : aboutP ⟨kd, vw, ht, bl, tk, sg, sig⟩ ↔ ((0 ≤ ht ∧ ht ≤ 1048576) ∧ bl.length = 32) := by unfold aboutP; rw [if_neg c4]
  by_cases c6 : bl.length = 32
  case neg =>
    have g6 : ((bl.length : Int) != 32) = true := by rw [bne_iff_ne]; omega
    have hS : voS ⟨kd, vw, ht, bl, tk, sg, sig⟩ = 9 := if_neg (by rintro ⟨a1, a2, a3, a4, a5, a6, a7, a8⟩; exact c6 (hA.1 a5).2)
    simp (maxSteps := 10000000) only [runA, runB, runC, runD, runE, runF, fieldE, storeE, binE, ↓reduceIte, Nat.reduceLT, Nat.reduceLeDiff, Nat.reduceEqDiff, Nat.reduceAdd, Nat.reduceMul, Nat.reduceSub, reduceCtorEq, putAt, unE, Nat.reduceBEq, convE, buildE, List.replicate, Int.reduceLT, Int.reduceLE, Int.reduceToNat, mkE, mapSetE, hN, hF, ty_3, ty_9, ty_74, notIf, isEq, ga, gb, gc, gd, gi, gj, gk, gl, gh, g4, g4', g6]
    simp only [runB, finC, finD, Option.isSome_some, Option.isSome_none, ↓reduceIte, Nat.reduceEqDiff, Nat.reduceAdd, Nat.reduceMul, forall_eq_or_imp, forall_eq, implies_true, Nat.reduceBEq, reduceCtorEq, false_implies, List.zip_cons_cons, List.zip_nil_left, List.zip_nil_right, Nat.reduceLeDiff, List.forall_mem_nil, rs_52, hS]
  have g6 : ((bl.length : Int) != 32) = false := by rw [c6]; rfl
  by_cases c3 : kd = 3
  · have g3 : (kd == 3) = true := by simpa using c3
    have g3' : (kd != 3) = false := by simp [c3]
    have hT : tickP ⟨kd, vw, ht, bl, tk, sg, sig⟩ ↔ (1 ≤ tk ∧ tk ≤ 1048576) := by unfold tickP; rw [if_pos c3]
    by_cases c7 : 1 ≤ tk
    case neg =>
      have g7 : decide (tk < 1) = true := by simp; omega
      have hS : voS ⟨kd, vw, ht, bl, tk, sg, sig⟩ = 9 := if_neg (by rintro ⟨a1, a2, a3, a4, a5, a6, a7, a8⟩; exact c7 (hT.1 a6).1)
      simp (maxSteps := 10000000) only [runA, runB, runC, runD, runE, runF, fieldE, storeE, binE, ↓reduceIte, Nat.reduceLT, Nat.reduceLeDiff, Nat.reduceEqDiff, Nat.reduceAdd, Nat.reduceMul, Nat.reduceSub, reduceCtorEq, putAt, unE, Nat.reduceBEq, convE, buildE, List.replicate, Int.reduceLT, Int.reduceLE, Int.reduceToNat, mkE, mapSetE, hN, hF, ty_3, ty_9, ty_74, notIf, isEq, ga, gb, gc, gd, gi, gj, gk, gl, gh, g4, g4', g6, g3, g3', g7]
      simp only [runB, finC, finD, Option.isSome_some, Option.isSome_none, ↓reduceIte, Nat.reduceEqDiff, Nat.reduceAdd, Nat.reduceMul, forall_eq_or_imp, forall_eq, implies_true, Nat.reduceBEq, reduceCtorEq, false_implies, List.zip_cons_cons, List.zip_nil_left, List.zip_nil_right, Nat.reduceLeDiff, List.forall_mem_nil, rs_52, hS]
    have g7 : decide (tk < 1) = false := by simp; omega
    by_cases c8 : tk ≤ 1048576
    case neg =>
      have g8 : decide (tk > 1048576) = true := by simp; omega
      have hS : voS ⟨kd, vw, ht, bl, tk, sg, sig⟩ = 9 := if_neg (by rintro ⟨a1, a2, a3, a4, a5, a6, a7, a8⟩; exact c8 (hT.1 a6).2)
      simp (maxSteps := 10000000) only [runA, runB, runC, runD, runE, runF, fieldE, storeE, binE, ↓reduceIte, Nat.reduceLT, Nat.reduceLeDiff, Nat.reduceEqDiff, Nat.reduceAdd, Nat.reduceMul, Nat.reduceSub, reduceCtorEq, putAt, unE, Nat.reduceBEq, convE, buildE, List.replicate, Int.reduceLT, Int.reduceLE, Int.reduceToNat, mkE, mapSetE, hN, hF, ty_3, ty_9, ty_74, notIf, isEq, ga, gb, gc, gd, gi, gj, gk, gl, gh, g4, g4', g6, g3, g3', g7, g8]
      simp only [runB, finC, finD, Option.isSome_some, Option.isSome_none, ↓reduceIte, Nat.reduceEqDiff, Nat.reduceAdd, Nat.reduceMul, forall_eq_or_imp, forall_eq, implies_true, Nat.reduceBEq, reduceCtorEq, false_implies, List.zip_cons_cons, List.zip_nil_left, List.zip_nil_right, Nat.reduceLeDiff, List.forall_mem_nil, rs_52, hS]
    have g8 : decide (tk > 1048576) = false := by simp; omega
    have hS : voS ⟨kd, vw, ht, bl, tk, sg, sig⟩ = 0 := if_pos ⟨hca, hcb, hcc, hcd, hA.2 ⟨⟨hci, hcj⟩, c6⟩, hT.2 ⟨c7, c8⟩, ⟨hck, hcl⟩, hch⟩
    simp (maxSteps := 10000000) only [runA, runB, runC, runD, runE, runF, fieldE, storeE, binE, ↓reduceIte, Nat.reduceLT, Nat.reduceLeDiff, Nat.reduceEqDiff, Nat.reduceAdd, Nat.reduceMul, Nat.reduceSub, reduceCtorEq, putAt, unE, Nat.reduceBEq, convE, buildE, List.replicate, Int.reduceLT, Int.reduceLE, Int.reduceToNat, mkE, mapSetE, hN, hF, ty_3, ty_9, ty_74, notIf, isEq, ga, gb, gc, gd, gi, gj, gk, gl, gh, g4, g4', g6, g3, g3', g7, g8]
    simp only [runB, finC, finD, Option.isSome_some, Option.isSome_none, ↓reduceIte, Nat.reduceEqDiff, Nat.reduceAdd, Nat.reduceMul, forall_eq_or_imp, forall_eq, implies_true, Nat.reduceBEq, reduceCtorEq, false_implies, List.zip_cons_cons, List.zip_nil_left, List.zip_nil_right, Nat.reduceLeDiff, List.forall_mem_nil, rs_52, hS]
  · have g3 : (kd == 3) = false := by simpa using c3
    have g3' : (kd != 3) = true := by simpa using c3
    have hT : tickP ⟨kd, vw, ht, bl, tk, sg, sig⟩ ↔ tk = 0 := by unfold tickP; rw [if_neg c3]
    by_cases c7 : tk = 0
    case neg =>
      have g7 : (tk != 0) = true := by simpa using c7
      have hS : voS ⟨kd, vw, ht, bl, tk, sg, sig⟩ = 9 := if_neg (by rintro ⟨a1, a2, a3, a4, a5, a6, a7, a8⟩; exact c7 (hT.1 a6))
      simp (maxSteps := 10000000) only [runA, runB, runC, runD, runE, runF, fieldE, storeE, binE, ↓reduceIte, Nat.reduceLT, Nat.reduceLeDiff, Nat.reduceEqDiff, Nat.reduceAdd, Nat.reduceMul, Nat.reduceSub, reduceCtorEq, putAt, unE, Nat.reduceBEq, convE, buildE, List.replicate, Int.reduceLT, Int.reduceLE, Int.reduceToNat, mkE, mapSetE, hN, hF, ty_3, ty_9, ty_74, notIf, isEq, ga, gb, gc, gd, gi, gj, gk, gl, gh, g4, g4', g6, g3, g3', g7]
      simp only [runB, finC, finD, Option.isSome_some, Option.isSome_none, ↓reduceIte, Nat.reduceEqDiff, Nat.reduceAdd, Nat.reduceMul, forall_eq_or_imp, forall_eq, implies_true, Nat.reduceBEq, reduceCtorEq, false_implies, List.zip_cons_cons, List.zip_nil_left, List.zip_nil_right, Nat.reduceLeDiff, List.forall_mem_nil, rs_52, hS]
    have g7 : (tk != 0) = false := by simpa using c7
    have hS : voS ⟨kd, vw, ht, bl, tk, sg, sig⟩ = 0 := if_pos ⟨hca, hcb, hcc, hcd, hA.2 ⟨⟨hci, hcj⟩, c6⟩, hT.2 c7, ⟨hck, hcl⟩, hch⟩
    simp (maxSteps := 10000000) only [runA, runB, runC, runD, runE, runF, fieldE, storeE, binE, ↓reduceIte, Nat.reduceLT, Nat.reduceLeDiff, Nat.reduceEqDiff, Nat.reduceAdd, Nat.reduceMul, Nat.reduceSub, reduceCtorEq, putAt, unE, Nat.reduceBEq, convE, buildE, List.replicate, Int.reduceLT, Int.reduceLE, Int.reduceToNat, mkE, mapSetE, hN, hF, ty_3, ty_9, ty_74, notIf, isEq, ga, gb, gc, gd, gi, gj, gk, gl, gh, g4, g4', g6, g3, g3', g7]
    simp only [runB, finC, finD, Option.isSome_some, Option.isSome_none, ↓reduceIte, Nat.reduceEqDiff, Nat.reduceAdd, Nat.reduceMul, forall_eq_or_imp, forall_eq, implies_true, Nat.reduceBEq, reduceCtorEq, false_implies, List.zip_cons_cons, List.zip_nil_left, List.zip_nil_right, Nat.reduceLeDiff, List.forall_mem_nil, rs_52, hS]

end Go.Proofs.Ytldehcnaepgamaa.AM
set_option linter.unusedVariables false
set_option linter.unusedSimpArgs false
namespace Go.Proofs.Ytldehcnaepgamaa.AM
open Go

variable {Γ : FuncId → Contract}

/-- The fields, one behind another. -/
def voF (w : WS) (t : Vt) : WS := wNum (wNum (rText (wNum (wNum (wNum (rText w [118, 111, 116, 101]) t.kd) t.vw) t.ht) t.bl) t.tk) t.sg
theorem voF_len (w : WS) (t : Vt) : (voF w t).b.length ≤ w.b.length + 4134 := by
  have l0 := (rText_len w [118, 111, 116, 101]).1
  have l1 := wNum_len (rText w [118, 111, 116, 101]) t.kd
  have l2 := wNum_len (wNum (rText w [118, 111, 116, 101]) t.kd) t.vw
  have l3 := wNum_len (wNum (wNum (rText w [118, 111, 116, 101]) t.kd) t.vw) t.ht
  have l4 := (rText_len (wNum (wNum (wNum (rText w [118, 111, 116, 101]) t.kd) t.vw) t.ht) t.bl).2
  have l5 := wNum_len (rText (wNum (wNum (wNum (rText w [118, 111, 116, 101]) t.kd) t.vw) t.ht) t.bl) t.tk
  have l6 := wNum_len (wNum (rText (wNum (wNum (wNum (rText w [118, 111, 116, 101]) t.kd) t.vw) t.ht) t.bl) t.tk) t.sg
  simp only [List.length_cons, List.length_nil] at l0
  unfold voF
  omega
def voB (t : Vt) : List UInt8 := putB 4 2 ++ ([118, 111, 116, 101] ++ (putB t.kd 6 ++ (putB t.vw 6 ++ (putB t.ht 6 ++ (putB (t.bl.length : Int) 2 ++ (t.bl ++ (putB t.tk 6 ++ putB t.sg 6)))))))
theorem voB_length (t : Vt) : (voB t).length = 38 + t.bl.length := by simp [voB, len6, len2]; omega
theorem okV_bl {t : Vt} (h : okV t) : t.bl.length ≤ 32 := by
  obtain ⟨h1, h2, h3, h4, h5, h6, h7, h8⟩ := h
  unfold aboutP at h5
  split at h5
  · rw [h5.2]; decide
  · omega
theorem okV_nums {t : Vt} (h : okV t) : (0 ≤ t.ht ∧ t.ht ≤ 1048576) ∧ (0 ≤ t.tk ∧ t.tk ≤ 1048576) := by
  obtain ⟨h1, h2, h3, h4, h5, h6, h7, h8⟩ := h
  unfold aboutP at h5
  unfold tickP at h6
  constructor
  · split at h5 <;> omega
  · split at h6 <;> omega
theorem voF_ok {t : Vt} (h : okV t) {b : List UInt8} (hb : b.length ≤ 16000) : voF ⟨b, 0⟩ t = ⟨b ++ voB t, 0⟩ := by
  have h0 := okV_bl h
  have h9 := okV_nums h
  obtain ⟨h1, h2, h3, h4, h5, h6, h7, h8⟩ := h
  unfold voF
  rw [rText_ok (by decide) (by omega), wNum_okN (by unfold okN; omega) (by simp [len2, len6]; omega), wNum_okN (by unfold okN; omega) (by simp [len2, len6]; omega),
    wNum_okN (by unfold okN; omega) (by simp [len2, len6]; omega), rText_ok (by omega) (by simp [len2, len6]; omega), wNum_okN (by unfold okN; omega) (by simp [len2, len6]; omega), wNum_okN (by unfold okN; omega) (by simp [len2, len6]; omega)]
  simp [voB]
noncomputable def voTxC : Contract := mkC (α := WS × Vt) (fun p => p.1.b.length ≤ 85000 ∧ p.2.bl.length ≤ 9223372036854775807) (fun p => [.ptr 6400000 0, p.2.av]) (fun p => [[.own 1 (bytes p.1.b), .c (.int .i64 p.1.e), .c (.bool true)]]) (fun p => ⟨[], [[.own 1 (bytes (voF p.1 p.2).b), .c (.int .i64 (voF p.1 p.2).e), .c (.bool true)]]⟩)
theorem voTx_at (w : WS) (tkd : Int) (tvw : Int) (tht : Int) (tbl : List UInt8) (ttk : Int) (tsg : Int) (tsig : List UInt8) (g0 : w.b.length ≤ 85000) (g1 : tbl.length ≤ 9223372036854775807) : voTxC [.ptr 6400000 0, .agg [.c (.int .i64 tkd), .c (.int .i64 tvw), .c (.int .i64 tht), .c (.str tbl), .c (.int .i64 ttk), .c (.int .i64 tsg), .c (.str tsig)]] [[.own 1 (bytes w.b), .c (.int .i64 w.e), .c (.bool true)]] = some ⟨[], [[.own 1 (bytes (voF w (⟨tkd, tvw, tht, tbl, ttk, tsg, tsig⟩ : Vt)).b), .c (.int .i64 (voF w (⟨tkd, tvw, tht, tbl, ttk, tsg, tsig⟩ : Vt)).e), .c (.bool true)]]⟩ := by
  obtain ⟨wb, we⟩ := w
  exact mkC_at (α := WS × Vt) (⟨wb, we⟩, ⟨tkd, tvw, tht, tbl, ttk, tsg, tsig⟩) ⟨g0, g1⟩ (by
    rintro ⟨⟨w'b, w'e⟩, t'⟩ _ h ho
    have hh := And.intro h ho
    clear h ho
    simp only [List.cons.injEq, AV.c.injEq, AV.agg.injEq, PC.int.injEq, PC.str.injEq, PC.bool.injEq, PC.sl.injEq, OV.c.injEq, OV.own.injEq, OV.mp.injEq, bytes_iff, texts_iff, true_and, and_true, and_self, beq_self_eq_true, Vt.av_iff] at hh
    simp only [hh])
noncomputable def voPutC : Contract := mkC (α := WS × Vt) (fun p => p.1.b.length ≤ 85000 ∧ p.2.bl.length ≤ 9223372036854775807 ∧ p.2.sig.length ≤ 9223372036854775807) (fun p => [.ptr 6400000 0, p.2.av]) (fun p => [[.own 1 (bytes p.1.b), .c (.int .i64 p.1.e), .c (.bool true)]]) (fun p => ⟨[], [[.own 1 (bytes (rText (voF p.1 p.2) p.2.sig).b), .c (.int .i64 (rText (voF p.1 p.2) p.2.sig).e), .c (.bool true)]]⟩)
theorem voPut_at (w : WS) (tkd : Int) (tvw : Int) (tht : Int) (tbl : List UInt8) (ttk : Int) (tsg : Int) (tsig : List UInt8) (g0 : w.b.length ≤ 85000) (g1 : tbl.length ≤ 9223372036854775807) (g2 : tsig.length ≤ 9223372036854775807) : voPutC [.ptr 6400000 0, .agg [.c (.int .i64 tkd), .c (.int .i64 tvw), .c (.int .i64 tht), .c (.str tbl), .c (.int .i64 ttk), .c (.int .i64 tsg), .c (.str tsig)]] [[.own 1 (bytes w.b), .c (.int .i64 w.e), .c (.bool true)]] = some ⟨[], [[.own 1 (bytes (rText (voF w (⟨tkd, tvw, tht, tbl, ttk, tsg, tsig⟩ : Vt)) tsig).b), .c (.int .i64 (rText (voF w (⟨tkd, tvw, tht, tbl, ttk, tsg, tsig⟩ : Vt)) tsig).e), .c (.bool true)]]⟩ := by
  obtain ⟨wb, we⟩ := w
  exact mkC_at (α := WS × Vt) (⟨wb, we⟩, ⟨tkd, tvw, tht, tbl, ttk, tsg, tsig⟩) ⟨g0, g1, g2⟩ (by
    rintro ⟨⟨w'b, w'e⟩, t'⟩ _ h ho
    have hh := And.intro h ho
    clear h ho
    simp only [List.cons.injEq, AV.c.injEq, AV.agg.injEq, PC.int.injEq, PC.str.injEq, PC.bool.injEq, PC.sl.injEq, OV.c.injEq, OV.own.injEq, OV.mp.injEq, bytes_iff, texts_iff, true_and, and_true, and_self, beq_self_eq_true, Vt.av_iff] at hh
    simp only [hh])
def voT (t : Vt) : List UInt8 := if okV t then voB t else []
noncomputable def voTC : Contract := mkC (α := Vt) (fun p => True) (fun p => [p.av]) (fun p => []) (fun p => ⟨[.pv (.c (.sl (bytes (voT p))))], []⟩)
theorem voT_at (tkd : Int) (tvw : Int) (tht : Int) (tbl : List UInt8) (ttk : Int) (tsg : Int) (tsig : List UInt8) : voTC [.agg [.c (.int .i64 tkd), .c (.int .i64 tvw), .c (.int .i64 tht), .c (.str tbl), .c (.int .i64 ttk), .c (.int .i64 tsg), .c (.str tsig)]] [] = some ⟨[.pv (.c (.sl (bytes (voT (⟨tkd, tvw, tht, tbl, ttk, tsg, tsig⟩ : Vt)))))], []⟩ := by
  exact mkC_at (α := Vt) ⟨tkd, tvw, tht, tbl, ttk, tsg, tsig⟩ trivial (by
    rintro t' _ h ho
    have hh := And.intro h ho
    clear h ho
    simp only [List.cons.injEq, AV.c.injEq, AV.agg.injEq, PC.int.injEq, PC.str.injEq, PC.bool.injEq, PC.sl.injEq, OV.c.injEq, OV.own.injEq, OV.mp.injEq, bytes_iff, texts_iff, true_and, and_true, and_self, beq_self_eq_true, Vt.av_iff] at hh
    simp only [hh])

set_option maxRecDepth 100000 in
set_option maxHeartbeats 4000000 in
theorem voTx_sound (hΓ : SoundG Try.prog Γ) (h1 : Γ 83 = textC) (h2 : Γ 80 = numC) : SoundC Try.prog 99 voTxC := by
  refine sound_fn Try.func99 (by kernel_rfl) rfl rfl ?_
  intro args objs r0 hr
  obtain ⟨⟨w, t⟩, ⟨hl, hbl⟩, rfl, rfl, rfl⟩ := mkC_inv hr
  refine ⟨rfl, by show 2 ≤ _; decide, fun E hN hns hF => ?_⟩
  refine vc_sound hΓ mixed _ _ _ ?_
  have hN := hN.trans nt_99
  have hl : w.b.length ≤ 85000 := hl
  have hbl : t.bl.length ≤ 9223372036854775807 := hbl
  have l0 := (rText_len w [118, 111, 116, 101]).2
  have l1 := wNum_len (rText w [118, 111, 116, 101]) t.kd
  have l2 := wNum_len (wNum (rText w [118, 111, 116, 101]) t.kd) t.vw
  have l3 := wNum_len (wNum (wNum (rText w [118, 111, 116, 101]) t.kd) t.vw) t.ht
  have l4 := (rText_len (wNum (wNum (wNum (rText w [118, 111, 116, 101]) t.kd) t.vw) t.ht) t.bl).2
  have l5 := wNum_len (rText (wNum (wNum (wNum (rText w [118, 111, 116, 101]) t.kd) t.vw) t.ht) t.bl) t.tk
  have q0 := text_atw w [118, 111, 116, 101] (by omega) (by decide)
  have q1 := num_atw (rText w [118, 111, 116, 101]) t.kd (by omega)
  have q2 := num_atw (wNum (rText w [118, 111, 116, 101]) t.kd) t.vw (by omega)
  have q3 := num_atw (wNum (wNum (rText w [118, 111, 116, 101]) t.kd) t.vw) t.ht (by omega)
  have q4 := text_atw (wNum (wNum (wNum (rText w [118, 111, 116, 101]) t.kd) t.vw) t.ht) t.bl (by omega) (by omega)
  have q5 := num_atw (rText (wNum (wNum (wNum (rText w [118, 111, 116, 101]) t.kd) t.vw) t.ht) t.bl) t.tk (by omega)
  have q6 := num_atw (wNum (rText (wNum (wNum (wNum (rText w [118, 111, 116, 101]) t.kd) t.vw) t.ht) t.bl) t.tk) t.sg (by omega)
  unfold voF Vt.av
  simp only [runA, runB, runC, runD, runE, runF, fieldE, storeE, binE, ↓reduceIte, Nat.reduceLT, Nat.reduceLeDiff, Nat.reduceEqDiff, Nat.reduceAdd, Nat.reduceMul, Nat.reduceSub, reduceCtorEq, putAt, unE, Nat.reduceBEq, convE, buildE, List.replicate, Int.reduceLT, Int.reduceLE, Int.reduceToNat, mkE, mapSetE, hN, hF, ty_3, ty_9, ty_74, ty_86, notIf, isEq, h1, h2, q0, q1, q2, q3, q4, q5, q6, bytes_length]
  simp only [runB, finC, finD, Option.isSome_some, Option.isSome_none, ↓reduceIte, Nat.reduceEqDiff, Nat.reduceAdd, Nat.reduceMul, forall_eq_or_imp, forall_eq, implies_true, Nat.reduceBEq, reduceCtorEq, false_implies, List.zip_cons_cons, List.zip_nil_left, List.zip_nil_right, Nat.reduceLeDiff, List.forall_mem_nil, rs_99, bytes_length]

set_option maxRecDepth 100000 in
set_option maxHeartbeats 4000000 in
theorem voPut_sound (hΓ : SoundG Try.prog Γ) (h1 : Γ 99 = voTxC) (h2 : Γ 83 = textC) : SoundC Try.prog 53 voPutC := by
  refine sound_fn Try.func53 (by kernel_rfl) rfl rfl ?_
  intro args objs r0 hr
  obtain ⟨⟨w, t⟩, ⟨hl, hbl, hs⟩, rfl, rfl, rfl⟩ := mkC_inv hr
  refine ⟨rfl, by show 2 ≤ _; decide, fun E hN hns hF => ?_⟩
  refine vc_sound hΓ mixed _ _ _ ?_
  have hN := hN.trans nt_53
  have hl : w.b.length ≤ 85000 := hl
  have hbl : t.bl.length ≤ 9223372036854775807 := hbl
  have hs : t.sig.length ≤ 9223372036854775807 := hs
  have l0 := voF_len w t
  have q0 := voTx_at w t.kd t.vw t.ht t.bl t.tk t.sg t.sig hl hbl
  have q1 := text_atw (voF w t) t.sig (by omega) (by omega)
  have hT : (⟨t.kd, t.vw, t.ht, t.bl, t.tk, t.sg, t.sig⟩ : Vt) = t := rfl
  rw [hT] at q0
  unfold Vt.av
  generalize voF w t = w1 at l0 q0 q1 ⊢
  simp only [runA, runB, runC, runD, runE, runF, fieldE, storeE, binE, ↓reduceIte, Nat.reduceLT, Nat.reduceLeDiff, Nat.reduceEqDiff, Nat.reduceAdd, Nat.reduceMul, Nat.reduceSub, reduceCtorEq, putAt, unE, Nat.reduceBEq, convE, buildE, List.replicate, Int.reduceLT, Int.reduceLE, Int.reduceToNat, mkE, mapSetE, hN, hF, ty_3, ty_9, ty_74, ty_86, notIf, isEq, h1, h2, q0, q1, bytes_length]
  simp only [runB, finC, finD, Option.isSome_some, Option.isSome_none, ↓reduceIte, Nat.reduceEqDiff, Nat.reduceAdd, Nat.reduceMul, forall_eq_or_imp, forall_eq, implies_true, Nat.reduceBEq, reduceCtorEq, false_implies, List.zip_cons_cons, List.zip_nil_left, List.zip_nil_right, Nat.reduceLeDiff, List.forall_mem_nil, rs_53, bytes_length]

set_option maxRecDepth 100000 in
set_option maxHeartbeats 4000000 in
theorem voT_sound (hΓ : SoundG Try.prog Γ) (h1 : Γ 96 = voCkC) (h2 : Γ 43 = newC) (h3 : Γ 99 = voTxC) (h4 : Γ 45 = doneC) : SoundC Try.prog 98 voTC := by
  refine sound_fn Try.func98 (by kernel_rfl) rfl rfl ?_
  intro args objs r0 hr
  obtain ⟨t, _, rfl, rfl, rfl⟩ := mkC_inv hr
  refine ⟨rfl, by show 1 ≤ _; decide, fun E hN hns hF => ?_⟩
  refine vc_sound hΓ mixed _ _ _ ?_
  have hN := hN.trans nt_98
  have q1 := voCk_at t
  unfold Vt.av
  by_cases hk : okV t
  case neg =>
    have hS : voT t = [] := if_neg hk
    rw [show voS t = 9 from if_neg hk] at q1
    rw [hS]
    have b9 : ((9 : Int) != 0) = true := rfl
    simp only [runA, runB, runC, runD, runE, runF, fieldE, storeE, binE, ↓reduceIte, Nat.reduceLT, Nat.reduceLeDiff, Nat.reduceEqDiff, Nat.reduceAdd, Nat.reduceMul, Nat.reduceSub, reduceCtorEq, putAt, unE, Nat.reduceBEq, convE, buildE, List.replicate, Int.reduceLT, Int.reduceLE, Int.reduceToNat, mkE, mapSetE, hN, hF, ty_3, ty_5, ty_9, ty_25, ty_27, ty_74, ty_86, notIf, isEq, h1, q1, b9]
    simp only [runB, finC, finD, Option.isSome_some, Option.isSome_none, ↓reduceIte, Nat.reduceEqDiff, Nat.reduceAdd, Nat.reduceMul, forall_eq_or_imp, forall_eq, implies_true, Nat.reduceBEq, reduceCtorEq, false_implies, List.zip_cons_cons, List.zip_nil_left, List.zip_nil_right, Nat.reduceLeDiff, List.forall_mem_nil, rs_98, bytes, List.map_nil]
  have hS : voT t = voB t := if_pos hk
  rw [show voS t = 0 from if_pos hk] at q1
  have q2 := voTx_at ⟨[], 0⟩ t.kd t.vw t.ht t.bl t.tk t.sg t.sig (by simp) (by have := okV_bl hk; omega)
  rw [voF_ok hk (by simp)] at q2
  have hbl := voB_length t
  have hb2 := okV_bl hk
  have q3 := done_atw ⟨voB t, 0⟩
  rw [show doneR ⟨voB t, 0⟩ = (voB t, 0) from by unfold doneR; rw [if_pos rfl, if_neg (by show ¬ 16384 < (voB t).length; omega)]] at q3
  rw [hS]
  dsimp only at q2 q3
  rw [List.nil_append] at q2
  generalize voB t = bb at q2 q3 hbl ⊢
  have b0 : ((0 : Int) != 0) = false := rfl
  simp only [runA, runB, runC, runD, runE, runF, fieldE, storeE, binE, ↓reduceIte, Nat.reduceLT, Nat.reduceLeDiff, Nat.reduceEqDiff, Nat.reduceAdd, Nat.reduceMul, Nat.reduceSub, reduceCtorEq, putAt, unE, Nat.reduceBEq, convE, buildE, List.replicate, Int.reduceLT, Int.reduceLE, Int.reduceToNat, mkE, mapSetE, hN, hF, ty_3, ty_5, ty_9, ty_25, ty_27, ty_74, ty_86, notIf, isEq, h1, q1, b0, h2, newC, h3, q2, h4, q3, bytes_length]
  simp only [runB, finC, finD, Option.isSome_some, Option.isSome_none, ↓reduceIte, Nat.reduceEqDiff, Nat.reduceAdd, Nat.reduceMul, forall_eq_or_imp, forall_eq, implies_true, Nat.reduceBEq, reduceCtorEq, false_implies, List.zip_cons_cons, List.zip_nil_left, List.zip_nil_right, Nat.reduceLeDiff, List.forall_mem_nil, rs_98]

end Go.Proofs.Ytldehcnaepgamaa.AM
set_option linter.unusedVariables false
set_option linter.unusedSimpArgs false
namespace Go.Proofs.Ytldehcnaepgamaa.AM
open Go

variable {Γ : FuncId → Contract}

def vA (r : RS) := rd (rdT r 4).2 4
def vB (r : RS) := rd (vA r).2 1048576
def vC (r : RS) := rd (vB r).2 1048576
def vD (r : RS) := rdT (vC r).2 32
def vE (r : RS) := rd (vD r).2 1048576
def vF (r : RS) := rd (vE r).2 7
def vG (r : RS) := rdT (vF r).2 4096
def gotV (r : RS) : Vt := ⟨(vA r).1, (vB r).1, (vC r).1, (vD r).1, (vE r).1, (vF r).1, (vG r).1⟩
def readV (r : RS) : Vt × RS := if (rdT r 4).1 ≠ [118, 111, 116, 101] then (zeroV, (rdT r 4).2) else if (vG r).2.e ≠ 0 ∨ ¬ okV (gotV r) then (zeroV, (vG r).2) else (gotV r, (vG r).2)
theorem readV_len (r : RS) : (readV r).2.b.length ≤ r.b.length := by
  have h0 := rdT_len r 4
  have h1 : (vA r).2.b.length ≤ _ := rd_len _ _
  have h2 : (vB r).2.b.length ≤ _ := rd_len _ _
  have h3 : (vC r).2.b.length ≤ _ := rd_len _ _
  have h4 : (vD r).2.b.length ≤ _ := rdT_len _ _
  have h5 : (vE r).2.b.length ≤ _ := rd_len _ _
  have h6 : (vF r).2.b.length ≤ _ := rd_len _ _
  have h7 : (vG r).2.b.length ≤ _ := rdT_len _ _
  unfold readV
  split
  · exact h0
  · split <;> simp only <;> omega
/-- What was put is read. -/
def voE (t : Vt) : List UInt8 := voB t ++ (putB (t.sig.length : Int) 2 ++ t.sig)
theorem voE_length (t : Vt) : (voE t).length = 40 + t.bl.length + t.sig.length := by simp [voE, voB_length, len2]; omega
theorem read_putV {t : Vt} (h : okV t) (rest : List UInt8) : readV ⟨voE t ++ rest, 0⟩ = (t, ⟨rest, 0⟩) := by
  have hk := h
  have h0 := okV_bl h
  have h9 := okV_nums h
  obtain ⟨h1, h2, h3, h4, h5, h6, h7, h8⟩ := h
  have e : voE t ++ rest = putB ((([118, 111, 116, 101] : List UInt8).length : Nat) : Int) 2 ++ ([118, 111, 116, 101] ++ (putB t.kd 6 ++ (putB t.vw 6 ++ (putB t.ht 6 ++ (putB (t.bl.length : Int) 2 ++ (t.bl ++ (putB t.tk 6 ++ (putB t.sg 6 ++ (putB (t.sig.length : Int) 2 ++ (t.sig ++ rest)))))))))) := by
    simp [voE, voB]
  have c0 := rdT_put (s := [118, 111, 116, 101]) (most := 4) (by decide) (by decide) (putB t.kd 6 ++ (putB t.vw 6 ++ (putB t.ht 6 ++ (putB (t.bl.length : Int) 2 ++ (t.bl ++ (putB t.tk 6 ++ (putB t.sg 6 ++ (putB (t.sig.length : Int) 2 ++ (t.sig ++ rest)))))))))
  rw [← e] at c0
  generalize voE t ++ rest = bb at c0
  have c1 : vA ⟨bb, 0⟩ = (t.kd, ⟨putB t.vw 6 ++ (putB t.ht 6 ++ (putB (t.bl.length : Int) 2 ++ (t.bl ++ (putB t.tk 6 ++ (putB t.sg 6 ++ (putB (t.sig.length : Int) 2 ++ (t.sig ++ rest))))))), 0⟩) := by
    unfold vA; rw [c0]; exact rd_put (by omega) (by omega) (by omega) _
  have c2 : vB ⟨bb, 0⟩ = (t.vw, ⟨putB t.ht 6 ++ (putB (t.bl.length : Int) 2 ++ (t.bl ++ (putB t.tk 6 ++ (putB t.sg 6 ++ (putB (t.sig.length : Int) 2 ++ (t.sig ++ rest)))))), 0⟩) := by
    unfold vB; rw [c1]; exact rd_put (by omega) (by omega) (by omega) _
  have c3 : vC ⟨bb, 0⟩ = (t.ht, ⟨putB (t.bl.length : Int) 2 ++ (t.bl ++ (putB t.tk 6 ++ (putB t.sg 6 ++ (putB (t.sig.length : Int) 2 ++ (t.sig ++ rest))))), 0⟩) := by
    unfold vC; rw [c2]; exact rd_put (by omega) (by omega) (by omega) _
  have c4 : vD ⟨bb, 0⟩ = (t.bl, ⟨putB t.tk 6 ++ (putB t.sg 6 ++ (putB (t.sig.length : Int) 2 ++ (t.sig ++ rest))), 0⟩) := by
    unfold vD; rw [c3]; exact rdT_put (by omega) (by omega) _
  have c5 : vE ⟨bb, 0⟩ = (t.tk, ⟨putB t.sg 6 ++ (putB (t.sig.length : Int) 2 ++ (t.sig ++ rest)), 0⟩) := by
    unfold vE; rw [c4]; exact rd_put (by omega) (by omega) (by omega) _
  have c6 : vF ⟨bb, 0⟩ = (t.sg, ⟨putB (t.sig.length : Int) 2 ++ (t.sig ++ rest), 0⟩) := by
    unfold vF; rw [c5]; exact rd_put (by omega) (by omega) (by omega) _
  have c7 : vG ⟨bb, 0⟩ = (t.sig, ⟨rest, 0⟩) := by
    unfold vG; rw [c6]; exact rdT_put (by omega) (by omega) _
  have c8 : gotV ⟨bb, 0⟩ = t := by unfold gotV; rw [c1, c2, c3, c4, c5, c6, c7]
  unfold readV
  rw [c0, if_neg (by simp), c7, c8, if_neg (by simp [hk])]

noncomputable def voRdC : Contract := mkC (α := RS) (fun p => p.b.length ≤ 140737488355328) (fun p => [.ptr 6400000 0]) (fun p => [[.c (.sl (bytes p.b)), .c (.int .i64 p.e), .c (.bool true)]]) (fun p => ⟨[.pv (readV p).1.av], [[.c (.sl (bytes (readV p).2.b)), .c (.int .i64 (readV p).2.e), .c (.bool true)]]⟩)
theorem voRd_at (r : RS) (g0 : r.b.length ≤ 140737488355328) : voRdC [.ptr 6400000 0] [[.c (.sl (bytes r.b)), .c (.int .i64 r.e), .c (.bool true)]] = some ⟨[.pv (readV r).1.av], [[.c (.sl (bytes (readV r).2.b)), .c (.int .i64 (readV r).2.e), .c (.bool true)]]⟩ := by
  obtain ⟨rb, re⟩ := r
  exact mkC_at (α := RS) ⟨rb, re⟩ g0 (by
    rintro ⟨r'b, r'e⟩ _ h ho
    have hh := And.intro h ho
    clear h ho
    simp only [List.cons.injEq, AV.c.injEq, AV.agg.injEq, PC.int.injEq, PC.str.injEq, PC.bool.injEq, PC.sl.injEq, OV.c.injEq, OV.own.injEq, OV.mp.injEq, bytes_iff, texts_iff, true_and, and_true, and_self, beq_self_eq_true] at hh
    simp only [hh])

set_option maxRecDepth 100000 in
set_option maxHeartbeats 4000000 in
theorem voRd_sound (hΓ : SoundG Try.prog Γ) (h1 : Γ 94 = rdTextC) (h2 : Γ 95 = rdNumC) (h3 : Γ 85 = errC) (h4 : Γ 96 = voCkC) : SoundC Try.prog 55 voRdC := by
  refine sound_fn Try.func55 (by kernel_rfl) rfl rfl ?_
  intro args objs r0 hr
  obtain ⟨r, hl, rfl, rfl, rfl⟩ := mkC_inv hr
  have hl : r.b.length ≤ 140737488355328 := hl
  refine ⟨rfl, by show 1 ≤ _; decide, fun E hN hns hF => ?_⟩
  refine vc_sound hΓ mixed _ _ _ ?_
  have hN := hN.trans nt_55
  have l0 := rdT_len r 4
  have lvA : (vA r).2.b.length ≤ _ := rd_len _ _
  have lvB : (vB r).2.b.length ≤ _ := rd_len _ _
  have lvC : (vC r).2.b.length ≤ _ := rd_len _ _
  have lvD : (vD r).2.b.length ≤ _ := rdT_len _ _
  have lvE : (vE r).2.b.length ≤ _ := rd_len _ _
  have lvF : (vF r).2.b.length ≤ _ := rd_len _ _
  have lvG : (vG r).2.b.length ≤ _ := rdT_len _ _
  have q0 := text_atr r 4 hl
  by_cases c0 : (rdT r 4).1 = [118, 111, 116, 101]
  case neg =>
    have g0 : ((rdT r 4).1 == [118, 111, 116, 101]) = false := by simpa using c0
    have hS : readV r = (zeroV, (rdT r 4).2) := if_pos c0
    rw [hS]
    generalize rdT r 4 = q at q0 g0 ⊢
    simp only [runA, runB, runC, runD, runE, runF, fieldE, storeE, binE, ↓reduceIte, Nat.reduceLT, Nat.reduceLeDiff, Nat.reduceEqDiff, Nat.reduceAdd, Nat.reduceMul, Nat.reduceSub, reduceCtorEq, putAt, unE, Nat.reduceBEq, convE, buildE, List.replicate, Int.reduceLT, Int.reduceLE, Int.reduceToNat, mkE, mapSetE, hN, hF, ty_3, ty_9, ty_27, ty_74, ty_91, notIf, isEq, h1, q0, g0]
    simp only [runB, finC, finD, Option.isSome_some, Option.isSome_none, ↓reduceIte, Nat.reduceEqDiff, Nat.reduceAdd, Nat.reduceMul, forall_eq_or_imp, forall_eq, implies_true, Nat.reduceBEq, reduceCtorEq, false_implies, List.zip_cons_cons, List.zip_nil_left, List.zip_nil_right, Nat.reduceLeDiff, List.forall_mem_nil, rs_55, agg_74, sz_74, zeroV, Vt.av]
  have g0 : ((rdT r 4).1 == [118, 111, 116, 101]) = true := by rw [c0]; decide
  have q1 := num_atr (rdT r 4).2 4 (by omega)
  rw [show rd (rdT r 4).2 4 = vA r from rfl] at q1
  have q2 := num_atr (vA r).2 1048576 (by omega)
  rw [show rd (vA r).2 1048576 = vB r from rfl] at q2
  have q3 := num_atr (vB r).2 1048576 (by omega)
  rw [show rd (vB r).2 1048576 = vC r from rfl] at q3
  have q4 := text_atr (vC r).2 32 (by omega)
  rw [show rdT (vC r).2 32 = vD r from rfl] at q4
  have q5 := num_atr (vD r).2 1048576 (by omega)
  rw [show rd (vD r).2 1048576 = vE r from rfl] at q5
  have q6 := num_atr (vE r).2 7 (by omega)
  rw [show rd (vE r).2 7 = vF r from rfl] at q6
  have q7 := text_atr (vF r).2 4096 (by omega)
  rw [show rdT (vF r).2 4096 = vG r from rfl] at q7
  have q8 := err_atr (vG r).2
  have q9 := voCk_at (gotV r)
  have hR : readV r = if (vG r).2.e ≠ 0 ∨ ¬ okV (gotV r) then (zeroV, (vG r).2) else (gotV r, (vG r).2) := if_neg (by simp [c0])
  rw [hR]
  have hgot : gotV r = ⟨(vA r).1, (vB r).1, (vC r).1, (vD r).1, (vE r).1, (vF r).1, (vG r).1⟩ := rfl
  rw [hgot] at q9 ⊢
  dsimp only at q9
  generalize rdT r 4 = z0 at q0 q1 g0
  generalize vA r = z1 at q1 q2 q9 ⊢
  generalize vB r = z2 at q2 q3 q9 ⊢
  generalize vC r = z3 at q3 q4 q9 ⊢
  generalize vD r = z4 at q4 q5 q9 ⊢
  generalize vE r = z5 at q5 q6 q9 ⊢
  generalize vF r = z6 at q6 q7 q9 ⊢
  generalize vG r = z7 at q7 q8 q9 ⊢
  by_cases c1 : z7.2.e = 0
  case neg =>
    have g1 : (z7.2.e != 0) = true := by simpa using c1
    rw [if_pos (Or.inl c1)]
    simp only [runA, runB, runC, runD, runE, runF, fieldE, storeE, binE, ↓reduceIte, Nat.reduceLT, Nat.reduceLeDiff, Nat.reduceEqDiff, Nat.reduceAdd, Nat.reduceMul, Nat.reduceSub, reduceCtorEq, putAt, unE, Nat.reduceBEq, convE, buildE, List.replicate, Int.reduceLT, Int.reduceLE, Int.reduceToNat, mkE, mapSetE, hN, hF, ty_3, ty_9, ty_27, ty_74, ty_91, notIf, isEq, h1, h2, h3, q0, q1, q2, q3, q4, q5, q6, q7, q8, g0, g1]
    simp only [runB, finC, finD, Option.isSome_some, Option.isSome_none, ↓reduceIte, Nat.reduceEqDiff, Nat.reduceAdd, Nat.reduceMul, forall_eq_or_imp, forall_eq, implies_true, Nat.reduceBEq, reduceCtorEq, false_implies, List.zip_cons_cons, List.zip_nil_left, List.zip_nil_right, Nat.reduceLeDiff, List.forall_mem_nil, rs_55, agg_74, sz_74, zeroV, Vt.av]
  have g1 : (z7.2.e != 0) = false := by simpa using c1
  by_cases c2 : okV ⟨z1.1, z2.1, z3.1, z4.1, z5.1, z6.1, z7.1⟩
  · rw [show voS ⟨z1.1, z2.1, z3.1, z4.1, z5.1, z6.1, z7.1⟩ = 0 from if_pos c2] at q9
    have b0 : ((0 : Int) != 0) = false := rfl
    rw [if_neg (by rintro (h | h); exact h c1; exact h c2)]
    simp only [runA, runB, runC, runD, runE, runF, fieldE, storeE, binE, ↓reduceIte, Nat.reduceLT, Nat.reduceLeDiff, Nat.reduceEqDiff, Nat.reduceAdd, Nat.reduceMul, Nat.reduceSub, reduceCtorEq, putAt, unE, Nat.reduceBEq, convE, buildE, List.replicate, Int.reduceLT, Int.reduceLE, Int.reduceToNat, mkE, mapSetE, hN, hF, ty_3, ty_9, ty_27, ty_74, ty_91, notIf, isEq, h1, h2, h3, h4, q0, q1, q2, q3, q4, q5, q6, q7, q8, q9, g0, g1, b0]
    simp only [runB, finC, finD, Option.isSome_some, Option.isSome_none, ↓reduceIte, Nat.reduceEqDiff, Nat.reduceAdd, Nat.reduceMul, forall_eq_or_imp, forall_eq, implies_true, Nat.reduceBEq, reduceCtorEq, false_implies, List.zip_cons_cons, List.zip_nil_left, List.zip_nil_right, Nat.reduceLeDiff, List.forall_mem_nil, rs_55, agg_74, sz_74, Vt.av]
  · rw [show voS ⟨z1.1, z2.1, z3.1, z4.1, z5.1, z6.1, z7.1⟩ = 9 from if_neg c2] at q9
    have b0 : ((9 : Int) != 0) = true := rfl
    rw [if_pos (Or.inr c2)]
    simp only [runA, runB, runC, runD, runE, runF, fieldE, storeE, binE, ↓reduceIte, Nat.reduceLT, Nat.reduceLeDiff, Nat.reduceEqDiff, Nat.reduceAdd, Nat.reduceMul, Nat.reduceSub, reduceCtorEq, putAt, unE, Nat.reduceBEq, convE, buildE, List.replicate, Int.reduceLT, Int.reduceLE, Int.reduceToNat, mkE, mapSetE, hN, hF, ty_3, ty_9, ty_27, ty_74, ty_91, notIf, isEq, h1, h2, h3, h4, q0, q1, q2, q3, q4, q5, q6, q7, q8, q9, g0, g1, b0]
    simp only [runB, finC, finD, Option.isSome_some, Option.isSome_none, ↓reduceIte, Nat.reduceEqDiff, Nat.reduceAdd, Nat.reduceMul, forall_eq_or_imp, forall_eq, implies_true, Nat.reduceBEq, reduceCtorEq, false_implies, List.zip_cons_cons, List.zip_nil_left, List.zip_nil_right, Nat.reduceLeDiff, List.forall_mem_nil, rs_55, agg_74, sz_74, zeroV, Vt.av]

/-! keys -/
def rsd (k : Nat) : List UInt8 := [114, 101, 112, 108, 105, 99, 97] ++ [UInt8.ofNat (48 + k)]
noncomputable def voKeyK (n : Int) : Ky := if 0 ≤ n ∧ n ≤ 6 then ⟨rsd n.toNat, leavesS (rsd n.toNat) 16, 0⟩ else zeroK
noncomputable def voKeyC : Contract := mkC (α := Int) (fun _ => True) (fun n => [.c (.int .i64 n)]) (fun _ => []) (fun n => ⟨[.pv (voKeyK n).av], []⟩)
theorem voKey_at (n : Int) : voKeyC [.c (.int .i64 n)] [] = some ⟨[.pv (voKeyK n).av], []⟩ :=
  mkC_at (α := Int) n trivial (by
    rintro m _ h _
    simp only [List.cons.injEq, AV.c.injEq, PC.int.injEq, true_and, and_true] at h
    rw [h])
set_option maxRecDepth 100000 in
set_option maxHeartbeats 1000000 in
theorem voKey_sound (hΓ : SoundG Try.prog Γ) (h1 : Γ 97 = replC) (h2 : Γ 25 = newGC) : SoundC Try.prog 50 voKeyC := by
  refine sound_fn Try.func50 (by kernel_rfl) rfl rfl ?_
  intro args objs r hr
  obtain ⟨n, _, rfl, rfl, rfl⟩ := mkC_inv hr
  by_cases hn : 0 ≤ n ∧ n ≤ 6
  · refine ⟨rfl, by show 1 ≤ _; decide, fun E hN hns hF => ?_⟩
    refine vc_sound hΓ mixed _ _ _ ?_
    have hN := hN.trans nt_50
    have q1 := repl_t hn
    have hS : voKeyK n = ⟨rsd n.toNat, leavesS (rsd n.toNat) 16, 0⟩ := if_pos hn
    rw [hS]
    obtain ⟨k, rfl⟩ : ∃ k : Nat, n = (k : Int) := ⟨n.toNat, by omega⟩
    rw [Int.toNat_natCast]
    have w1 : IntKind.u8.wrap (k : Int) = (k : Int) := by rw [wrapB]; omega
    have w2 : IntKind.u8.wrap (48 + (k : Int)) = ((48 + k : Nat) : Int) := by rw [wrapB]; omega
    have b1 : bytesOf [[PC.int .u8 ((48 + k : Nat) : Int)]] = some [UInt8.ofNat (48 + k)] := by simp only [bytesOf, Int.toNat_natCast]
    have hcs : ([114, 101, 112, 108, 105, 99, 97, UInt8.ofNat (48 + k)] : List UInt8) = rsd k := rfl
    have hk : newGC [.c (.str (rsd k)), .c (.int .i64 4)] [] = some ⟨[.pv (keyAV (rsd k) (leavesS (rsd k) 16) 0), .pv (.c (.int .i64 0))], []⟩ := newG_at (rsd k) 4 (by decide) (by simp [rsd])
    generalize leavesS (rsd k) 16 = L at hk ⊢
    simp only [runA, runB, runC, runD, runE, runF, fieldE, storeE, binE, ↓reduceIte, Nat.reduceLT, Nat.reduceLeDiff, Nat.reduceEqDiff, Nat.reduceAdd, Nat.reduceMul, Nat.reduceSub, reduceCtorEq, putAt, unE, Nat.reduceBEq, convE, buildE, List.replicate, Int.reduceLT, Int.reduceLE, Int.reduceToNat, mkE, mapSetE, hN, hF, ty_3, ty_4, ty_5, ty_9, ty_22, ty_24, ty_25, notIf, isEq, h1, q1, w1, w2, b1, hcs, h2, hk, keyAV]
    simp only [runB, finC, finD, Option.isSome_some, Option.isSome_none, ↓reduceIte, Nat.reduceEqDiff, Nat.reduceAdd, Nat.reduceMul, forall_eq_or_imp, forall_eq, implies_true, Nat.reduceBEq, reduceCtorEq, false_implies, List.zip_cons_cons, List.zip_nil_left, List.zip_nil_right, Nat.reduceLeDiff, List.forall_mem_nil, rs_50, agg_24, sz_24, Ky.av]
  · refine ⟨rfl, by show 1 ≤ _; decide, fun E hN hns hF => ?_⟩
    refine vc_sound hΓ mixed _ _ _ ?_
    have hN := hN.trans nt_50
    have q1 := repl_f hn
    have hS : voKeyK n = zeroK := if_neg hn
    rw [hS]
    simp only [runA, runB, runC, runD, runE, runF, fieldE, storeE, binE, ↓reduceIte, Nat.reduceLT, Nat.reduceLeDiff, Nat.reduceEqDiff, Nat.reduceAdd, Nat.reduceMul, Nat.reduceSub, reduceCtorEq, putAt, unE, Nat.reduceBEq, convE, buildE, List.replicate, Int.reduceLT, Int.reduceLE, Int.reduceToNat, mkE, mapSetE, hN, hF, ty_3, ty_4, ty_5, ty_9, ty_22, ty_24, ty_25, notIf, isEq, h1, q1]
    simp only [runB, finC, finD, Option.isSome_some, Option.isSome_none, ↓reduceIte, Nat.reduceEqDiff, Nat.reduceAdd, Nat.reduceMul, forall_eq_or_imp, forall_eq, implies_true, Nat.reduceBEq, reduceCtorEq, false_implies, List.zip_cons_cons, List.zip_nil_left, List.zip_nil_right, Nat.reduceLeDiff, List.forall_mem_nil, rs_50, agg_24, sz_24, zeroK, Ky.av, texts, List.map_nil]

/-! making, and whether one is valid -/
def Vt.signed (t : Vt) (s : List UInt8) : Vt := ⟨t.kd, t.vw, t.ht, t.bl, t.tk, t.sg, s⟩
noncomputable def signV (k : Ky) (t : Vt) : Vt × Ky × Int := if okV t then (if (signS k (voT t)).2.2 = 0 then (t.signed (signS k (voT t)).1, (signS k (voT t)).2.1, 0) else (zeroV, zeroK, (signS k (voT t)).2.2)) else (zeroV, zeroK, 9)
theorem voT_len (t : Vt) : (voT t).length ≤ 70 := by
  unfold voT
  split
  · rename_i h; have := okV_bl h; rw [voB_length]; omega
  · simp
noncomputable def voSnC : Contract := mkC (α := Ky × Vt) (fun p => p.1.leaves.length ≤ 1048576) (fun p => [p.1.av, p.2.av]) (fun _ => []) (fun p => ⟨[.pv (signV p.1 p.2).1.av, .pv (signV p.1 p.2).2.1.av, .pv (.c (.int .i64 (signV p.1 p.2).2.2))], []⟩)
theorem voSn_at (k : Ky) (t : Vt) (h : k.leaves.length ≤ 1048576) : voSnC [.agg [.c (.str k.seed), .c (.sl (texts k.leaves)), .c (.int .i64 k.next)], .agg [.c (.int .i64 t.kd), .c (.int .i64 t.vw), .c (.int .i64 t.ht), .c (.str t.bl), .c (.int .i64 t.tk), .c (.int .i64 t.sg), .c (.str t.sig)]] [] = some ⟨[.pv (signV k t).1.av, .pv (signV k t).2.1.av, .pv (.c (.int .i64 (signV k t).2.2))], []⟩ :=
  mkC_at (α := Ky × Vt) (k, t) h (by
    rintro ⟨k', t'⟩ _ h _
    have h' : [k'.av, t'.av] = [k.av, t.av] := h
    simp only [List.cons.injEq, and_true] at h'
    rw [Ky.av_inj h'.1, Vt.av_inj h'.2])
set_option maxRecDepth 100000 in
set_option maxHeartbeats 4000000 in
theorem voSn_sound (hΓ : SoundG Try.prog Γ) (h1 : Γ 96 = voCkC) (h2 : Γ 98 = voTC) (h3 : Γ 13 = signC) : SoundC Try.prog 51 voSnC := by
  refine sound_fn Try.func51 (by kernel_rfl) rfl rfl ?_
  intro args objs r0 hr
  obtain ⟨⟨⟨seed, leaves, next⟩, t⟩, hl, rfl, rfl, rfl⟩ := mkC_inv hr
  have hl : leaves.length ≤ 1048576 := hl
  refine ⟨rfl, by show 2 ≤ _; decide, fun E hN hns hF => ?_⟩
  refine vc_sound hΓ mixed _ _ _ ?_
  have hN := hN.trans nt_51
  unfold Vt.av Ky.av
  have q1 := voCk_at t
  have q2 := voT_at t.kd t.vw t.ht t.bl t.tk t.sg t.sig
  have q3 := sign_at ⟨seed, leaves, next⟩ (voT t) (by show leaves.length ≤ _; omega) (by have := voT_len t; omega)
  unfold Ky.av at q3
  dsimp only at q3 ⊢
  by_cases hk : okV t
  case neg =>
    rw [show voS t = 9 from if_neg hk] at q1
    rw [show signV ⟨seed, leaves, next⟩ t = (zeroV, zeroK, 9) from if_neg hk]
    have b0 : ((9 : Int) != 0) = true := rfl
    simp only [runA, runB, runC, runD, runE, runF, fieldE, storeE, binE, ↓reduceIte, Nat.reduceLT, Nat.reduceLeDiff, Nat.reduceEqDiff, Nat.reduceAdd, Nat.reduceMul, Nat.reduceSub, reduceCtorEq, putAt, unE, Nat.reduceBEq, convE, buildE, List.replicate, Int.reduceLT, Int.reduceLE, Int.reduceToNat, mkE, mapSetE, hN, hF, ty_3, ty_5, ty_9, ty_22, ty_24, ty_25, ty_27, ty_74, notIf, isEq, h1, q1, b0]
    simp only [runB, finC, finD, Option.isSome_some, Option.isSome_none, ↓reduceIte, Nat.reduceEqDiff, Nat.reduceAdd, Nat.reduceMul, forall_eq_or_imp, forall_eq, implies_true, Nat.reduceBEq, reduceCtorEq, false_implies, List.zip_cons_cons, List.zip_nil_left, List.zip_nil_right, Nat.reduceLeDiff, List.forall_mem_nil, rs_51, agg_24, sz_24, agg_74, sz_74, zeroV, zeroK, texts, List.map_nil]
  rw [show voS t = 0 from if_pos hk] at q1
  have b0 : ((0 : Int) != 0) = false := rfl
  have hM : signV ⟨seed, leaves, next⟩ t = if (signS ⟨seed, leaves, next⟩ (voT t)).2.2 = 0 then (t.signed (signS ⟨seed, leaves, next⟩ (voT t)).1, (signS ⟨seed, leaves, next⟩ (voT t)).2.1, 0) else (zeroV, zeroK, (signS ⟨seed, leaves, next⟩ (voT t)).2.2) := if_pos hk
  rw [hM]
  generalize signS ⟨seed, leaves, next⟩ (voT t) = sg at q3 ⊢
  generalize voT t = tt at q2 q3
  obtain ⟨s, ⟨k1, k2, k3⟩, e⟩ := sg
  dsimp only at q3 ⊢
  by_cases he : e = 0
  · subst he
    rw [if_pos rfl]
    simp only [runA, runB, runC, runD, runE, runF, fieldE, storeE, binE, ↓reduceIte, Nat.reduceLT, Nat.reduceLeDiff, Nat.reduceEqDiff, Nat.reduceAdd, Nat.reduceMul, Nat.reduceSub, reduceCtorEq, putAt, unE, Nat.reduceBEq, convE, buildE, List.replicate, Int.reduceLT, Int.reduceLE, Int.reduceToNat, mkE, mapSetE, hN, hF, ty_3, ty_5, ty_9, ty_22, ty_24, ty_25, ty_27, ty_74, notIf, isEq, h1, q1, b0, h2, q2, h3, q3]
    refine drawnP_intro (by kernel_rfl) (by kernel_rfl) ?_
    simp only [runA, runB, runC, runD, runE, runF, fieldE, storeE, binE, ↓reduceIte, Nat.reduceLT, Nat.reduceLeDiff, Nat.reduceEqDiff, Nat.reduceAdd, Nat.reduceMul, Nat.reduceSub, reduceCtorEq, putAt, unE, Nat.reduceBEq, convE, buildE, List.replicate, Int.reduceLT, Int.reduceLE, Int.reduceToNat, mkE, mapSetE, hN, hF, ty_3, ty_5, ty_9, ty_22, ty_24, ty_25, ty_27, ty_74, notIf, isEq, b0]
    refine drawnP_intro (by kernel_rfl) (by kernel_rfl) ?_
    simp only [runA, runB, runC, runD, runE, runF, fieldE, storeE, binE, ↓reduceIte, Nat.reduceLT, Nat.reduceLeDiff, Nat.reduceEqDiff, Nat.reduceAdd, Nat.reduceMul, Nat.reduceSub, reduceCtorEq, putAt, unE, Nat.reduceBEq, convE, buildE, List.replicate, Int.reduceLT, Int.reduceLE, Int.reduceToNat, mkE, mapSetE, hN, hF, ty_3, ty_5, ty_9, ty_22, ty_24, ty_25, ty_27, ty_74, notIf, isEq, b0]
    simp only [runB, finC, finD, Option.isSome_some, Option.isSome_none, ↓reduceIte, Nat.reduceEqDiff, Nat.reduceAdd, Nat.reduceMul, forall_eq_or_imp, forall_eq, implies_true, Nat.reduceBEq, reduceCtorEq, false_implies, List.zip_cons_cons, List.zip_nil_left, List.zip_nil_right, Nat.reduceLeDiff, List.forall_mem_nil, rs_51, agg_24, sz_24, agg_74, sz_74, Vt.signed]
  · have g1 : (e != 0) = true := by simpa using he
    rw [if_neg he]
    simp only [runA, runB, runC, runD, runE, runF, fieldE, storeE, binE, ↓reduceIte, Nat.reduceLT, Nat.reduceLeDiff, Nat.reduceEqDiff, Nat.reduceAdd, Nat.reduceMul, Nat.reduceSub, reduceCtorEq, putAt, unE, Nat.reduceBEq, convE, buildE, List.replicate, Int.reduceLT, Int.reduceLE, Int.reduceToNat, mkE, mapSetE, hN, hF, ty_3, ty_5, ty_9, ty_22, ty_24, ty_25, ty_27, ty_74, notIf, isEq, h1, q1, b0, h2, q2, h3, q3]
    refine drawnP_intro (by kernel_rfl) (by kernel_rfl) ?_
    simp only [runA, runB, runC, runD, runE, runF, fieldE, storeE, binE, ↓reduceIte, Nat.reduceLT, Nat.reduceLeDiff, Nat.reduceEqDiff, Nat.reduceAdd, Nat.reduceMul, Nat.reduceSub, reduceCtorEq, putAt, unE, Nat.reduceBEq, convE, buildE, List.replicate, Int.reduceLT, Int.reduceLE, Int.reduceToNat, mkE, mapSetE, hN, hF, ty_3, ty_5, ty_9, ty_22, ty_24, ty_25, ty_27, ty_74, notIf, isEq, g1]
    simp only [runB, finC, finD, Option.isSome_some, Option.isSome_none, ↓reduceIte, Nat.reduceEqDiff, Nat.reduceAdd, Nat.reduceMul, forall_eq_or_imp, forall_eq, implies_true, Nat.reduceBEq, reduceCtorEq, false_implies, List.zip_cons_cons, List.zip_nil_left, List.zip_nil_right, Nat.reduceLeDiff, List.forall_mem_nil, rs_51, agg_24, sz_24, agg_74, sz_74, zeroV, zeroK, texts, List.map_nil]

noncomputable def validV (t : Vt) (roots : List (List UInt8)) : Bool := decide (okV t) && decide (t.sg < (roots.length : Int)) && (verS (roots.getD t.sg.toNat []) 4 (voT t) t.sig).2
noncomputable def voVaC : Contract := mkC (α := Vt × List (List UInt8)) (fun p => p.2.length ≤ 9223372036854775807) (fun p => [p.1.av, .c (.sl (texts p.2))]) (fun _ => []) (fun p => ⟨[.pv (.c (.bool (validV p.1 p.2)))], []⟩)
theorem voVa_at (t : Vt) (roots : List (List UInt8)) (h : roots.length ≤ 9223372036854775807) : voVaC [.agg [.c (.int .i64 t.kd), .c (.int .i64 t.vw), .c (.int .i64 t.ht), .c (.str t.bl), .c (.int .i64 t.tk), .c (.int .i64 t.sg), .c (.str t.sig)], .c (.sl (texts roots))] [] = some ⟨[.pv (.c (.bool (validV t roots)))], []⟩ :=
  mkC_at (α := Vt × List (List UInt8)) (t, roots) h (by
    rintro ⟨t', r'⟩ _ h _
    have h' : [t'.av, .c (.sl (texts r'))] = [t.av, .c (.sl (texts roots))] := h
    simp only [List.cons.injEq, AV.c.injEq, PC.sl.injEq, and_true] at h'
    rw [Vt.av_inj h'.1, texts_inj h'.2])
set_option maxRecDepth 100000 in
set_option maxHeartbeats 4000000 in
theorem voVa_sound (hΓ : SoundG Try.prog Γ) (h1 : Γ 96 = voCkC) (h2 : Γ 98 = voTC) (h3 : Γ 26 = sverC) : SoundC Try.prog 54 voVaC := by
  refine sound_fn Try.func54 (by kernel_rfl) rfl rfl ?_
  intro args objs r0 hr
  obtain ⟨⟨t, roots⟩, hl, rfl, rfl, rfl⟩ := mkC_inv hr
  have hl : roots.length ≤ 9223372036854775807 := hl
  refine ⟨rfl, by show 2 ≤ _; decide, fun E hN hns hF => ?_⟩
  refine vc_sound hΓ mixed _ _ _ ?_
  have hN := hN.trans nt_54
  unfold Vt.av
  dsimp only
  have q1 := voCk_at t
  by_cases hk : okV t
  case neg =>
    rw [show voS t = 9 from if_neg hk] at q1
    have hS : validV t roots = false := by unfold validV; rw [decide_eq_false hk]; rfl
    have b0 : ((9 : Int) != 0) = true := rfl
    rw [hS]
    simp only [runA, runB, runC, runD, runE, runF, fieldE, storeE, binE, ↓reduceIte, Nat.reduceLT, Nat.reduceLeDiff, Nat.reduceEqDiff, Nat.reduceAdd, Nat.reduceMul, Nat.reduceSub, reduceCtorEq, putAt, unE, Nat.reduceBEq, convE, buildE, List.replicate, Int.reduceLT, Int.reduceLE, Int.reduceToNat, mkE, mapSetE, hN, hF, ty_3, ty_4, ty_5, ty_9, ty_22, ty_25, ty_27, ty_74, notIf, isEq, h1, q1, b0]
    simp only [runB, finC, finD, Option.isSome_some, Option.isSome_none, ↓reduceIte, Nat.reduceEqDiff, Nat.reduceAdd, Nat.reduceMul, forall_eq_or_imp, forall_eq, implies_true, Nat.reduceBEq, reduceCtorEq, false_implies, List.zip_cons_cons, List.zip_nil_left, List.zip_nil_right, Nat.reduceLeDiff, List.forall_mem_nil, rs_54]
  rw [show voS t = 0 from if_pos hk] at q1
  have b0 : ((0 : Int) != 0) = false := rfl
  by_cases hf : t.sg < (roots.length : Int)
  case neg =>
    have hS : validV t roots = false := by unfold validV; rw [decide_eq_false hf, Bool.and_false]; rfl
    have g1 : decide (t.sg ≥ (roots.length : Int)) = true := by simp; omega
    rw [hS]
    simp only [runA, runB, runC, runD, runE, runF, fieldE, storeE, binE, ↓reduceIte, Nat.reduceLT, Nat.reduceLeDiff, Nat.reduceEqDiff, Nat.reduceAdd, Nat.reduceMul, Nat.reduceSub, reduceCtorEq, putAt, unE, Nat.reduceBEq, convE, buildE, List.replicate, Int.reduceLT, Int.reduceLE, Int.reduceToNat, mkE, mapSetE, hN, hF, ty_3, ty_4, ty_5, ty_9, ty_22, ty_25, ty_27, ty_74, notIf, isEq, texts_length, h1, q1, b0, g1]
    simp only [runB, finC, finD, Option.isSome_some, Option.isSome_none, ↓reduceIte, Nat.reduceEqDiff, Nat.reduceAdd, Nat.reduceMul, forall_eq_or_imp, forall_eq, implies_true, Nat.reduceBEq, reduceCtorEq, false_implies, List.zip_cons_cons, List.zip_nil_left, List.zip_nil_right, Nat.reduceLeDiff, List.forall_mem_nil, rs_54]
  have g1 : decide (t.sg ≥ (roots.length : Int)) = false := by simp; omega
  have hS : validV t roots = (verS (roots.getD t.sg.toNat []) 4 (voT t) t.sig).2 := by unfold validV; rw [decide_eq_true hf, decide_eq_true hk]; simp
  rw [hS]
  obtain ⟨k0, hk3⟩ := hk.2.2.2.2.2.2.1
  have q2 := voT_at t.kd t.vw t.ht t.bl t.tk t.sg t.sig
  have q3 := sver_at (roots.getD t.sg.toNat []) 4 (voT t) t.sig (by have := voT_len t; omega)
  have hg := textsD roots t.sg.toNat (by omega)
  have g0 : (0 ≤ t.sg) = True := eq_true k0
  generalize verS (roots.getD t.sg.toNat []) 4 (voT t) t.sig = vv at q3 ⊢
  generalize roots.getD t.sg.toNat [] = rt at q3 hg
  generalize voT t = tt at q2 q3
  simp only [runA, runB, runC, runD, runE, runF, fieldE, storeE, binE, ↓reduceIte, Nat.reduceLT, Nat.reduceLeDiff, Nat.reduceEqDiff, Nat.reduceAdd, Nat.reduceMul, Nat.reduceSub, reduceCtorEq, putAt, unE, Nat.reduceBEq, convE, buildE, List.replicate, Int.reduceLT, Int.reduceLE, Int.reduceToNat, mkE, mapSetE, hN, hF, ty_3, ty_4, ty_5, ty_9, ty_22, ty_25, ty_27, ty_74, notIf, isEq, texts_length, h1, q1, b0, g0, g1, hg, h2, q2, h3, q3]
  refine drawnP_intro (by kernel_rfl) (by kernel_rfl) ?_
  simp only [runA, runB, runC, runD, runE, runF, fieldE, storeE, binE, ↓reduceIte, Nat.reduceLT, Nat.reduceLeDiff, Nat.reduceEqDiff, Nat.reduceAdd, Nat.reduceMul, Nat.reduceSub, reduceCtorEq, putAt, unE, Nat.reduceBEq, convE, buildE, List.replicate, Int.reduceLT, Int.reduceLE, Int.reduceToNat, mkE, mapSetE, hN, hF, ty_3, ty_4, ty_5, ty_9, ty_22, ty_25, ty_27, ty_74, notIf, isEq]
  simp only [runB, finC, finD, Option.isSome_some, Option.isSome_none, ↓reduceIte, Nat.reduceEqDiff, Nat.reduceAdd, Nat.reduceMul, forall_eq_or_imp, forall_eq, implies_true, Nat.reduceBEq, reduceCtorEq, false_implies, List.zip_cons_cons, List.zip_nil_left, List.zip_nil_right, Nat.reduceLeDiff, List.forall_mem_nil, rs_54]

end Go.Proofs.Ytldehcnaepgamaa.AM
set_option linter.unusedVariables false
set_option linter.unusedSimpArgs false
namespace Go.Proofs.Ytldehcnaepgamaa.AM
open Go

variable {Γ : FuncId → Contract}

theorem eqg_vo : Try.prog.eqGuardType Try.prog.depth 74 = false := by kernel_rfl
theorem eq_vo (a b c : Int) (s : List UInt8) (d e : Int) (u : List UInt8) (a' b' c' : Int) (s' : List UInt8) (d' e' : Int) (u' : List UInt8) : eqE Try.prog 10000 74 [.int .i64 a, .int .i64 b, .int .i64 c, .str s, .int .i64 d, .int .i64 e, .str u] [.int .i64 a', .int .i64 b', .int .i64 c', .str s', .int .i64 d', .int .i64 e', .str u'] = some ((a == a') && ((b == b') && ((c == c') && ((s == s') && ((d == d') && ((e == e') && ((u == u') && true))))))) := by kernel_rfl

def alive8C : Contract := fun args objs => match args, objs with | [], [] => some ⟨[.pv (.c (.bool true))], []⟩ | _, _ => none
set_option maxHeartbeats 1000000 in
theorem alive8_sound (hΓ : SoundG Try.prog Γ) (h1 : Γ 96 = voCkC) : SoundC Try.prog 49 alive8C := by
  refine sound_fn Try.func49 (by kernel_rfl) rfl rfl ?_
  intro args objs r hr
  unfold alive8C at hr
  split at hr
  · cases hr
    refine ⟨rfl, by show 0 ≤ _; decide, fun E hN hns hF => ?_⟩
    refine vc_sound hΓ mixed _ _ _ ?_
    have hN := hN.trans nt_49
    have q1 : voCkC [.agg [.c (.int .i64 4), .c (.int .i64 3), .c (.int .i64 0), .c (.str []), .c (.int .i64 0), .c (.int .i64 0), .c (.str [])]] [] = some ⟨[.pv (.c (.int .i64 0))], []⟩ := by
      rw [voCk_at ⟨4, 3, 0, [], 0, 0, []⟩]; rfl
    have q2 : voCkC [.agg [.c (.int .i64 4), .c (.int .i64 0), .c (.int .i64 1), .c (.str []), .c (.int .i64 0), .c (.int .i64 0), .c (.str [])]] [] = some ⟨[.pv (.c (.int .i64 9))], []⟩ := by
      rw [voCk_at ⟨4, 0, 1, [], 0, 0, []⟩]; rfl
    have b9 : ((9 : Int) == 9) = true := rfl
    have b0 : ((0 : Int) == 0) = true := rfl
    simp only [runA, runB, runC, runD, runE, runF, fieldE, storeE, binE, ↓reduceIte, Nat.reduceLT, Nat.reduceLeDiff, Nat.reduceEqDiff, Nat.reduceAdd, Nat.reduceMul, Nat.reduceSub, reduceCtorEq, putAt, unE, Nat.reduceBEq, convE, buildE, List.replicate, Int.reduceLT, Int.reduceLE, Int.reduceToNat, mkE, mapSetE, hN, hF, ty_3, ty_4, ty_9, ty_27, ty_74, notIf, isEq, h1, q1, q2, b9, b0]
    simp only [runB, finC, finD, Option.isSome_some, Option.isSome_none, ↓reduceIte, Nat.reduceEqDiff, Nat.reduceAdd, Nat.reduceMul, forall_eq_or_imp, forall_eq, implies_true, Nat.reduceBEq, reduceCtorEq, false_implies, List.zip_cons_cons, List.zip_nil_left, List.zip_nil_right, Nat.reduceLeDiff, List.forall_mem_nil, rs_49]
  · cases hr

theorem okV_signed {t : Vt} (h : okV t) {s : List UInt8} (hs : s.length ≤ 4096) : okV (t.signed s) := by
  obtain ⟨h1, h2, h3, h4, h5, h6, h7, h8⟩ := h
  exact ⟨h1, h2, h3, h4, h5, h6, h7, hs⟩
theorem voT_signed {t : Vt} (h : okV t) {s : List UInt8} (hs : s.length ≤ 4096) : voT (t.signed s) = voT t := by
  unfold voT
  rw [if_pos h, if_pos (okV_signed h hs)]
  rfl

noncomputable def voteBackC : Contract := mkC (α := Vt × Int) (fun p => True) (fun p => [p.1.av, .c (.int .i64 p.2)]) (fun _ => []) (fun _ => ⟨[.pv (.c (.bool true))], []⟩)

set_option maxRecDepth 100000 in
set_option maxHeartbeats 8000000 in
theorem voteBack_sound (hΓ : SoundG Try.prog Γ) (h1 : Γ 49 = alive8C) (h2 : Γ 50 = voKeyC) (h3 : Γ 51 = voSnC) (h4 : Γ 52 = voCkC) (h5 : Γ 18 = rootKC) (h6 : Γ 43 = newC) (h7 : Γ 53 = voPutC) (h8 : Γ 45 = doneC) (h9 : Γ 47 = openC) (h10 : Γ 55 = voRdC) (h11 : Γ 54 = voVaC) : SoundC Try.prog 11 voteBackC := by
  refine sound_fnA ⟨[61], [(13, .frz 11 1)]⟩ Try.func11 (by kernel_rfl) rfl rfl ?_
  intro args objs r0 hr
  obtain ⟨⟨⟨kd, vw, ht, bl, tk, sg, sig⟩, n⟩, _, rfl, rfl, rfl⟩ := mkC_inv hr
  refine ⟨rfl, by show 2 ≤ _; decide, fun E hN hns hF => ?_⟩
  refine vc_sound hΓ mixed _ _ _ ?_
  have hN := hN.trans nt_11
  unfold Vt.av
  dsimp only
  have q1 := voKey_at sg
  have bn : (((0 : Nat) : Int) == 0) = true := rfl
  have bs : (([] : List UInt8) == []) = true := rfl
  have b0 : ((0 : Int) != 0) = false := rfl
  have b0' : ((0 : Int) == 0) = true := rfl
  have b9 : ((9 : Int) != 0) = true := rfl
  have b9' : ((9 : Int) == 9) = true := rfl
  by_cases hf : 0 ≤ sg ∧ sg ≤ 6
  case neg =>
    rw [show voKeyK sg = zeroK from if_neg hf] at q1
    simp only [Ky.av, zeroK, texts, List.map_nil] at q1
    by_cases h0 : sg < 0
    · have g1 : decide (sg < 0) = true := by simpa using h0
      simp only [runA, runB, runC, runD, runE, runF, fieldE, storeE, binE, ↓reduceIte, Nat.reduceLT, Nat.reduceLeDiff, Nat.reduceEqDiff, Nat.reduceAdd, Nat.reduceMul, Nat.reduceSub, reduceCtorEq, putAt, unE, Nat.reduceBEq, convE, buildE, List.replicate, Int.reduceLT, Int.reduceLE, Int.reduceToNat, mkE, mapSetE, hN, hF, ty_3, ty_4, ty_5, ty_9, ty_22, ty_24, ty_25, ty_27, ty_74, ty_86, ty_91, notIf, isEq, h1, alive8C, h2, q1, g1, bn, bs]
      simp only [runB, finC, finD, Option.isSome_some, Option.isSome_none, ↓reduceIte, Nat.reduceEqDiff, Nat.reduceAdd, Nat.reduceMul, forall_eq_or_imp, forall_eq, implies_true, Nat.reduceBEq, reduceCtorEq, false_implies, List.zip_cons_cons, List.zip_nil_left, List.zip_nil_right, Nat.reduceLeDiff, List.forall_mem_nil, rs_11]
    · have g1 : decide (sg < 0) = false := by simpa using h0
      have g2 : decide (sg > 6) = true := by simp; omega
      simp only [runA, runB, runC, runD, runE, runF, fieldE, storeE, binE, ↓reduceIte, Nat.reduceLT, Nat.reduceLeDiff, Nat.reduceEqDiff, Nat.reduceAdd, Nat.reduceMul, Nat.reduceSub, reduceCtorEq, putAt, unE, Nat.reduceBEq, convE, buildE, List.replicate, Int.reduceLT, Int.reduceLE, Int.reduceToNat, mkE, mapSetE, hN, hF, ty_3, ty_4, ty_5, ty_9, ty_22, ty_24, ty_25, ty_27, ty_74, ty_86, ty_91, notIf, isEq, h1, alive8C, h2, q1, g1, g2, bn, bs]
      simp only [runB, finC, finD, Option.isSome_some, Option.isSome_none, ↓reduceIte, Nat.reduceEqDiff, Nat.reduceAdd, Nat.reduceMul, forall_eq_or_imp, forall_eq, implies_true, Nat.reduceBEq, reduceCtorEq, false_implies, List.zip_cons_cons, List.zip_nil_left, List.zip_nil_right, Nat.reduceLeDiff, List.forall_mem_nil, rs_11]
  have g1 : decide (sg < 0) = false := by simp; omega
  have g2 : decide (sg > 6) = false := by simp; omega
  rw [show voKeyK sg = ⟨rsd sg.toNat, leavesS (rsd sg.toNat) 16, 0⟩ from if_pos hf] at q1
  unfold Ky.av at q1
  dsimp only at q1
  have hcl : (rsd sg.toNat).length ≤ 64 := by simp [rsd]
  generalize rsd sg.toNat = sd at q1 hcl
  obtain ⟨q, hq⟩ : ∃ q, q = n.tmod 16 := ⟨_, rfl⟩
  have hq3 : -16 < q ∧ q < 16 := by rw [hq]; exact ⟨Int.lt_tmod_of_pos n (by decide), Int.tmod_lt_of_pos n (by decide)⟩
  have e1 : IntKind.i64.wrap (q + 16) = q + 16 := wrapI (by omega)
  obtain ⟨m, hm⟩ : ∃ m : Nat, (q + 16).tmod 16 = (m : Int) := ⟨((q + 16).tmod 16).toNat, by rw [Int.tmod_eq_emod_of_nonneg (by omega)]; omega⟩
  have hm4 : m < 16 := by rw [Int.tmod_eq_emod_of_nonneg (by omega)] at hm; omega
  have e4 : ((16 : Int) = 0) = False := by simp
  have hll := leavesS_length sd 16
  have q2 := voSn_at ⟨sd, leavesS sd 16, (m : Int)⟩ ⟨kd, vw, ht, bl, tk, sg, []⟩ (by show (leavesS sd 16).length ≤ _; omega)
  have q3 := voCk_at ⟨kd, vw, ht, bl, tk, sg, []⟩
  have hgd : goodK ⟨sd, leavesS sd 16, (m : Int)⟩ := good_new sd 4 m hcl (by decide) (by omega)
  have e5 : IntKind.i64.wrap ((m : Int) + 1) = (m : Int) + 1 := wrapI (by omega)
  by_cases hk : okV ⟨kd, vw, ht, bl, tk, sg, []⟩
  case neg =>
    rw [show signV ⟨sd, leavesS sd 16, (m : Int)⟩ ⟨kd, vw, ht, bl, tk, sg, []⟩ = (zeroV, zeroK, 9) from if_neg hk] at q2
    rw [show voS ⟨kd, vw, ht, bl, tk, sg, []⟩ = 9 from if_neg hk] at q3
    generalize leavesS sd 16 = L at q1 q2
    simp only [Ky.av, zeroK, Vt.av, zeroV] at q2 q3
    rw [show texts [] = [] from rfl] at q2
    simp only [runA, runB, runC, runD, runE, runF, fieldE, storeE, binE, ↓reduceIte, Nat.reduceLT, Nat.reduceLeDiff, Nat.reduceEqDiff, Nat.reduceAdd, Nat.reduceMul, Nat.reduceSub, reduceCtorEq, putAt, unE, Nat.reduceBEq, convE, buildE, List.replicate, Int.reduceLT, Int.reduceLE, Int.reduceToNat, mkE, mapSetE, hN, hF, ty_3, ty_4, ty_5, ty_9, ty_22, ty_24, ty_25, ty_27, ty_74, ty_86, ty_91, notIf, isEq, h1, alive8C, h2, q1, g1, g2, ← hq, e1, hm, e4, h3, q2, h4, q3, b9, b9', eqg_vo, eq_vo, b0', bs]
    simp only [runB, finC, finD, Option.isSome_some, Option.isSome_none, ↓reduceIte, Nat.reduceEqDiff, Nat.reduceAdd, Nat.reduceMul, forall_eq_or_imp, forall_eq, implies_true, Nat.reduceBEq, reduceCtorEq, false_implies, List.zip_cons_cons, List.zip_nil_left, List.zip_nil_right, Nat.reduceLeDiff, List.forall_mem_nil, rs_11]
  rw [show voS ⟨kd, vw, ht, bl, tk, sg, []⟩ = 0 from if_pos hk] at q3
  have hsg : signS ⟨sd, leavesS sd 16, (m : Int)⟩ (voT ⟨kd, vw, ht, bl, tk, sg, []⟩) = (sigB ⟨sd, leavesS sd 16, (m : Int)⟩ (voT ⟨kd, vw, ht, bl, tk, sg, []⟩), ⟨sd, leavesS sd 16, (m : Int) + 1⟩, 0) := by
    unfold signS
    rw [if_pos hgd, if_neg (by show ¬ ((m : Int) = ((leavesS sd 16).length : Int)); rw [hll]; omega)]
    rfl
  have hlen : (sigB ⟨sd, leavesS sd 16, (m : Int)⟩ (voT ⟨kd, vw, ht, bl, tk, sg, []⟩)).length = 122 := sigB_len sd 4 m _ hcl (by decide) (by omega)
  have hvs := ver_sig sd 4 m (voT ⟨kd, vw, ht, bl, tk, sg, []⟩) hcl (by decide) (by omega) hgd
  have hmk : signV ⟨sd, leavesS sd 16, (m : Int)⟩ ⟨kd, vw, ht, bl, tk, sg, []⟩ = (⟨kd, vw, ht, bl, tk, sg, sigB ⟨sd, leavesS sd 16, (m : Int)⟩ (voT ⟨kd, vw, ht, bl, tk, sg, []⟩)⟩, ⟨sd, leavesS sd 16, (m : Int) + 1⟩, 0) := by
    unfold signV
    rw [if_pos hk, hsg, if_pos rfl]
    rfl
  rw [hmk] at q2
  have hvs' : verS (rootS (leavesS sd 16)) 4 (voT ⟨kd, vw, ht, bl, tk, sg, []⟩) (sigB ⟨sd, leavesS sd 16, (m : Int)⟩ (voT ⟨kd, vw, ht, bl, tk, sg, []⟩)) = ((m : Int), true) := hvs
  have q5 := rootK_at ⟨sd, leavesS sd 16, (m : Int)⟩ (by show (leavesS sd 16).length ≤ _; omega)
  rw [show rootK ⟨sd, leavesS sd 16, (m : Int)⟩ = (rootS (leavesS sd 16), 0) from if_pos hgd] at q5
  have htx := voT_signed hk (s := sigB ⟨sd, leavesS sd 16, (m : Int)⟩ (voT ⟨kd, vw, ht, bl, tk, sg, []⟩)) (by omega)
  have hok := okV_signed hk (s := sigB ⟨sd, leavesS sd 16, (m : Int)⟩ (voT ⟨kd, vw, ht, bl, tk, sg, []⟩)) (by omega)
  unfold Vt.signed at htx hok
  dsimp only at htx hok q5 q2
  generalize sigB ⟨sd, leavesS sd 16, (m : Int)⟩ (voT ⟨kd, vw, ht, bl, tk, sg, []⟩) = gs at q2 hlen hvs' htx hok
  generalize leavesS sd 16 = L at q1 q2 q5 hvs'
  generalize rootS L = rt at q5 hvs'
  have hval : ∀ roots : List (List UInt8), roots.length = 7 → roots.getD sg.toNat [] = rt → validV ⟨kd, vw, ht, bl, tk, sg, gs⟩ roots = true := by
    intro roots h1 h2
    unfold validV
    dsimp only
    rw [decide_eq_true hok, h2, htx, hvs', h1, decide_eq_true (by omega)]
    rfl
  have hbl := okV_bl hok
  dsimp only at hbl
  have q6 := voPut_at ⟨[], 0⟩ kd vw ht bl tk sg gs (by simp) (by omega) (by omega)
  rw [voF_ok hok (by simp)] at q6
  have htl := voB_length ⟨kd, vw, ht, bl, tk, sg, gs⟩
  dsimp only at htl
  rw [rText_ok (by omega) (by simp; omega)] at q6
  have hte : [] ++ voB ⟨kd, vw, ht, bl, tk, sg, gs⟩ ++ putB ((gs.length : Nat) : Int) 2 ++ gs = voE ⟨kd, vw, ht, bl, tk, sg, gs⟩ := by simp [voE]
  dsimp only at q6
  rw [hte] at q6
  have htel : (voE ⟨kd, vw, ht, bl, tk, sg, gs⟩).length ≤ 200 := by
    rw [voE_length]
    dsimp only
    omega
  have q7 := done_atw ⟨voE ⟨kd, vw, ht, bl, tk, sg, gs⟩, 0⟩
  rw [show doneR ⟨voE ⟨kd, vw, ht, bl, tk, sg, gs⟩, 0⟩ = (voE ⟨kd, vw, ht, bl, tk, sg, gs⟩, 0) from by unfold doneR; rw [if_pos rfl, if_neg (by show ¬ 16384 < (voE _).length; omega)]] at q7
  have q8 := open_atr (voE ⟨kd, vw, ht, bl, tk, sg, gs⟩) (by omega)
  have q9 := voRd_at ⟨voE ⟨kd, vw, ht, bl, tk, sg, gs⟩, 0⟩ (by show (voE _).length ≤ _; omega)
  have hrd := read_putV hok []
  rw [List.append_nil] at hrd
  rw [hrd] at q9
  unfold Vt.av at q9
  unfold Vt.av Ky.av at q2
  dsimp only at q2 q7 q9
  generalize voE ⟨kd, vw, ht, bl, tk, sg, gs⟩ = bb at q6 q7 q8 q9 htel
  have hbs : ∀ x : List UInt8, (x == x) = true := fun x => by simp
  have hbi : ∀ x : Int, (x == x) = true := fun x => by simp
  have cc0 : ((0 : Int) < ((7 : Nat) : Int)) = True := eq_true (by decide)
  have cc1 : ((1 : Int) < ((7 : Nat) : Int)) = True := eq_true (by decide)
  have cc2 : ((2 : Int) < ((7 : Nat) : Int)) = True := eq_true (by decide)
  have cc3 : ((3 : Int) < ((7 : Nat) : Int)) = True := eq_true (by decide)
  have cc4 : ((4 : Int) < ((7 : Nat) : Int)) = True := eq_true (by decide)
  have cc5 : ((5 : Int) < ((7 : Nat) : Int)) = True := eq_true (by decide)
  have cc6 : ((6 : Int) < ((7 : Nat) : Int)) = True := eq_true (by decide)
  rcases (show sg = 0 ∨ sg = 1 ∨ sg = 2 ∨ sg = 3 ∨ sg = 4 ∨ sg = 5 ∨ sg = 6 by omega) with hfr | hfr | hfr | hfr | hfr | hfr | hfr
  · have hv := voVa_at ⟨kd, vw, ht, bl, tk, sg, gs⟩ [rt, [], [], [], [], [], []] (by simp)
    rw [hval _ rfl (by rw [hfr]; rfl)] at hv
    subst hfr
    simp only [texts, List.map_cons, List.map_nil] at hv
    simp only [runA, runB, runC, runD, runE, runF, fieldE, storeE, binE, ↓reduceIte, Nat.reduceLT, Nat.reduceLeDiff, Nat.reduceEqDiff, Nat.reduceAdd, Nat.reduceMul, Nat.reduceSub, reduceCtorEq, putAt, unE, Nat.reduceBEq, convE, buildE, List.replicate, Int.reduceLT, Int.reduceLE, Int.reduceToNat, mkE, mapSetE, hN, hF, ty_3, ty_4, ty_5, ty_9, ty_22, ty_24, ty_25, ty_27, ty_74, ty_86, ty_91, notIf, isEq, h1, alive8C, h2, q1, g1, g2, ← hq, e1, hm, e4, h3, q2, h4, q3, b0, b0', h5, q5, h6, newC, h7, q6, h8, q7, h9, q8, h10, q9, h11, hv, eqg_vo, eq_vo, hbs, hbi, e5, bytes_length, doHint, cc0, cc1, cc2, cc3, cc4, cc5, cc6, Nat.zero_lt_one]
    refine drawnP_intro (by kernel_rfl) (by kernel_rfl) ?_
    simp only [runA, runB, runC, runD, runE, runF, fieldE, storeE, binE, ↓reduceIte, Nat.reduceLT, Nat.reduceLeDiff, Nat.reduceEqDiff, Nat.reduceAdd, Nat.reduceMul, Nat.reduceSub, reduceCtorEq, putAt, unE, Nat.reduceBEq, convE, buildE, List.replicate, Int.reduceLT, Int.reduceLE, Int.reduceToNat, mkE, mapSetE, hN, hF, ty_3, ty_4, ty_5, ty_9, ty_22, ty_24, ty_25, ty_27, ty_74, ty_86, ty_91, notIf, isEq, h1, alive8C, h2, q1, g1, g2, e1, hm, e4, h3, q2, h4, q3, b0, b0', h5, q5, h6, newC, h7, q6, h8, q7, h9, q8, h10, q9, h11, hv, eqg_vo, eq_vo, hbs, hbi, e5, bytes_length, doHint, cc0, cc1, cc2, cc3, cc4, cc5, cc6, Nat.zero_lt_one]
    simp only [runB, finC, finD, Option.isSome_some, Option.isSome_none, ↓reduceIte, Nat.reduceEqDiff, Nat.reduceAdd, Nat.reduceMul, forall_eq_or_imp, forall_eq, implies_true, Nat.reduceBEq, reduceCtorEq, false_implies, List.zip_cons_cons, List.zip_nil_left, List.zip_nil_right, Nat.reduceLeDiff, List.forall_mem_nil, rs_11]
  · have hv := voVa_at ⟨kd, vw, ht, bl, tk, sg, gs⟩ [[], rt, [], [], [], [], []] (by simp)
    rw [hval _ rfl (by rw [hfr]; rfl)] at hv
    subst hfr
    simp only [texts, List.map_cons, List.map_nil] at hv
    simp only [runA, runB, runC, runD, runE, runF, fieldE, storeE, binE, ↓reduceIte, Nat.reduceLT, Nat.reduceLeDiff, Nat.reduceEqDiff, Nat.reduceAdd, Nat.reduceMul, Nat.reduceSub, reduceCtorEq, putAt, unE, Nat.reduceBEq, convE, buildE, List.replicate, Int.reduceLT, Int.reduceLE, Int.reduceToNat, mkE, mapSetE, hN, hF, ty_3, ty_4, ty_5, ty_9, ty_22, ty_24, ty_25, ty_27, ty_74, ty_86, ty_91, notIf, isEq, h1, alive8C, h2, q1, g1, g2, ← hq, e1, hm, e4, h3, q2, h4, q3, b0, b0', h5, q5, h6, newC, h7, q6, h8, q7, h9, q8, h10, q9, h11, hv, eqg_vo, eq_vo, hbs, hbi, e5, bytes_length, doHint, cc0, cc1, cc2, cc3, cc4, cc5, cc6, Nat.zero_lt_one]
    refine drawnP_intro (by kernel_rfl) (by kernel_rfl) ?_
    simp only [runA, runB, runC, runD, runE, runF, fieldE, storeE, binE, ↓reduceIte, Nat.reduceLT, Nat.reduceLeDiff, Nat.reduceEqDiff, Nat.reduceAdd, Nat.reduceMul, Nat.reduceSub, reduceCtorEq, putAt, unE, Nat.reduceBEq, convE, buildE, List.replicate, Int.reduceLT, Int.reduceLE, Int.reduceToNat, mkE, mapSetE, hN, hF, ty_3, ty_4, ty_5, ty_9, ty_22, ty_24, ty_25, ty_27, ty_74, ty_86, ty_91, notIf, isEq, h1, alive8C, h2, q1, g1, g2, e1, hm, e4, h3, q2, h4, q3, b0, b0', h5, q5, h6, newC, h7, q6, h8, q7, h9, q8, h10, q9, h11, hv, eqg_vo, eq_vo, hbs, hbi, e5, bytes_length, doHint, cc0, cc1, cc2, cc3, cc4, cc5, cc6, Nat.zero_lt_one]
    simp only [runB, finC, finD, Option.isSome_some, Option.isSome_none, ↓reduceIte, Nat.reduceEqDiff, Nat.reduceAdd, Nat.reduceMul, forall_eq_or_imp, forall_eq, implies_true, Nat.reduceBEq, reduceCtorEq, false_implies, List.zip_cons_cons, List.zip_nil_left, List.zip_nil_right, Nat.reduceLeDiff, List.forall_mem_nil, rs_11]
  · have hv := voVa_at ⟨kd, vw, ht, bl, tk, sg, gs⟩ [[], [], rt, [], [], [], []] (by simp)
    rw [hval _ rfl (by rw [hfr]; rfl)] at hv
    subst hfr
    simp only [texts, List.map_cons, List.map_nil] at hv
    simp only [runA, runB, runC, runD, runE, runF, fieldE, storeE, binE, ↓reduceIte, Nat.reduceLT, Nat.reduceLeDiff, Nat.reduceEqDiff, Nat.reduceAdd, Nat.reduceMul, Nat.reduceSub, reduceCtorEq, putAt, unE, Nat.reduceBEq, convE, buildE, List.replicate, Int.reduceLT, Int.reduceLE, Int.reduceToNat, mkE, mapSetE, hN, hF, ty_3, ty_4, ty_5, ty_9, ty_22, ty_24, ty_25, ty_27, ty_74, ty_86, ty_91, notIf, isEq, h1, alive8C, h2, q1, g1, g2, ← hq, e1, hm, e4, h3, q2, h4, q3, b0, b0', h5, q5, h6, newC, h7, q6, h8, q7, h9, q8, h10, q9, h11, hv, eqg_vo, eq_vo, hbs, hbi, e5, bytes_length, doHint, cc0, cc1, cc2, cc3, cc4, cc5, cc6, Nat.zero_lt_one]
    refine drawnP_intro (by kernel_rfl) (by kernel_rfl) ?_
    simp only [runA, runB, runC, runD, runE, runF, fieldE, storeE, binE, ↓reduceIte, Nat.reduceLT, Nat.reduceLeDiff, Nat.reduceEqDiff, Nat.reduceAdd, Nat.reduceMul, Nat.reduceSub, reduceCtorEq, putAt, unE, Nat.reduceBEq, convE, buildE, List.replicate, Int.reduceLT, Int.reduceLE, Int.reduceToNat, mkE, mapSetE, hN, hF, ty_3, ty_4, ty_5, ty_9, ty_22, ty_24, ty_25, ty_27, ty_74, ty_86, ty_91, notIf, isEq, h1, alive8C, h2, q1, g1, g2, e1, hm, e4, h3, q2, h4, q3, b0, b0', h5, q5, h6, newC, h7, q6, h8, q7, h9, q8, h10, q9, h11, hv, eqg_vo, eq_vo, hbs, hbi, e5, bytes_length, doHint, cc0, cc1, cc2, cc3, cc4, cc5, cc6, Nat.zero_lt_one]
    simp only [runB, finC, finD, Option.isSome_some, Option.isSome_none, ↓reduceIte, Nat.reduceEqDiff, Nat.reduceAdd, Nat.reduceMul, forall_eq_or_imp, forall_eq, implies_true, Nat.reduceBEq, reduceCtorEq, false_implies, List.zip_cons_cons, List.zip_nil_left, List.zip_nil_right, Nat.reduceLeDiff, List.forall_mem_nil, rs_11]
  · have hv := voVa_at ⟨kd, vw, ht, bl, tk, sg, gs⟩ [[], [], [], rt, [], [], []] (by simp)
    rw [hval _ rfl (by rw [hfr]; rfl)] at hv
    subst hfr
    simp only [texts, List.map_cons, List.map_nil] at hv
    simp only [runA, runB, runC, runD, runE, runF, fieldE, storeE, binE, ↓reduceIte, Nat.reduceLT, Nat.reduceLeDiff, Nat.reduceEqDiff, Nat.reduceAdd, Nat.reduceMul, Nat.reduceSub, reduceCtorEq, putAt, unE, Nat.reduceBEq, convE, buildE, List.replicate, Int.reduceLT, Int.reduceLE, Int.reduceToNat, mkE, mapSetE, hN, hF, ty_3, ty_4, ty_5, ty_9, ty_22, ty_24, ty_25, ty_27, ty_74, ty_86, ty_91, notIf, isEq, h1, alive8C, h2, q1, g1, g2, ← hq, e1, hm, e4, h3, q2, h4, q3, b0, b0', h5, q5, h6, newC, h7, q6, h8, q7, h9, q8, h10, q9, h11, hv, eqg_vo, eq_vo, hbs, hbi, e5, bytes_length, doHint, cc0, cc1, cc2, cc3, cc4, cc5, cc6, Nat.zero_lt_one]
    refine drawnP_intro (by kernel_rfl) (by kernel_rfl) ?_
    simp only [runA, runB, runC, runD, runE, runF, fieldE, storeE, binE, ↓reduceIte, Nat.reduceLT, Nat.reduceLeDiff, Nat.reduceEqDiff, Nat.reduceAdd, Nat.reduceMul, Nat.reduceSub, reduceCtorEq, putAt, unE, Nat.reduceBEq, convE, buildE, List.replicate, Int.reduceLT, Int.reduceLE, Int.reduceToNat, mkE, mapSetE, hN, hF, ty_3, ty_4, ty_5, ty_9, ty_22, ty_24, ty_25, ty_27, ty_74, ty_86, ty_91, notIf, isEq, h1, alive8C, h2, q1, g1, g2, e1, hm, e4, h3, q2, h4, q3, b0, b0', h5, q5, h6, newC, h7, q6, h8, q7, h9, q8, h10, q9, h11, hv, eqg_vo, eq_vo, hbs, hbi, e5, bytes_length, doHint, cc0, cc1, cc2, cc3, cc4, cc5, cc6, Nat.zero_lt_one]
    simp only [runB, finC, finD, Option.isSome_some, Option.isSome_none, ↓reduceIte, Nat.reduceEqDiff, Nat.reduceAdd, Nat.reduceMul, forall_eq_or_imp, forall_eq, implies_true, Nat.reduceBEq, reduceCtorEq, false_implies, List.zip_cons_cons, List.zip_nil_left, List.zip_nil_right, Nat.reduceLeDiff, List.forall_mem_nil, rs_11]
  · have hv := voVa_at ⟨kd, vw, ht, bl, tk, sg, gs⟩ [[], [], [], [], rt, [], []] (by simp)
    rw [hval _ rfl (by rw [hfr]; rfl)] at hv
    subst hfr
    simp only [texts, List.map_cons, List.map_nil] at hv
    simp only [runA, runB, runC, runD, runE, runF, fieldE, storeE, binE, ↓reduceIte, Nat.reduceLT, Nat.reduceLeDiff, Nat.reduceEqDiff, Nat.reduceAdd, Nat.reduceMul, Nat.reduceSub, reduceCtorEq, putAt, unE, Nat.reduceBEq, convE, buildE, List.replicate, Int.reduceLT, Int.reduceLE, Int.reduceToNat, mkE, mapSetE, hN, hF, ty_3, ty_4, ty_5, ty_9, ty_22, ty_24, ty_25, ty_27, ty_74, ty_86, ty_91, notIf, isEq, h1, alive8C, h2, q1, g1, g2, ← hq, e1, hm, e4, h3, q2, h4, q3, b0, b0', h5, q5, h6, newC, h7, q6, h8, q7, h9, q8, h10, q9, h11, hv, eqg_vo, eq_vo, hbs, hbi, e5, bytes_length, doHint, cc0, cc1, cc2, cc3, cc4, cc5, cc6, Nat.zero_lt_one]
    refine drawnP_intro (by kernel_rfl) (by kernel_rfl) ?_
    simp only [runA, runB, runC, runD, runE, runF, fieldE, storeE, binE, ↓reduceIte, Nat.reduceLT, Nat.reduceLeDiff, Nat.reduceEqDiff, Nat.reduceAdd, Nat.reduceMul, Nat.reduceSub, reduceCtorEq, putAt, unE, Nat.reduceBEq, convE, buildE, List.replicate, Int.reduceLT, Int.reduceLE, Int.reduceToNat, mkE, mapSetE, hN, hF, ty_3, ty_4, ty_5, ty_9, ty_22, ty_24, ty_25, ty_27, ty_74, ty_86, ty_91, notIf, isEq, h1, alive8C, h2, q1, g1, g2, e1, hm, e4, h3, q2, h4, q3, b0, b0', h5, q5, h6, newC, h7, q6, h8, q7, h9, q8, h10, q9, h11, hv, eqg_vo, eq_vo, hbs, hbi, e5, bytes_length, doHint, cc0, cc1, cc2, cc3, cc4, cc5, cc6, Nat.zero_lt_one]
    simp only [runB, finC, finD, Option.isSome_some, Option.isSome_none, ↓reduceIte, Nat.reduceEqDiff, Nat.reduceAdd, Nat.reduceMul, forall_eq_or_imp, forall_eq, implies_true, Nat.reduceBEq, reduceCtorEq, false_implies, List.zip_cons_cons, List.zip_nil_left, List.zip_nil_right, Nat.reduceLeDiff, List.forall_mem_nil, rs_11]
  · have hv := voVa_at ⟨kd, vw, ht, bl, tk, sg, gs⟩ [[], [], [], [], [], rt, []] (by simp)
    rw [hval _ rfl (by rw [hfr]; rfl)] at hv
    subst hfr
    simp only [texts, List.map_cons, List.map_nil] at hv
    simp only [runA, runB, runC, runD, runE, runF, fieldE, storeE, binE, ↓reduceIte, Nat.reduceLT, Nat.reduceLeDiff, Nat.reduceEqDiff, Nat.reduceAdd, Nat.reduceMul, Nat.reduceSub, reduceCtorEq, putAt, unE, Nat.reduceBEq, convE, buildE, List.replicate, Int.reduceLT, Int.reduceLE, Int.reduceToNat, mkE, mapSetE, hN, hF, ty_3, ty_4, ty_5, ty_9, ty_22, ty_24, ty_25, ty_27, ty_74, ty_86, ty_91, notIf, isEq, h1, alive8C, h2, q1, g1, g2, ← hq, e1, hm, e4, h3, q2, h4, q3, b0, b0', h5, q5, h6, newC, h7, q6, h8, q7, h9, q8, h10, q9, h11, hv, eqg_vo, eq_vo, hbs, hbi, e5, bytes_length, doHint, cc0, cc1, cc2, cc3, cc4, cc5, cc6, Nat.zero_lt_one]
    refine drawnP_intro (by kernel_rfl) (by kernel_rfl) ?_
    simp only [runA, runB, runC, runD, runE, runF, fieldE, storeE, binE, ↓reduceIte, Nat.reduceLT, Nat.reduceLeDiff, Nat.reduceEqDiff, Nat.reduceAdd, Nat.reduceMul, Nat.reduceSub, reduceCtorEq, putAt, unE, Nat.reduceBEq, convE, buildE, List.replicate, Int.reduceLT, Int.reduceLE, Int.reduceToNat, mkE, mapSetE, hN, hF, ty_3, ty_4, ty_5, ty_9, ty_22, ty_24, ty_25, ty_27, ty_74, ty_86, ty_91, notIf, isEq, h1, alive8C, h2, q1, g1, g2, e1, hm, e4, h3, q2, h4, q3, b0, b0', h5, q5, h6, newC, h7, q6, h8, q7, h9, q8, h10, q9, h11, hv, eqg_vo, eq_vo, hbs, hbi, e5, bytes_length, doHint, cc0, cc1, cc2, cc3, cc4, cc5, cc6, Nat.zero_lt_one]
    simp only [runB, finC, finD, Option.isSome_some, Option.isSome_none, ↓reduceIte, Nat.reduceEqDiff, Nat.reduceAdd, Nat.reduceMul, forall_eq_or_imp, forall_eq, implies_true, Nat.reduceBEq, reduceCtorEq, false_implies, List.zip_cons_cons, List.zip_nil_left, List.zip_nil_right, Nat.reduceLeDiff, List.forall_mem_nil, rs_11]
  · have hv := voVa_at ⟨kd, vw, ht, bl, tk, sg, gs⟩ [[], [], [], [], [], [], rt] (by simp)
    rw [hval _ rfl (by rw [hfr]; rfl)] at hv
    subst hfr
    simp only [texts, List.map_cons, List.map_nil] at hv
    simp only [runA, runB, runC, runD, runE, runF, fieldE, storeE, binE, ↓reduceIte, Nat.reduceLT, Nat.reduceLeDiff, Nat.reduceEqDiff, Nat.reduceAdd, Nat.reduceMul, Nat.reduceSub, reduceCtorEq, putAt, unE, Nat.reduceBEq, convE, buildE, List.replicate, Int.reduceLT, Int.reduceLE, Int.reduceToNat, mkE, mapSetE, hN, hF, ty_3, ty_4, ty_5, ty_9, ty_22, ty_24, ty_25, ty_27, ty_74, ty_86, ty_91, notIf, isEq, h1, alive8C, h2, q1, g1, g2, ← hq, e1, hm, e4, h3, q2, h4, q3, b0, b0', h5, q5, h6, newC, h7, q6, h8, q7, h9, q8, h10, q9, h11, hv, eqg_vo, eq_vo, hbs, hbi, e5, bytes_length, doHint, cc0, cc1, cc2, cc3, cc4, cc5, cc6, Nat.zero_lt_one]
    refine drawnP_intro (by kernel_rfl) (by kernel_rfl) ?_
    simp only [runA, runB, runC, runD, runE, runF, fieldE, storeE, binE, ↓reduceIte, Nat.reduceLT, Nat.reduceLeDiff, Nat.reduceEqDiff, Nat.reduceAdd, Nat.reduceMul, Nat.reduceSub, reduceCtorEq, putAt, unE, Nat.reduceBEq, convE, buildE, List.replicate, Int.reduceLT, Int.reduceLE, Int.reduceToNat, mkE, mapSetE, hN, hF, ty_3, ty_4, ty_5, ty_9, ty_22, ty_24, ty_25, ty_27, ty_74, ty_86, ty_91, notIf, isEq, h1, alive8C, h2, q1, g1, g2, e1, hm, e4, h3, q2, h4, q3, b0, b0', h5, q5, h6, newC, h7, q6, h8, q7, h9, q8, h10, q9, h11, hv, eqg_vo, eq_vo, hbs, hbi, e5, bytes_length, doHint, cc0, cc1, cc2, cc3, cc4, cc5, cc6, Nat.zero_lt_one]
    simp only [runB, finC, finD, Option.isSome_some, Option.isSome_none, ↓reduceIte, Nat.reduceEqDiff, Nat.reduceAdd, Nat.reduceMul, forall_eq_or_imp, forall_eq, implies_true, Nat.reduceBEq, reduceCtorEq, false_implies, List.zip_cons_cons, List.zip_nil_left, List.zip_nil_right, Nat.reduceLeDiff, List.forall_mem_nil, rs_11]

end Go.Proofs.Ytldehcnaepgamaa.AM
set_option linter.unusedVariables false
set_option linter.unusedSimpArgs false
namespace Go.Proofs.Ytldehcnaepgamaa.AM
open Go

noncomputable def NV1 : FuncId → Contract := (ext (ext (ext (ext (ext (ext (ext (ext (ext (ext NB2 120 faultC) 93 cloneC) 43 newC) 124 readyC) 127 stopC) 85 errC) 128 abC) 129 tkC) 97 replC) 52 voCkC)
theorem NV1_sound : SoundG Try.prog NV1 := (ext_sound (ext_sound (ext_sound (ext_sound (ext_sound (ext_sound (ext_sound (ext_sound (ext_sound (ext_sound NB2_sound fault_sound) clone_sound) new_sound) ready_sound) stop_sound) err_sound) ab_sound) tk_sound) repl_sound) refVoCk_sound)
noncomputable def NV2 : FuncId → Contract := (ext (ext (ext (ext (ext (ext (ext (ext NV1 80 numC) 83 textC) 45 doneC) 126 takeC) 47 openC) 86 leftC) 96 voCkC) 50 voKeyC)
theorem NV2_sound : SoundG Try.prog NV2 := (ext_sound (ext_sound (ext_sound (ext_sound (ext_sound (ext_sound (ext_sound (ext_sound NV1_sound (num_sound NV1_sound rfl rfl)) (text_sound NV1_sound rfl rfl)) (done_sound NV1_sound rfl)) (take_sound NV1_sound rfl)) (open_sound NV1_sound rfl)) (left_sound NV1_sound rfl)) (voCk_sound NV1_sound rfl rfl rfl)) (voKey_sound NV1_sound rfl rfl))
noncomputable def NV3 : FuncId → Contract := (ext (ext (ext (ext NV2 95 rdNumC) 94 rdTextC) 99 voTxC) 49 alive8C)
theorem NV3_sound : SoundG Try.prog NV3 := (ext_sound (ext_sound (ext_sound (ext_sound NV2_sound (rdNum_sound NV2_sound rfl rfl rfl rfl)) (rdText_sound NV2_sound rfl rfl rfl rfl)) (voTx_sound NV2_sound rfl rfl)) (alive8_sound NV2_sound rfl))
noncomputable def NV4 : FuncId → Contract := (ext (ext (ext NV3 53 voPutC) 98 voTC) 55 voRdC)
theorem NV4_sound : SoundG Try.prog NV4 := (ext_sound (ext_sound (ext_sound NV3_sound (voPut_sound NV3_sound rfl rfl)) (voT_sound NV3_sound rfl rfl rfl rfl)) (voRd_sound NV3_sound rfl rfl rfl rfl))
noncomputable def NV5 : FuncId → Contract := (ext (ext NV4 51 voSnC) 54 voVaC)
theorem NV5_sound : SoundG Try.prog NV5 := (ext_sound (ext_sound NV4_sound (voSn_sound NV4_sound rfl rfl rfl)) (voVa_sound NV4_sound rfl rfl rfl))

set_option maxRecDepth 100000 in
theorem vo_cells {N n : Nat} {cs : List PC} (hp : PTn Try.prog N n 74 cs) : ∃ t : Vt, cs = t.pcs ∧ t.sig.length ≤ N := by
  obtain ⟨fs0, f0, h01, h02, h03, h04, h05⟩ := tyField_run fd_74_0
  obtain ⟨fs1, f1, h11, h12, h13, h14, h15⟩ := tyField_run fd_74_1
  obtain ⟨fs2, f2, h21, h22, h23, h24, h25⟩ := tyField_run fd_74_2
  obtain ⟨fs3, f3, h31, h32, h33, h34, h35⟩ := tyField_run fd_74_3
  obtain ⟨fs4, f4, h41, h42, h43, h44, h45⟩ := tyField_run fd_74_4
  obtain ⟨fs5, f5, h51, h52, h53, h54, h55⟩ := tyField_run fd_74_5
  obtain ⟨fs6, f6, h61, h62, h63, h64, h65⟩ := tyField_run fd_74_6
  rw [h01] at h11 h21 h31 h41 h51 h61
  cases h11
  cases h21
  cases h31
  cases h41
  cases h51
  cases h61
  have hct : Try.prog.cellsOf 74 = 7 := by kernel_rfl
  have hk0 : Try.prog.cellsOf 3 = 1 := by kernel_rfl
  have hk1 : Try.prog.cellsOf 9 = 1 := by kernel_rfl
  cases n with
  | zero => exact hp.elim
  | succ n =>
    simp only [PTn, h01, hct] at hp
    obtain ⟨hl, hf⟩ := hp
    have q0 := hf f0 (List.mem_of_getElem? (i := 0) (by simpa using h02))
    rw [h03, h04, hk0] at q0
    have q1 := hf f1 (List.mem_of_getElem? (i := 1) (by simpa using h12))
    rw [h13, h14, hk0] at q1
    have q2 := hf f2 (List.mem_of_getElem? (i := 2) (by simpa using h22))
    rw [h23, h24, hk0] at q2
    have q3 := hf f3 (List.mem_of_getElem? (i := 3) (by simpa using h32))
    rw [h33, h34, hk1] at q3
    have q4 := hf f4 (List.mem_of_getElem? (i := 4) (by simpa using h42))
    rw [h43, h44, hk0] at q4
    have q5 := hf f5 (List.mem_of_getElem? (i := 5) (by simpa using h52))
    rw [h53, h54, hk0] at q5
    have q6 := hf f6 (List.mem_of_getElem? (i := 6) (by simpa using h62))
    rw [h63, h64, hk1] at q6
    match cs, hl with
    | [c0, c1, c2, c3, c4, c5, c6], _ =>
      obtain ⟨a, rfl⟩ := int_cellN (c := c0) q0
      obtain ⟨b, rfl⟩ := int_cellN (c := c1) q1
      obtain ⟨c, rfl⟩ := int_cellN (c := c2) q2
      obtain ⟨s, rfl, hs⟩ := str_cellN (c := c3) q3
      obtain ⟨d, rfl⟩ := int_cellN (c := c4) q4
      obtain ⟨e, rfl⟩ := int_cellN (c := c5) q5
      obtain ⟨u, rfl, hu⟩ := str_cellN (c := c6) q6
      exact ⟨⟨a, b, c, s, d, e, u⟩, rfl, hu⟩
set_option maxRecDepth 100000 in
theorem vo_ofN {N : Nat} {x : AV} (h : AVTn Try.prog N 74 x) : ∃ t : Vt, x = t.av ∧ t.sig.length ≤ N := by
  obtain ⟨n, cs, hp, hx⟩ := h
  obtain ⟨fs, f0, h1, _⟩ := tyField_run fd_74_0
  rw [h1] at hx
  obtain ⟨t, rfl, ht⟩ := vo_cells hp
  exact ⟨t, hx, ht⟩

set_option maxRecDepth 100000 in
theorem voteBack_lifted (os : Os) (started : os.Started) (H : Type) (enc : TypeId × Value → H) :
    ReturnsInHanded {} Try.checked os 11 .any (Rows.voteBackSpec.pre6 enc Try.prog Try.f11 Rows.voteBackRow.domain false) (Rows.voteBackSpec.post enc Try.prog Try.f11 false true false false) := by
  refine returnsInHanded_of_change_sized (C := Try.checked) ownK started (by kernel_rfl) Try.func11
    (ChangeSpec.witness6 (enc := enc) (C := Try.checked) false ⟨#[], #[.agg #[.int .i64 0, .int .i64 0, .int .i64 0, .string ⟨#[]⟩, .int .i64 0, .int .i64 0, .string ⟨#[]⟩], .int .i64 0], []⟩ 8 (by kernel_rfl) (by kernel_rfl) (by kernel_rfl) (by kernel_rfl)) ?_
  intro W base args ds gs before hval hW hcnd hsz _
  refine law_doneN (N := maxLen) laid (voteBack_sound NV5_sound rfl rfl rfl rfl rfl rfl rfl rfl rfl rfl rfl) rfl (ts := [74, 3]) (by kernel_rfl) (tb := 4) (by kernel_rfl) (by kernel_rfl) ?_ ?_ ?_ ?_ hval hW (.inl (Nat.le_refl _))
  · intro t ht; simp only [List.mem_cons, List.not_mem_nil, or_false] at ht; rcases ht with rfl | rfl <;> kernel_rfl
  · intro t ht; simp only [List.mem_cons, List.not_mem_nil, or_false] at ht; rcases ht with rfl | rfl <;> exact ⟨by kernel_rfl, of_decide_eq_true (by kernel_rfl)⟩
  · intro ds hd
    match ds, hd with
    | [a, b], _ => rfl
  · intro xs hxs
    match xs, hxs with
    | [x, y], h =>
      obtain ⟨h1, h2, _⟩ := h
      obtain ⟨t, rfl, ht⟩ := vo_ofN h1
      obtain ⟨n, rfl, n1, n2⟩ := int_ofN h2
      exact mkC_at (α := Vt × Int) ⟨t, n⟩ trivial (fun _ _ _ _ => rfl)
    | [], h => exact h.elim
    | [_], h => exact h.2.elim
    | _ :: _ :: _ :: _, h => exact h.2.2.elim

end Go.Proofs.Ytldehcnaepgamaa.AM
namespace Go.Proofs.Ytldehcnaepgamaa
open Go

theorem voteBack_over : Rows.voteBackRow.holds Try.pinned (OpenSpec.ofChange Rows.voteBackSpec) :=
  OpenClaim.holds_of_wide 11 Try.f11 rfl rfl rfl rfl rfl rfl rfl ⟨rfl, rfl, rfl, rfl, rfl⟩ rfl rfl rfl rfl rfl (by kernel_rfl) Try.func11 (by kernel_rfl)
    (of_decide_eq_true (by kernel_rfl)) (by unfold Func.isWrapper; first | (rw [if_pos (by decide +kernel)]; kernel_rfl) | (rw [if_neg (by decide +kernel)]; exact ⟨rfl, rfl⟩))
    (fun os started H enc _ => AM.voteBack_lifted os started H enc)

/-- The row. -/
theorem voteBack_holds : Rows.VoteBackSaid := voteBack_over
#print axioms voteBack_holds
end Go.Proofs.Ytldehcnaepgamaa
