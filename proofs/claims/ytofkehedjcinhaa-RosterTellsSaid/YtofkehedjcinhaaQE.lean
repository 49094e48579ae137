/-
  QE: Sn6 Sn7 Sn8 PkN PkT Pk8 Pk9 PkA PkB PkC PkD SbA SbB Sn9 SbC Au Ta Tx1 Bk0 Vo1 Wl0.
-/
import Derived.Test.YtofkehedjcinhaaQD
import Derived.Test.YtofkehedjcinhaaQ9
set_option linter.unusedVariables false
set_option linter.unusedSimpArgs false
namespace Go.Proofs.Ytofkehedjcinhaa.AM
open Go

variable {Γ : FuncId → Contract}


variable {Γ : FuncId → Contract}

def Ky.step (k : Ky) : Ky := ⟨k.seed, k.leaves, k.next + 1⟩
def zeroK : Ky := ⟨[], [], 0⟩
structure Sk where
  k : Ky
  text : List UInt8

variable {Γ : FuncId → Contract}


variable {Γ : FuncId → Contract}


variable {Γ : FuncId → Contract}


variable {Γ : FuncId → Contract}


variable {Γ : FuncId → Contract}

structure RS where
  b : List UInt8
  e : Int
  deriving DecidableEq

variable {Γ : FuncId → Contract}


variable {Γ : FuncId → Contract}


variable {Γ : FuncId → Contract}




variable {Γ : FuncId → Contract}

structure Sv where
  root : List UInt8
  h : Int
  text : List UInt8
  sig : List UInt8

variable {Γ : FuncId → Contract}

structure Tl where
  k : Ky
  text : List UInt8
  h : Int

variable {Γ : FuncId → Contract}

/-- Two contracts of one function, the first before the second. -/
def orC (a b : Contract) : Contract := fun x o => match a x o with | some r => some r | none => b x o
theorem orC_sound {f : FuncId} {a b : Contract} (ha : SoundC Try.prog f a) (hb : SoundC Try.prog f b) : SoundC Try.prog f (orC a b) := by
  refine ⟨ha.1, fun args objs r hr => ?_⟩
  unfold orC at hr
  split at hr
  · rename_i r' h
    cases hr
    exact ha.2 args objs _ h
  · exact hb.2 args objs _ hr

def zeroKA : AV := .agg [.c (.str []), .c (.sl []), .c (.int .i64 0)]
def newErrC : Contract := fun args objs => match args, objs with
  | [.c (.str s), .c (.int .i64 n)], [] => if n < 0 ∨ 4 < n then some ⟨[.pv zeroKA, .pv (.c (.int .i64 4))], []⟩ else if 64 < s.length then some ⟨[.pv zeroKA, .pv (.c (.int .i64 5))], []⟩ else none
  | _, _ => none
set_option maxRecDepth 100000 in
set_option maxHeartbeats 1000000 in
theorem newErr_sound : SoundC Try.prog 19 newErrC := by
  refine sound_fn Try.func19 (by kernel_rfl) rfl rfl ?_
  intro args objs r hr
  unfold newErrC at hr
  split at hr
  · rename_i s n
    split at hr
    · rename_i hc
      cases hr
      refine ⟨rfl, by show 2 ≤ _; decide, fun E hN hns hF => ?_⟩
      refine vc_sound none0_sound mixed _ _ _ ?_
      have hN := hN.trans nt_19
      by_cases h0 : n < 0
      · have g1 : decide (n < 0) = true := by simpa using h0
        simp only [runA, runB, runC, runD, runE, runF, fieldE, storeE, binE, ↓reduceIte, Nat.reduceLT, Nat.reduceLeDiff, Nat.reduceEqDiff, Nat.reduceAdd, Nat.reduceMul, Nat.reduceSub, reduceCtorEq, putAt, unE, Nat.reduceBEq, convE, buildE, List.replicate, Int.reduceLT, Int.reduceLE, Int.reduceToNat, mkE, mapSetE, hN, hF, ty_3, ty_9, ty_27, ty_43, ty_61, notIf, isEq, g1]
        simp only [runB, finC, finD, Option.isSome_some, Option.isSome_none, ↓reduceIte, Nat.reduceEqDiff, Nat.reduceAdd, Nat.reduceMul, forall_eq_or_imp, forall_eq, implies_true, Nat.reduceBEq, reduceCtorEq, false_implies, List.zip_cons_cons, List.zip_nil_left, List.zip_nil_right, Nat.reduceLeDiff, List.forall_mem_nil, rs_19, agg_61, sz_61, zeroKA]
      · have g1 : decide (n < 0) = false := by simpa using h0
        have g2 : decide (n > 4) = true := by simp; omega
        simp only [runA, runB, runC, runD, runE, runF, fieldE, storeE, binE, ↓reduceIte, Nat.reduceLT, Nat.reduceLeDiff, Nat.reduceEqDiff, Nat.reduceAdd, Nat.reduceMul, Nat.reduceSub, reduceCtorEq, putAt, unE, Nat.reduceBEq, convE, buildE, List.replicate, Int.reduceLT, Int.reduceLE, Int.reduceToNat, mkE, mapSetE, hN, hF, ty_3, ty_9, ty_27, ty_43, ty_61, notIf, isEq, g1, g2]
        simp only [runB, finC, finD, Option.isSome_some, Option.isSome_none, ↓reduceIte, Nat.reduceEqDiff, Nat.reduceAdd, Nat.reduceMul, forall_eq_or_imp, forall_eq, implies_true, Nat.reduceBEq, reduceCtorEq, false_implies, List.zip_cons_cons, List.zip_nil_left, List.zip_nil_right, Nat.reduceLeDiff, List.forall_mem_nil, rs_19, agg_61, sz_61, zeroKA]
    · rename_i hc
      split at hr
      · rename_i hl
        cases hr
        refine ⟨rfl, by show 2 ≤ _; decide, fun E hN hns hF => ?_⟩
        refine vc_sound none0_sound mixed _ _ _ ?_
        have hN := hN.trans nt_19
        have g1 : decide (n < 0) = false := by simp; omega
        have g2 : decide (n > 4) = false := by simp; omega
        have g3 : decide ((s.length : Int) > 64) = true := by simp; omega
        simp only [runA, runB, runC, runD, runE, runF, fieldE, storeE, binE, ↓reduceIte, Nat.reduceLT, Nat.reduceLeDiff, Nat.reduceEqDiff, Nat.reduceAdd, Nat.reduceMul, Nat.reduceSub, reduceCtorEq, putAt, unE, Nat.reduceBEq, convE, buildE, List.replicate, Int.reduceLT, Int.reduceLE, Int.reduceToNat, mkE, mapSetE, hN, hF, ty_3, ty_9, ty_27, ty_43, ty_61, notIf, isEq, g1, g2, g3]
        simp only [runB, finC, finD, Option.isSome_some, Option.isSome_none, ↓reduceIte, Nat.reduceEqDiff, Nat.reduceAdd, Nat.reduceMul, forall_eq_or_imp, forall_eq, implies_true, Nat.reduceBEq, reduceCtorEq, false_implies, List.zip_cons_cons, List.zip_nil_left, List.zip_nil_right, Nat.reduceLeDiff, List.forall_mem_nil, rs_19, agg_61, sz_61, zeroKA]
      · cases hr
  · cases hr
noncomputable def newGC : Contract := orC newErrC newKeyC
theorem newG_sound (hΓ : SoundG Try.prog Γ) (h1 : Γ 33 = leafC) : SoundC Try.prog 19 newGC := orC_sound newErr_sound (newKey_sound hΓ h1)
theorem newG_at (s : List UInt8) (n : Nat) (h4 : n ≤ 4) (hl : s.length ≤ 64) : newGC [.c (.str s), .c (.int .i64 (n : Int))] [] = some ⟨[.pv (keyAV s (leavesS s (2 ^ n)) 0), .pv (.c (.int .i64 0))], []⟩ := by
  have h1 : ¬ ((n : Int) < 0 ∨ 4 < (n : Int)) := by omega
  have h2 : ¬ (64 < s.length) := by omega
  simp only [newGC, orC, newErrC, if_neg h1, if_neg h2, newKey_at s n hl h4]

structure Bk where
  seed : List UInt8
  h : Int
  l : List (List UInt8)

theorem texts_iff {a b : List (List UInt8)} : texts a = texts b ↔ a = b := ⟨texts_inj, fun h => by rw [h]⟩


variable {Γ : FuncId → Contract}

structure Txn where
  fr : Int
  to : Int
  am : Int
  no : Int
  sig : List UInt8
  deriving DecidableEq
def Txn.pcs (t : Txn) : List PC := [.int .i64 t.fr, .int .i64 t.to, .int .i64 t.am, .int .i64 t.no, .str t.sig]
def Txn.av (t : Txn) : AV := .agg [.c (.int .i64 t.fr), .c (.int .i64 t.to), .c (.int .i64 t.am), .c (.int .i64 t.no), .c (.str t.sig)]
theorem Txn.av_inj {a b : Txn} (h : a.av = b.av) : a = b := by
  obtain ⟨a1, a2, a3, a4, a5⟩ := a
  obtain ⟨b1, b2, b3, b4, b5⟩ := b
  simp only [Txn.av, AV.agg.injEq, List.cons.injEq, AV.c.injEq, PC.str.injEq, PC.int.injEq, true_and, and_true] at h
  obtain ⟨rfl, rfl, rfl, rfl, rfl⟩ := h
  rfl
def okT (t : Txn) : Prop := (0 ≤ t.fr ∧ t.fr ≤ 3) ∧ (0 ≤ t.to ∧ t.to ≤ 3) ∧ t.fr ≠ t.to ∧ 1 ≤ t.am ∧ t.am ≤ 1000 ∧ 0 ≤ t.no ∧ t.no ≤ 1099511627776 ∧ t.sig.length ≤ 4096
instance (t : Txn) : Decidable (okT t) := inferInstanceAs (Decidable (_ ∧ _))
def clientC : Contract := fun args objs => match args, objs with
  | [.c (.int .i64 n)], [] => some ⟨[.pv (.c (.bool (decide (n ≥ 0) && decide (n < 4))))], []⟩
  | _, _ => none
set_option maxHeartbeats 1000000 in
theorem client_sound : SoundC Try.prog 22 clientC := by
  refine sound_fn Try.func22 (by kernel_rfl) rfl rfl ?_
  intro args objs r hr
  unfold clientC at hr
  split at hr
  · rename_i n
    cases hr
    refine ⟨rfl, by show 1 ≤ _; decide, fun E hN hns hF => ?_⟩
    refine vc_sound none0_sound mixed _ _ _ ?_
    have hN := hN.trans nt_22
    simp +contextual (maxSteps := 10000000) only [runA, runB, runC, runD, runE, runF, fieldE, storeE, binE, ↓reduceIte, Nat.reduceLT, Nat.reduceLeDiff, Nat.reduceEqDiff, Nat.reduceAdd, Nat.reduceMul, Nat.reduceSub, reduceCtorEq, putAt, unE, Nat.reduceBEq, convE, buildE, List.replicate, Int.reduceLT, Int.reduceLE, Int.reduceToNat, mkE, mapSetE, hN, hF, ty_3, ty_4, notIf, isEq, bytes_length, false_implies, implies_true]
    simp only [runB, finC, finD, Option.isSome_some, Option.isSome_none, ↓reduceIte, Nat.reduceEqDiff, Nat.reduceAdd, Nat.reduceMul, forall_eq_or_imp, forall_eq, implies_true, Nat.reduceBEq, reduceCtorEq, false_implies, List.zip_cons_cons, List.zip_nil_left, List.zip_nil_right, Nat.reduceLeDiff, List.forall_mem_nil, rs_22]
  · cases hr
theorem client_t {n : Int} (h : 0 ≤ n ∧ n ≤ 3) : clientC [.c (.int .i64 n)] [] = some ⟨[.pv (.c (.bool true))], []⟩ := by
  have h1 : (decide (n ≥ 0) && decide (n < 4)) = true := by simp; omega
  simp only [clientC, h1]
theorem client_f {n : Int} (h : ¬ (0 ≤ n ∧ n ≤ 3)) : clientC [.c (.int .i64 n)] [] = some ⟨[.pv (.c (.bool false))], []⟩ := by
  have h1 : (decide (n ≥ 0) && decide (n < 4)) = false := by simp; omega
  simp only [clientC, h1]


structure Vt where
  kd : Int
  vw : Int
  ht : Int
  bl : List UInt8
  tk : Int
  sg : Int
  sig : List UInt8
  deriving DecidableEq
def Vt.pcs (t : Vt) : List PC := [.int .i64 t.kd, .int .i64 t.vw, .int .i64 t.ht, .str t.bl, .int .i64 t.tk, .int .i64 t.sg, .str t.sig]
def Vt.av (t : Vt) : AV := .agg [.c (.int .i64 t.kd), .c (.int .i64 t.vw), .c (.int .i64 t.ht), .c (.str t.bl), .c (.int .i64 t.tk), .c (.int .i64 t.sg), .c (.str t.sig)]
structure Mk where
  vw : Int
  ht : Int
  bl : List UInt8
  deriving DecidableEq
def Mk.pcs (t : Mk) : List PC := [.int .i64 t.vw, .int .i64 t.ht, .str t.bl]
def Mk.av (t : Mk) : AV := .agg [.c (.int .i64 t.vw), .c (.int .i64 t.ht), .c (.str t.bl)]
theorem Vt.av_inj {a b : Vt} (h : a.av = b.av) : a = b := by
  obtain ⟨a0, a1, a2, a3, a4, a5, a6⟩ := a
  obtain ⟨b0, b1, b2, b3, b4, b5, b6⟩ := b
  simp only [Vt.av, AV.agg.injEq, List.cons.injEq, AV.c.injEq, PC.str.injEq, PC.int.injEq, true_and, and_true] at h
  obtain ⟨rfl, rfl, rfl, rfl, rfl, rfl, rfl⟩ := h
  rfl
theorem Vt.pcs_inj {a b : Vt} (h : a.pcs = b.pcs) : a = b := by
  obtain ⟨a0, a1, a2, a3, a4, a5, a6⟩ := a
  obtain ⟨b0, b1, b2, b3, b4, b5, b6⟩ := b
  simp only [Vt.pcs, List.cons.injEq, PC.str.injEq, PC.int.injEq, true_and, and_true] at h
  obtain ⟨rfl, rfl, rfl, rfl, rfl, rfl, rfl⟩ := h
  rfl
theorem Mk.av_inj {a b : Mk} (h : a.av = b.av) : a = b := by
  obtain ⟨a0, a1, a2⟩ := a
  obtain ⟨b0, b1, b2⟩ := b
  simp only [Mk.av, AV.agg.injEq, List.cons.injEq, AV.c.injEq, PC.str.injEq, PC.int.injEq, true_and, and_true] at h
  obtain ⟨rfl, rfl, rfl⟩ := h
  rfl
theorem Mk.pcs_inj {a b : Mk} (h : a.pcs = b.pcs) : a = b := by
  obtain ⟨a0, a1, a2⟩ := a
  obtain ⟨b0, b1, b2⟩ := b
  simp only [Mk.pcs, List.cons.injEq, PC.str.injEq, PC.int.injEq, true_and, and_true] at h
  obtain ⟨rfl, rfl, rfl⟩ := h
  rfl
theorem Txn.pcs_inj {a b : Txn} (h : a.pcs = b.pcs) : a = b := by
  obtain ⟨a1, a2, a3, a4, a5⟩ := a
  obtain ⟨b1, b2, b3, b4, b5⟩ := b
  simp only [Txn.pcs, List.cons.injEq, PC.str.injEq, PC.int.injEq, true_and, and_true] at h
  obtain ⟨rfl, rfl, rfl, rfl, rfl⟩ := h
  rfl
theorem map_inj' {α β : Type} {f : α → β} (hf : ∀ a b, f a = f b → a = b) : ∀ {l m : List α}, l.map f = m.map f → l = m
  | [], [], _ => rfl
  | [], _ :: _, h => by simp at h
  | _ :: _, [], h => by simp at h
  | a :: l, b :: m, h => by
    simp only [List.map_cons, List.cons.injEq] at h
    rw [hf _ _ h.1, map_inj' hf h.2]
def votes (l : List Vt) : List (List PC) := l.map Vt.pcs
theorem votes_iff {a b : List Vt} : votes a = votes b ↔ a = b := ⟨map_inj' fun _ _ => Vt.pcs_inj, fun h => by rw [h]⟩
def trows (l : List Txn) : List (List PC) := l.map Txn.pcs
theorem trows_iff {a b : List Txn} : trows a = trows b ↔ a = b := ⟨map_inj' fun _ _ => Txn.pcs_inj, fun h => by rw [h]⟩
structure Ct where
  vw : Int
  ht : Int
  bl : List UInt8
  vs : List Vt
  deriving DecidableEq
def Ct.pcs (c : Ct) : List PC := [.int .i64 c.vw, .int .i64 c.ht, .str c.bl, .sl (votes c.vs)]
def Ct.av (c : Ct) : AV := .agg [.c (.int .i64 c.vw), .c (.int .i64 c.ht), .c (.str c.bl), .c (.sl (votes c.vs))]
theorem Ct.av_inj {a b : Ct} (h : a.av = b.av) : a = b := by
  obtain ⟨a1, a2, a3, a4⟩ := a
  obtain ⟨b1, b2, b3, b4⟩ := b
  simp only [Ct.av, AV.agg.injEq, List.cons.injEq, AV.c.injEq, PC.str.injEq, PC.int.injEq, PC.sl.injEq, votes_iff, true_and, and_true] at h
  obtain ⟨rfl, rfl, rfl, rfl⟩ := h
  rfl
structure Blk where
  vw : Int
  ht : Int
  pa : List UInt8
  ju : Ct
  txs : List Txn
  sig : List UInt8
  deriving DecidableEq
def Blk.pcs (b : Blk) : List PC := [.int .i64 b.vw, .int .i64 b.ht, .str b.pa, .int .i64 b.ju.vw, .int .i64 b.ju.ht, .str b.ju.bl, .sl (votes b.ju.vs), .sl (trows b.txs), .str b.sig]
def Blk.av (b : Blk) : AV := .agg [.c (.int .i64 b.vw), .c (.int .i64 b.ht), .c (.str b.pa), .c (.int .i64 b.ju.vw), .c (.int .i64 b.ju.ht), .c (.str b.ju.bl), .c (.sl (votes b.ju.vs)), .c (.sl (trows b.txs)), .c (.str b.sig)]
theorem Blk.av_inj {a b : Blk} (h : a.av = b.av) : a = b := by
  obtain ⟨a1, a2, a3, ⟨a4, a5, a6, a7⟩, a8, a9⟩ := a
  obtain ⟨b1, b2, b3, ⟨b4, b5, b6, b7⟩, b8, b9⟩ := b
  simp only [Blk.av, AV.agg.injEq, List.cons.injEq, AV.c.injEq, PC.str.injEq, PC.int.injEq, PC.sl.injEq, votes_iff, trows_iff, true_and, and_true] at h
  obtain ⟨rfl, rfl, rfl, rfl, rfl, rfl, rfl, rfl, rfl⟩ := h
  rfl
theorem Blk.pcs_inj {a b : Blk} (h : a.pcs = b.pcs) : a = b := by
  obtain ⟨a1, a2, a3, ⟨a4, a5, a6, a7⟩, a8, a9⟩ := a
  obtain ⟨b1, b2, b3, ⟨b4, b5, b6, b7⟩, b8, b9⟩ := b
  simp only [Blk.pcs, List.cons.injEq, PC.str.injEq, PC.int.injEq, PC.sl.injEq, votes_iff, trows_iff, true_and, and_true] at h
  obtain ⟨rfl, rfl, rfl, rfl, rfl, rfl, rfl, rfl, rfl⟩ := h
  rfl

variable {Γ : FuncId → Contract}

def aboutP (t : Vt) : Prop := if t.kd = 4 then t.ht = 0 ∧ t.bl = [] else (0 ≤ t.ht ∧ t.ht ≤ 1048576) ∧ t.bl.length = 32
def tickP (t : Vt) : Prop := if t.kd = 3 then 1 ≤ t.tk ∧ t.tk ≤ 1048576 else t.tk = 0
instance (t : Vt) : Decidable (aboutP t) := by unfold aboutP; infer_instance
instance (t : Vt) : Decidable (tickP t) := by unfold tickP; infer_instance
def okV (t : Vt) : Prop := 1 ≤ t.kd ∧ t.kd ≤ 4 ∧ 0 ≤ t.vw ∧ t.vw ≤ 1048576 ∧ aboutP t ∧ tickP t ∧ (0 ≤ t.sg ∧ t.sg ≤ 6) ∧ t.sig.length ≤ 4096
instance (t : Vt) : Decidable (okV t) := inferInstanceAs (Decidable (_ ∧ _))
def replC : Contract := fun args objs => match args, objs with
  | [.c (.int .i64 n)], [] => some ⟨[.pv (.c (.bool (decide (n ≥ 0) && decide (n < 7))))], []⟩
  | _, _ => none
set_option maxHeartbeats 1000000 in
theorem repl_sound : SoundC Try.prog 18 replC := by
  refine sound_fn Try.func18 (by kernel_rfl) rfl rfl ?_
  intro args objs r hr
  unfold replC at hr
  split at hr
  · rename_i n
    cases hr
    refine ⟨rfl, by show 1 ≤ _; decide, fun E hN hns hF => ?_⟩
    refine vc_sound none0_sound mixed _ _ _ ?_
    have hN := hN.trans nt_18
    cases g1 : decide (n ≥ 0) <;> cases g2 : decide (n < 7)
    all_goals
      simp only [runA, runB, runC, runD, runE, runF, fieldE, storeE, binE, ↓reduceIte, Nat.reduceLT, Nat.reduceLeDiff, Nat.reduceEqDiff, Nat.reduceAdd, Nat.reduceMul, Nat.reduceSub, reduceCtorEq, putAt, unE, Nat.reduceBEq, convE, buildE, List.replicate, Int.reduceLT, Int.reduceLE, Int.reduceToNat, mkE, mapSetE, hN, hF, ty_3, ty_4, notIf, isEq, g1, g2]
    all_goals
      simp only [runB, finC, finD, Option.isSome_some, Option.isSome_none, ↓reduceIte, Nat.reduceEqDiff, Nat.reduceAdd, Nat.reduceMul, forall_eq_or_imp, forall_eq, implies_true, Nat.reduceBEq, reduceCtorEq, false_implies, List.zip_cons_cons, List.zip_nil_left, List.zip_nil_right, Nat.reduceLeDiff, List.forall_mem_nil, rs_18, Bool.and_true, Bool.and_false, Bool.false_and, Bool.true_and]
  · cases hr
theorem repl_t {n : Int} (h : 0 ≤ n ∧ n ≤ 6) : replC [.c (.int .i64 n)] [] = some ⟨[.pv (.c (.bool true))], []⟩ := by
  have h1 : (decide (n ≥ 0) && decide (n < 7)) = true := by simp; omega
  simp only [replC, h1]
theorem repl_f {n : Int} (h : ¬ (0 ≤ n ∧ n ≤ 6)) : replC [.c (.int .i64 n)] [] = some ⟨[.pv (.c (.bool false))], []⟩ := by
  have h1 : (decide (n ≥ 0) && decide (n < 7)) = false := by simp; omega
  simp only [replC, h1]


variable {Γ : FuncId → Contract}

def cs (k : Nat) : List UInt8 := [99, 108, 105, 101, 110, 116] ++ [UInt8.ofNat (48 + k)]
noncomputable def txKeyK (n : Int) : Ky := if 0 ≤ n ∧ n ≤ 3 then ⟨cs n.toNat, leavesS (cs n.toNat) 4, 0⟩ else zeroK
noncomputable def txKeyC : Contract := mkC (α := Int) (fun _ => True) (fun n => [.c (.int .i64 n)]) (fun _ => []) (fun n => ⟨[.pv (txKeyK n).av], []⟩)
theorem txKey_at (n : Int) : txKeyC [.c (.int .i64 n)] [] = some ⟨[.pv (txKeyK n).av], []⟩ :=
  mkC_at (α := Int) n trivial (by
    rintro m _ h _
    simp only [List.cons.injEq, AV.c.injEq, PC.int.injEq, true_and, and_true] at h
    rw [h])
set_option maxRecDepth 100000 in
set_option maxHeartbeats 1000000 in
theorem txKey_sound (hΓ : SoundG Try.prog Γ) (h1 : Γ 22 = clientC) (h2 : Γ 19 = newGC) : SoundC Try.prog 13 txKeyC := by
  refine sound_fn Try.func13 (by kernel_rfl) rfl rfl ?_
  intro args objs r hr
  obtain ⟨n, _, rfl, rfl, rfl⟩ := mkC_inv hr
  by_cases hn : 0 ≤ n ∧ n ≤ 3
  · refine ⟨rfl, by show 1 ≤ _; decide, fun E hN hns hF => ?_⟩
    refine vc_sound hΓ mixed _ _ _ ?_
    have hN := hN.trans nt_13
    have q1 := client_t hn
    have hS : txKeyK n = ⟨cs n.toNat, leavesS (cs n.toNat) 4, 0⟩ := if_pos hn
    rw [hS]
    obtain ⟨k, rfl⟩ : ∃ k : Nat, n = (k : Int) := ⟨n.toNat, by omega⟩
    rw [Int.toNat_natCast]
    have w1 : IntKind.u8.wrap (k : Int) = (k : Int) := by rw [wrapB]; omega
    have w2 : IntKind.u8.wrap (48 + (k : Int)) = ((48 + k : Nat) : Int) := by rw [wrapB]; omega
    have b1 : bytesOf [[PC.int .u8 ((48 + k : Nat) : Int)]] = some [UInt8.ofNat (48 + k)] := by simp only [bytesOf, Int.toNat_natCast]
    have hcs : ([99, 108, 105, 101, 110, 116, UInt8.ofNat (48 + k)] : List UInt8) = cs k := rfl
    have hk : newGC [.c (.str (cs k)), .c (.int .i64 2)] [] = some ⟨[.pv (keyAV (cs k) (leavesS (cs k) 4) 0), .pv (.c (.int .i64 0))], []⟩ := newG_at (cs k) 2 (by decide) (by simp [cs])
    generalize leavesS (cs k) 4 = L at hk ⊢
    simp only [runA, runB, runC, runD, runE, runF, fieldE, storeE, binE, ↓reduceIte, Nat.reduceLT, Nat.reduceLeDiff, Nat.reduceEqDiff, Nat.reduceAdd, Nat.reduceMul, Nat.reduceSub, reduceCtorEq, putAt, unE, Nat.reduceBEq, convE, buildE, List.replicate, Int.reduceLT, Int.reduceLE, Int.reduceToNat, mkE, mapSetE, hN, hF, ty_3, ty_4, ty_5, ty_9, ty_43, ty_61, ty_73, notIf, isEq, h1, q1, w1, w2, b1, hcs, h2, hk, keyAV]
    simp only [runB, finC, finD, Option.isSome_some, Option.isSome_none, ↓reduceIte, Nat.reduceEqDiff, Nat.reduceAdd, Nat.reduceMul, forall_eq_or_imp, forall_eq, implies_true, Nat.reduceBEq, reduceCtorEq, false_implies, List.zip_cons_cons, List.zip_nil_left, List.zip_nil_right, Nat.reduceLeDiff, List.forall_mem_nil, rs_13, agg_61, sz_61, Ky.av]
  · refine ⟨rfl, by show 1 ≤ _; decide, fun E hN hns hF => ?_⟩
    refine vc_sound hΓ mixed _ _ _ ?_
    have hN := hN.trans nt_13
    have q1 := client_f hn
    have hS : txKeyK n = zeroK := if_neg hn
    rw [hS]
    simp only [runA, runB, runC, runD, runE, runF, fieldE, storeE, binE, ↓reduceIte, Nat.reduceLT, Nat.reduceLeDiff, Nat.reduceEqDiff, Nat.reduceAdd, Nat.reduceMul, Nat.reduceSub, reduceCtorEq, putAt, unE, Nat.reduceBEq, convE, buildE, List.replicate, Int.reduceLT, Int.reduceLE, Int.reduceToNat, mkE, mapSetE, hN, hF, ty_3, ty_4, ty_5, ty_9, ty_43, ty_61, ty_73, notIf, isEq, h1, q1]
    simp only [runB, finC, finD, Option.isSome_some, Option.isSome_none, ↓reduceIte, Nat.reduceEqDiff, Nat.reduceAdd, Nat.reduceMul, forall_eq_or_imp, forall_eq, implies_true, Nat.reduceBEq, reduceCtorEq, false_implies, List.zip_cons_cons, List.zip_nil_left, List.zip_nil_right, Nat.reduceLeDiff, List.forall_mem_nil, rs_13, agg_61, sz_61, zeroK, Ky.av, texts, List.map_nil]

def rsd (k : Nat) : List UInt8 := [114, 101, 112, 108, 105, 99, 97] ++ [UInt8.ofNat (48 + k)]
noncomputable def voKeyK (n : Int) : Ky := if 0 ≤ n ∧ n ≤ 6 then ⟨rsd n.toNat, leavesS (rsd n.toNat) 16, 0⟩ else zeroK
noncomputable def voKeyC : Contract := mkC (α := Int) (fun _ => True) (fun n => [.c (.int .i64 n)]) (fun _ => []) (fun n => ⟨[.pv (voKeyK n).av], []⟩)
theorem voKey_at (n : Int) : voKeyC [.c (.int .i64 n)] [] = some ⟨[.pv (voKeyK n).av], []⟩ :=
  mkC_at (α := Int) n trivial (by
    rintro m _ h _
    simp only [List.cons.injEq, AV.c.injEq, PC.int.injEq, true_and, and_true] at h
    rw [h])
set_option maxRecDepth 100000 in
set_option maxHeartbeats 1000000 in
theorem voKey_sound (hΓ : SoundG Try.prog Γ) (h1 : Γ 18 = replC) (h2 : Γ 19 = newGC) : SoundC Try.prog 11 voKeyC := by
  refine sound_fn Try.func11 (by kernel_rfl) rfl rfl ?_
  intro args objs r hr
  obtain ⟨n, _, rfl, rfl, rfl⟩ := mkC_inv hr
  by_cases hn : 0 ≤ n ∧ n ≤ 6
  · refine ⟨rfl, by show 1 ≤ _; decide, fun E hN hns hF => ?_⟩
    refine vc_sound hΓ mixed _ _ _ ?_
    have hN := hN.trans nt_11
    have q1 := repl_t hn
    have hS : voKeyK n = ⟨rsd n.toNat, leavesS (rsd n.toNat) 16, 0⟩ := if_pos hn
    rw [hS]
    obtain ⟨k, rfl⟩ : ∃ k : Nat, n = (k : Int) := ⟨n.toNat, by omega⟩
    rw [Int.toNat_natCast]
    have w1 : IntKind.u8.wrap (k : Int) = (k : Int) := by rw [wrapB]; omega
    have w2 : IntKind.u8.wrap (48 + (k : Int)) = ((48 + k : Nat) : Int) := by rw [wrapB]; omega
    have b1 : bytesOf [[PC.int .u8 ((48 + k : Nat) : Int)]] = some [UInt8.ofNat (48 + k)] := by simp only [bytesOf, Int.toNat_natCast]
    have hcs : ([114, 101, 112, 108, 105, 99, 97, UInt8.ofNat (48 + k)] : List UInt8) = rsd k := rfl
    have hk : newGC [.c (.str (rsd k)), .c (.int .i64 4)] [] = some ⟨[.pv (keyAV (rsd k) (leavesS (rsd k) 16) 0), .pv (.c (.int .i64 0))], []⟩ := newG_at (rsd k) 4 (by decide) (by simp [rsd])
    generalize leavesS (rsd k) 16 = L at hk ⊢
    simp only [runA, runB, runC, runD, runE, runF, fieldE, storeE, binE, ↓reduceIte, Nat.reduceLT, Nat.reduceLeDiff, Nat.reduceEqDiff, Nat.reduceAdd, Nat.reduceMul, Nat.reduceSub, reduceCtorEq, putAt, unE, Nat.reduceBEq, convE, buildE, List.replicate, Int.reduceLT, Int.reduceLE, Int.reduceToNat, mkE, mapSetE, hN, hF, ty_3, ty_4, ty_5, ty_9, ty_43, ty_61, ty_73, notIf, isEq, h1, q1, w1, w2, b1, hcs, h2, hk, keyAV]
    simp only [runB, finC, finD, Option.isSome_some, Option.isSome_none, ↓reduceIte, Nat.reduceEqDiff, Nat.reduceAdd, Nat.reduceMul, forall_eq_or_imp, forall_eq, implies_true, Nat.reduceBEq, reduceCtorEq, false_implies, List.zip_cons_cons, List.zip_nil_left, List.zip_nil_right, Nat.reduceLeDiff, List.forall_mem_nil, rs_11, agg_61, sz_61, Ky.av]
  · refine ⟨rfl, by show 1 ≤ _; decide, fun E hN hns hF => ?_⟩
    refine vc_sound hΓ mixed _ _ _ ?_
    have hN := hN.trans nt_11
    have q1 := repl_f hn
    have hS : voKeyK n = zeroK := if_neg hn
    rw [hS]
    simp only [runA, runB, runC, runD, runE, runF, fieldE, storeE, binE, ↓reduceIte, Nat.reduceLT, Nat.reduceLeDiff, Nat.reduceEqDiff, Nat.reduceAdd, Nat.reduceMul, Nat.reduceSub, reduceCtorEq, putAt, unE, Nat.reduceBEq, convE, buildE, List.replicate, Int.reduceLT, Int.reduceLE, Int.reduceToNat, mkE, mapSetE, hN, hF, ty_3, ty_4, ty_5, ty_9, ty_43, ty_61, ty_73, notIf, isEq, h1, q1]
    simp only [runB, finC, finD, Option.isSome_some, Option.isSome_none, ↓reduceIte, Nat.reduceEqDiff, Nat.reduceAdd, Nat.reduceMul, forall_eq_or_imp, forall_eq, implies_true, Nat.reduceBEq, reduceCtorEq, false_implies, List.zip_cons_cons, List.zip_nil_left, List.zip_nil_right, Nat.reduceLeDiff, List.forall_mem_nil, rs_11, agg_61, sz_61, zeroK, Ky.av, texts, List.map_nil]

theorem op_makeMap {Γ : FuncId → Contract} {P : Program} {M : List Nat} {dd : Tmp} {ty : TypeId} {pos : String} {af : Array Edge} {g : Option (Nat × Bool)} {ρ : Operand → AV} (t : TypeId) : opE Γ P M ⟨some dd, .makeMap t none, ty, pos, af, g⟩ ρ = (match (tyMap P t).bind fun x => tyAgg P x.2 with
    | some ag => .ask (objName dd) fun | none => .ret ⟨.mp (objName dd), [(objName dd, .mp ag [])]⟩ | some _ => .fail
    | none => .fail) := rfl

end Go.Proofs.Ytofkehedjcinhaa.AM
