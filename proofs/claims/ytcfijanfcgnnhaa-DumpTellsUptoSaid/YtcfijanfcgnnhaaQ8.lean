/-
  Q8: Ta Tx1 Bk0 Vo1 Vo6.
-/
import Derived.Test.YtcfijanfcgnnhaaQ5
import Derived.Test.YtcfijanfcgnnhaaQ7
set_option linter.unusedVariables false
set_option linter.unusedSimpArgs false
namespace Go.Proofs.Ytcfijanfcgnnhaa.AM
open Go


variable {Γ : FuncId → Contract}

structure Txn where
  fr : Int
  to : Int
  am : Int
  no : Int
  sig : List UInt8
  deriving DecidableEq
def Txn.pcs (t : Txn) : List PC := [.int .i64 t.fr, .int .i64 t.to, .int .i64 t.am, .int .i64 t.no, .str t.sig]
def Txn.av (t : Txn) : AV := .agg [.c (.int .i64 t.fr), .c (.int .i64 t.to), .c (.int .i64 t.am), .c (.int .i64 t.no), .c (.str t.sig)]
theorem Txn.av_inj {a b : Txn} (h : a.av = b.av) : a = b := by
  obtain ⟨a1, a2, a3, a4, a5⟩ := a
  obtain ⟨b1, b2, b3, b4, b5⟩ := b
  simp only [Txn.av, AV.agg.injEq, List.cons.injEq, AV.c.injEq, PC.str.injEq, PC.int.injEq, true_and, and_true] at h
  obtain ⟨rfl, rfl, rfl, rfl, rfl⟩ := h
  rfl
theorem Txn.av_iff {a b : Txn} : a.av = b.av ↔ a = b := ⟨Txn.av_inj, fun h => by rw [h]⟩
def okT (t : Txn) : Prop := (0 ≤ t.fr ∧ t.fr ≤ 3) ∧ (0 ≤ t.to ∧ t.to ≤ 3) ∧ t.fr ≠ t.to ∧ 1 ≤ t.am ∧ t.am ≤ 1000 ∧ 0 ≤ t.no ∧ t.no ≤ 1099511627776 ∧ t.sig.length ≤ 4096
instance (t : Txn) : Decidable (okT t) := inferInstanceAs (Decidable (_ ∧ _))
def txS (t : Txn) : Int := if okT t then 0 else 9
def clientC : Contract := fun args objs => match args, objs with
  | [.c (.int .i64 n)], [] => some ⟨[.pv (.c (.bool (decide (n ≥ 0) && decide (n < 4))))], []⟩
  | _, _ => none
theorem client_at (n : Int) : clientC [.c (.int .i64 n)] [] = some ⟨[.pv (.c (.bool (decide (n ≥ 0) && decide (n < 4))))], []⟩ := rfl
set_option maxHeartbeats 1000000 in
theorem client_sound : SoundC Try.prog 81 clientC := by
  refine sound_fn Try.func81 (by kernel_rfl) rfl rfl ?_
  intro args objs r hr
  unfold clientC at hr
  split at hr
  · rename_i n
    cases hr
    refine ⟨rfl, by show 1 ≤ _; decide, fun E hN hns hF => ?_⟩
    refine vc_sound none0_sound mixed _ _ _ ?_
    have hN := hN.trans nt_81
    simp +contextual (maxSteps := 10000000) only [runA, runB, runC, runD, runE, runF, fieldE, storeE, binE, ↓reduceIte, Nat.reduceLT, Nat.reduceLeDiff, Nat.reduceEqDiff, Nat.reduceAdd, Nat.reduceMul, Nat.reduceSub, reduceCtorEq, putAt, unE, Nat.reduceBEq, convE, buildE, List.replicate, Int.reduceLT, Int.reduceLE, Int.reduceToNat, mkE, mapSetE, hN, hF, ty_3, ty_4, notIf, isEq, bytes_length, false_implies, implies_true]
    simp only [runB, finC, finD, Option.isSome_some, Option.isSome_none, ↓reduceIte, Nat.reduceEqDiff, Nat.reduceAdd, Nat.reduceMul, forall_eq_or_imp, forall_eq, implies_true, Nat.reduceBEq, reduceCtorEq, false_implies, List.zip_cons_cons, List.zip_nil_left, List.zip_nil_right, Nat.reduceLeDiff, List.forall_mem_nil, rs_81]
  · cases hr
noncomputable def txCkC : Contract := mkC (α := Txn) (fun _ => True) (fun t => [t.av]) (fun _ => []) (fun t => ⟨[.pv (.c (.int .i64 (txS t)))], []⟩)
theorem txCk_at (t : Txn) : txCkC [.agg [.c (.int .i64 t.fr), .c (.int .i64 t.to), .c (.int .i64 t.am), .c (.int .i64 t.no), .c (.str t.sig)]] [] = some ⟨[.pv (.c (.int .i64 (txS t)))], []⟩ :=
  mkC_at (α := Txn) t trivial (by
    rintro y _ h _
    have h' : [y.av] = [t.av] := h
    have e : y = t := Txn.av_inj (by simpa using h')
    rw [e])

set_option maxRecDepth 100000 in
set_option maxHeartbeats 4000000 in
theorem txCk_sound (hΓ : SoundG Try.prog Γ) (h1 : Γ 81 = clientC) : SoundC Try.prog 60 txCkC := by
  refine sound_fn Try.func60 (by kernel_rfl) rfl rfl ?_
  intro args objs r hr
  obtain ⟨⟨fr, to, am, no, sig⟩, _, rfl, rfl, rfl⟩ := mkC_inv hr
  refine ⟨rfl, by show 1 ≤ _; decide, fun E hN hns hF => ?_⟩
  refine vc_sound hΓ mixed _ _ _ ?_
  have hN := hN.trans nt_60
  unfold Txn.av
  simp +contextual (maxSteps := 10000000) only [runA, runB, runC, runD, runE, runF, fieldE, storeE, binE, ↓reduceIte, Nat.reduceLT, Nat.reduceLeDiff, Nat.reduceEqDiff, Nat.reduceAdd, Nat.reduceMul, Nat.reduceSub, reduceCtorEq, putAt, unE, Nat.reduceBEq, convE, buildE, List.replicate, Int.reduceLT, Int.reduceLE, Int.reduceToNat, mkE, mapSetE, hN, hF, ty_3, ty_4, ty_9, ty_42, ty_49, notIf, isEq, bytes_length, false_implies, implies_true, h1, client_at]
  refine ⟨fun hb => ?_, fun hb => ?_⟩
  · have hS : txS ⟨fr, to, am, no, sig⟩ = 9 := if_neg (by simp at hb; unfold okT; simp only; omega)
    simp only [runB, finC, finD, Option.isSome_some, Option.isSome_none, ↓reduceIte, Nat.reduceEqDiff, Nat.reduceAdd, Nat.reduceMul, forall_eq_or_imp, forall_eq, implies_true, Nat.reduceBEq, reduceCtorEq, false_implies, List.zip_cons_cons, List.zip_nil_left, List.zip_nil_right, Nat.reduceLeDiff, List.forall_mem_nil, rs_60, hS]
  · have hS : txS ⟨fr, to, am, no, sig⟩ = 0 := if_pos (by simp at hb; unfold okT; simp only; omega)
    simp only [runB, finC, finD, Option.isSome_some, Option.isSome_none, ↓reduceIte, Nat.reduceEqDiff, Nat.reduceAdd, Nat.reduceMul, forall_eq_or_imp, forall_eq, implies_true, Nat.reduceBEq, reduceCtorEq, false_implies, List.zip_cons_cons, List.zip_nil_left, List.zip_nil_right, Nat.reduceLeDiff, List.forall_mem_nil, rs_60, hS]

set_option maxRecDepth 100000 in
set_option maxHeartbeats 4000000 in
theorem refTxCk_sound : SoundC Try.prog 27 txCkC := by
  refine sound_fn Try.func27 (by kernel_rfl) rfl rfl ?_
  intro args objs r hr
  obtain ⟨⟨fr, to, am, no, sig⟩, _, rfl, rfl, rfl⟩ := mkC_inv hr
  refine ⟨rfl, by show 1 ≤ _; decide, fun E hN hns hF => ?_⟩
  refine vc_sound none0_sound mixed _ _ _ ?_
  have hN := hN.trans nt_27
  unfold Txn.av
  simp +contextual (maxSteps := 10000000) only [runA, runB, runC, runD, runE, runF, fieldE, storeE, binE, ↓reduceIte, Nat.reduceLT, Nat.reduceLeDiff, Nat.reduceEqDiff, Nat.reduceAdd, Nat.reduceMul, Nat.reduceSub, reduceCtorEq, putAt, unE, Nat.reduceBEq, convE, buildE, List.replicate, Int.reduceLT, Int.reduceLE, Int.reduceToNat, mkE, mapSetE, hN, hF, ty_3, ty_9, ty_49, notIf, isEq, bytes_length, false_implies, implies_true]
  refine ⟨fun hb => ?_, fun hb => ?_⟩
  · have hS : txS ⟨fr, to, am, no, sig⟩ = 9 := if_neg (by simp at hb; unfold okT; simp only; omega)
    simp only [runB, finC, finD, Option.isSome_some, Option.isSome_none, ↓reduceIte, Nat.reduceEqDiff, Nat.reduceAdd, Nat.reduceMul, forall_eq_or_imp, forall_eq, implies_true, Nat.reduceBEq, reduceCtorEq, false_implies, List.zip_cons_cons, List.zip_nil_left, List.zip_nil_right, Nat.reduceLeDiff, List.forall_mem_nil, rs_27, hS]
  · have hS : txS ⟨fr, to, am, no, sig⟩ = 0 := if_pos (by simp at hb; unfold okT; simp only; omega)
    simp only [runB, finC, finD, Option.isSome_some, Option.isSome_none, ↓reduceIte, Nat.reduceEqDiff, Nat.reduceAdd, Nat.reduceMul, forall_eq_or_imp, forall_eq, implies_true, Nat.reduceBEq, reduceCtorEq, false_implies, List.zip_cons_cons, List.zip_nil_left, List.zip_nil_right, Nat.reduceLeDiff, List.forall_mem_nil, rs_27, hS]


structure Vt where
  kd : Int
  vw : Int
  ht : Int
  bl : List UInt8
  tk : Int
  sg : Int
  sig : List UInt8
  deriving DecidableEq
def Vt.pcs (t : Vt) : List PC := [.int .i64 t.kd, .int .i64 t.vw, .int .i64 t.ht, .str t.bl, .int .i64 t.tk, .int .i64 t.sg, .str t.sig]
def Vt.av (t : Vt) : AV := .agg [.c (.int .i64 t.kd), .c (.int .i64 t.vw), .c (.int .i64 t.ht), .c (.str t.bl), .c (.int .i64 t.tk), .c (.int .i64 t.sg), .c (.str t.sig)]
structure Mk where
  vw : Int
  ht : Int
  bl : List UInt8
  deriving DecidableEq
def Mk.pcs (t : Mk) : List PC := [.int .i64 t.vw, .int .i64 t.ht, .str t.bl]
def Mk.av (t : Mk) : AV := .agg [.c (.int .i64 t.vw), .c (.int .i64 t.ht), .c (.str t.bl)]
theorem Vt.av_inj {a b : Vt} (h : a.av = b.av) : a = b := by
  obtain ⟨a0, a1, a2, a3, a4, a5, a6⟩ := a
  obtain ⟨b0, b1, b2, b3, b4, b5, b6⟩ := b
  simp only [Vt.av, AV.agg.injEq, List.cons.injEq, AV.c.injEq, PC.str.injEq, PC.int.injEq, true_and, and_true] at h
  obtain ⟨rfl, rfl, rfl, rfl, rfl, rfl, rfl⟩ := h
  rfl
theorem Vt.av_iff {a b : Vt} : a.av = b.av ↔ a = b := ⟨Vt.av_inj, fun h => by rw [h]⟩
theorem Vt.pcs_inj {a b : Vt} (h : a.pcs = b.pcs) : a = b := by
  obtain ⟨a0, a1, a2, a3, a4, a5, a6⟩ := a
  obtain ⟨b0, b1, b2, b3, b4, b5, b6⟩ := b
  simp only [Vt.pcs, List.cons.injEq, PC.str.injEq, PC.int.injEq, true_and, and_true] at h
  obtain ⟨rfl, rfl, rfl, rfl, rfl, rfl, rfl⟩ := h
  rfl
theorem Mk.av_inj {a b : Mk} (h : a.av = b.av) : a = b := by
  obtain ⟨a0, a1, a2⟩ := a
  obtain ⟨b0, b1, b2⟩ := b
  simp only [Mk.av, AV.agg.injEq, List.cons.injEq, AV.c.injEq, PC.str.injEq, PC.int.injEq, true_and, and_true] at h
  obtain ⟨rfl, rfl, rfl⟩ := h
  rfl
theorem Mk.av_iff {a b : Mk} : a.av = b.av ↔ a = b := ⟨Mk.av_inj, fun h => by rw [h]⟩
theorem Mk.pcs_inj {a b : Mk} (h : a.pcs = b.pcs) : a = b := by
  obtain ⟨a0, a1, a2⟩ := a
  obtain ⟨b0, b1, b2⟩ := b
  simp only [Mk.pcs, List.cons.injEq, PC.str.injEq, PC.int.injEq, true_and, and_true] at h
  obtain ⟨rfl, rfl, rfl⟩ := h
  rfl
theorem Txn.pcs_inj {a b : Txn} (h : a.pcs = b.pcs) : a = b := by
  obtain ⟨a1, a2, a3, a4, a5⟩ := a
  obtain ⟨b1, b2, b3, b4, b5⟩ := b
  simp only [Txn.pcs, List.cons.injEq, PC.str.injEq, PC.int.injEq, true_and, and_true] at h
  obtain ⟨rfl, rfl, rfl, rfl, rfl⟩ := h
  rfl
theorem map_inj' {α β : Type} {f : α → β} (hf : ∀ a b, f a = f b → a = b) : ∀ {l m : List α}, l.map f = m.map f → l = m
  | [], [], _ => rfl
  | [], _ :: _, h => by simp at h
  | _ :: _, [], h => by simp at h
  | a :: l, b :: m, h => by
    simp only [List.map_cons, List.cons.injEq] at h
    rw [hf _ _ h.1, map_inj' hf h.2]
def votes (l : List Vt) : List (List PC) := l.map Vt.pcs
theorem votes_iff {a b : List Vt} : votes a = votes b ↔ a = b := ⟨map_inj' fun _ _ => Vt.pcs_inj, fun h => by rw [h]⟩
def trows (l : List Txn) : List (List PC) := l.map Txn.pcs
theorem trows_iff {a b : List Txn} : trows a = trows b ↔ a = b := ⟨map_inj' fun _ _ => Txn.pcs_inj, fun h => by rw [h]⟩
structure Ct where
  vw : Int
  ht : Int
  bl : List UInt8
  vs : List Vt
  deriving DecidableEq
def Ct.pcs (c : Ct) : List PC := [.int .i64 c.vw, .int .i64 c.ht, .str c.bl, .sl (votes c.vs)]
def Ct.av (c : Ct) : AV := .agg [.c (.int .i64 c.vw), .c (.int .i64 c.ht), .c (.str c.bl), .c (.sl (votes c.vs))]
theorem Ct.av_inj {a b : Ct} (h : a.av = b.av) : a = b := by
  obtain ⟨a1, a2, a3, a4⟩ := a
  obtain ⟨b1, b2, b3, b4⟩ := b
  simp only [Ct.av, AV.agg.injEq, List.cons.injEq, AV.c.injEq, PC.str.injEq, PC.int.injEq, PC.sl.injEq, votes_iff, true_and, and_true] at h
  obtain ⟨rfl, rfl, rfl, rfl⟩ := h
  rfl
theorem Ct.av_iff {a b : Ct} : a.av = b.av ↔ a = b := ⟨Ct.av_inj, fun h => by rw [h]⟩
structure Blk where
  vw : Int
  ht : Int
  pa : List UInt8
  ju : Ct
  txs : List Txn
  sig : List UInt8
  deriving DecidableEq
def Blk.pcs (b : Blk) : List PC := [.int .i64 b.vw, .int .i64 b.ht, .str b.pa, .int .i64 b.ju.vw, .int .i64 b.ju.ht, .str b.ju.bl, .sl (votes b.ju.vs), .sl (trows b.txs), .str b.sig]
def Blk.av (b : Blk) : AV := .agg [.c (.int .i64 b.vw), .c (.int .i64 b.ht), .c (.str b.pa), .c (.int .i64 b.ju.vw), .c (.int .i64 b.ju.ht), .c (.str b.ju.bl), .c (.sl (votes b.ju.vs)), .c (.sl (trows b.txs)), .c (.str b.sig)]
theorem Blk.av_inj {a b : Blk} (h : a.av = b.av) : a = b := by
  obtain ⟨a1, a2, a3, ⟨a4, a5, a6, a7⟩, a8, a9⟩ := a
  obtain ⟨b1, b2, b3, ⟨b4, b5, b6, b7⟩, b8, b9⟩ := b
  simp only [Blk.av, AV.agg.injEq, List.cons.injEq, AV.c.injEq, PC.str.injEq, PC.int.injEq, PC.sl.injEq, votes_iff, trows_iff, true_and, and_true] at h
  obtain ⟨rfl, rfl, rfl, rfl, rfl, rfl, rfl, rfl, rfl⟩ := h
  rfl
theorem Blk.av_iff {a b : Blk} : a.av = b.av ↔ a = b := ⟨Blk.av_inj, fun h => by rw [h]⟩
theorem Blk.pcs_inj {a b : Blk} (h : a.pcs = b.pcs) : a = b := by
  obtain ⟨a1, a2, a3, ⟨a4, a5, a6, a7⟩, a8, a9⟩ := a
  obtain ⟨b1, b2, b3, ⟨b4, b5, b6, b7⟩, b8, b9⟩ := b
  simp only [Blk.pcs, List.cons.injEq, PC.str.injEq, PC.int.injEq, PC.sl.injEq, votes_iff, trows_iff, true_and, and_true] at h
  obtain ⟨rfl, rfl, rfl, rfl, rfl, rfl, rfl, rfl, rfl⟩ := h
  rfl

variable {Γ : FuncId → Contract}

def aboutP (t : Vt) : Prop := if t.kd = 4 then t.ht = 0 ∧ t.bl = [] else (0 ≤ t.ht ∧ t.ht ≤ 1048576) ∧ t.bl.length = 32
def tickP (t : Vt) : Prop := if t.kd = 3 then 1 ≤ t.tk ∧ t.tk ≤ 1048576 else t.tk = 0
instance (t : Vt) : Decidable (aboutP t) := by unfold aboutP; infer_instance
instance (t : Vt) : Decidable (tickP t) := by unfold tickP; infer_instance
def okV (t : Vt) : Prop := 1 ≤ t.kd ∧ t.kd ≤ 4 ∧ 0 ≤ t.vw ∧ t.vw ≤ 1048576 ∧ aboutP t ∧ tickP t ∧ (0 ≤ t.sg ∧ t.sg ≤ 6) ∧ t.sig.length ≤ 4096
instance (t : Vt) : Decidable (okV t) := inferInstanceAs (Decidable (_ ∧ _))
def voS (t : Vt) : Int := if okV t then 0 else 9

def replC : Contract := fun args objs => match args, objs with
  | [.c (.int .i64 n)], [] => some ⟨[.pv (.c (.bool (decide (n ≥ 0) && decide (n < 7))))], []⟩
  | _, _ => none
set_option maxHeartbeats 1000000 in
theorem repl_sound : SoundC Try.prog 78 replC := by
  refine sound_fn Try.func78 (by kernel_rfl) rfl rfl ?_
  intro args objs r hr
  unfold replC at hr
  split at hr
  · rename_i n
    cases hr
    refine ⟨rfl, by show 1 ≤ _; decide, fun E hN hns hF => ?_⟩
    refine vc_sound none0_sound mixed _ _ _ ?_
    have hN := hN.trans nt_78
    cases g1 : decide (n ≥ 0) <;> cases g2 : decide (n < 7)
    all_goals
      simp only [runA, runB, runC, runD, runE, runF, fieldE, storeE, binE, ↓reduceIte, Nat.reduceLT, Nat.reduceLeDiff, Nat.reduceEqDiff, Nat.reduceAdd, Nat.reduceMul, Nat.reduceSub, reduceCtorEq, putAt, unE, Nat.reduceBEq, convE, buildE, List.replicate, Int.reduceLT, Int.reduceLE, Int.reduceToNat, mkE, mapSetE, hN, hF, ty_3, ty_4, notIf, isEq, g1, g2]
    all_goals
      simp only [runB, finC, finD, Option.isSome_some, Option.isSome_none, ↓reduceIte, Nat.reduceEqDiff, Nat.reduceAdd, Nat.reduceMul, forall_eq_or_imp, forall_eq, implies_true, Nat.reduceBEq, reduceCtorEq, false_implies, List.zip_cons_cons, List.zip_nil_left, List.zip_nil_right, Nat.reduceLeDiff, List.forall_mem_nil, rs_78, Bool.and_true, Bool.and_false, Bool.false_and, Bool.true_and]
  · cases hr
noncomputable def abC : Contract := mkC (α := Vt) (fun _ => True) (fun t => [t.av]) (fun _ => []) (fun t => ⟨[.pv (.c (.bool (decide (aboutP t))))], []⟩)
noncomputable def tkC : Contract := mkC (α := Vt) (fun _ => True) (fun t => [t.av]) (fun _ => []) (fun t => ⟨[.pv (.c (.bool (decide (tickP t))))], []⟩)
noncomputable def voCkC : Contract := mkC (α := Vt) (fun _ => True) (fun t => [t.av]) (fun _ => []) (fun t => ⟨[.pv (.c (.int .i64 (voS t)))], []⟩)
theorem ab_at (t : Vt) : abC [.agg [.c (.int .i64 t.kd), .c (.int .i64 t.vw), .c (.int .i64 t.ht), .c (.str t.bl), .c (.int .i64 t.tk), .c (.int .i64 t.sg), .c (.str t.sig)]] [] = some ⟨[.pv (.c (.bool (decide (aboutP t))))], []⟩ :=
  mkC_at (α := Vt) t trivial (by
    rintro y _ h _
    have h' : [y.av] = [t.av] := h
    have e : y = t := Vt.av_inj (by simpa using h')
    rw [e])
theorem tk_at (t : Vt) : tkC [.agg [.c (.int .i64 t.kd), .c (.int .i64 t.vw), .c (.int .i64 t.ht), .c (.str t.bl), .c (.int .i64 t.tk), .c (.int .i64 t.sg), .c (.str t.sig)]] [] = some ⟨[.pv (.c (.bool (decide (tickP t))))], []⟩ :=
  mkC_at (α := Vt) t trivial (by
    rintro y _ h _
    have h' : [y.av] = [t.av] := h
    have e : y = t := Vt.av_inj (by simpa using h')
    rw [e])
theorem voCk_at (t : Vt) : voCkC [.agg [.c (.int .i64 t.kd), .c (.int .i64 t.vw), .c (.int .i64 t.ht), .c (.str t.bl), .c (.int .i64 t.tk), .c (.int .i64 t.sg), .c (.str t.sig)]] [] = some ⟨[.pv (.c (.int .i64 (voS t)))], []⟩ :=
  mkC_at (α := Vt) t trivial (by
    rintro y _ h _
    have h' : [y.av] = [t.av] := h
    have e : y = t := Vt.av_inj (by simpa using h')
    rw [e])

set_option maxRecDepth 100000 in
set_option maxHeartbeats 4000000 in
theorem ab_sound : SoundC Try.prog 76 abC := by
  refine sound_fn Try.func76 (by kernel_rfl) rfl rfl ?_
  intro args objs r hr
  obtain ⟨⟨kd, vw, ht, bl, tk, sg, sig⟩, _, rfl, rfl, rfl⟩ := mkC_inv hr
  refine ⟨rfl, by show 1 ≤ _; decide, fun E hN hns hF => ?_⟩
  refine vc_sound none0_sound mixed _ _ _ ?_
  have hN := hN.trans nt_76
  unfold Vt.av
  by_cases c4 : kd = 4
  · have g4 : (kd == 4) = true := by simpa using c4
    have hA : aboutP ⟨kd, vw, ht, bl, tk, sg, sig⟩ ↔ (ht = 0 ∧ bl = []) := by unfold aboutP; rw [if_pos c4]
    by_cases c5 : ht = 0
    · have g5 : (ht == 0) = true := by simpa using c5
      by_cases c6 : bl = []
      · have g6 : (bl == []) = true := by simpa using c6
        have hS : decide (aboutP ⟨kd, vw, ht, bl, tk, sg, sig⟩) = true := decide_eq_true (hA.2 ⟨c5, c6⟩)
        simp only [runA, runB, runC, runD, runE, runF, fieldE, storeE, binE, ↓reduceIte, Nat.reduceLT, Nat.reduceLeDiff, Nat.reduceEqDiff, Nat.reduceAdd, Nat.reduceMul, Nat.reduceSub, reduceCtorEq, putAt, unE, Nat.reduceBEq, convE, buildE, List.replicate, Int.reduceLT, Int.reduceLE, Int.reduceToNat, mkE, mapSetE, hN, hF, ty_3, ty_4, ty_9, ty_47, notIf, isEq, g4, g5, g6]
        simp only [runB, finC, finD, Option.isSome_some, Option.isSome_none, ↓reduceIte, Nat.reduceEqDiff, Nat.reduceAdd, Nat.reduceMul, forall_eq_or_imp, forall_eq, implies_true, Nat.reduceBEq, reduceCtorEq, false_implies, List.zip_cons_cons, List.zip_nil_left, List.zip_nil_right, Nat.reduceLeDiff, List.forall_mem_nil, rs_76, hS]
      · have g6 : (bl == []) = false := by simpa using c6
        have hS : decide (aboutP ⟨kd, vw, ht, bl, tk, sg, sig⟩) = false := decide_eq_false (fun h => c6 (hA.1 h).2)
        simp only [runA, runB, runC, runD, runE, runF, fieldE, storeE, binE, ↓reduceIte, Nat.reduceLT, Nat.reduceLeDiff, Nat.reduceEqDiff, Nat.reduceAdd, Nat.reduceMul, Nat.reduceSub, reduceCtorEq, putAt, unE, Nat.reduceBEq, convE, buildE, List.replicate, Int.reduceLT, Int.reduceLE, Int.reduceToNat, mkE, mapSetE, hN, hF, ty_3, ty_4, ty_9, ty_47, notIf, isEq, g4, g5, g6]
        simp only [runB, finC, finD, Option.isSome_some, Option.isSome_none, ↓reduceIte, Nat.reduceEqDiff, Nat.reduceAdd, Nat.reduceMul, forall_eq_or_imp, forall_eq, implies_true, Nat.reduceBEq, reduceCtorEq, false_implies, List.zip_cons_cons, List.zip_nil_left, List.zip_nil_right, Nat.reduceLeDiff, List.forall_mem_nil, rs_76, hS]
    · have g5 : (ht == 0) = false := by simpa using c5
      have hS : decide (aboutP ⟨kd, vw, ht, bl, tk, sg, sig⟩) = false := decide_eq_false (fun h => c5 (hA.1 h).1)
      simp only [runA, runB, runC, runD, runE, runF, fieldE, storeE, binE, ↓reduceIte, Nat.reduceLT, Nat.reduceLeDiff, Nat.reduceEqDiff, Nat.reduceAdd, Nat.reduceMul, Nat.reduceSub, reduceCtorEq, putAt, unE, Nat.reduceBEq, convE, buildE, List.replicate, Int.reduceLT, Int.reduceLE, Int.reduceToNat, mkE, mapSetE, hN, hF, ty_3, ty_4, ty_9, ty_47, notIf, isEq, g4, g5]
      simp only [runB, finC, finD, Option.isSome_some, Option.isSome_none, ↓reduceIte, Nat.reduceEqDiff, Nat.reduceAdd, Nat.reduceMul, forall_eq_or_imp, forall_eq, implies_true, Nat.reduceBEq, reduceCtorEq, false_implies, List.zip_cons_cons, List.zip_nil_left, List.zip_nil_right, Nat.reduceLeDiff, List.forall_mem_nil, rs_76, hS]
  · have g4 : (kd == 4) = false := by simpa using c4
    have hA : aboutP ⟨kd, vw, ht, bl, tk, sg, sig⟩ ↔ ((0 ≤ ht ∧ ht ≤ 1048576) ∧ bl.length = 32) := by unfold aboutP; rw [if_neg c4]
    by_cases c5 : 0 ≤ ht
    · have g5 : decide (ht ≥ 0) = true := by simpa using c5
      by_cases c6 : ht ≤ 1048576
      · have g6 : decide (ht ≤ 1048576) = true := by simpa using c6
        by_cases c7 : bl.length = 32
        · have g7 : ((bl.length : Int) == 32) = true := by rw [c7]; rfl
          have hS : decide (aboutP ⟨kd, vw, ht, bl, tk, sg, sig⟩) = true := decide_eq_true (hA.2 ⟨⟨c5, c6⟩, c7⟩)
          simp only [runA, runB, runC, runD, runE, runF, fieldE, storeE, binE, ↓reduceIte, Nat.reduceLT, Nat.reduceLeDiff, Nat.reduceEqDiff, Nat.reduceAdd, Nat.reduceMul, Nat.reduceSub, reduceCtorEq, putAt, unE, Nat.reduceBEq, convE, buildE, List.replicate, Int.reduceLT, Int.reduceLE, Int.reduceToNat, mkE, mapSetE, hN, hF, ty_3, ty_4, ty_9, ty_47, notIf, isEq, g4, g5, g6, g7]
          simp only [runB, finC, finD, Option.isSome_some, Option.isSome_none, ↓reduceIte, Nat.reduceEqDiff, Nat.reduceAdd, Nat.reduceMul, forall_eq_or_imp, forall_eq, implies_true, Nat.reduceBEq, reduceCtorEq, false_implies, List.zip_cons_cons, List.zip_nil_left, List.zip_nil_right, Nat.reduceLeDiff, List.forall_mem_nil, rs_76, hS]
        · have g7 : ((bl.length : Int) == 32) = false := by rw [beq_eq_false_iff_ne]; omega
          have hS : decide (aboutP ⟨kd, vw, ht, bl, tk, sg, sig⟩) = false := decide_eq_false (fun h => c7 (hA.1 h).2)
          simp only [runA, runB, runC, runD, runE, runF, fieldE, storeE, binE, ↓reduceIte, Nat.reduceLT, Nat.reduceLeDiff, Nat.reduceEqDiff, Nat.reduceAdd, Nat.reduceMul, Nat.reduceSub, reduceCtorEq, putAt, unE, Nat.reduceBEq, convE, buildE, List.replicate, Int.reduceLT, Int.reduceLE, Int.reduceToNat, mkE, mapSetE, hN, hF, ty_3, ty_4, ty_9, ty_47, notIf, isEq, g4, g5, g6, g7]
          simp only [runB, finC, finD, Option.isSome_some, Option.isSome_none, ↓reduceIte, Nat.reduceEqDiff, Nat.reduceAdd, Nat.reduceMul, forall_eq_or_imp, forall_eq, implies_true, Nat.reduceBEq, reduceCtorEq, false_implies, List.zip_cons_cons, List.zip_nil_left, List.zip_nil_right, Nat.reduceLeDiff, List.forall_mem_nil, rs_76, hS]
      · have g6 : decide (ht ≤ 1048576) = false := by simpa using c6
        have hS : decide (aboutP ⟨kd, vw, ht, bl, tk, sg, sig⟩) = false := decide_eq_false (fun h => c6 (hA.1 h).1.2)
        simp only [runA, runB, runC, runD, runE, runF, fieldE, storeE, binE, ↓reduceIte, Nat.reduceLT, Nat.reduceLeDiff, Nat.reduceEqDiff, Nat.reduceAdd, Nat.reduceMul, Nat.reduceSub, reduceCtorEq, putAt, unE, Nat.reduceBEq, convE, buildE, List.replicate, Int.reduceLT, Int.reduceLE, Int.reduceToNat, mkE, mapSetE, hN, hF, ty_3, ty_4, ty_9, ty_47, notIf, isEq, g4, g5, g6]
        simp only [runB, finC, finD, Option.isSome_some, Option.isSome_none, ↓reduceIte, Nat.reduceEqDiff, Nat.reduceAdd, Nat.reduceMul, forall_eq_or_imp, forall_eq, implies_true, Nat.reduceBEq, reduceCtorEq, false_implies, List.zip_cons_cons, List.zip_nil_left, List.zip_nil_right, Nat.reduceLeDiff, List.forall_mem_nil, rs_76, hS]
    · have g5 : decide (ht ≥ 0) = false := by simpa using c5
      have hS : decide (aboutP ⟨kd, vw, ht, bl, tk, sg, sig⟩) = false := decide_eq_false (fun h => c5 (hA.1 h).1.1)
      simp only [runA, runB, runC, runD, runE, runF, fieldE, storeE, binE, ↓reduceIte, Nat.reduceLT, Nat.reduceLeDiff, Nat.reduceEqDiff, Nat.reduceAdd, Nat.reduceMul, Nat.reduceSub, reduceCtorEq, putAt, unE, Nat.reduceBEq, convE, buildE, List.replicate, Int.reduceLT, Int.reduceLE, Int.reduceToNat, mkE, mapSetE, hN, hF, ty_3, ty_4, ty_9, ty_47, notIf, isEq, g4, g5]
      simp only [runB, finC, finD, Option.isSome_some, Option.isSome_none, ↓reduceIte, Nat.reduceEqDiff, Nat.reduceAdd, Nat.reduceMul, forall_eq_or_imp, forall_eq, implies_true, Nat.reduceBEq, reduceCtorEq, false_implies, List.zip_cons_cons, List.zip_nil_left, List.zip_nil_right, Nat.reduceLeDiff, List.forall_mem_nil, rs_76, hS]

set_option maxRecDepth 100000 in
set_option maxHeartbeats 4000000 in
theorem tk_sound : SoundC Try.prog 77 tkC := by
  refine sound_fn Try.func77 (by kernel_rfl) rfl rfl ?_
  intro args objs r hr
  obtain ⟨⟨kd, vw, ht, bl, tk, sg, sig⟩, _, rfl, rfl, rfl⟩ := mkC_inv hr
  refine ⟨rfl, by show 1 ≤ _; decide, fun E hN hns hF => ?_⟩
  refine vc_sound none0_sound mixed _ _ _ ?_
  have hN := hN.trans nt_77
  unfold Vt.av
  by_cases c4 : kd = 3
  · have g4 : (kd == 3) = true := by simpa using c4
    have hA : tickP ⟨kd, vw, ht, bl, tk, sg, sig⟩ ↔ (1 ≤ tk ∧ tk ≤ 1048576) := by unfold tickP; rw [if_pos c4]
    by_cases c5 : 1 ≤ tk
    · have g5 : decide (tk ≥ 1) = true := by simpa using c5
      by_cases c6 : tk ≤ 1048576
      · have g6 : decide (tk ≤ 1048576) = true := by simpa using c6
        have hS : decide (tickP ⟨kd, vw, ht, bl, tk, sg, sig⟩) = true := decide_eq_true (hA.2 ⟨c5, c6⟩)
        simp only [runA, runB, runC, runD, runE, runF, fieldE, storeE, binE, ↓reduceIte, Nat.reduceLT, Nat.reduceLeDiff, Nat.reduceEqDiff, Nat.reduceAdd, Nat.reduceMul, Nat.reduceSub, reduceCtorEq, putAt, unE, Nat.reduceBEq, convE, buildE, List.replicate, Int.reduceLT, Int.reduceLE, Int.reduceToNat, mkE, mapSetE, hN, hF, ty_3, ty_4, ty_9, ty_47, notIf, isEq, g4, g5, g6]
        simp only [runB, finC, finD, Option.isSome_some, Option.isSome_none, ↓reduceIte, Nat.reduceEqDiff, Nat.reduceAdd, Nat.reduceMul, forall_eq_or_imp, forall_eq, implies_true, Nat.reduceBEq, reduceCtorEq, false_implies, List.zip_cons_cons, List.zip_nil_left, List.zip_nil_right, Nat.reduceLeDiff, List.forall_mem_nil, rs_77, hS]
      · have g6 : decide (tk ≤ 1048576) = false := by simpa using c6
        have hS : decide (tickP ⟨kd, vw, ht, bl, tk, sg, sig⟩) = false := decide_eq_false (fun h => c6 (hA.1 h).2)
        simp only [runA, runB, runC, runD, runE, runF, fieldE, storeE, binE, ↓reduceIte, Nat.reduceLT, Nat.reduceLeDiff, Nat.reduceEqDiff, Nat.reduceAdd, Nat.reduceMul, Nat.reduceSub, reduceCtorEq, putAt, unE, Nat.reduceBEq, convE, buildE, List.replicate, Int.reduceLT, Int.reduceLE, Int.reduceToNat, mkE, mapSetE, hN, hF, ty_3, ty_4, ty_9, ty_47, notIf, isEq, g4, g5, g6]
        simp only [runB, finC, finD, Option.isSome_some, Option.isSome_none, ↓reduceIte, Nat.reduceEqDiff, Nat.reduceAdd, Nat.reduceMul, forall_eq_or_imp, forall_eq, implies_true, Nat.reduceBEq, reduceCtorEq, false_implies, List.zip_cons_cons, List.zip_nil_left, List.zip_nil_right, Nat.reduceLeDiff, List.forall_mem_nil, rs_77, hS]
    · have g5 : decide (tk ≥ 1) = false := by simpa using c5
      have hS : decide (tickP ⟨kd, vw, ht, bl, tk, sg, sig⟩) = false := decide_eq_false (fun h => c5 (hA.1 h).1)
      simp only [runA, runB, runC, runD, runE, runF, fieldE, storeE, binE, ↓reduceIte, Nat.reduceLT, Nat.reduceLeDiff, Nat.reduceEqDiff, Nat.reduceAdd, Nat.reduceMul, Nat.reduceSub, reduceCtorEq, putAt, unE, Nat.reduceBEq, convE, buildE, List.replicate, Int.reduceLT, Int.reduceLE, Int.reduceToNat, mkE, mapSetE, hN, hF, ty_3, ty_4, ty_9, ty_47, notIf, isEq, g4, g5]
      simp only [runB, finC, finD, Option.isSome_some, Option.isSome_none, ↓reduceIte, Nat.reduceEqDiff, Nat.reduceAdd, Nat.reduceMul, forall_eq_or_imp, forall_eq, implies_true, Nat.reduceBEq, reduceCtorEq, false_implies, List.zip_cons_cons, List.zip_nil_left, List.zip_nil_right, Nat.reduceLeDiff, List.forall_mem_nil, rs_77, hS]
  · have g4 : (kd == 3) = false := by simpa using c4
    have hA : tickP ⟨kd, vw, ht, bl, tk, sg, sig⟩ ↔ tk = 0 := by unfold tickP; rw [if_neg c4]
    have hS : decide (tickP ⟨kd, vw, ht, bl, tk, sg, sig⟩) = (tk == 0) := by
      by_cases c5 : tk = 0
      · rw [decide_eq_true (hA.2 c5)]; simp [c5]
      · rw [decide_eq_false (fun h => c5 (hA.1 h))]; simp [c5]
    simp only [runA, runB, runC, runD, runE, runF, fieldE, storeE, binE, ↓reduceIte, Nat.reduceLT, Nat.reduceLeDiff, Nat.reduceEqDiff, Nat.reduceAdd, Nat.reduceMul, Nat.reduceSub, reduceCtorEq, putAt, unE, Nat.reduceBEq, convE, buildE, List.replicate, Int.reduceLT, Int.reduceLE, Int.reduceToNat, mkE, mapSetE, hN, hF, ty_3, ty_4, ty_9, ty_47, notIf, isEq, g4]
    simp only [runB, finC, finD, Option.isSome_some, Option.isSome_none, ↓reduceIte, Nat.reduceEqDiff, Nat.reduceAdd, Nat.reduceMul, forall_eq_or_imp, forall_eq, implies_true, Nat.reduceBEq, reduceCtorEq, false_implies, List.zip_cons_cons, List.zip_nil_left, List.zip_nil_right, Nat.reduceLeDiff, List.forall_mem_nil, rs_77, hS]
theorem replA_at (n : Int) : replC [.c (.int .i64 n)] [] = some ⟨[.pv (.c (.bool (decide (n ≥ 0) && decide (n < 7))))], []⟩ := rfl

set_option maxRecDepth 100000 in
set_option maxHeartbeats 4000000 in
theorem voCk_sound (hΓ : SoundG Try.prog Γ) (h1 : Γ 76 = abC) (h2 : Γ 77 = tkC) (h3 : Γ 78 = replC) : SoundC Try.prog 56 voCkC := by
  refine sound_fn Try.func56 (by kernel_rfl) rfl rfl ?_
  intro args objs r hr
  obtain ⟨⟨kd, vw, ht, bl, tk, sg, sig⟩, _, rfl, rfl, rfl⟩ := mkC_inv hr
  refine ⟨rfl, by show 1 ≤ _; decide, fun E hN hns hF => ?_⟩
  refine vc_sound hΓ mixed _ _ _ ?_
  have hN := hN.trans nt_56
  unfold Vt.av
  have q1 := ab_at ⟨kd, vw, ht, bl, tk, sg, sig⟩
  have q2 := tk_at ⟨kd, vw, ht, bl, tk, sg, sig⟩
  dsimp only at q1 q2
  simp +contextual (maxSteps := 10000000) only [runA, runB, runC, runD, runE, runF, fieldE, storeE, binE, ↓reduceIte, Nat.reduceLT, Nat.reduceLeDiff, Nat.reduceEqDiff, Nat.reduceAdd, Nat.reduceMul, Nat.reduceSub, reduceCtorEq, putAt, unE, Nat.reduceBEq, convE, buildE, List.replicate, Int.reduceLT, Int.reduceLE, Int.reduceToNat, mkE, mapSetE, hN, hF, ty_3, ty_4, ty_9, ty_42, ty_47, notIf, isEq, bytes_length, false_implies, implies_true, h1, h2, h3, q1, q2, replA_at]
  refine ⟨fun b1 => ?_, fun b1 => ?_⟩
  · have hS : voS ⟨kd, vw, ht, bl, tk, sg, sig⟩ = 9 := if_neg (fun ⟨a1, a2, a3, a4, a5, a6, ⟨a7, a7'⟩, a8⟩ => by
      simp only at a1 a2 a3 a4 a7 a7' a8
      rw [decide_eq_true a5, decide_eq_true a6] at b1
      revert b1; simp; omega)
    simp only [runB, finC, finD, Option.isSome_some, Option.isSome_none, ↓reduceIte, Nat.reduceEqDiff, Nat.reduceAdd, Nat.reduceMul, forall_eq_or_imp, forall_eq, implies_true, Nat.reduceBEq, reduceCtorEq, false_implies, List.zip_cons_cons, List.zip_nil_left, List.zip_nil_right, Nat.reduceLeDiff, List.forall_mem_nil, rs_56, ty_3, ty_4, ty_9, ty_42, ty_47, hS]
  · have hS : voS ⟨kd, vw, ht, bl, tk, sg, sig⟩ = 0 := if_pos (by
      simp only [Bool.or_eq_false_iff, decide_eq_false_iff_not, Bool.not_eq_false', Bool.and_eq_true, decide_eq_true_eq] at b1
      obtain ⟨⟨⟨⟨⟨⟨⟨x1, x2⟩, x3⟩, x4⟩, x5⟩, x6⟩, x7⟩, x8⟩ := b1
      exact ⟨by simp only; omega, by simp only; omega, by simp only; omega, by simp only; omega, x5, x6, ⟨by simp only; omega, by simp only; omega⟩, by simp only; omega⟩)
    simp only [runB, finC, finD, Option.isSome_some, Option.isSome_none, ↓reduceIte, Nat.reduceEqDiff, Nat.reduceAdd, Nat.reduceMul, forall_eq_or_imp, forall_eq, implies_true, Nat.reduceBEq, reduceCtorEq, false_implies, List.zip_cons_cons, List.zip_nil_left, List.zip_nil_right, Nat.reduceLeDiff, List.forall_mem_nil, rs_56, ty_3, ty_4, ty_9, ty_42, ty_47, hS]


variable {Γ : FuncId → Contract}

set_option maxRecDepth 100000 in
set_option maxHeartbeats 40000000 in
theorem refVoCk_sound : SoundC Try.prog 24 voCkC := by
  refine sound_fn Try.func24 (by kernel_rfl) rfl rfl ?_
  intro args objs r hr
  obtain ⟨⟨kd, vw, ht, bl, tk, sg, sig⟩, _, rfl, rfl, rfl⟩ := mkC_inv hr
  refine ⟨rfl, by show 1 ≤ _; decide, fun E hN hns hF => ?_⟩
  refine vc_sound none0_sound mixed _ _ _ ?_
  have hN := hN.trans nt_24
  unfold Vt.av
  by_cases hca : 1 ≤ kd
  case neg =>
    have ga : decide (kd < 1) = true := by simp; omega
    have hS : voS ⟨kd, vw, ht, bl, tk, sg, sig⟩ = 9 := if_neg (by rintro ⟨a1, a2, a3, a4, a5, a6, a7, a8⟩; exact hca a1)
    simp (maxSteps := 10000000) only [runA, runB, runC, runD, runE, runF, fieldE, storeE, binE, ↓reduceIte, Nat.reduceLT, Nat.reduceLeDiff, Nat.reduceEqDiff, Nat.reduceAdd, Nat.reduceMul, Nat.reduceSub, reduceCtorEq, putAt, unE, Nat.reduceBEq, convE, buildE, List.replicate, Int.reduceLT, Int.reduceLE, Int.reduceToNat, mkE, mapSetE, hN, hF, ty_3, ty_9, ty_47, notIf, isEq, ga]
    simp only [runB, finC, finD, Option.isSome_some, Option.isSome_none, ↓reduceIte, Nat.reduceEqDiff, Nat.reduceAdd, Nat.reduceMul, forall_eq_or_imp, forall_eq, implies_true, Nat.reduceBEq, reduceCtorEq, false_implies, List.zip_cons_cons, List.zip_nil_left, List.zip_nil_right, Nat.reduceLeDiff, List.forall_mem_nil, rs_24, hS]
  have ga : decide (kd < 1) = false := by simp; omega
  by_cases hcb : kd ≤ 4
  case neg =>
    have gb : decide (kd > 4) = true := by simp; omega
    have hS : voS ⟨kd, vw, ht, bl, tk, sg, sig⟩ = 9 := if_neg (by rintro ⟨a1, a2, a3, a4, a5, a6, a7, a8⟩; exact hcb a2)
    simp (maxSteps := 10000000) only [runA, runB, runC, runD, runE, runF, fieldE, storeE, binE, ↓reduceIte, Nat.reduceLT, Nat.reduceLeDiff, Nat.reduceEqDiff, Nat.reduceAdd, Nat.reduceMul, Nat.reduceSub, reduceCtorEq, putAt, unE, Nat.reduceBEq, convE, buildE, List.replicate, Int.reduceLT, Int.reduceLE, Int.reduceToNat, mkE, mapSetE, hN, hF, ty_3, ty_9, ty_47, notIf, isEq, ga, gb]
    simp only [runB, finC, finD, Option.isSome_some, Option.isSome_none, ↓reduceIte, Nat.reduceEqDiff, Nat.reduceAdd, Nat.reduceMul, forall_eq_or_imp, forall_eq, implies_true, Nat.reduceBEq, reduceCtorEq, false_implies, List.zip_cons_cons, List.zip_nil_left, List.zip_nil_right, Nat.reduceLeDiff, List.forall_mem_nil, rs_24, hS]
  have gb : decide (kd > 4) = false := by simp; omega
  by_cases hcc : 0 ≤ vw
  case neg =>
    have gc : decide (vw < 0) = true := by simp; omega
    have hS : voS ⟨kd, vw, ht, bl, tk, sg, sig⟩ = 9 := if_neg (by rintro ⟨a1, a2, a3, a4, a5, a6, a7, a8⟩; exact hcc a3)
    simp (maxSteps := 10000000) only [runA, runB, runC, runD, runE, runF, fieldE, storeE, binE, ↓reduceIte, Nat.reduceLT, Nat.reduceLeDiff, Nat.reduceEqDiff, Nat.reduceAdd, Nat.reduceMul, Nat.reduceSub, reduceCtorEq, putAt, unE, Nat.reduceBEq, convE, buildE, List.replicate, Int.reduceLT, Int.reduceLE, Int.reduceToNat, mkE, mapSetE, hN, hF, ty_3, ty_9, ty_47, notIf, isEq, ga, gb, gc]
    simp only [runB, finC, finD, Option.isSome_some, Option.isSome_none, ↓reduceIte, Nat.reduceEqDiff, Nat.reduceAdd, Nat.reduceMul, forall_eq_or_imp, forall_eq, implies_true, Nat.reduceBEq, reduceCtorEq, false_implies, List.zip_cons_cons, List.zip_nil_left, List.zip_nil_right, Nat.reduceLeDiff, List.forall_mem_nil, rs_24, hS]
  have gc : decide (vw < 0) = false := by simp; omega
  by_cases hcd : vw ≤ 1048576
  case neg =>
    have gd : decide (vw > 1048576) = true := by simp; omega
    have hS : voS ⟨kd, vw, ht, bl, tk, sg, sig⟩ = 9 := if_neg (by rintro ⟨a1, a2, a3, a4, a5, a6, a7, a8⟩; exact hcd a4)
    simp (maxSteps := 10000000) only [runA, runB, runC, runD, runE, runF, fieldE, storeE, binE, ↓reduceIte, Nat.reduceLT, Nat.reduceLeDiff, Nat.reduceEqDiff, Nat.reduceAdd, Nat.reduceMul, Nat.reduceSub, reduceCtorEq, putAt, unE, Nat.reduceBEq, convE, buildE, List.replicate, Int.reduceLT, Int.reduceLE, Int.reduceToNat, mkE, mapSetE, hN, hF, ty_3, ty_9, ty_47, notIf, isEq, ga, gb, gc, gd]
    simp only [runB, finC, finD, Option.isSome_some, Option.isSome_none, ↓reduceIte, Nat.reduceEqDiff, Nat.reduceAdd, Nat.reduceMul, forall_eq_or_imp, forall_eq, implies_true, Nat.reduceBEq, reduceCtorEq, false_implies, List.zip_cons_cons, List.zip_nil_left, List.zip_nil_right, Nat.reduceLeDiff, List.forall_mem_nil, rs_24, hS]
  have gd : decide (vw > 1048576) = false := by simp; omega
  by_cases hci : 0 ≤ ht
  case neg =>
    have gi : decide (ht < 0) = true := by simp; omega
    have hS : voS ⟨kd, vw, ht, bl, tk, sg, sig⟩ = 9 := if_neg (by rintro ⟨a1, a2, a3, a4, a5, a6, a7, a8⟩; unfold aboutP at a5; dsimp only at a5; split at a5 <;> omega)
    simp (maxSteps := 10000000) only [runA, runB, runC, runD, runE, runF, fieldE, storeE, binE, ↓reduceIte, Nat.reduceLT, Nat.reduceLeDiff, Nat.reduceEqDiff, Nat.reduceAdd, Nat.reduceMul, Nat.reduceSub, reduceCtorEq, putAt, unE, Nat.reduceBEq, convE, buildE, List.replicate, Int.reduceLT, Int.reduceLE, Int.reduceToNat, mkE, mapSetE, hN, hF, ty_3, ty_9, ty_47, notIf, isEq, ga, gb, gc, gd, gi]
    simp only [runB, finC, finD, Option.isSome_some, Option.isSome_none, ↓reduceIte, Nat.reduceEqDiff, Nat.reduceAdd, Nat.reduceMul, forall_eq_or_imp, forall_eq, implies_true, Nat.reduceBEq, reduceCtorEq, false_implies, List.zip_cons_cons, List.zip_nil_left, List.zip_nil_right, Nat.reduceLeDiff, List.forall_mem_nil, rs_24, hS]
  have gi : decide (ht < 0) = false := by simp; omega
  by_cases hcj : ht ≤ 1048576
  case neg =>
    have gj : decide (ht > 1048576) = true := by simp; omega
    have hS : voS ⟨kd, vw, ht, bl, tk, sg, sig⟩ = 9 := if_neg (by rintro ⟨a1, a2, a3, a4, a5, a6, a7, a8⟩; unfold aboutP at a5; dsimp only at a5; split at a5 <;> omega)
    simp (maxSteps := 10000000) only [runA, runB, runC, runD, runE, runF, fieldE, storeE, binE, ↓reduceIte, Nat.reduceLT, Nat.reduceLeDiff, Nat.reduceEqDiff, Nat.reduceAdd, Nat.reduceMul, Nat.reduceSub, reduceCtorEq, putAt, unE, Nat.reduceBEq, convE, buildE, List.replicate, Int.reduceLT, Int.reduceLE, Int.reduceToNat, mkE, mapSetE, hN, hF, ty_3, ty_9, ty_47, notIf, isEq, ga, gb, gc, gd, gi, gj]
    simp only [runB, finC, finD, Option.isSome_some, Option.isSome_none, ↓reduceIte, Nat.reduceEqDiff, Nat.reduceAdd, Nat.reduceMul, forall_eq_or_imp, forall_eq, implies_true, Nat.reduceBEq, reduceCtorEq, false_implies, List.zip_cons_cons, List.zip_nil_left, List.zip_nil_right, Nat.reduceLeDiff, List.forall_mem_nil, rs_24, hS]
  have gj : decide (ht > 1048576) = false := by simp; omega
  by_cases hck : 0 ≤ sg
  case neg =>
    have gk : decide (sg < 0) = true := by simp; omega
    have hS : voS ⟨kd, vw, ht, bl, tk, sg, sig⟩ = 9 := if_neg (by rintro ⟨a1, a2, a3, a4, a5, a6, a7, a8⟩; exact hck a7.1)
    simp (maxSteps := 10000000) only [runA, runB, runC, runD, runE, runF, fieldE, storeE, binE, ↓reduceIte, Nat.reduceLT, Nat.reduceLeDiff, Nat.reduceEqDiff, Nat.reduceAdd, Nat.reduceMul, Nat.reduceSub, reduceCtorEq, putAt, unE, Nat.reduceBEq, convE, buildE, List.replicate, Int.reduceLT, Int.reduceLE, Int.reduceToNat, mkE, mapSetE, hN, hF, ty_3, ty_9, ty_47, notIf, isEq, ga, gb, gc, gd, gi, gj, gk]
    simp only [runB, finC, finD, Option.isSome_some, Option.isSome_none, ↓reduceIte, Nat.reduceEqDiff, Nat.reduceAdd, Nat.reduceMul, forall_eq_or_imp, forall_eq, implies_true, Nat.reduceBEq, reduceCtorEq, false_implies, List.zip_cons_cons, List.zip_nil_left, List.zip_nil_right, Nat.reduceLeDiff, List.forall_mem_nil, rs_24, hS]
  have gk : decide (sg < 0) = false := by simp; omega
  by_cases hcl : sg ≤ 6
  case neg =>
    have gl : decide (sg > 6) = true := by simp; omega
    have hS : voS ⟨kd, vw, ht, bl, tk, sg, sig⟩ = 9 := if_neg (by rintro ⟨a1, a2, a3, a4, a5, a6, a7, a8⟩; exact hcl a7.2)
    simp (maxSteps := 10000000) only [runA, runB, runC, runD, runE, runF, fieldE, storeE, binE, ↓reduceIte, Nat.reduceLT, Nat.reduceLeDiff, Nat.reduceEqDiff, Nat.reduceAdd, Nat.reduceMul, Nat.reduceSub, reduceCtorEq, putAt, unE, Nat.reduceBEq, convE, buildE, List.replicate, Int.reduceLT, Int.reduceLE, Int.reduceToNat, mkE, mapSetE, hN, hF, ty_3, ty_9, ty_47, notIf, isEq, ga, gb, gc, gd, gi, gj, gk, gl]
    simp only [runB, finC, finD, Option.isSome_some, Option.isSome_none, ↓reduceIte, Nat.reduceEqDiff, Nat.reduceAdd, Nat.reduceMul, forall_eq_or_imp, forall_eq, implies_true, Nat.reduceBEq, reduceCtorEq, false_implies, List.zip_cons_cons, List.zip_nil_left, List.zip_nil_right, Nat.reduceLeDiff, List.forall_mem_nil, rs_24, hS]
  have gl : decide (sg > 6) = false := by simp; omega
  by_cases hch : sig.length ≤ 4096
  case neg =>
    have gh : decide ((sig.length : Int) > 4096) = true := by simp; omega
    have hS : voS ⟨kd, vw, ht, bl, tk, sg, sig⟩ = 9 := if_neg (by rintro ⟨a1, a2, a3, a4, a5, a6, a7, a8⟩; exact hch a8)
    simp (maxSteps := 10000000) only [runA, runB, runC, runD, runE, runF, fieldE, storeE, binE, ↓reduceIte, Nat.reduceLT, Nat.reduceLeDiff, Nat.reduceEqDiff, Nat.reduceAdd, Nat.reduceMul, Nat.reduceSub, reduceCtorEq, putAt, unE, Nat.reduceBEq, convE, buildE, List.replicate, Int.reduceLT, Int.reduceLE, Int.reduceToNat, mkE, mapSetE, hN, hF, ty_3, ty_9, ty_47, notIf, isEq, ga, gb, gc, gd, gi, gj, gk, gl, gh]
    simp only [runB, finC, finD, Option.isSome_some, Option.isSome_none, ↓reduceIte, Nat.reduceEqDiff, Nat.reduceAdd, Nat.reduceMul, forall_eq_or_imp, forall_eq, implies_true, Nat.reduceBEq, reduceCtorEq, false_implies, List.zip_cons_cons, List.zip_nil_left, List.zip_nil_right, Nat.reduceLeDiff, List.forall_mem_nil, rs_24, hS]
  have gh : decide ((sig.length : Int) > 4096) = false := by simp; omega
  by_cases c4 : kd = 4
  · have g4 : (kd == 4) = true := by simpa using c4
    have g4' : (kd != 4) = false := by simp [c4]
    have g3 : (kd == 3) = false := by simp; omega
    have g3' : (kd != 3) = true := by simp; omega
    have hA : aboutP ⟨kd, vw, ht, bl, tk, sg, sig⟩ ↔ (ht = 0 ∧ bl = []) := by unfold aboutP; rw [if_pos c4]
    have hT : tickP ⟨kd, vw, ht, bl, tk, sg, sig⟩ ↔ tk = 0 := by unfold tickP; rw [if_neg (by show ¬ kd = 3; omega)]
    by_cases c5 : ht = 0
    case neg =>
      have g5 : (ht != 0) = true := by simpa using c5
      have hS : voS ⟨kd, vw, ht, bl, tk, sg, sig⟩ = 9 := if_neg (by rintro ⟨a1, a2, a3, a4, a5, a6, a7, a8⟩; exact c5 (hA.1 a5).1)
      simp (maxSteps := 10000000) only [runA, runB, runC, runD, runE, runF, fieldE, storeE, binE, ↓reduceIte, Nat.reduceLT, Nat.reduceLeDiff, Nat.reduceEqDiff, Nat.reduceAdd, Nat.reduceMul, Nat.reduceSub, reduceCtorEq, putAt, unE, Nat.reduceBEq, convE, buildE, List.replicate, Int.reduceLT, Int.reduceLE, Int.reduceToNat, mkE, mapSetE, hN, hF, ty_3, ty_9, ty_47, notIf, isEq, ga, gb, gc, gd, gi, gj, gk, gl, gh, g4, g4', g3, g3', g5]
      simp only [runB, finC, finD, Option.isSome_some, Option.isSome_none, ↓reduceIte, Nat.reduceEqDiff, Nat.reduceAdd, Nat.reduceMul, forall_eq_or_imp, forall_eq, implies_true, Nat.reduceBEq, reduceCtorEq, false_implies, List.zip_cons_cons, List.zip_nil_left, List.zip_nil_right, Nat.reduceLeDiff, List.forall_mem_nil, rs_24, hS]
    have g5 : (ht != 0) = false := by simpa using c5
    by_cases c6 : bl = []
    case neg =>
      have g6 : (bl == []) = false := by simpa using c6
      have hS : voS ⟨kd, vw, ht, bl, tk, sg, sig⟩ = 9 := if_neg (by rintro ⟨a1, a2, a3, a4, a5, a6, a7, a8⟩; exact c6 (hA.1 a5).2)
      simp (maxSteps := 10000000) only [runA, runB, runC, runD, runE, runF, fieldE, storeE, binE, ↓reduceIte, Nat.reduceLT, Nat.reduceLeDiff, Nat.reduceEqDiff, Nat.reduceAdd, Nat.reduceMul, Nat.reduceSub, reduceCtorEq, putAt, unE, Nat.reduceBEq, convE, buildE, List.replicate, Int.reduceLT, Int.reduceLE, Int.reduceToNat, mkE, mapSetE, hN, hF, ty_3, ty_9, ty_47, notIf, isEq, ga, gb, gc, gd, gi, gj, gk, gl, gh, g4, g4', g3, g3', g5, g6]
      simp only [runB, finC, finD, Option.isSome_some, Option.isSome_none, ↓reduceIte, Nat.reduceEqDiff, Nat.reduceAdd, Nat.reduceMul, forall_eq_or_imp, forall_eq, implies_true, Nat.reduceBEq, reduceCtorEq, false_implies, List.zip_cons_cons, List.zip_nil_left, List.zip_nil_right, Nat.reduceLeDiff, List.forall_mem_nil, rs_24, hS]
    have g6 : (bl == []) = true := by simpa using c6
    by_cases c7 : tk = 0
    case neg =>
      have g7 : (tk != 0) = true := by simpa using c7
      have hS : voS ⟨kd, vw, ht, bl, tk, sg, sig⟩ = 9 := if_neg (by rintro ⟨a1, a2, a3, a4, a5, a6, a7, a8⟩; exact c7 (hT.1 a6))
      simp (maxSteps := 10000000) only [runA, runB, runC, runD, runE, runF, fieldE, storeE, binE, ↓reduceIte, Nat.reduceLT, Nat.reduceLeDiff, Nat.reduceEqDiff, Nat.reduceAdd, Nat.reduceMul, Nat.reduceSub, reduceCtorEq, putAt, unE, Nat.reduceBEq, convE, buildE, List.replicate, Int.reduceLT, Int.reduceLE, Int.reduceToNat, mkE, mapSetE, hN, hF, ty_3, ty_9, ty_47, notIf, isEq, ga, gb, gc, gd, gi, gj, gk, gl, gh, g4, g4', g3, g3', g5, g6, g7]
      simp only [runB, finC, finD, Option.isSome_some, Option.isSome_none, ↓reduceIte, Nat.reduceEqDiff, Nat.reduceAdd, Nat.reduceMul, forall_eq_or_imp, forall_eq, implies_true, Nat.reduceBEq, reduceCtorEq, false_implies, List.zip_cons_cons, List.zip_nil_left, List.zip_nil_right, Nat.reduceLeDiff, List.forall_mem_nil, rs_24, hS]
    have g7 : (tk != 0) = false := by simpa using c7
    have hS : voS ⟨kd, vw, ht, bl, tk, sg, sig⟩ = 0 := if_pos ⟨hca, hcb, hcc, hcd, hA.2 ⟨c5, c6⟩, hT.2 c7, ⟨hck, hcl⟩, hch⟩
    simp (maxSteps := 10000000) only [runA, runB, runC, runD, runE, runF, fieldE, storeE, binE, ↓reduceIte, Nat.reduceLT, Nat.reduceLeDiff, Nat.reduceEqDiff, Nat.reduceAdd, Nat.reduceMul, Nat.reduceSub, reduceCtorEq, putAt, unE, Nat.reduceBEq, convE, buildE, List.replicate, Int.reduceLT, Int.reduceLE, Int.reduceToNat, mkE, mapSetE, hN, hF, ty_3, ty_9, ty_47, notIf, isEq, ga, gb, gc, gd, gi, gj, gk, gl, gh, g4, g4', g3, g3', g5, g6, g7]
    simp only [runB, finC, finD, Option.isSome_some, Option.isSome_none, ↓reduceIte, Nat.reduceEqDiff, Nat.reduceAdd, Nat.reduceMul, forall_eq_or_imp, forall_eq, implies_true, Nat.reduceBEq, reduceCtorEq, false_implies, List.zip_cons_cons, List.zip_nil_left, List.zip_nil_right, Nat.reduceLeDiff, List.forall_mem_nil, rs_24, hS]
  have g4 : (kd == 4) = false := by simpa using c4
  have g4' : (kd != 4) = true := by simpa using c4
  have hA : aboutP ⟨kd, vw, ht, bl, tk, sg, sig⟩ ↔ ((0 ≤ ht ∧ ht ≤ 1048576) ∧ bl.length = 32) := by unfold aboutP; rw [if_neg c4]
  by_cases c6 : bl.length = 32
  case neg =>
    have g6 : ((bl.length : Int) != 32) = true := by rw [bne_iff_ne]; omega
    have hS : voS ⟨kd, vw, ht, bl, tk, sg, sig⟩ = 9 := if_neg (by rintro ⟨a1, a2, a3, a4, a5, a6, a7, a8⟩; exact c6 (hA.1 a5).2)
    simp (maxSteps := 10000000) only [runA, runB, runC, runD, runE, runF, fieldE, storeE, binE, ↓reduceIte, Nat.reduceLT, Nat.reduceLeDiff, Nat.reduceEqDiff, Nat.reduceAdd, Nat.reduceMul, Nat.reduceSub, reduceCtorEq, putAt, unE, Nat.reduceBEq, convE, buildE, List.replicate, Int.reduceLT, Int.reduceLE, Int.reduceToNat, mkE, mapSetE, hN, hF, ty_3, ty_9, ty_47, notIf, isEq, ga, gb, gc, gd, gi, gj, gk, gl, gh, g4, g4', g6]
    simp only [runB, finC, finD, Option.isSome_some, Option.isSome_none, ↓reduceIte, Nat.reduceEqDiff, Nat.reduceAdd, Nat.reduceMul, forall_eq_or_imp, forall_eq, implies_true, Nat.reduceBEq, reduceCtorEq, false_implies, List.zip_cons_cons, List.zip_nil_left, List.zip_nil_right, Nat.reduceLeDiff, List.forall_mem_nil, rs_24, hS]
  have g6 : ((bl.length : Int) != 32) = false := by rw [c6]; rfl
  by_cases c3 : kd = 3
  · have g3 : (kd == 3) = true := by simpa using c3
    have g3' : (kd != 3) = false := by simp [c3]
    have hT : tickP ⟨kd, vw, ht, bl, tk, sg, sig⟩ ↔ (1 ≤ tk ∧ tk ≤ 1048576) := by unfold tickP; rw [if_pos c3]
    by_cases c7 : 1 ≤ tk
    case neg =>
      have g7 : decide (tk < 1) = true := by simp; omega
      have hS : voS ⟨kd, vw, ht, bl, tk, sg, sig⟩ = 9 := if_neg (by rintro ⟨a1, a2, a3, a4, a5, a6, a7, a8⟩; exact c7 (hT.1 a6).1)
      simp (maxSteps := 10000000) only [runA, runB, runC, runD, runE, runF, fieldE, storeE, binE, ↓reduceIte, Nat.reduceLT, Nat.reduceLeDiff, Nat.reduceEqDiff, Nat.reduceAdd, Nat.reduceMul, Nat.reduceSub, reduceCtorEq, putAt, unE, Nat.reduceBEq, convE, buildE, List.replicate, Int.reduceLT, Int.reduceLE, Int.reduceToNat, mkE, mapSetE, hN, hF, ty_3, ty_9, ty_47, notIf, isEq, ga, gb, gc, gd, gi, gj, gk, gl, gh, g4, g4', g6, g3, g3', g7]
      simp only [runB, finC, finD, Option.isSome_some, Option.isSome_none, ↓reduceIte, Nat.reduceEqDiff, Nat.reduceAdd, Nat.reduceMul, forall_eq_or_imp, forall_eq, implies_true, Nat.reduceBEq, reduceCtorEq, false_implies, List.zip_cons_cons, List.zip_nil_left, List.zip_nil_right, Nat.reduceLeDiff, List.forall_mem_nil, rs_24, hS]
    have g7 : decide (tk < 1) = false := by simp; omega
    by_cases c8 : tk ≤ 1048576
    case neg =>
      have g8 : decide (tk > 1048576) = true := by simp; omega
      have hS : voS ⟨kd, vw, ht, bl, tk, sg, sig⟩ = 9 := if_neg (by rintro ⟨a1, a2, a3, a4, a5, a6, a7, a8⟩; exact c8 (hT.1 a6).2)
      simp (maxSteps := 10000000) only [runA, runB, runC, runD, runE, runF, fieldE, storeE, binE, ↓reduceIte, Nat.reduceLT, Nat.reduceLeDiff, Nat.reduceEqDiff, Nat.reduceAdd, Nat.reduceMul, Nat.reduceSub, reduceCtorEq, putAt, unE, Nat.reduceBEq, convE, buildE, List.replicate, Int.reduceLT, Int.reduceLE, Int.reduceToNat, mkE, mapSetE, hN, hF, ty_3, ty_9, ty_47, notIf, isEq, ga, gb, gc, gd, gi, gj, gk, gl, gh, g4, g4', g6, g3, g3', g7, g8]
      simp only [runB, finC, finD, Option.isSome_some, Option.isSome_none, ↓reduceIte, Nat.reduceEqDiff, Nat.reduceAdd, Nat.reduceMul, forall_eq_or_imp, forall_eq, implies_true, Nat.reduceBEq, reduceCtorEq, false_implies, List.zip_cons_cons, List.zip_nil_left, List.zip_nil_right, Nat.reduceLeDiff, List.forall_mem_nil, rs_24, hS]
    have g8 : decide (tk > 1048576) = false := by simp; omega
    have hS : voS ⟨kd, vw, ht, bl, tk, sg, sig⟩ = 0 := if_pos ⟨hca, hcb, hcc, hcd, hA.2 ⟨⟨hci, hcj⟩, c6⟩, hT.2 ⟨c7, c8⟩, ⟨hck, hcl⟩, hch⟩
    simp (maxSteps := 10000000) only [runA, runB, runC, runD, runE, runF, fieldE, storeE, binE, ↓reduceIte, Nat.reduceLT, Nat.reduceLeDiff, Nat.reduceEqDiff, Nat.reduceAdd, Nat.reduceMul, Nat.reduceSub, reduceCtorEq, putAt, unE, Nat.reduceBEq, convE, buildE, List.replicate, Int.reduceLT, Int.reduceLE, Int.reduceToNat, mkE, mapSetE, hN, hF, ty_3, ty_9, ty_47, notIf, isEq, ga, gb, gc, gd, gi, gj, gk, gl, gh, g4, g4', g6, g3, g3', g7, g8]
    simp only [runB, finC, finD, Option.isSome_some, Option.isSome_none, ↓reduceIte, Nat.reduceEqDiff, Nat.reduceAdd, Nat.reduceMul, forall_eq_or_imp, forall_eq, implies_true, Nat.reduceBEq, reduceCtorEq, false_implies, List.zip_cons_cons, List.zip_nil_left, List.zip_nil_right, Nat.reduceLeDiff, List.forall_mem_nil, rs_24, hS]
  · have g3 : (kd == 3) = false := by simpa using c3
    have g3' : (kd != 3) = true := by simpa using c3
    have hT : tickP ⟨kd, vw, ht, bl, tk, sg, sig⟩ ↔ tk = 0 := by unfold tickP; rw [if_neg c3]
    by_cases c7 : tk = 0
    case neg =>
      have g7 : (tk != 0) = true := by simpa using c7
      have hS : voS ⟨kd, vw, ht, bl, tk, sg, sig⟩ = 9 := if_neg (by rintro ⟨a1, a2, a3, a4, a5, a6, a7, a8⟩; exact c7 (hT.1 a6))
      simp (maxSteps := 10000000) only [runA, runB, runC, runD, runE, runF, fieldE, storeE, binE, ↓reduceIte, Nat.reduceLT, Nat.reduceLeDiff, Nat.reduceEqDiff, Nat.reduceAdd, Nat.reduceMul, Nat.reduceSub, reduceCtorEq, putAt, unE, Nat.reduceBEq, convE, buildE, List.replicate, Int.reduceLT, Int.reduceLE, Int.reduceToNat, mkE, mapSetE, hN, hF, ty_3, ty_9, ty_47, notIf, isEq, ga, gb, gc, gd, gi, gj, gk, gl, gh, g4, g4', g6, g3, g3', g7]
      simp only [runB, finC, finD, Option.isSome_some, Option.isSome_none, ↓reduceIte, Nat.reduceEqDiff, Nat.reduceAdd, Nat.reduceMul, forall_eq_or_imp, forall_eq, implies_true, Nat.reduceBEq, reduceCtorEq, false_implies, List.zip_cons_cons, List.zip_nil_left, List.zip_nil_right, Nat.reduceLeDiff, List.forall_mem_nil, rs_24, hS]
    have g7 : (tk != 0) = false := by simpa using c7
    have hS : voS ⟨kd, vw, ht, bl, tk, sg, sig⟩ = 0 := if_pos ⟨hca, hcb, hcc, hcd, hA.2 ⟨⟨hci, hcj⟩, c6⟩, hT.2 c7, ⟨hck, hcl⟩, hch⟩
    simp (maxSteps := 10000000) only [runA, runB, runC, runD, runE, runF, fieldE, storeE, binE, ↓reduceIte, Nat.reduceLT, Nat.reduceLeDiff, Nat.reduceEqDiff, Nat.reduceAdd, Nat.reduceMul, Nat.reduceSub, reduceCtorEq, putAt, unE, Nat.reduceBEq, convE, buildE, List.replicate, Int.reduceLT, Int.reduceLE, Int.reduceToNat, mkE, mapSetE, hN, hF, ty_3, ty_9, ty_47, notIf, isEq, ga, gb, gc, gd, gi, gj, gk, gl, gh, g4, g4', g6, g3, g3', g7]
    simp only [runB, finC, finD, Option.isSome_some, Option.isSome_none, ↓reduceIte, Nat.reduceEqDiff, Nat.reduceAdd, Nat.reduceMul, forall_eq_or_imp, forall_eq, implies_true, Nat.reduceBEq, reduceCtorEq, false_implies, List.zip_cons_cons, List.zip_nil_left, List.zip_nil_right, Nat.reduceLeDiff, List.forall_mem_nil, rs_24, hS]

end Go.Proofs.Ytcfijanfcgnnhaa.AM
