/-
  QM: Dva Dvb.
-/
import Derived.Test.YtcfijanfcgnnhaaDoorQL
import Derived.Defers
import Derived.Recover
import Derived.Laws.Pointers
set_option linter.unusedVariables false
set_option linter.unusedSimpArgs false
namespace Go.Proofs
open Go.RowKit
open Go.Proofs.YtcfijanfcgnnhaaDoor.AM

/-- What recover gives, and the frames it leaves. -/
def recStep (cs : List Frame) : Value × List Frame := match recoverD cs with | some p => p | none => (.nilIface, cs)
/-- A region that begins with recover: the rest is walked as any code. -/
theorem wpS_recover {P : Program} {id : Nat} {o : Oper} {l : List Oper} {y : Code} {Q : Exit → Act → List Frame → World → Prop} {a : Act} {cs cs' : List Frame} {w : World} {v : Value}
    (hg : o.guard = none) (hr : (execOp a.eval o).run P w = .ok .recover w) (hrec : recStep cs = (v, cs'))
    (h : wpList P (o :: l).toArray (Exit.then (y.wp P (fun e a w => Q e a cs' w)) (fun e a w => Q e a cs' w)) l (a.put o.dst v) w) :
    (Code.seq (.region id (o :: l).toArray false) y).wpS P Q a cs w := by
  refine wpS_seq ?_
  intro b k hb hro
  have ho : (o :: l).toArray[0]? = some o := by simp
  have hw : Region.wanted o (yielded (o :: l).toArray a.tmps) = true := by simp [Region.wanted, hg]
  have hl : List.range (o :: l).toArray.size = 0 :: List.range' 1 l.length := by
    rw [List.range_eq_range']; simp [List.range'_succ]
  have h' : wpOps P (o :: l).toArray (Exit.then (y.wp P (fun e a w => Q e a cs' w)) (fun e a w => Q e a cs' w)) (List.range' 1 l.length) (a.put o.dst v) w := by
    rw [wpOps_eq_wpList l 1 (fun j => by simp [Nat.add_comm 1 j])]
    exact h
  obtain ⟨e, a', w', hq, harr⟩ := wp_ops _ _ _ h' b k cs'
  have hk : (b.at a (.inRegion (o :: l).toArray (0 :: List.range' 1 l.length) :: k)).kind = .deferred := hb
  have htr := tryRecover_deferred hk cs
  have hgo := stepG_op (P := P) (b := b) (k := k) (cs := cs) (w := w) (rest := List.range' 1 l.length) ho hw
  have hfin : (b.at a (.inRegion (o :: l).toArray (0 :: List.range' 1 l.length) :: k)).finish v = b.at (a.put o.dst v) (.inRegion (o :: l).toArray (List.range' 1 l.length) :: k) := by
    rw [Frame.finish_at, ho]; rfl
  refine ⟨e, a', cs', w', ?_, .of_steps (.head (by rw [step_region, hl]) (.one (step_lone_go ?_))) harr⟩
  · cases e with
    | normal => exact wpS_of_wp hq
    | exit id => exact hq
    | goto l => exact hq
    | ret => exact hq
    | panic ch => exact hq
    | outgrown => exact hq
  · rw [hgo, ← hfin]
    simp only [Frame.at] at htr ⊢
    unfold recStep at hrec
    cases hd : recoverD cs with
    | none => rw [hd] at hrec; cases hrec; simp [stepG.apply, hr, htr, hd]
    | some p => rw [hd] at hrec; cases hrec; simp [stepG.apply, hr, htr, hd]

open Go.RowKit
open Go.Proofs.YtcfijanfcgnnhaaDoor.AM

theorem Tryd.ta_nil (w : World) : (Instr.typeAssert .nilIface 20 51 true).run Tryd.prog w = .ok (.tuple #[.agg #[], .bool false]) w := by
  simp [Instr.typeAssert, run_underlying Tryd.underlying51, Tryd.zeroValue51, go_sem]
theorem Tryd.ta_fault (w : World) : (Instr.typeAssert (.iface 51 (.agg #[])) 20 51 true).run Tryd.prog w = .ok (.tuple #[.agg #[], .bool true]) w := by
  simp [Instr.typeAssert, run_underlying Tryd.underlying51, go_sem]
set_option maxHeartbeats 4000000 in
set_option maxRecDepth 1000000 in
theorem Tryd.catch_idle (p q : Addr) (w : World) :
    CallsD Tryd.prog 16 #[.pointer (some p), .pointer (some q)] .returning w fun e u' w' => e = .returned (.tuple #[]) ∧ u' = .returning ∧ w' = w.alloc (.cells #[] 51) := by
  have ta := Tryd.ta_nil
  refine callsD_of_wpS Tryd.func16 rfl fun c₀ cs hu => ?_
  simp only [Tryd.ntmps16, List.size_toArray, List.length_cons, List.length_nil, Nat.reduceAdd, Nat.reduceSub, Array.replicate_succ, Array.replicate_zero, List.push_toArray, List.append_toArray, List.nil_append, List.cons_append]
  refine wpS_recover (v := .nilIface) (cs' := c₀ :: cs) rfl rfl (by simp [recStep, recoverD, hu]) ?_
  go_wp2
  cases c₀
  simp_all [bodyPostS, results, Tryd.results16]

end Go.Proofs
