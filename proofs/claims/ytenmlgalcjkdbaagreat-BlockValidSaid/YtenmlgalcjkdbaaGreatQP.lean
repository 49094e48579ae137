/-
  QP: Pk8 Pk9 PkA PkB PkC PkD.
-/
import Derived.Test.YtenmlgalcjkdbaaGreatQ5
set_option linter.unusedVariables false
set_option linter.unusedSimpArgs false
namespace Go.Proofs.YtenmlgalcjkdbaaGreat.AM
open Go

variable {Γ : FuncId → Contract}


variable {Γ : FuncId → Contract}

theorem bytes_take (l : List UInt8) (n : Nat) : (bytes l).take n = bytes (l.take n) := by simp [bytes, List.map_take]
theorem bytes_drop (l : List UInt8) (n : Nat) : (bytes l).drop n = bytes (l.drop n) := by simp [bytes, List.map_drop]

structure RS where
  b : List UInt8
  e : Int
  deriving DecidableEq
/-- Octets as a number. -/
def getB (l : List UInt8) : Int := ((l.foldl (fun (u : Nat) c => (u * 256 + c.toNat) % 4611686018427387904) 0 : Nat) : Int)
def getC : Contract := fun args objs => match args, objs with
  | [.c (.sl rows)], [] => match asB rows with
    | some b => if b.length ≤ 9223372036854775807 then some ⟨[.pv (.c (.int .i64 (getB b)))], []⟩ else none
    | none => none
  | _, _ => none
def getTo (l : List UInt8) (i : Nat) : Nat := (l.take i).foldl (fun (u : Nat) c => (u * 256 + c.toNat) % 4611686018427387904) 0
theorem getTo_lt (l : List UInt8) (i : Nat) : getTo l i < 4611686018427387904 := by
  unfold getTo
  have : ∀ (l : List UInt8) (u : Nat), u < 4611686018427387904 → l.foldl (fun (u : Nat) c => (u * 256 + c.toNat) % 4611686018427387904) u < 4611686018427387904 := by
    intro l
    induction l with
    | nil => intro u h; exact h
    | cons c l ih => intro u h; exact ih _ (Nat.mod_lt _ (by decide))
  exact this _ _ (by decide)


variable {Γ : FuncId → Contract}

def gotTo (l : List UInt8) (i : Nat) : Nat := (l.take i).foldl (fun (u : Nat) c => (u * 256 + c.toNat) % 18446744073709551616) 0
theorem gotTo_succ {l : List UInt8} {i : Nat} {c : UInt8} (h : l[i]? = some c) : gotTo l (i + 1) = (gotTo l i * 256 + c.toNat) % 18446744073709551616 := by
  unfold gotTo
  rw [List.take_add_one, h, List.foldl_append]
  rfl
theorem gotTo_lt (l : List UInt8) (i : Nat) : gotTo l i < 18446744073709551616 := by
  unfold gotTo
  have : ∀ (l : List UInt8) (u : Nat), u < 18446744073709551616 → l.foldl (fun (u : Nat) c => (u * 256 + c.toNat) % 18446744073709551616) u < 18446744073709551616 := by
    intro l
    induction l with
    | nil => intro u h; exact h
    | cons c l ih => intro u h; exact ih _ (Nat.mod_lt _ (by decide))
  exact this _ _ (by decide)
theorem gotTo_getTo (l : List UInt8) (i : Nat) : gotTo l i % 4611686018427387904 = getTo l i := by
  unfold gotTo getTo
  have : ∀ (l : List UInt8) (u v : Nat), u % 4611686018427387904 = v → l.foldl (fun (u : Nat) c => (u * 256 + c.toNat) % 18446744073709551616) u % 4611686018427387904 = l.foldl (fun (u : Nat) c => (u * 256 + c.toNat) % 4611686018427387904) v := by
    intro l
    induction l with
    | nil => intro u v h; exact h
    | cons c l ih =>
      intro u v h
      refine ih _ _ ?_
      rw [← h]
      show (u * 256 + c.toNat) % 18446744073709551616 % 4611686018427387904 = (u % 4611686018427387904 * 256 + c.toNat) % 4611686018427387904
      omega
  exact this _ _ _ (by decide)

theorem or_low (a c : Nat) (hc : c < 256) (h : a * 256 + c < 18446744073709551616) : (BitVec.ofInt 64 ((a * 256 : Nat) : Int) ||| BitVec.ofInt 64 (c : Int)).toNat = a * 256 + c := by
  rw [BitVec.toNat_or]
  simp only [BitVec.ofInt_natCast, BitVec.toNat_ofNat]
  rw [show (2 : Nat) ^ 64 = 18446744073709551616 from rfl]
  have h1 : a * 256 % 18446744073709551616 = a * 256 := Nat.mod_eq_of_lt (Nat.lt_of_le_of_lt (Nat.le_add_right _ _) h)
  have h2 : c % 18446744073709551616 = c := Nat.mod_eq_of_lt (Nat.lt_of_lt_of_le hc (by decide))
  rw [h1, h2]
  have h3 : a * 256 = 2 ^ 8 * a := Nat.mul_comm a 256
  rw [h3]
  exact (Nat.two_pow_add_eq_or_of_lt (i := 8) hc a).symm

theorem or_stepA (g c : Nat) (hc : c < 256) : IntKind.u64.wrap (((BitVec.ofInt IntKind.u64.bits (((g * 256) % 18446744073709551616 : Nat) : Int) ||| BitVec.ofInt IntKind.u64.bits (c : Int)).toNat : Nat) : Int) = (((g * 256 + c) % 18446744073709551616 : Nat) : Int) := by
  have h1 : (g * 256) % 18446744073709551616 = (g % 72057594037927936) * 256 := by omega
  have h2 : (g % 72057594037927936) * 256 + c < 18446744073709551616 := by omega
  have h3 : (g * 256 + c) % 18446744073709551616 = (g % 72057594037927936) * 256 + c := by
    rw [Nat.add_mod, h1, Nat.mod_eq_of_lt (Nat.lt_of_lt_of_le hc (by decide) : c < 18446744073709551616), Nat.mod_eq_of_lt h2]
  rw [h1, h3]
  have := or_low (g % 72057594037927936) c hc h2
  rw [show IntKind.u64.bits = 64 from rfl, this]
  exact wrapU (by omega)
theorem and_step (g : Nat) : IntKind.u64.wrap (((BitVec.ofInt IntKind.u64.bits ((g : Nat) : Int) &&& BitVec.ofInt IntKind.u64.bits 4611686018427387903).toNat : Nat) : Int) = ((g % 4611686018427387904 : Nat) : Int) := by
  rw [show IntKind.u64.bits = 64 from rfl, BitVec.toNat_and]
  rw [show BitVec.ofInt 64 4611686018427387903 = BitVec.ofNat 64 4611686018427387903 from rfl]
  simp only [BitVec.ofInt_natCast, BitVec.toNat_ofNat]
  rw [show (2 : Nat) ^ 64 = 18446744073709551616 from rfl]
  rw [show (4611686018427387903 : Nat) % 18446744073709551616 = 2 ^ 62 - 1 from rfl, Nat.and_two_pow_sub_one_eq_mod, show (2 : Nat) ^ 62 = 4611686018427387904 from rfl]
  have : g % 18446744073709551616 % 4611686018427387904 = g % 4611686018427387904 := by omega
  rw [this]
  exact wrapU (by omega)

set_option maxHeartbeats 4000000 in
theorem get_sound : SoundC Tryz.prog 113 getC := by
  refine sound_fn Tryz.func113 (by kernel_rfl) rfl rfl ?_
  intro args objs r hr
  unfold getC at hr
  split at hr
  · split at hr
    · rename_i rows _ b hb
      split at hr
      · rename_i hc
        obtain rfl := asB_inv hb
        cases hr
        refine ⟨rfl, by show 1 ≤ _; decide, fun E hN hns hF => ?_⟩
        refine vc_sound none0_sound mixed _ _ _ ?_
        have hN := hN.trans nt_113
        simp only [runA, runB, runC, runD, runE, runF, fieldE, storeE, binE, ↓reduceIte, Nat.reduceLT, Nat.reduceLeDiff, Nat.reduceEqDiff, Nat.reduceAdd, Nat.reduceMul, Nat.reduceSub, reduceCtorEq, putAt, unE, Nat.reduceBEq, convE, buildE, List.replicate, Int.reduceLT, Int.reduceLE, Int.reduceToNat, mkE, mapSetE, hN, hF, ty_3, ty_5, ty_47, ty_195, notIf, isEq, bytes_length]
        refine AWP.loop (fun c s => ∃ i : Nat, i ≤ b.length ∧ c = b.length - i ∧ s = ⟨[(3, .c (.int .u64 (gotTo b i : Nat))), (6, .c (.sl (bytes b))), (7, .c (.int .i64 (b.length : Int))), (8, .c (.int .i64 (i : Int)))], []⟩) ⟨b.length, _, ?w, 0, Nat.zero_le _, rfl, rfl⟩ ?r
        case w =>
          rw [hns]
          simp only [runB, finC, finD, AS.get, AS.mem, false_implies, implies_true, ↓reduceIte, Nat.reduceEqDiff, Option.isSome_some, Option.isSome_none, forall_eq_or_imp, forall_eq, reduceCtorEq, Nat.reduceAdd, Nat.reduceMul, List.zip_cons_cons, List.zip_nil_left, List.zip_nil_right, List.forall_mem_nil]
          simp [gotTo]
        case r =>
          rintro c s ⟨i, hi, rfl, rfl⟩
          refine vc_sound none0_sound mixed _ _ _ ?_
          by_cases hlt : i < b.length
          · have h1 : decide ((i : Int) < (b.length : Int)) = true := by simpa using hlt
            obtain ⟨x, hx⟩ : ∃ x, b[i]? = some x := ⟨b[i], by simp [hlt]⟩
            have hxr : (bytes b)[i]? = some [PC.int .u8 (x.toNat : Int)] := by simp [bytes, hx]
            have hs := gotTo_succ hx
            have hlt2 := gotTo_lt b i
            have hx256 := x.toNat_lt
            have e2 : IntKind.u64.wrap (x.toNat : Int) = (x.toNat : Int) := wrapU (by omega)
            have e5 : IntKind.i64.wrap ((i : Int) + 1) = (i : Int) + 1 := wrapI (by omega)
            have e6 : shOp .shl .u64 ((gotTo b i : Nat) : Int) 8 = some (.int .u64 (((gotTo b i * 256) % 18446744073709551616 : Nat) : Int)) := by
              have hm : min (8 : Int).toNat IntKind.u64.bits = 8 := rfl
              simp only [shOp, if_neg (show ¬ ((8 : Int) < 0) by decide), hm]
              rw [IntKind.wrap_u64]
              congr 2
            have e7 := or_stepA (gotTo b i) x.toNat (by omega)
            rw [← hs] at e7
            simp only [runA, runB, runC, runD, runE, runF, fieldE, storeE, binE, ↓reduceIte, Nat.reduceLT, Nat.reduceLeDiff, Nat.reduceEqDiff, Nat.reduceAdd, Nat.reduceMul, Nat.reduceSub, reduceCtorEq, putAt, unE, Nat.reduceBEq, convE, buildE, List.replicate, Int.reduceLT, Int.reduceLE, Int.reduceToNat, mkE, mapSetE, hN, hF, ty_3, ty_5, ty_47, ty_195, notIf, isEq, bytes_length, h1, hxr, e2, e5, e6, e7]
            refine ⟨b.length - (i + 1), _, by omega, ?_, i + 1, by omega, rfl, rfl⟩
            rw [hns]
            simp only [runB, finC, finD, AS.get, AS.mem, false_implies, implies_true, ↓reduceIte, Nat.reduceEqDiff, Option.isSome_some, Option.isSome_none, forall_eq_or_imp, forall_eq, reduceCtorEq, Nat.reduceAdd, Nat.reduceMul, List.zip_cons_cons, List.zip_nil_left, List.zip_nil_right, List.forall_mem_nil]
            first | done | simp
          · have h1 : decide ((i : Int) < (b.length : Int)) = false := by simpa using hlt
            obtain rfl : i = b.length := by omega
            have e8 := and_step (gotTo b b.length)
            rw [gotTo_getTo] at e8
            have hlt2 := getTo_lt b b.length
            have e4 : IntKind.i64.wrap (getTo b b.length : Int) = (getTo b b.length : Int) := wrapI (by omega)
            simp only [runA, runB, runC, runD, runE, runF, fieldE, storeE, binE, ↓reduceIte, Nat.reduceLT, Nat.reduceLeDiff, Nat.reduceEqDiff, Nat.reduceAdd, Nat.reduceMul, Nat.reduceSub, reduceCtorEq, putAt, unE, Nat.reduceBEq, convE, buildE, List.replicate, Int.reduceLT, Int.reduceLE, Int.reduceToNat, mkE, mapSetE, hN, hF, ty_3, ty_5, ty_47, ty_195, notIf, isEq, bytes_length, h1, e8, e4]
            simp only [runB, finC, finD, Option.isSome_some, Option.isSome_none, ↓reduceIte, Nat.reduceEqDiff, Nat.reduceAdd, Nat.reduceMul, forall_eq_or_imp, forall_eq, implies_true, Nat.reduceBEq, reduceCtorEq, false_implies, List.zip_cons_cons, List.zip_nil_left, List.zip_nil_right, Nat.reduceLeDiff, List.forall_mem_nil, rs_113]
            simp [getB, getTo]
      · cases hr
    · cases hr
  · cases hr


variable {Γ : FuncId → Contract}

/-- The next number, of a reader that is ready. -/
def nextN (r : RS) (most : Int) : Int × RS :=
  if r.b.length < 6 then (0, ⟨[], 8⟩) else
  if 1099511627776 < getB (r.b.take 6) ∨ most < getB (r.b.take 6) then (0, ⟨[], 4⟩) else (getB (r.b.take 6), ⟨r.b.drop 6, 0⟩)

variable {Γ : FuncId → Contract}

theorem getB_nonneg (l : List UInt8) : 0 ≤ getB l := by unfold getB; omega

end Go.Proofs.YtenmlgalcjkdbaaGreat.AM
