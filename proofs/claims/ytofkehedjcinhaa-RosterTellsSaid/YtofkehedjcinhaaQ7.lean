/-
  Q7: Sh0 Ro1 Ro2 Sh1 Sh2 Sh3 Sh4 Sh5 Sh6.
-/
import Derived.Test.YtofkehedjcinhaaQ6
import Derived.Lib.Walk
import Derived.Lib.SliceRun
import Derived.Lib.AppendZerosOnto
import Derived.Shelf.Abstract
import Derived.Shelf.RegionOpen
import Derived.OwnWalkIn
import Derived.TacticsInMore
set_option linter.unusedVariables false
set_option linter.unusedSimpArgs false
namespace Go.Proofs.Ytofkehedjcinhaa.AM
open Go

/-- A contract by shapes: of whatever answers to these arguments and objects. -/
noncomputable def mkC {α : Type} (ok : α → Prop) (A : α → List AV) (O : α → List (List OV)) (R : α → CRes) : Contract := fun args objs =>
  open Classical in if h : ∃ x, ok x ∧ args = A x ∧ objs = O x then some (R h.choose) else none
theorem mkC_inv {α : Type} {ok : α → Prop} {A : α → List AV} {O : α → List (List OV)} {R : α → CRes} {args : List AV} {objs : List (List OV)} {r : CRes} (h : mkC ok A O R args objs = some r) :
    ∃ x, ok x ∧ args = A x ∧ objs = O x ∧ r = R x := by
  unfold mkC at h
  split at h
  · rename_i hx
    cases h
    obtain ⟨h1, h2, h3⟩ := hx.choose_spec
    exact ⟨_, h1, h2, h3, rfl⟩
  · cases h
theorem mkC_at {α : Type} {ok : α → Prop} {A : α → List AV} {O : α → List (List OV)} {R : α → CRes} (x : α) (h : ok x) (hi : ∀ y, ok y → A y = A x → O y = O x → R y = R x) : mkC ok A O R (A x) (O x) = some (R x) := by
  unfold mkC
  have hx : ∃ y, ok y ∧ A x = A y ∧ O x = O y := ⟨x, h, rfl, rfl⟩
  rw [dif_pos hx]
  obtain ⟨h1, h2, h3⟩ := hx.choose_spec
  rw [hi _ h1 h2.symm h3.symm]

theorem bytes_inj {a b : List UInt8} (h : bytes a = bytes b) : a = b := by
  have h1 := bytesOf_bytes a
  rw [h, bytesOf_bytes] at h1
  cases h1; rfl

abbrev W32 := BitVec 32
def wC (x : W32) : PC := .int .u32 (x.toNat : Int)
theorem wC_inj {x y : W32} (h : wC x = wC y) : x = y := by
  unfold wC at h
  simp only [PC.int.injEq, true_and] at h
  exact BitVec.eq_of_toNat_eq (by omega)
theorem wrap32 (n : Nat) : IntKind.u32.wrap (n : Int) = ((n % 4294967296 : Nat) : Int) := by
  simp [IntKind.wrap, IntKind.bits, IntKind.signed]
theorem wrap32w (x : W32) : IntKind.u32.wrap (x.toNat : Int) = (x.toNat : Int) := by
  rw [wrap32, Nat.mod_eq_of_lt]; exact x.isLt
theorem ofW (x : W32) : BitVec.ofInt 32 (x.toNat : Int) = x := by
  rw [BitVec.ofInt_natCast]; simp
variable {P : Program} {t : TypeId}
theorem w_add (x y : W32) : binE P .add t (.c (wC x)) (.c (wC y)) = some (.c (wC (x + y))) := by
  simp only [binE, wC, isSh, intOp, if_true, Bool.false_eq_true, if_false, Option.map_some]
  have : ((x.toNat : Int) + (y.toNat : Int)) = ((x.toNat + y.toNat : Nat) : Int) := by omega
  rw [this, wrap32, BitVec.toNat_add]
theorem w_and (x y : W32) : binE P .and t (.c (wC x)) (.c (wC y)) = some (.c (wC (x &&& y))) := by
  simp only [binE, wC, isSh, intOp, if_true, Bool.false_eq_true, if_false, Option.map_some, IntKind.bits]
  rw [ofW, ofW]
  exact congrArg (fun n => some (AV.c (PC.int .u32 n))) (wrap32w _)
theorem w_or (x y : W32) : binE P .or t (.c (wC x)) (.c (wC y)) = some (.c (wC (x ||| y))) := by
  simp only [binE, wC, isSh, intOp, if_true, Bool.false_eq_true, if_false, Option.map_some, IntKind.bits]
  rw [ofW, ofW]
  exact congrArg (fun n => some (AV.c (PC.int .u32 n))) (wrap32w _)
theorem w_xor (x y : W32) : binE P .xor t (.c (wC x)) (.c (wC y)) = some (.c (wC (x ^^^ y))) := by
  simp only [binE, wC, isSh, intOp, if_true, Bool.false_eq_true, if_false, Option.map_some, IntKind.bits]
  rw [ofW, ofW]
  exact congrArg (fun n => some (AV.c (PC.int .u32 n))) (wrap32w _)
theorem w_xorF (y : W32) : binE P .xor t (.c (.int .u32 4294967295)) (.c (wC y)) = some (.c (wC (~~~y))) := by
  have : (AV.c (.int .u32 4294967295)) = .c (wC (BitVec.allOnes 32)) := rfl
  rw [this, w_xor, BitVec.allOnes_xor]
theorem w_not (x : W32) : unE .xor (.c (wC x)) = some (.c (wC (~~~x))) := by
  have key : (BitVec.ofInt 32 (if IntKind.signed .u32 then -1 else IntKind.max .u32)) = BitVec.allOnes 32 := by decide
  show some (AV.c (PC.int .u32 (IntKind.u32.wrap ((BitVec.ofInt 32 (if IntKind.signed .u32 then -1 else IntKind.max .u32) ^^^ BitVec.ofInt 32 (x.toNat : Int)).toNat : Int)))) = _
  rw [key, ofW, BitVec.allOnes_xor]
  exact congrArg (fun n => some (AV.c (PC.int .u32 n))) (wrap32w _)
theorem w_shl (x : W32) (n : Nat) (h : n ≤ 32) : binE P .shl t (.c (wC x)) (.c (.int .u64 (n : Int))) = some (.c (wC (x <<< n))) := by
  simp only [binE, wC, isSh, shOp, if_true, Option.map_some, IntKind.bits]
  have h0 : ¬ ((n : Int) < 0) := by omega
  rw [if_neg h0]
  simp only [Option.map_some]
  have h1 : (min (n : Int).toNat 32) = n := by omega
  rw [h1]
  have : ((x.toNat : Int) * 2 ^ n) = ((x.toNat * 2 ^ n : Nat) : Int) := by push_cast; rfl
  rw [this, wrap32, BitVec.toNat_shiftLeft, Nat.shiftLeft_eq]
theorem w_shr (x : W32) (n : Nat) (h : n ≤ 32) : binE P .shr t (.c (wC x)) (.c (.int .u64 (n : Int))) = some (.c (wC (x >>> n))) := by
  simp only [binE, wC, isSh, shOp, if_true, Option.map_some, IntKind.bits]
  have h0 : ¬ ((n : Int) < 0) := by omega
  rw [if_neg h0]
  simp only [Option.map_some]
  have h1 : (min (n : Int).toNat 32) = n := by omega
  rw [h1, BitVec.toNat_ushiftRight, Nat.shiftRight_eq_div_pow]
  have : ((2 : Int) ^ n) = ((2 ^ n : Nat) : Int) := by push_cast; rfl
  rw [this, Int.fdiv_eq_ediv_of_nonneg _ (Int.natCast_nonneg _), ← Int.natCast_ediv]
theorem w_shl8 (x : W32) : binE P .shl t (.c (wC x)) (.c (.int .u64 8)) = some (.c (wC (x <<< 8))) := w_shl x 8 (by decide)
theorem w_shl16 (x : W32) : binE P .shl t (.c (wC x)) (.c (.int .u64 16)) = some (.c (wC (x <<< 16))) := w_shl x 16 (by decide)
theorem w_shl24 (x : W32) : binE P .shl t (.c (wC x)) (.c (.int .u64 24)) = some (.c (wC (x <<< 24))) := w_shl x 24 (by decide)
theorem w_shr3 (x : W32) : binE P .shr t (.c (wC x)) (.c (.int .u64 3)) = some (.c (wC (x >>> 3))) := w_shr x 3 (by decide)
theorem w_shr8 (x : W32) : binE P .shr t (.c (wC x)) (.c (.int .u64 8)) = some (.c (wC (x >>> 8))) := w_shr x 8 (by decide)
theorem w_shr10 (x : W32) : binE P .shr t (.c (wC x)) (.c (.int .u64 10)) = some (.c (wC (x >>> 10))) := w_shr x 10 (by decide)
theorem w_shr16 (x : W32) : binE P .shr t (.c (wC x)) (.c (.int .u64 16)) = some (.c (wC (x >>> 16))) := w_shr x 16 (by decide)
theorem w_shr24 (x : W32) : binE P .shr t (.c (wC x)) (.c (.int .u64 24)) = some (.c (wC (x >>> 24))) := w_shr x 24 (by decide)
/-- Integers of the other kinds, as they are. -/
theorem b_add (k : IntKind) (a b : Int) : binE P .add t (.c (.int k a)) (.c (.int k b)) = (intOp .add k a b).map .c := by simp [binE, isSh]
theorem b_sub (k : IntKind) (a b : Int) : binE P .sub t (.c (.int k a)) (.c (.int k b)) = (intOp .sub k a b).map .c := by simp [binE, isSh]
theorem b_mul (k : IntKind) (a b : Int) : binE P .mul t (.c (.int k a)) (.c (.int k b)) = (intOp .mul k a b).map .c := by simp [binE, isSh]
theorem b_quo (k : IntKind) (a b : Int) : binE P .quo t (.c (.int k a)) (.c (.int k b)) = (intOp .quo k a b).map .c := by simp [binE, isSh]
theorem b_rem (k : IntKind) (a b : Int) : binE P .rem t (.c (.int k a)) (.c (.int k b)) = (intOp .rem k a b).map .c := by simp [binE, isSh]
theorem b_and (k : IntKind) (a b : Int) : binE P .and t (.c (.int k a)) (.c (.int k b)) = (intOp .and k a b).map .c := by simp [binE, isSh]
theorem b_or (k : IntKind) (a b : Int) : binE P .or t (.c (.int k a)) (.c (.int k b)) = (intOp .or k a b).map .c := by simp [binE, isSh]
theorem b_xor (k : IntKind) (a b : Int) : binE P .xor t (.c (.int k a)) (.c (.int k b)) = (intOp .xor k a b).map .c := by simp [binE, isSh]
theorem b_andNot (k : IntKind) (a b : Int) : binE P .andNot t (.c (.int k a)) (.c (.int k b)) = (intOp .andNot k a b).map .c := by simp [binE, isSh]
theorem b_eql (k : IntKind) (a b : Int) : binE P .eql t (.c (.int k a)) (.c (.int k b)) = (intOp .eql k a b).map .c := by simp [binE, isSh]
theorem b_neq (k : IntKind) (a b : Int) : binE P .neq t (.c (.int k a)) (.c (.int k b)) = (intOp .neq k a b).map .c := by simp [binE, isSh]
theorem b_lss (k : IntKind) (a b : Int) : binE P .lss t (.c (.int k a)) (.c (.int k b)) = (intOp .lss k a b).map .c := by simp [binE, isSh]
theorem b_leq (k : IntKind) (a b : Int) : binE P .leq t (.c (.int k a)) (.c (.int k b)) = (intOp .leq k a b).map .c := by simp [binE, isSh]
theorem b_gtr (k : IntKind) (a b : Int) : binE P .gtr t (.c (.int k a)) (.c (.int k b)) = (intOp .gtr k a b).map .c := by simp [binE, isSh]
theorem b_geq (k : IntKind) (a b : Int) : binE P .geq t (.c (.int k a)) (.c (.int k b)) = (intOp .geq k a b).map .c := by simp [binE, isSh]
theorem b_str (op : BinOp) (a b : List UInt8) : binE P op t (.c (.str a)) (.c (.str b)) = (strOp op a b).map .c := rfl
theorem b_bool (op : BinOp) (a b : Bool) : binE P op t (.c (.bool a)) (.c (.bool b)) = if tyBool P t then notIf op (a == b) else none := rfl
theorem u_neg (k : IntKind) (n : Int) : unE .neg (.c (.int k n)) = some (.c (.int k (k.wrap (0 - n)))) := rfl
theorem u_not (b : Bool) : unE .not (.c (.bool b)) = some (.c (.bool (!b))) := rfl
/-- An octet's word, a word's octet. -/
def bw (b : UInt8) : W32 := BitVec.ofNat 32 b.toNat
def wb (x : W32) : UInt8 := UInt8.ofNat x.toNat
theorem c_bw {s d : TypeId} (b : UInt8) (h1 : tyInt P d = some .u32) (h2 : (P.underlying s).isSome = true) : convE P s d (.c (.int .u8 (b.toNat : Int))) = some (.c (wC (bw b))) := by
  simp only [convE, h1, h2, if_true, wC, bw]
  rw [wrap32, BitVec.toNat_ofNat]
theorem c_wb {s d : TypeId} (x : W32) (h1 : tyInt P d = some .u8) (h2 : (P.underlying s).isSome = true) : convE P s d (.c (wC x)) = some (.c (.int .u8 ((wb x).toNat : Int))) := by
  simp only [convE, h1, h2, if_true, wC, wb]
  rw [wrapB]
  simp [UInt8.toNat_ofNat']

def cellsW (l : List W32) : List AV := l.map fun x => .c (wC x)
def ovW (l : List W32) : List OV := l.map fun x => .c (wC x)
theorem cellsW_length (l : List W32) : (cellsW l).length = l.length := by simp [cellsW]
theorem cellsW_get {l : List W32} {i : Nat} {x : W32} (h : l[i]? = some x) : (cellsW l)[i]? = some (.c (wC x)) := by simp [cellsW, h]
theorem cellsW_put {l : List W32} {i : Nat} (x : W32) (h : i < l.length) : putAt (cellsW l) i [.c (wC x)] = cellsW (l.set i x) := by
  unfold putAt cellsW
  rw [List.set_eq_take_append_cons_drop, if_pos h]
  simp [List.map_take, List.map_drop]
def zerosW (n : Nat) : List W32 := List.replicate n 0
theorem zerosW_length (n : Nat) : (zerosW n).length = n := by simp [zerosW]
theorem zrep_W (n : Nat) : zrep n (.c (.int .u32 0)) = cellsW (zerosW n) := by
  unfold zrep cellsW zerosW
  rw [List.map_replicate]
  rfl
theorem cellsW_all_put {l l' : List W32} (h : l'.length = l.length) : putAt (cellsW l) 0 (cellsW l') = cellsW l' := by
  unfold putAt
  rw [List.take_zero, List.nil_append, Nat.zero_add, cellsW_length, h, ← cellsW_length l, List.drop_length, List.append_nil]
theorem cellsW_take {l : List W32} {n : Nat} (h : n = l.length) : ((cellsW l).drop 0).take n = cellsW l := by
  rw [List.drop_zero, h, ← cellsW_length l, List.take_length]
theorem cellsW_toPCs (l : List W32) : toPCs (cellsW l) = some (l.map wC) := by
  induction l with
  | nil => rfl
  | cons x l ih =>
    show toPCs (.c (wC x) :: cellsW l) = _
    simp only [toPCs, AV.toPC, ih, List.map_cons]
theorem cellsW_map (l : List W32) : (l.map wC).map AV.c = cellsW l := by simp [cellsW]
theorem cellsW_all (l : List W32) : (cellsW l).all AV.scal = true := by simp [cellsW, AV.scal]
theorem cellsW_pure (l : List W32) : (AV.agg (cellsW l)).pure? = some (.agg (cellsW l)) := by
  simp only [AV.pure?, cellsW_toPCs, Option.map_some, cellsW_map]
theorem cellsW_inj {l l' : List W32} (h : cellsW l = cellsW l') : l = l' := by
  have := cellsW_toPCs l
  rw [h, cellsW_toPCs, Option.some.injEq] at this
  exact (List.map_inj_right (fun _ _ => wC_inj)).1 this.symm
theorem cellsW_amds (ρ : Ren) (l : List W32) : AMds ρ (cellsW l) (cellsW l) := by
  induction l with
  | nil => trivial
  | cons x l ih => exact ⟨rfl, ih⟩
theorem cellsW_amp (l : List W32) : ∀ p ∈ (cellsW l).zip (cellsW l), AMd.AMp p.1 p.2 := by
  induction l with
  | nil => intro p h; simp [cellsW] at h
  | cons x l ih =>
    intro p h
    show AMd.AMp p.1 p.2
    simp only [cellsW, List.map_cons, List.zip_cons_cons, List.mem_cons] at h
    rcases h with rfl | h
    · exact (rfl : wC _ = wC _)
    · exact ih p h
theorem cellsE_W (me : Nat) (l : List W32) : cellsE me (cellsW l) = .ret (ovW l, []) := by
  induction l with
  | nil => rfl
  | cons x l ih =>
    show cellsE me (.c (wC x) :: cellsW l) = _
    simp only [cellsE, AV.toPC, ih, EP.bind]
    rfl
theorem backCells_W (me : Nat) (l : List W32) (rs : List Nat) : backCells me (ovW l) rs = (cellsW l, []) := by
  induction l with
  | nil => rfl
  | cons x l ih =>
    show backCells me (.c (wC x) :: ovW l) rs = _
    simp only [backCells, ih]
    rfl
theorem cellsAt_W (nm : Nat → Nat) (me : Nat) (l : List W32) : ∀ j, cellsAt nm me j (ovW l) = (cellsW l, []) := by
  induction l with
  | nil => intro j; rfl
  | cons x l ih =>
    intro j
    show cellsAt nm me j (.c (wC x) :: ovW l) = _
    simp only [cellsAt, ih]
    rfl
theorem cellPairs_W (nm : Nat → Nat) (l : List W32) : ∀ (j : Nat) (cs : List AV), cellPairs nm j cs (ovW l) = ([], []) := by
  induction l with
  | nil => intro j cs; cases cs <;> rfl
  | cons x l ih =>
    intro j cs
    cases cs with
    | nil => rfl
    | cons y cs =>
      show cellPairs nm j (y :: cs) (.c (wC x) :: ovW l) = _
      unfold cellPairs
      split <;> first | (rename_i h1 h2; cases h2; done) | exact ih _ _
theorem ovW_inj {l l' : List W32} (h : ovW l = ovW l') : l = l' := by
  have h1 := backCells_W 0 l []
  rw [h, backCells_W] at h1
  exact (cellsW_inj (Prod.mk.inj h1).1).symm


variable {Γ : FuncId → Contract}

/-- Whether a rule may be. -/
def ruleS (k n r q : Int) : Int := if 7 < r ∨ q < 1 ∨ r < q then 81 else if (k = 1 ∧ q ≤ n ∧ n ≤ r) ∨ (k = 2 ∧ 1 ≤ n ∧ n ≤ 32) then 0 else 81
structure Ru where
  k : Int
  n : Int
  r : Int
  q : Int
noncomputable def rcC : Contract := mkC (α := Ru) (fun _ => True) (fun p => [.agg [.c (.int .i64 p.k), .c (.int .i64 p.n)], .c (.int .i64 p.r), .c (.int .i64 p.q)]) (fun _ => []) (fun p => ⟨[.pv (.c (.int .i64 (ruleS p.k p.n p.r p.q)))], []⟩)
theorem rc_at (k n r q : Int) : rcC [.agg [.c (.int .i64 k), .c (.int .i64 n)], .c (.int .i64 r), .c (.int .i64 q)] [] = some ⟨[.pv (.c (.int .i64 (ruleS k n r q)))], []⟩ :=
  mkC_at (α := Ru) ⟨k, n, r, q⟩ trivial (by
    rintro ⟨k', n', r', q'⟩ _ h _
    simp only [List.cons.injEq, AV.c.injEq, PC.int.injEq, AV.agg.injEq, true_and, and_true] at h
    obtain ⟨⟨rfl, rfl⟩, rfl, rfl⟩ := h
    rfl)

set_option maxRecDepth 100000 in
set_option maxHeartbeats 2000000 in
theorem rc_sound : SoundC Try.prog 15 rcC := by
  refine sound_fn Try.func15 (by kernel_rfl) rfl rfl ?_
  intro args objs r hr
  obtain ⟨⟨k, n, r, q⟩, _, rfl, rfl, rfl⟩ := mkC_inv hr
  refine ⟨rfl, by show 3 ≤ _; decide, fun E hN hns hF => ?_⟩
  refine vc_sound none0_sound mixed _ _ _ ?_
  have hN := hN.trans nt_15
  dsimp only
  by_cases a1 : 7 < r
  · have g1 : decide (r > 7) = true := by simpa using a1
    have hS : ruleS k n r q = 81 := by unfold ruleS; rw [if_pos (.inl a1)]
    simp only [runA, runB, runC, runD, runE, runF, fieldE, storeE, binE, ↓reduceIte, Nat.reduceLT, Nat.reduceLeDiff, Nat.reduceEqDiff, Nat.reduceAdd, Nat.reduceMul, Nat.reduceSub, reduceCtorEq, putAt, unE, Nat.reduceBEq, convE, buildE, List.replicate, Int.reduceLT, Int.reduceLE, Int.reduceToNat, mkE, mapSetE, hN, hF, ty_3, ty_27, ty_36, notIf, isEq, g1]
    simp only [runB, finC, finD, Option.isSome_some, Option.isSome_none, ↓reduceIte, Nat.reduceEqDiff, Nat.reduceAdd, Nat.reduceMul, forall_eq_or_imp, forall_eq, implies_true, Nat.reduceBEq, reduceCtorEq, false_implies, List.zip_cons_cons, List.zip_nil_left, List.zip_nil_right, Nat.reduceLeDiff, List.forall_mem_nil, rs_15, hS]
  have g1 : decide (r > 7) = false := by simpa using a1
  by_cases a2 : q < 1
  · have g2 : decide (q < 1) = true := by simpa using a2
    have hS : ruleS k n r q = 81 := by unfold ruleS; rw [if_pos (.inr (.inl a2))]
    simp only [runA, runB, runC, runD, runE, runF, fieldE, storeE, binE, ↓reduceIte, Nat.reduceLT, Nat.reduceLeDiff, Nat.reduceEqDiff, Nat.reduceAdd, Nat.reduceMul, Nat.reduceSub, reduceCtorEq, putAt, unE, Nat.reduceBEq, convE, buildE, List.replicate, Int.reduceLT, Int.reduceLE, Int.reduceToNat, mkE, mapSetE, hN, hF, ty_3, ty_27, ty_36, notIf, isEq, g1, g2]
    simp only [runB, finC, finD, Option.isSome_some, Option.isSome_none, ↓reduceIte, Nat.reduceEqDiff, Nat.reduceAdd, Nat.reduceMul, forall_eq_or_imp, forall_eq, implies_true, Nat.reduceBEq, reduceCtorEq, false_implies, List.zip_cons_cons, List.zip_nil_left, List.zip_nil_right, Nat.reduceLeDiff, List.forall_mem_nil, rs_15, hS]
  have g2 : decide (q < 1) = false := by simpa using a2
  by_cases a3 : r < q
  · have g3 : decide (q > r) = true := by simpa using a3
    have hS : ruleS k n r q = 81 := by unfold ruleS; rw [if_pos (.inr (.inr a3))]
    simp only [runA, runB, runC, runD, runE, runF, fieldE, storeE, binE, ↓reduceIte, Nat.reduceLT, Nat.reduceLeDiff, Nat.reduceEqDiff, Nat.reduceAdd, Nat.reduceMul, Nat.reduceSub, reduceCtorEq, putAt, unE, Nat.reduceBEq, convE, buildE, List.replicate, Int.reduceLT, Int.reduceLE, Int.reduceToNat, mkE, mapSetE, hN, hF, ty_3, ty_27, ty_36, notIf, isEq, g1, g2, g3]
    simp only [runB, finC, finD, Option.isSome_some, Option.isSome_none, ↓reduceIte, Nat.reduceEqDiff, Nat.reduceAdd, Nat.reduceMul, forall_eq_or_imp, forall_eq, implies_true, Nat.reduceBEq, reduceCtorEq, false_implies, List.zip_cons_cons, List.zip_nil_left, List.zip_nil_right, Nat.reduceLeDiff, List.forall_mem_nil, rs_15, hS]
  have g3 : decide (q > r) = false := by simpa using a3
  have hneg : ¬ (7 < r ∨ q < 1 ∨ r < q) := by omega
  by_cases b1 : k = 1 ∧ q ≤ n ∧ n ≤ r
  · obtain ⟨c1, c2, c3⟩ := b1
    have g4 : (k == 1) = true := by simpa using c1
    have g5 : decide (n ≥ q) = true := by simpa using c2
    have g6 : decide (n ≤ r) = true := by simpa using c3
    have hS : ruleS k n r q = 0 := by unfold ruleS; rw [if_neg hneg, if_pos (.inl ⟨c1, c2, c3⟩)]
    simp only [runA, runB, runC, runD, runE, runF, fieldE, storeE, binE, ↓reduceIte, Nat.reduceLT, Nat.reduceLeDiff, Nat.reduceEqDiff, Nat.reduceAdd, Nat.reduceMul, Nat.reduceSub, reduceCtorEq, putAt, unE, Nat.reduceBEq, convE, buildE, List.replicate, Int.reduceLT, Int.reduceLE, Int.reduceToNat, mkE, mapSetE, hN, hF, ty_3, ty_27, ty_36, notIf, isEq, g1, g2, g3, g4, g5, g6]
    simp only [runB, finC, finD, Option.isSome_some, Option.isSome_none, ↓reduceIte, Nat.reduceEqDiff, Nat.reduceAdd, Nat.reduceMul, forall_eq_or_imp, forall_eq, implies_true, Nat.reduceBEq, reduceCtorEq, false_implies, List.zip_cons_cons, List.zip_nil_left, List.zip_nil_right, Nat.reduceLeDiff, List.forall_mem_nil, rs_15, hS]
  · by_cases d1 : k = 2 ∧ 1 ≤ n ∧ n ≤ 32
    · obtain ⟨c1, c2, c3⟩ := d1
      have g4 : (k == 1) = false := by simp; omega
      have g5 : (k == 2) = true := by simpa using c1
      have g6 : decide (n ≥ 1) = true := by simpa using c2
      have g7 : decide (n ≤ 32) = true := by simpa using c3
      have hS : ruleS k n r q = 0 := by unfold ruleS; rw [if_neg hneg, if_pos (.inr ⟨c1, c2, c3⟩)]
      simp only [runA, runB, runC, runD, runE, runF, fieldE, storeE, binE, ↓reduceIte, Nat.reduceLT, Nat.reduceLeDiff, Nat.reduceEqDiff, Nat.reduceAdd, Nat.reduceMul, Nat.reduceSub, reduceCtorEq, putAt, unE, Nat.reduceBEq, convE, buildE, List.replicate, Int.reduceLT, Int.reduceLE, Int.reduceToNat, mkE, mapSetE, hN, hF, ty_3, ty_27, ty_36, notIf, isEq, g1, g2, g3, g4, g5, g6, g7]
      simp only [runB, finC, finD, Option.isSome_some, Option.isSome_none, ↓reduceIte, Nat.reduceEqDiff, Nat.reduceAdd, Nat.reduceMul, forall_eq_or_imp, forall_eq, implies_true, Nat.reduceBEq, reduceCtorEq, false_implies, List.zip_cons_cons, List.zip_nil_left, List.zip_nil_right, Nat.reduceLeDiff, List.forall_mem_nil, rs_15, hS]
    · have hS : ruleS k n r q = 81 := by unfold ruleS; rw [if_neg hneg, if_neg (by rintro (h | h); exact b1 h; exact d1 h)]
      by_cases k1 : k = 1
      · have g4 : (k == 1) = true := by simpa using k1
        have k2 : (k == 2) = false := by simp; omega
        by_cases n1 : q ≤ n
        · have g5 : decide (n ≥ q) = true := by simpa using n1
          have g6 : decide (n ≤ r) = false := by simp only [decide_eq_false_iff_not]; intro h; exact b1 ⟨k1, n1, h⟩
          simp only [runA, runB, runC, runD, runE, runF, fieldE, storeE, binE, ↓reduceIte, Nat.reduceLT, Nat.reduceLeDiff, Nat.reduceEqDiff, Nat.reduceAdd, Nat.reduceMul, Nat.reduceSub, reduceCtorEq, putAt, unE, Nat.reduceBEq, convE, buildE, List.replicate, Int.reduceLT, Int.reduceLE, Int.reduceToNat, mkE, mapSetE, hN, hF, ty_3, ty_27, ty_36, notIf, isEq, g1, g2, g3, g4, g5, g6, k2]
          simp only [runB, finC, finD, Option.isSome_some, Option.isSome_none, ↓reduceIte, Nat.reduceEqDiff, Nat.reduceAdd, Nat.reduceMul, forall_eq_or_imp, forall_eq, implies_true, Nat.reduceBEq, reduceCtorEq, false_implies, List.zip_cons_cons, List.zip_nil_left, List.zip_nil_right, Nat.reduceLeDiff, List.forall_mem_nil, rs_15, hS]
        · have g5 : decide (n ≥ q) = false := by simpa using n1
          simp only [runA, runB, runC, runD, runE, runF, fieldE, storeE, binE, ↓reduceIte, Nat.reduceLT, Nat.reduceLeDiff, Nat.reduceEqDiff, Nat.reduceAdd, Nat.reduceMul, Nat.reduceSub, reduceCtorEq, putAt, unE, Nat.reduceBEq, convE, buildE, List.replicate, Int.reduceLT, Int.reduceLE, Int.reduceToNat, mkE, mapSetE, hN, hF, ty_3, ty_27, ty_36, notIf, isEq, g1, g2, g3, g4, g5, k2]
          simp only [runB, finC, finD, Option.isSome_some, Option.isSome_none, ↓reduceIte, Nat.reduceEqDiff, Nat.reduceAdd, Nat.reduceMul, forall_eq_or_imp, forall_eq, implies_true, Nat.reduceBEq, reduceCtorEq, false_implies, List.zip_cons_cons, List.zip_nil_left, List.zip_nil_right, Nat.reduceLeDiff, List.forall_mem_nil, rs_15, hS]
      · have g4 : (k == 1) = false := by simpa using k1
        by_cases k2 : k = 2
        · have g5 : (k == 2) = true := by simpa using k2
          by_cases n1 : 1 ≤ n
          · have g6 : decide (n ≥ 1) = true := by simpa using n1
            have g7 : decide (n ≤ 32) = false := by simp only [decide_eq_false_iff_not]; intro h; exact d1 ⟨k2, n1, h⟩
            simp only [runA, runB, runC, runD, runE, runF, fieldE, storeE, binE, ↓reduceIte, Nat.reduceLT, Nat.reduceLeDiff, Nat.reduceEqDiff, Nat.reduceAdd, Nat.reduceMul, Nat.reduceSub, reduceCtorEq, putAt, unE, Nat.reduceBEq, convE, buildE, List.replicate, Int.reduceLT, Int.reduceLE, Int.reduceToNat, mkE, mapSetE, hN, hF, ty_3, ty_27, ty_36, notIf, isEq, g1, g2, g3, g4, g5, g6, g7]
            simp only [runB, finC, finD, Option.isSome_some, Option.isSome_none, ↓reduceIte, Nat.reduceEqDiff, Nat.reduceAdd, Nat.reduceMul, forall_eq_or_imp, forall_eq, implies_true, Nat.reduceBEq, reduceCtorEq, false_implies, List.zip_cons_cons, List.zip_nil_left, List.zip_nil_right, Nat.reduceLeDiff, List.forall_mem_nil, rs_15, hS]
          · have g6 : decide (n ≥ 1) = false := by simpa using n1
            simp only [runA, runB, runC, runD, runE, runF, fieldE, storeE, binE, ↓reduceIte, Nat.reduceLT, Nat.reduceLeDiff, Nat.reduceEqDiff, Nat.reduceAdd, Nat.reduceMul, Nat.reduceSub, reduceCtorEq, putAt, unE, Nat.reduceBEq, convE, buildE, List.replicate, Int.reduceLT, Int.reduceLE, Int.reduceToNat, mkE, mapSetE, hN, hF, ty_3, ty_27, ty_36, notIf, isEq, g1, g2, g3, g4, g5, g6]
            simp only [runB, finC, finD, Option.isSome_some, Option.isSome_none, ↓reduceIte, Nat.reduceEqDiff, Nat.reduceAdd, Nat.reduceMul, forall_eq_or_imp, forall_eq, implies_true, Nat.reduceBEq, reduceCtorEq, false_implies, List.zip_cons_cons, List.zip_nil_left, List.zip_nil_right, Nat.reduceLeDiff, List.forall_mem_nil, rs_15, hS]
        · have g5 : (k == 2) = false := by simpa using k2
          simp only [runA, runB, runC, runD, runE, runF, fieldE, storeE, binE, ↓reduceIte, Nat.reduceLT, Nat.reduceLeDiff, Nat.reduceEqDiff, Nat.reduceAdd, Nat.reduceMul, Nat.reduceSub, reduceCtorEq, putAt, unE, Nat.reduceBEq, convE, buildE, List.replicate, Int.reduceLT, Int.reduceLE, Int.reduceToNat, mkE, mapSetE, hN, hF, ty_3, ty_27, ty_36, notIf, isEq, g1, g2, g3, g4, g5]
          simp only [runB, finC, finD, Option.isSome_some, Option.isSome_none, ↓reduceIte, Nat.reduceEqDiff, Nat.reduceAdd, Nat.reduceMul, forall_eq_or_imp, forall_eq, implies_true, Nat.reduceBEq, reduceCtorEq, false_implies, List.zip_cons_cons, List.zip_nil_left, List.zip_nil_right, Nat.reduceLeDiff, List.forall_mem_nil, rs_15, hS]


variable {Γ : FuncId → Contract}

abbrev Rul := Int × Int
def ruls (l : List Rul) : List (List PC) := l.map fun x => [.int .i64 x.1, .int .i64 x.2]
theorem ruls_length (l : List Rul) : (ruls l).length = l.length := by simp [ruls]
theorem ruls_inj {a b : List Rul} (h : ruls a = ruls b) : a = b := by
  unfold ruls at h
  refine (List.map_inj_right (fun x y h => ?_)).1 h
  obtain ⟨x1, x2⟩ := x
  obtain ⟨y1, y2⟩ := y
  simp only [List.cons.injEq, PC.int.injEq, true_and, and_true] at h
  obtain ⟨rfl, rfl⟩ := h
  rfl
structure Setp where
  r : Int
  q : Int
  c : Int
  l : List Rul
  deriving DecidableEq
def firstBad (r q : Int) : List Rul → Int
  | [] => 0
  | x :: l => if ruleS x.1 x.2 r q = 0 then firstBad r q l else ruleS x.1 x.2 r q
def badS (s : Setp) : Prop := s.r < 1 ∨ 5 < s.r ∨ s.q < 1 ∨ s.r < s.q ∨ 3 < s.l.length ∨ s.c < 0 ∨ 2 ^ s.r.toNat ≤ s.c
instance (s : Setp) : Decidable (badS s) := by unfold badS; infer_instance
/-- Whether a setup may be. -/
def checkS (s : Setp) : Int := if badS s then 3 else firstBad s.r s.q s.l
theorem shl_r (R : Nat) (h : R ≤ 5) : IntKind.i64.wrap (1 * 2 ^ (min R IntKind.i64.bits)) = ((2 ^ R : Nat) : Int) := by
  rcases (show R = 0 ∨ R = 1 ∨ R = 2 ∨ R = 3 ∨ R = 4 ∨ R = 5 by omega) with rfl | rfl | rfl | rfl | rfl | rfl <;> rfl
theorem firstBad_drop {r q : Int} {l : List Rul} {i : Nat} {x : Rul} (hx : l[i]? = some x) : firstBad r q (l.drop i) = if ruleS x.1 x.2 r q = 0 then firstBad r q (l.drop (i + 1)) else ruleS x.1 x.2 r q := by
  have hlt := (List.getElem?_eq_some_iff.1 hx).1
  rw [List.drop_eq_getElem_cons hlt, firstBad, (List.getElem?_eq_some_iff.1 hx).2]


variable {Γ : FuncId → Contract}

/-- A word, turned right. -/
def rotr (x : W32) (n : Nat) : W32 := x >>> n ||| x <<< (32 - n)
theorem rotr_comm (x : W32) (n : Nat) : x <<< (32 - n) ||| x >>> n = rotr x n := BitVec.or_comm _ _

noncomputable def rotC : Contract := mkC (α := W32 × Nat) (fun p => 0 < p.2 ∧ p.2 < 32) (fun p => [.c (wC p.1), .c (.int .i64 (0 - (p.2 : Int)))]) (fun _ => []) (fun p => ⟨[.pv (.c (wC (rotr p.1 p.2)))], []⟩)
theorem rot_at (x : W32) (n : Nat) (h0 : 0 < n) (h1 : n < 32) : rotC [.c (wC x), .c (.int .i64 (0 - (n : Int)))] [] = some ⟨[.pv (.c (wC (rotr x n)))], []⟩ :=
  mkC_at (α := W32 × Nat) (x, n) ⟨h0, h1⟩ (by
    rintro ⟨y, m⟩ _ h _
    simp only [List.cons.injEq, AV.c.injEq, PC.int.injEq, true_and, and_true] at h
    obtain ⟨e1, e2⟩ := h
    obtain rfl := wC_inj e1
    obtain rfl : m = n := by omega
    rfl)

theorem and31 : ∀ n : Nat, n < 32 → 0 < n → (IntKind.u64.wrap (BitVec.ofInt IntKind.u64.bits (IntKind.u64.wrap (0 - (n : Int))) &&& BitVec.ofInt IntKind.u64.bits 31).toNat) = ((32 - n : Nat) : Int) := by decide +kernel

set_option maxHeartbeats 4000000 in
theorem rot_sound : SoundC Try.prog 78 rotC := by
  refine sound_fn Try.func78 (by kernel_rfl) rfl rfl ?_
  intro args objs r hr
  obtain ⟨⟨x, n⟩, ⟨h0, h1⟩, rfl, rfl, rfl⟩ := mkC_inv hr
  refine ⟨rfl, by show 2 ≤ _; decide, fun E hN hns hF => ?_⟩
  refine vc_sound none0_sound mixed _ _ _ ?_
  have hN := hN.trans nt_78
  dsimp only at h0 h1 ⊢
  have e1 := and31 n h1 h0
  have e2 : ∀ P t, binE P .shl t (.c (wC x)) (.c (.int .u64 ((32 - n : Nat) : Int))) = some (.c (wC (x <<< (32 - n)))) := fun P t => w_shl x _ (by omega)
  have e3 : IntKind.u64.wrap (32 - ((32 - n : Nat) : Int)) = (n : Int) := by rw [wrapU (by omega)]; omega
  have e4 : ∀ P t, binE P .shr t (.c (wC x)) (.c (.int .u64 (n : Int))) = some (.c (wC (x >>> n))) := fun P t => w_shr x _ (by omega)
  have e5 : ∀ P s d k, tyInt P d = some .u64 → (P.underlying s).isSome = true → convE P s d (.c (.int .i64 k)) = some (.c (.int .u64 (IntKind.u64.wrap k))) := fun P s d k h1 h2 => by simp [convE, h1, h2]
  simp only [runA, runB, runC, runD, runE, runF, fieldE, storeE, ↓reduceIte, Nat.reduceLT, Nat.reduceLeDiff, Nat.reduceEqDiff, Nat.reduceAdd, Nat.reduceMul, Nat.reduceSub, reduceCtorEq, putAt, Nat.reduceBEq, buildE, List.replicate, Int.reduceLT, Int.reduceLE, Int.reduceToNat, mkE, mapSetE, w_add, w_and, w_or, w_xor, w_xorF, w_not, w_shl8, w_shl16, w_shl24, w_shr3, w_shr8, w_shr10, w_shr16, w_shr24, b_add, b_sub, b_mul, b_quo, b_rem, b_and, b_or, b_xor, b_andNot, b_eql, b_neq, b_lss, b_leq, b_gtr, b_geq, b_str, b_bool, u_neg, u_not, c_bw, c_wb, cellsW_length, cellsW_pure, cellsW_all, cellsE_W, backCells_W, cellsAt_W, cellPairs_W, cellsW_toPCs, cellsW_map, hN, hF, ty_3, ty_83, ty_128, notIf, isEq, e1, e2, e3, e4, e5, intOp]
  simp only [runB, finC, finD, Option.isSome_some, Option.isSome_none, ↓reduceIte, Nat.reduceEqDiff, Nat.reduceAdd, Nat.reduceMul, forall_eq_or_imp, forall_eq, implies_true, Nat.reduceBEq, reduceCtorEq, false_implies, List.zip_cons_cons, List.zip_nil_left, List.zip_nil_right, Nat.reduceLeDiff, List.forall_mem_nil, rs_78, rotr_comm]

noncomputable def rightC : Contract := mkC (α := W32 × Nat) (fun p => 0 < p.2 ∧ p.2 < 32) (fun p => [.c (wC p.1), .c (.int .i64 (p.2 : Int))]) (fun _ => []) (fun p => ⟨[.pv (.c (wC (rotr p.1 p.2)))], []⟩)
theorem right_at (x : W32) (n : Nat) (h0 : 0 < n) (h1 : n < 32) : rightC [.c (wC x), .c (.int .i64 (n : Int))] [] = some ⟨[.pv (.c (wC (rotr x n)))], []⟩ :=
  mkC_at (α := W32 × Nat) (x, n) ⟨h0, h1⟩ (by
    rintro ⟨y, m⟩ _ h _
    simp only [List.cons.injEq, AV.c.injEq, PC.int.injEq, true_and, and_true] at h
    obtain ⟨e1, e2⟩ := h
    obtain rfl := wC_inj e1
    obtain rfl : m = n := by omega
    rfl)

set_option maxHeartbeats 4000000 in
theorem right_sound (hΓ : SoundG Try.prog Γ) (h89 : Γ 78 = rotC) : SoundC Try.prog 75 rightC := by
  refine sound_fn Try.func75 (by kernel_rfl) rfl rfl ?_
  intro args objs r hr
  obtain ⟨⟨x, n⟩, ⟨h0, h1⟩, rfl, rfl, rfl⟩ := mkC_inv hr
  refine ⟨rfl, by show 2 ≤ _; decide, fun E hN hns hF => ?_⟩
  refine vc_sound hΓ mixed _ _ _ ?_
  have hN := hN.trans nt_75
  dsimp only at h0 h1 ⊢
  have e1 : IntKind.i64.wrap (0 - (n : Int)) = 0 - (n : Int) := wrapI (by omega)
  have e2 := rot_at x n h0 h1
  simp only [runA, runB, runC, runD, runE, runF, fieldE, storeE, ↓reduceIte, Nat.reduceLT, Nat.reduceLeDiff, Nat.reduceEqDiff, Nat.reduceAdd, Nat.reduceMul, Nat.reduceSub, reduceCtorEq, putAt, Nat.reduceBEq, buildE, List.replicate, Int.reduceLT, Int.reduceLE, Int.reduceToNat, mkE, mapSetE, w_add, w_and, w_or, w_xor, w_xorF, w_not, w_shl8, w_shl16, w_shl24, w_shr3, w_shr8, w_shr10, w_shr16, w_shr24, b_add, b_sub, b_mul, b_quo, b_rem, b_and, b_or, b_xor, b_andNot, b_eql, b_neq, b_lss, b_leq, b_gtr, b_geq, b_str, b_bool, u_neg, u_not, c_bw, c_wb, cellsW_length, cellsW_pure, cellsW_all, cellsE_W, backCells_W, cellsAt_W, cellPairs_W, cellsW_toPCs, cellsW_map, hN, hF, ty_3, ty_128, notIf, isEq, h89, e1, e2]
  simp only [runB, finC, finD, Option.isSome_some, Option.isSome_none, ↓reduceIte, Nat.reduceEqDiff, Nat.reduceAdd, Nat.reduceMul, forall_eq_or_imp, forall_eq, implies_true, Nat.reduceBEq, reduceCtorEq, false_implies, List.zip_cons_cons, List.zip_nil_left, List.zip_nil_right, Nat.reduceLeDiff, List.forall_mem_nil, rs_75]

open Go Go.Proofs Go.RowKit Go.Shelf

variable {Γ : FuncId → Contract}

theorem u8_zero : ∃ i, Try.prog.info? 5 = some i ∧ i.zero = some (.int .u8 0) ∧ i.size = 1 ∧ i.bytes = 1 := by
  have h : (Try.prog.info? 5).map (fun i => (i.zero, i.size, i.bytes)) = some (some (.int .u8 0), 1, 1) := by kernel_rfl
  obtain ⟨i, h1, h2⟩ := Option.map_eq_some_iff.1 h
  simp only [Prod.mk.injEq] at h2
  exact ⟨i, h1, h2.1, h2.2.1, h2.2.2⟩

set_option maxHeartbeats 4000000 in
set_option maxRecDepth 100000 in
theorem grow_calls (n : Nat) (h0 : 0 < n) (hbig : n ≤ 140737488355328) (w : World) :
    Calls Try.prog 76 #[.slice none 0 0, .int .i64 (n : Int)] w fun e w' =>
      e = .returned (.slice (some ⟨w.heap.size, 0, none⟩) 0 (grownCap w n 0 5)) ∧
      w' = w.drew.alloc (.cells (([] : List Value).toArray ++ Builtin.zeroCells (Value.int .u8 0).cells n ++ Builtin.zeroCells (Value.int .u8 0).cells (grownCap w n 0 5 - n)) 5) := by
  obtain ⟨i0, hi0, hz0, hs0, hb0⟩ := u8_zero
  have u42 := run_underlying (P := Try.prog) (show Try.prog.underlying 73 = some (.slice 5) from by kernel_rfl)
  have h1 : ¬ ((n : Int) < 0) := by omega
  have h2 : wrap64 ((0 : Int) - (0 : Int)) = 0 := by unfold wrap64; omega
  have h3 : wrap64 ((n : Int) - 0) = (n : Int) := by unfold wrap64; omega
  have h4 : (n : Int) > 0 := by omega
  have hold : (Builtin.firstCells i0.size 0 (.slice none 0 0)).run Try.prog w.drew = .ok ([] : List Value).toArray w.drew := run_firstCells_none w.drew i0.size 0 0 0
  have hrz : ∀ ty, (Builtin.append_ #[73, 3] ty #[.slice none 0 0, .int .i64 (n : Int)]).run Try.prog w =
      .ok (.slice (some ⟨w.heap.size, 0, none⟩) n (grownCap w n 0 5)) (w.drew.alloc (.cells (([] : List Value).toArray ++ Builtin.zeroCells (Value.int .u8 0).cells n ++ Builtin.zeroCells (Value.int .u8 0).cells (grownCap w n 0 5 - n)) 5)) := fun ty => by
    have h := Lib.run_append_grow_zeros (P := Try.prog) w 73 3 ty 5 i0 (.int .u8 0) .i64 .i64 (by kernel_rfl) (by kernel_rfl) hi0 hz0 none 0 0 [] hold n h0 (by rw [hs0]; decide) (by omega) (by omega)
      (by rw [hb0]; omega) (by rw [hb0]; exact growslice_fits (by omega) (by omega))
    rw [Nat.zero_add] at h
    exact h
  have hGn : n ≤ grownCap w n 0 5 := grownCap_ge w _ _ _
  have hG63 : grownCap w n 0 5 ≤ 9223372036854775807 := by
    have := grownCap_le_maxLen w n 0 5 (by unfold maxLen; omega)
    unfold maxLen at this
    omega
  obtain ⟨G, hG⟩ : ∃ G, G = grownCap w n 0 5 := ⟨_, rfl⟩
  rw [← hG] at hrz hGn hG63 ⊢
  clear hold hG
  go_enter Try.func76, Try.ntmps76
  go_wp2_with (at_builtin; refine Lib.wpList_append_run _ rfl _ _ _ _ rfl _ _ rfl rfl _ _ (hrz _) ?_)
  all_goals (go_ret; exact ⟨rfl, rfl⟩)


set_option maxHeartbeats 4000000 in
set_option maxRecDepth 100000 in
theorem grow_calls0 (w : World) : Calls Try.prog 76 #[.slice none 0 0, .int .i64 0] w fun e w' => e = .returned (.slice none 0 0) ∧ w' = w := by
  have h2 : wrap64 ((0 : Int) - (0 : Int)) = 0 := by unfold wrap64; omega
  go_enter Try.func76, Try.ntmps76
  go_wp2
  go_ret
  exact ⟨rfl, rfl⟩

noncomputable def growC : Contract := mkC (α := Nat) (fun n => n ≤ 140737488355328) (fun n => [.nilsl, .c (.int .i64 (n : Int))]) (fun _ => []) (fun n => ⟨[.fresh 1 []], []⟩)
theorem grow_at (n : Nat) (h : n ≤ 140737488355328) : growC [.nilsl, .c (.int .i64 (n : Int))] [] = some ⟨[.fresh 1 []], []⟩ := mkC_at (α := Nat) n h (fun _ _ _ _ => rfl)
theorem grow_no (n : Int) : growC [.c (.sl []), .c (.int .i64 n)] [] = none := by
  cases h : growC [.c (.sl []), .c (.int .i64 n)] [] with
  | none => rfl
  | some r =>
    obtain ⟨m, _, h1, _⟩ := mkC_inv h
    simp at h1

theorem grow_sound : SoundC Try.prog 76 growC := by
  refine ⟨⟨_, Try.func76, rfl, rfl⟩, fun args objs r hr => ?_⟩
  obtain ⟨n, hn, rfl, rfl, rfl⟩ := mkC_inv hr
  refine ⟨fun x hx => by simp at hx, fun Ext G w vals M hl hx => ?_⟩
  match vals, hl with
  | [v1, v2], _ =>
  have e1 : v1 = .slice none 0 0 := by
    have := hx 0 _ v1 rfl rfl
    cases this; rfl
  have e2 : v2 = .int .i64 (n : Int) := by
    have := hx 1 _ v2 rfl rfl
    cases this with
    | c _ _ h => cases h; rfl
  subst e1 e2
  rcases Nat.eq_zero_or_pos n with h0 | h0
  · subst h0
    refine Calls.mono (grow_calls0 w) ?_
    rintro e W' ⟨rfl, rfl⟩
    have hG : ∀ i, G.h i = none := fun i => (M.home i).none_of
    let ρ : Ren := ⟨fun _ => none, fun i => if i = outName 0 then some 1 else none⟩
    have M' : MRel (cEnv W' Ext G.K) (ρ.gh G) (look (exitMem ⟨[.fresh 1 []], []⟩)) W' := by
      refine M.rename ⟨fun n n' q e _ => (by cases e), fun n q e => (by cases e), fun n z _ e2 => ?_, fun n _ e2 => ?_⟩
      · simp only [ρ] at e2
        split at e2
        · rename_i hh; cases e2; subst hh; rfl
        · cases e2
      · simp only [ρ] at e2
        split at e2
        · cases e2
        · rename_i hh
          show (if outName 0 = n then _ else none) = none
          rw [if_neg (Ne.symm hh)]
    refine ⟨ρ.gh G, _, rfl, ⟨Know.le_refl _, fun i h e => by rw [hG i] at e; cases e⟩, M', ?_⟩
    exact .own (outName 0) 1 [] _ none 0 rfl (Nat.le_refl _) (by simp) .nil (fun _ => rfl)
  · refine Calls.mono (grow_calls n h0 hn w) ?_
    rintro e W' ⟨rfl, rfl⟩
    obtain ⟨G', g1, g2, g3⟩ := M.newRow (w' := w.drew.alloc (.cells (([] : List Value).toArray ++ Builtin.zeroCells (Value.int .u8 0).cells n ++ Builtin.zeroCells (Value.int .u8 0).cells (grownCap w n 0 5 - n)) 5)) (n := outName 0) rfl (z := 1)
      (cap := grownCap w n 0 5) (rows := []) (vs := ([] : List Value).toArray ++ Builtin.zeroCells (Value.int .u8 0).cells n ++ Builtin.zeroCells (Value.int .u8 0).cells (grownCap w n 0 5 - n)) (ty := 5) (by decide) (by simp) (by simp) (by
        have := grownCap_ge w n 0 5
        simp [Builtin.zeroCells, Value.cells]; omega) (by show (w.heap.push _)[w.heap.size]? = _; simp) (by simp) (fun b hb => by
        show (w.heap.push _)[b]? = _
        rw [Array.getElem?_push, if_neg (by omega)]) rfl rfl rfl (by show _ ≤ (w.heap.push _).size; simp)
    exact ⟨G', _, rfl, g1, g3.congr fun i => rfl, g2⟩

/-- Slices of octets, as cells. -/
def slices (l : List (List UInt8)) : List (List PC) := l.map fun b => [PC.sl (bytes b)]
theorem slices_inj {a b : List (List UInt8)} (h : slices a = slices b) : a = b := by
  unfold slices at h
  refine (List.map_inj_right (fun x y h => ?_)).1 h
  simp at h
  exact bytes_inj h
theorem slices_length (l : List (List UInt8)) : (slices l).length = l.length := by simp [slices]
def concOK (l : List (List UInt8)) : Prop := l.flatten.length ≤ 140737488355328 ∧ l.length ≤ 4611686018427387904
noncomputable def concatC : Contract := mkC (α := List (List UInt8)) concOK (fun l => [.c (.sl (slices l))]) (fun _ => []) (fun l => ⟨[.fresh 1 (bytes l.flatten)], []⟩)
theorem concat_at (l : List (List UInt8)) (h : concOK l) : concatC [.c (.sl (slices l))] [] = some ⟨[.fresh 1 (bytes l.flatten)], []⟩ :=
  mkC_at (α := List (List UInt8)) l h (fun y _ h1 _ => by
    simp at h1
    rw [slices_inj h1])

theorem flat_take (l : List (List UInt8)) (i : Nat) : (l.take i).flatten.length ≤ l.flatten.length := by
  conv => rhs; rw [← List.take_append_drop i l, List.flatten_append, List.length_append]
  omega
theorem flat_succ {l : List (List UInt8)} {i : Nat} {b : List UInt8} (h : l[i]? = some b) : (l.take (i + 1)).flatten = (l.take i).flatten ++ b := by
  rw [List.take_add_one, h]
  simp

set_option maxHeartbeats 8000000 in
theorem concat_sound (hΓ : SoundG Try.prog Γ) (h87 : Γ 76 = growC) : SoundC Try.prog 73 concatC := by
  refine sound_fn Try.func73 (by kernel_rfl) rfl rfl ?_
  intro args objs r hr
  obtain ⟨l, ⟨hl1, hl2⟩, rfl, rfl, rfl⟩ := mkC_inv hr
  refine ⟨rfl, by show 1 ≤ _; decide, fun E hN hns hF => ?_⟩
  refine vc_sound hΓ mixed _ _ _ ?_
  have hN := hN.trans nt_73
  simp only [runA, runB, runC, runD, runE, runF, fieldE, storeE, ↓reduceIte, Nat.reduceLT, Nat.reduceLeDiff, Nat.reduceEqDiff, Nat.reduceAdd, Nat.reduceMul, Nat.reduceSub, reduceCtorEq, putAt, Nat.reduceBEq, buildE, List.replicate, Int.reduceLT, Int.reduceLE, Int.reduceToNat, mkE, mapSetE, w_add, w_and, w_or, w_xor, w_xorF, w_not, w_shl8, w_shl16, w_shl24, w_shr3, w_shr8, w_shr10, w_shr16, w_shr24, b_add, b_sub, b_mul, b_quo, b_rem, b_and, b_or, b_xor, b_andNot, b_eql, b_neq, b_lss, b_leq, b_gtr, b_geq, b_str, b_bool, u_neg, u_not, c_bw, c_wb, cellsW_length, cellsW_pure, cellsW_all, cellsE_W, backCells_W, cellsAt_W, cellPairs_W, cellsW_toPCs, cellsW_map, hN, hF, ty_3, ty_5, ty_73, ty_120, notIf, isEq, slices_length]
  refine AWP.loop (fun c s => ∃ i : Nat, i ≤ l.length ∧ c = l.length - i ∧ s = ⟨[(0, .c (.sl (slices l))), (3, .c (.int .i64 ((l.take i).flatten.length : Int))), (9, .c (.sl (slices l))), (10, .c (.int .i64 (l.length : Int))), (11, .c (.int .i64 (i : Int)))], []⟩) ⟨l.length, _, ?w, 0, Nat.zero_le _, rfl, rfl⟩ ?r
  case w =>
    rw [hns]
    simp only [runB, finC, finD, AS.get, AS.mem, false_implies, implies_true, ↓reduceIte, Nat.reduceEqDiff, Option.isSome_some, Option.isSome_none, forall_eq_or_imp, forall_eq, reduceCtorEq, Nat.reduceAdd, Nat.reduceMul, List.zip_cons_cons, List.zip_nil_left, List.zip_nil_right, List.forall_mem_nil]
    first | done | simp
  case r =>
    rintro c s ⟨i, hi, rfl, rfl⟩
    refine vc_sound hΓ mixed _ _ _ ?_
    by_cases hlt : i < l.length
    · have h1 : decide ((i : Int) < (l.length : Int)) = true := by simpa using hlt
      obtain ⟨b, hb⟩ : ∃ b, l[i]? = some b := ⟨l[i], by simp [hlt]⟩
      have hbr : (slices l)[i]? = some [PC.sl (bytes b)] := by simp [slices, hb]
      have hs := flat_succ hb
      have hle := flat_take l (i + 1)
      rw [hs, List.length_append] at hle
      have e1 : IntKind.i64.wrap ((i : Int) + 1) = (i : Int) + 1 := wrapI (by omega)
      have e2 : IntKind.i64.wrap (((l.take i).flatten.length : Int) + (b.length : Int)) = ((l.take (i + 1)).flatten.length : Int) := by
        rw [hs, List.length_append, wrapI (by omega)]; omega
      have e3 : decide (((l.take (i + 1)).flatten.length : Int) < 0) = false := by simp
      simp only [runA, runB, runC, runD, runE, runF, fieldE, storeE, ↓reduceIte, Nat.reduceLT, Nat.reduceLeDiff, Nat.reduceEqDiff, Nat.reduceAdd, Nat.reduceMul, Nat.reduceSub, reduceCtorEq, putAt, Nat.reduceBEq, buildE, List.replicate, Int.reduceLT, Int.reduceLE, Int.reduceToNat, mkE, mapSetE, w_add, w_and, w_or, w_xor, w_xorF, w_not, w_shl8, w_shl16, w_shl24, w_shr3, w_shr8, w_shr10, w_shr16, w_shr24, b_add, b_sub, b_mul, b_quo, b_rem, b_and, b_or, b_xor, b_andNot, b_eql, b_neq, b_lss, b_leq, b_gtr, b_geq, b_str, b_bool, u_neg, u_not, c_bw, c_wb, cellsW_length, cellsW_pure, cellsW_all, cellsE_W, backCells_W, cellsAt_W, cellPairs_W, cellsW_toPCs, cellsW_map, hN, hF, ty_3, ty_5, ty_73, ty_120, notIf, isEq, h1, hbr, e1, e2, e3, intOp, bytes_length]
      refine ⟨l.length - (i + 1), _, by omega, ?_, i + 1, by omega, rfl, rfl⟩
      rw [hns]
      simp only [runB, finC, finD, AS.get, AS.mem, false_implies, implies_true, ↓reduceIte, Nat.reduceEqDiff, Option.isSome_some, Option.isSome_none, forall_eq_or_imp, forall_eq, reduceCtorEq, Nat.reduceAdd, Nat.reduceMul, List.zip_cons_cons, List.zip_nil_left, List.zip_nil_right, List.forall_mem_nil]
      first | done | simp
    · have h1 : decide ((i : Int) < (l.length : Int)) = false := by simpa using hlt
      obtain rfl : i = l.length := by omega
      have hg := grow_at (l.take l.length).flatten.length (by rw [List.take_length]; exact hl1)
      have hg0 := grow_no ((l.take l.length).flatten.length : Int)
      simp only [runA, runB, runC, runD, runE, runF, fieldE, storeE, ↓reduceIte, Nat.reduceLT, Nat.reduceLeDiff, Nat.reduceEqDiff, Nat.reduceAdd, Nat.reduceMul, Nat.reduceSub, reduceCtorEq, putAt, Nat.reduceBEq, buildE, List.replicate, Int.reduceLT, Int.reduceLE, Int.reduceToNat, mkE, mapSetE, w_add, w_and, w_or, w_xor, w_xorF, w_not, w_shl8, w_shl16, w_shl24, w_shr3, w_shr8, w_shr10, w_shr16, w_shr24, b_add, b_sub, b_mul, b_quo, b_rem, b_and, b_or, b_xor, b_andNot, b_eql, b_neq, b_lss, b_leq, b_gtr, b_geq, b_str, b_bool, u_neg, u_not, c_bw, c_wb, cellsW_length, cellsW_pure, cellsW_all, cellsE_W, backCells_W, cellsAt_W, cellPairs_W, cellsW_toPCs, cellsW_map, hN, hF, ty_3, ty_5, ty_73, ty_120, notIf, isEq, h1, h87, hg, hg0, intOp, slices_length]
      refine AWP.loop (fun c s => ∃ i : Nat, i ≤ l.length ∧ c = l.length - i ∧ s = ⟨[(6, .own 1538 1 (bytes (l.take i).flatten)), (25, .c (.sl (slices l))), (26, .c (.int .i64 (l.length : Int))), (27, .c (.int .i64 (i : Int)))], [(1538, .row 1 (l.take i).flatten.length)]⟩) ⟨l.length, _, ?w2, 0, Nat.zero_le _, rfl, rfl⟩ ?r2
      case w2 =>
        rw [hns]
        simp only [runB, finC, finD, AS.get, AS.mem, false_implies, implies_true, ↓reduceIte, Nat.reduceEqDiff, Option.isSome_some, Option.isSome_none, forall_eq_or_imp, forall_eq, reduceCtorEq, Nat.reduceAdd, Nat.reduceMul, List.zip_cons_cons, List.zip_nil_left, List.zip_nil_right, List.forall_mem_nil]
        simp [bytes]
      case r2 =>
        rintro c s ⟨i, hi, rfl, rfl⟩
        refine vc_sound hΓ mixed _ _ _ ?_
        by_cases hlt : i < l.length
        · have h1 : decide ((i : Int) < (l.length : Int)) = true := by simpa using hlt
          obtain ⟨b, hb⟩ : ∃ b, l[i]? = some b := ⟨l[i], by simp [hlt]⟩
          have hbr : (slices l)[i]? = some [PC.sl (bytes b)] := by simp [slices, hb]
          have hs := flat_succ hb
          have hle := flat_take l (i + 1)
          have hle' := hle
          rw [hs, List.length_append] at hle'
          have e1 : IntKind.i64.wrap ((i : Int) + 1) = (i : Int) + 1 := wrapI (by omega)
          have hz := rowsOK_bytes
          have hL : (l.take i).flatten.length + b.length ≤ 140737488355328 := by omega
          simp only [runA, runB, runC, runD, runE, runF, fieldE, storeE, ↓reduceIte, Nat.reduceLT, Nat.reduceLeDiff, Nat.reduceEqDiff, Nat.reduceAdd, Nat.reduceMul, Nat.reduceSub, reduceCtorEq, putAt, Nat.reduceBEq, buildE, List.replicate, Int.reduceLT, Int.reduceLE, Int.reduceToNat, mkE, mapSetE, w_add, w_and, w_or, w_xor, w_xorF, w_not, w_shl8, w_shl16, w_shl24, w_shr3, w_shr8, w_shr10, w_shr16, w_shr24, b_add, b_sub, b_mul, b_quo, b_rem, b_and, b_or, b_xor, b_andNot, b_eql, b_neq, b_lss, b_leq, b_gtr, b_geq, b_str, b_bool, u_neg, u_not, c_bw, c_wb, cellsW_length, cellsW_pure, cellsW_all, cellsE_W, backCells_W, cellsAt_W, cellPairs_W, cellsW_toPCs, cellsW_map, hN, hF, ty_3, ty_5, ty_73, ty_120, notIf, isEq, h1, hbr, e1, hz, hL, intOp, bytes_length, bytes_app, ← hs]
          refine ⟨l.length - (i + 1), _, by omega, ?_, i + 1, by omega, rfl, rfl⟩
          rw [hns]
          simp only [runB, finC, finD, AS.get, AS.mem, false_implies, implies_true, ↓reduceIte, Nat.reduceEqDiff, Option.isSome_some, Option.isSome_none, forall_eq_or_imp, forall_eq, reduceCtorEq, Nat.reduceAdd, Nat.reduceMul, List.zip_cons_cons, List.zip_nil_left, List.zip_nil_right, List.forall_mem_nil]
          first | done | (rw [hs]; simp)
        · have h1 : decide ((i : Int) < (l.length : Int)) = false := by simpa using hlt
          obtain rfl : i = l.length := by omega
          simp only [runA, runB, runC, runD, runE, runF, fieldE, storeE, ↓reduceIte, Nat.reduceLT, Nat.reduceLeDiff, Nat.reduceEqDiff, Nat.reduceAdd, Nat.reduceMul, Nat.reduceSub, reduceCtorEq, putAt, Nat.reduceBEq, buildE, List.replicate, Int.reduceLT, Int.reduceLE, Int.reduceToNat, mkE, mapSetE, w_add, w_and, w_or, w_xor, w_xorF, w_not, w_shl8, w_shl16, w_shl24, w_shr3, w_shr8, w_shr10, w_shr16, w_shr24, b_add, b_sub, b_mul, b_quo, b_rem, b_and, b_or, b_xor, b_andNot, b_eql, b_neq, b_lss, b_leq, b_gtr, b_geq, b_str, b_bool, u_neg, u_not, c_bw, c_wb, cellsW_length, cellsW_pure, cellsW_all, cellsE_W, backCells_W, cellsAt_W, cellPairs_W, cellsW_toPCs, cellsW_map, hN, hF, ty_3, ty_5, ty_73, ty_120, notIf, isEq, h1, intOp]
          simp only [runB, finC, finD, Option.isSome_some, Option.isSome_none, ↓reduceIte, Nat.reduceEqDiff, Nat.reduceAdd, Nat.reduceMul, forall_eq_or_imp, forall_eq, implies_true, Nat.reduceBEq, reduceCtorEq, false_implies, List.zip_cons_cons, List.zip_nil_left, List.zip_nil_right, Nat.reduceLeDiff, List.forall_mem_nil, rs_73, bytes_length, List.take_length]

theorem join_sound (hΓ : SoundG Try.prog Γ) (h84 : Γ 73 = concatC) : SoundC Try.prog 66 concatC := by
  refine sound_fn Try.func66 (by kernel_rfl) rfl rfl ?_
  intro args objs r hr
  obtain ⟨l, hl, rfl, rfl, rfl⟩ := mkC_inv hr
  refine ⟨rfl, by show 1 ≤ _; decide, fun E hN hns hF => ?_⟩
  refine vc_sound hΓ mixed _ _ _ ?_
  have hN := hN.trans nt_66
  have h1 := concat_at l hl
  simp only [runA, runB, runC, runD, runE, runF, fieldE, storeE, ↓reduceIte, Nat.reduceLT, Nat.reduceLeDiff, Nat.reduceEqDiff, Nat.reduceAdd, Nat.reduceMul, Nat.reduceSub, reduceCtorEq, putAt, Nat.reduceBEq, buildE, List.replicate, Int.reduceLT, Int.reduceLE, Int.reduceToNat, mkE, mapSetE, w_add, w_and, w_or, w_xor, w_xorF, w_not, w_shl8, w_shl16, w_shl24, w_shr3, w_shr8, w_shr10, w_shr16, w_shr24, b_add, b_sub, b_mul, b_quo, b_rem, b_and, b_or, b_xor, b_andNot, b_eql, b_neq, b_lss, b_leq, b_gtr, b_geq, b_str, b_bool, u_neg, u_not, c_bw, c_wb, cellsW_length, cellsW_pure, cellsW_all, cellsE_W, backCells_W, cellsAt_W, cellPairs_W, cellsW_toPCs, cellsW_map, hN, hF, ty_5, ty_73, ty_120, notIf, isEq, h84, h1]
  simp only [runB, finC, finD, Option.isSome_some, Option.isSome_none, ↓reduceIte, Nat.reduceEqDiff, Nat.reduceAdd, Nat.reduceMul, forall_eq_or_imp, forall_eq, implies_true, Nat.reduceBEq, reduceCtorEq, false_implies, List.zip_cons_cons, List.zip_nil_left, List.zip_nil_right, Nat.reduceLeDiff, List.forall_mem_nil, rs_66]


variable {Γ : FuncId → Contract}

/-- So much of a word of four octets. -/
def wordTo (b : List UInt8) (at_ : Int) : Nat → W32
  | 0 => 0
  | i + 1 => (wordTo b at_ i <<< 8) ||| (if 0 ≤ at_ ∧ at_ < (b.length : Int) - (i : Int) then bw (b.getD (at_.toNat + i) 0) else 0)
def wordS (b : List UInt8) (at_ : Int) : W32 := wordTo b at_ 4

noncomputable def wordC : Contract := mkC (α := List UInt8 × Int) (fun p => p.1.length ≤ 9223372036854775807) (fun p => [.c (.sl (bytes p.1)), .c (.int .i64 p.2)]) (fun _ => []) (fun p => ⟨[.pv (.c (wC (wordS p.1 p.2)))], []⟩)
theorem word_at (b : List UInt8) (n : Int) (h : b.length ≤ 9223372036854775807) : wordC [.c (.sl (bytes b)), .c (.int .i64 n)] [] = some ⟨[.pv (.c (wC (wordS b n)))], []⟩ :=
  mkC_at (α := List UInt8 × Int) (b, n) h (by
    rintro ⟨y, m⟩ _ h _
    simp only [List.cons.injEq, AV.c.injEq, PC.int.injEq, PC.sl.injEq, true_and, and_true] at h
    obtain ⟨e1, e2⟩ := h
    obtain rfl := bytes_inj e1
    obtain rfl := e2
    rfl)

theorem or0 (x : W32) : x ||| 0 = x := by simp

set_option maxHeartbeats 8000000 in
theorem word_sound : SoundC Try.prog 77 wordC := by
  refine sound_fn Try.func77 (by kernel_rfl) rfl rfl ?_
  intro args objs r hr
  obtain ⟨⟨b, n⟩, hl, rfl, rfl, rfl⟩ := mkC_inv hr
  refine ⟨rfl, by show 2 ≤ _; decide, fun E hN hns hF => ?_⟩
  refine vc_sound none0_sound mixed _ _ _ ?_
  have hN := hN.trans nt_77
  dsimp only at hl ⊢
  simp only [runA, runB, runC, runD, runE, runF, fieldE, storeE, ↓reduceIte, Nat.reduceLT, Nat.reduceLeDiff, Nat.reduceEqDiff, Nat.reduceAdd, Nat.reduceMul, Nat.reduceSub, reduceCtorEq, putAt, Nat.reduceBEq, buildE, List.replicate, Int.reduceLT, Int.reduceLE, Int.reduceToNat, mkE, mapSetE, w_add, w_and, w_or, w_xor, w_xorF, w_not, w_shl8, w_shl16, w_shl24, w_shr3, w_shr8, w_shr10, w_shr16, w_shr24, b_add, b_sub, b_mul, b_quo, b_rem, b_and, b_or, b_xor, b_andNot, b_eql, b_neq, b_lss, b_leq, b_gtr, b_geq, b_str, b_bool, u_neg, u_not, c_bw, c_wb, cellsW_length, cellsW_pure, cellsW_all, cellsE_W, backCells_W, cellsAt_W, cellPairs_W, cellsW_toPCs, cellsW_map, hN, hF, ty_3, ty_5, ty_73, ty_128, notIf, isEq]
  refine AWP.loop (fun c s => ∃ i : Nat, i ≤ 4 ∧ c = 4 - i ∧ s = ⟨[(0, .c (.sl (bytes b))), (1, .c (.int .i64 n)), (5, .c (wC (wordTo b n i))), (7, .c (.int .i64 (i : Int)))], []⟩) ⟨4, _, ?w, 0, Nat.zero_le _, rfl, rfl⟩ ?r
  case w =>
    rw [hns]
    simp only [runB, finC, finD, AS.get, AS.mem, false_implies, implies_true, ↓reduceIte, Nat.reduceEqDiff, Option.isSome_some, Option.isSome_none, forall_eq_or_imp, forall_eq, reduceCtorEq, Nat.reduceAdd, Nat.reduceMul, List.zip_cons_cons, List.zip_nil_left, List.zip_nil_right, List.forall_mem_nil]
    first | done | exact ⟨rfl, rfl⟩ | rfl
  case r =>
    rintro c s ⟨i, hi, rfl, rfl⟩
    refine vc_sound none0_sound mixed _ _ _ ?_
    by_cases hlt : i < 4
    · have h1 : decide ((i : Int) < 4) = true := by simp; omega
      have e1 : IntKind.i64.wrap ((i : Int) + 1) = (i : Int) + 1 := wrapI (by omega)
      have e2 : IntKind.i64.wrap ((b.length : Int) - (i : Int)) = (b.length : Int) - (i : Int) := wrapI (by omega)
      by_cases h0 : 0 ≤ n
      · have g0 : decide (n ≥ 0) = true := by simpa using h0
        by_cases hin : n < (b.length : Int) - (i : Int)
        · have g1 : decide (n < (b.length : Int) - (i : Int)) = true := by simpa using hin
          have e3 : IntKind.i64.wrap (n + (i : Int)) = n + (i : Int) := wrapI (by omega)
          have e4 : 0 ≤ n + (i : Int) := by omega
          have hnl : n.toNat + i < b.length := by omega
          have e5 : (n + (i : Int)).toNat = n.toNat + i := by omega
          have hb : (bytes b)[n.toNat + i]? = some [PC.int .u8 ((b.getD (n.toNat + i) 0).toNat : Int)] := by simp [bytes, hnl]
          have hw : wordTo b n i <<< 8 ||| bw (b.getD (n.toNat + i) 0) = wordTo b n (i + 1) := by
            show _ = (wordTo b n i <<< 8) ||| _
            rw [if_pos ⟨h0, hin⟩]
          simp only [runA, runB, runC, runD, runE, runF, fieldE, storeE, ↓reduceIte, Nat.reduceLT, Nat.reduceLeDiff, Nat.reduceEqDiff, Nat.reduceAdd, Nat.reduceMul, Nat.reduceSub, reduceCtorEq, putAt, Nat.reduceBEq, buildE, List.replicate, Int.reduceLT, Int.reduceLE, Int.reduceToNat, mkE, mapSetE, w_add, w_and, w_or, w_xor, w_xorF, w_not, w_shl8, w_shl16, w_shl24, w_shr3, w_shr8, w_shr10, w_shr16, w_shr24, b_add, b_sub, b_mul, b_quo, b_rem, b_and, b_or, b_xor, b_andNot, b_eql, b_neq, b_lss, b_leq, b_gtr, b_geq, b_str, b_bool, u_neg, u_not, c_bw, c_wb, cellsW_length, cellsW_pure, cellsW_all, cellsE_W, backCells_W, cellsAt_W, cellPairs_W, cellsW_toPCs, cellsW_map, hN, hF, ty_3, ty_5, ty_73, ty_128, notIf, isEq, intOp, h1, e1, e2, e3, e4, e5, g0, g1, hb, hw, bytes_length]
          refine ⟨4 - (i + 1), _, by omega, ?_, i + 1, by omega, rfl, rfl⟩
          rw [hns]
          simp only [runB, finC, finD, AS.get, AS.mem, false_implies, implies_true, ↓reduceIte, Nat.reduceEqDiff, Option.isSome_some, Option.isSome_none, forall_eq_or_imp, forall_eq, reduceCtorEq, Nat.reduceAdd, Nat.reduceMul, List.zip_cons_cons, List.zip_nil_left, List.zip_nil_right, List.forall_mem_nil]
          first | done | simp
        · have g1 : decide (n < (b.length : Int) - (i : Int)) = false := by simp; omega
          have hw : wordTo b n i <<< 8 = wordTo b n (i + 1) := by
            show _ = (wordTo b n i <<< 8) ||| _
            rw [if_neg (fun h => hin h.2), or0]
          simp only [runA, runB, runC, runD, runE, runF, fieldE, storeE, ↓reduceIte, Nat.reduceLT, Nat.reduceLeDiff, Nat.reduceEqDiff, Nat.reduceAdd, Nat.reduceMul, Nat.reduceSub, reduceCtorEq, putAt, Nat.reduceBEq, buildE, List.replicate, Int.reduceLT, Int.reduceLE, Int.reduceToNat, mkE, mapSetE, w_add, w_and, w_or, w_xor, w_xorF, w_not, w_shl8, w_shl16, w_shl24, w_shr3, w_shr8, w_shr10, w_shr16, w_shr24, b_add, b_sub, b_mul, b_quo, b_rem, b_and, b_or, b_xor, b_andNot, b_eql, b_neq, b_lss, b_leq, b_gtr, b_geq, b_str, b_bool, u_neg, u_not, c_bw, c_wb, cellsW_length, cellsW_pure, cellsW_all, cellsE_W, backCells_W, cellsAt_W, cellPairs_W, cellsW_toPCs, cellsW_map, hN, hF, ty_3, ty_5, ty_73, ty_128, notIf, isEq, intOp, h1, e1, e2, g0, g1, hw, bytes_length]
          refine ⟨4 - (i + 1), _, by omega, ?_, i + 1, by omega, rfl, rfl⟩
          rw [hns]
          simp only [runB, finC, finD, AS.get, AS.mem, false_implies, implies_true, ↓reduceIte, Nat.reduceEqDiff, Option.isSome_some, Option.isSome_none, forall_eq_or_imp, forall_eq, reduceCtorEq, Nat.reduceAdd, Nat.reduceMul, List.zip_cons_cons, List.zip_nil_left, List.zip_nil_right, List.forall_mem_nil]
          first | done | simp
      · have g0 : decide (n ≥ 0) = false := by simp; omega
        have hw : wordTo b n i <<< 8 = wordTo b n (i + 1) := by
          show _ = (wordTo b n i <<< 8) ||| _
          rw [if_neg (fun h => h0 h.1), or0]
        simp only [runA, runB, runC, runD, runE, runF, fieldE, storeE, ↓reduceIte, Nat.reduceLT, Nat.reduceLeDiff, Nat.reduceEqDiff, Nat.reduceAdd, Nat.reduceMul, Nat.reduceSub, reduceCtorEq, putAt, Nat.reduceBEq, buildE, List.replicate, Int.reduceLT, Int.reduceLE, Int.reduceToNat, mkE, mapSetE, w_add, w_and, w_or, w_xor, w_xorF, w_not, w_shl8, w_shl16, w_shl24, w_shr3, w_shr8, w_shr10, w_shr16, w_shr24, b_add, b_sub, b_mul, b_quo, b_rem, b_and, b_or, b_xor, b_andNot, b_eql, b_neq, b_lss, b_leq, b_gtr, b_geq, b_str, b_bool, u_neg, u_not, c_bw, c_wb, cellsW_length, cellsW_pure, cellsW_all, cellsE_W, backCells_W, cellsAt_W, cellPairs_W, cellsW_toPCs, cellsW_map, hN, hF, ty_3, ty_5, ty_73, ty_128, notIf, isEq, intOp, h1, e1, e2, g0, hw, bytes_length]
        refine ⟨4 - (i + 1), _, by omega, ?_, i + 1, by omega, rfl, rfl⟩
        rw [hns]
        simp only [runB, finC, finD, AS.get, AS.mem, false_implies, implies_true, ↓reduceIte, Nat.reduceEqDiff, Option.isSome_some, Option.isSome_none, forall_eq_or_imp, forall_eq, reduceCtorEq, Nat.reduceAdd, Nat.reduceMul, List.zip_cons_cons, List.zip_nil_left, List.zip_nil_right, List.forall_mem_nil]
        first | done | simp
    · have h1 : decide ((i : Int) < 4) = false := by simp; omega
      obtain rfl : i = 4 := by omega
      simp only [runA, runB, runC, runD, runE, runF, fieldE, storeE, ↓reduceIte, Nat.reduceLT, Nat.reduceLeDiff, Nat.reduceEqDiff, Nat.reduceAdd, Nat.reduceMul, Nat.reduceSub, reduceCtorEq, putAt, Nat.reduceBEq, buildE, List.replicate, Int.reduceLT, Int.reduceLE, Int.reduceToNat, mkE, mapSetE, w_add, w_and, w_or, w_xor, w_xorF, w_not, w_shl8, w_shl16, w_shl24, w_shr3, w_shr8, w_shr10, w_shr16, w_shr24, b_add, b_sub, b_mul, b_quo, b_rem, b_and, b_or, b_xor, b_andNot, b_eql, b_neq, b_lss, b_leq, b_gtr, b_geq, b_str, b_bool, u_neg, u_not, c_bw, c_wb, cellsW_length, cellsW_pure, cellsW_all, cellsE_W, backCells_W, cellsAt_W, cellPairs_W, cellsW_toPCs, cellsW_map, hN, hF, ty_3, ty_5, ty_73, ty_128, notIf, isEq, intOp, h1]
      simp only [runB, finC, finD, Option.isSome_some, Option.isSome_none, ↓reduceIte, Nat.reduceEqDiff, Nat.reduceAdd, Nat.reduceMul, forall_eq_or_imp, forall_eq, implies_true, Nat.reduceBEq, reduceCtorEq, false_implies, List.zip_cons_cons, List.zip_nil_left, List.zip_nil_right, Nat.reduceLeDiff, List.forall_mem_nil, rs_77, wordS]

/-- Words' octets. -/
def octs (x : W32) : List UInt8 := [wb (x >>> 24), wb (x >>> 16), wb (x >>> 8), wb x]
def octsOf (l : List W32) : List UInt8 := l.flatMap octs
noncomputable def wordsC : Contract := mkC (α := List W32) (fun l => l.length ≤ 1000000) (fun l => [.msl (inObj 0) 0 l.length true]) (fun l => [ovW l]) (fun l => ⟨[.fresh 1 (bytes (octsOf l))], [ovW l]⟩)
theorem words_at (l : List W32) (n : Nat) (hn : n = l.length) (h : l.length ≤ 1000000) : wordsC [.msl (inObj 0) 0 n true] [ovW l] = some ⟨[.fresh 1 (bytes (octsOf l))], [ovW l]⟩ := by
  subst hn
  exact mkC_at (α := List W32) l h (by
    rintro y _ _ h
    simp at h
    rw [ovW_inj h])

theorem octs_rows (x : W32) : [[PC.int .u8 ((wb (x >>> 24)).toNat : Int)], [PC.int .u8 ((wb (x >>> 16)).toNat : Int)], [PC.int .u8 ((wb (x >>> 8)).toNat : Int)], [PC.int .u8 ((wb x).toNat : Int)]] = bytes (octs x) := rfl
theorem octsOf_succ {l : List W32} {i : Nat} {x : W32} (h : l[i]? = some x) : octsOf (l.take (i + 1)) = octsOf (l.take i) ++ octs x := by
  unfold octsOf
  rw [List.take_add_one, h]
  simp
theorem octsOf_length (l : List W32) : (octsOf l).length = 4 * l.length := by
  induction l with
  | nil => rfl
  | cons x l ih => simp [octsOf, octs] at ih ⊢; omega

set_option maxHeartbeats 8000000 in
theorem words_sound : SoundC Try.prog 72 wordsC := by
  refine sound_fn Try.func72 (by kernel_rfl) rfl rfl ?_
  intro args objs r hr
  obtain ⟨l, hl, rfl, rfl, rfl⟩ := mkC_inv hr
  refine ⟨rfl, by show 1 ≤ _; decide, fun E hN hns hF => ?_⟩
  refine vc_sound none0_sound mixed _ _ _ ?_
  have hN := hN.trans nt_72
  have e1 : IntKind.i64.wrap (4 * (l.length : Int)) = 4 * (l.length : Int) := wrapI (by omega)
  have e2 : (0 : Int) ≤ 4 * (l.length : Int) := by omega
  have e3 : 4 * (l.length : Int) ≤ 9223372036854775807 := by omega
  have e4 : 4 * (l.length : Int) * ((1 : Nat) : Int) ≤ 140737488355328 := by omega
  simp only [runA, runB, runC, runD, runE, runF, fieldE, storeE, ↓reduceIte, Nat.reduceLT, Nat.reduceLeDiff, Nat.reduceEqDiff, Nat.reduceAdd, Nat.reduceMul, Nat.reduceSub, reduceCtorEq, putAt, Nat.reduceBEq, buildE, List.replicate, Int.reduceLT, Int.reduceLE, Int.reduceToNat, mkE, mapSetE, w_add, w_and, w_or, w_xor, w_xorF, w_not, w_shl8, w_shl16, w_shl24, w_shr3, w_shr8, w_shr10, w_shr16, w_shr24, b_add, b_sub, b_mul, b_quo, b_rem, b_and, b_or, b_xor, b_andNot, b_eql, b_neq, b_lss, b_leq, b_gtr, b_geq, b_str, b_bool, u_neg, u_not, c_bw, c_wb, cellsW_length, cellsW_pure, cellsW_all, cellsE_W, backCells_W, cellsAt_W, cellPairs_W, cellsW_toPCs, cellsW_map, hN, hF, ty_3, ty_5, ty_73, ty_128, ty_171, notIf, isEq, intOp, e1, e2, e3, e4, Int.le_refl]
  refine AWP.loop (fun c s => ∃ i : Nat, i ≤ l.length ∧ c = l.length - i ∧ s = ⟨[(3, .own 577 1 (bytes (octsOf (l.take i)))), (10, .msl 6400000 0 l.length true), (11, .c (.int .i64 (l.length : Int))), (12, .c (.int .i64 (i : Int)))], [(577, .row 1 (octsOf (l.take i)).length), (6400000, .obj (cellsW l) false)]⟩) ⟨l.length, _, ?w, 0, Nat.zero_le _, rfl, rfl⟩ ?r
  case w =>
    rw [hns]
    simp only [runB, finC, finD, AS.get, AS.mem, false_implies, implies_true, ↓reduceIte, Nat.reduceEqDiff, Option.isSome_some, Option.isSome_none, forall_eq_or_imp, forall_eq, reduceCtorEq, Nat.reduceAdd, Nat.reduceMul, List.zip_cons_cons, List.zip_nil_left, List.zip_nil_right, List.forall_mem_nil, cellsAt_W, cellsW_amds]
    simp [octsOf, bytes]
  case r =>
    rintro c s ⟨i, hi, rfl, rfl⟩
    refine vc_sound none0_sound mixed _ _ _ ?_
    by_cases hlt : i < l.length
    · have h1 : decide ((i : Int) < (l.length : Int)) = true := by simpa using hlt
      have h2 : (i : Int) < (l.length : Int) := by omega
      obtain ⟨x, hx⟩ : ∃ x, l[i]? = some x := ⟨l[i], by simp [hlt]⟩
      have hc := cellsW_get hx
      have e1 : IntKind.i64.wrap ((i : Int) + 1) = (i : Int) + 1 := wrapI (by omega)
      have hs := octsOf_succ hx
      have hlen : (octsOf (l.take i)).length + 4 ≤ 140737488355328 := by rw [octsOf_length, List.length_take]; omega
      have hz := rowsOK_bytes
      have h4 : (octs x).length = 4 := rfl
      simp only [runA, runB, runC, runD, runE, runF, fieldE, storeE, ↓reduceIte, Nat.reduceLT, Nat.reduceLeDiff, Nat.reduceEqDiff, Nat.reduceAdd, Nat.reduceMul, Nat.reduceSub, reduceCtorEq, putAt, Nat.reduceBEq, buildE, List.replicate, Int.reduceLT, Int.reduceLE, Int.reduceToNat, mkE, mapSetE, w_add, w_and, w_or, w_xor, w_xorF, w_not, w_shl8, w_shl16, w_shl24, w_shr3, w_shr8, w_shr10, w_shr16, w_shr24, b_add, b_sub, b_mul, b_quo, b_rem, b_and, b_or, b_xor, b_andNot, b_eql, b_neq, b_lss, b_leq, b_gtr, b_geq, b_str, b_bool, u_neg, u_not, c_bw, c_wb, cellsW_length, cellsW_pure, cellsW_all, cellsE_W, backCells_W, cellsAt_W, cellPairs_W, cellsW_toPCs, cellsW_map, hN, hF, ty_3, ty_5, ty_73, ty_128, ty_171, notIf, isEq, intOp, h1, h2, hc, e1, octs_rows, hz, hlen, h4, bytes_length, bytes_app, ← hs]
      refine ⟨l.length - (i + 1), _, by omega, ?_, i + 1, by omega, rfl, rfl⟩
      rw [hns]
      simp only [runB, finC, finD, AS.get, AS.mem, false_implies, implies_true, ↓reduceIte, Nat.reduceEqDiff, Option.isSome_some, Option.isSome_none, forall_eq_or_imp, forall_eq, reduceCtorEq, Nat.reduceAdd, Nat.reduceMul, List.zip_cons_cons, List.zip_nil_left, List.zip_nil_right, List.forall_mem_nil, cellsAt_W, cellsW_amds]
      first | done | (rw [hs]; simp [octs])
    · have h1 : decide ((i : Int) < (l.length : Int)) = false := by simpa using hlt
      obtain rfl : i = l.length := by omega
      simp only [runA, runB, runC, runD, runE, runF, fieldE, storeE, ↓reduceIte, Nat.reduceLT, Nat.reduceLeDiff, Nat.reduceEqDiff, Nat.reduceAdd, Nat.reduceMul, Nat.reduceSub, reduceCtorEq, putAt, Nat.reduceBEq, buildE, List.replicate, Int.reduceLT, Int.reduceLE, Int.reduceToNat, mkE, mapSetE, w_add, w_and, w_or, w_xor, w_xorF, w_not, w_shl8, w_shl16, w_shl24, w_shr3, w_shr8, w_shr10, w_shr16, w_shr24, b_add, b_sub, b_mul, b_quo, b_rem, b_and, b_or, b_xor, b_andNot, b_eql, b_neq, b_lss, b_leq, b_gtr, b_geq, b_str, b_bool, u_neg, u_not, c_bw, c_wb, cellsW_length, cellsW_pure, cellsW_all, cellsE_W, backCells_W, cellsAt_W, cellPairs_W, cellsW_toPCs, cellsW_map, hN, hF, ty_3, ty_5, ty_73, ty_128, ty_171, notIf, isEq, intOp, h1]
      simp only [runB, finC, finD, Option.isSome_some, Option.isSome_none, ↓reduceIte, Nat.reduceEqDiff, Nat.reduceAdd, Nat.reduceMul, forall_eq_or_imp, forall_eq, implies_true, Nat.reduceBEq, reduceCtorEq, false_implies, List.zip_cons_cons, List.zip_nil_left, List.zip_nil_right, Nat.reduceLeDiff, List.forall_mem_nil, rs_72, bytes_length, List.take_length, cellsAt_W, cellPairs_W, cellsW_amds]


variable {Γ : FuncId → Contract}

def kS : List W32 := [1116352408, 1899447441, 3049323471, 3921009573, 961987163, 1508970993, 2453635748, 2870763221, 3624381080, 310598401, 607225278, 1426881987, 1925078388, 2162078206, 2614888103, 3248222580, 3835390401, 4022224774, 264347078, 604807628, 770255983, 1249150122, 1555081692, 1996064986, 2554220882, 2821834349, 2952996808, 3210313671, 3336571891, 3584528711, 113926993, 338241895, 666307205, 773529912, 1294757372, 1396182291, 1695183700, 1986661051, 2177026350, 2456956037, 2730485921, 2820302411, 3259730800, 3345764771, 3516065817, 3600352804, 4094571909, 275423344, 430227734, 506948616, 659060556, 883997877, 958139571, 1322822218, 1537002063, 1747873779, 1955562222, 2024104815, 2227730452, 2361852424, 2428436474, 2756734187, 3204031479, 3329325298]
def hS : List W32 := [1779033703, 3144134277, 1013904242, 2773480762, 1359893119, 2600822924, 528734635, 1541459225]
theorem kS_length : kS.length = 64 := by decide
theorem hS_length : hS.length = 8 := by decide

set_option maxRecDepth 100000 in
theorem build_k : buildE Try.prog 166 [(0, .c (.int .u32 1116352408)), (1, .c (.int .u32 1899447441)), (2, .c (.int .u32 3049323471)), (3, .c (.int .u32 3921009573)), (4, .c (.int .u32 961987163)), (5, .c (.int .u32 1508970993)), (6, .c (.int .u32 2453635748)), (7, .c (.int .u32 2870763221)), (8, .c (.int .u32 3624381080)), (9, .c (.int .u32 310598401)), (10, .c (.int .u32 607225278)), (11, .c (.int .u32 1426881987)), (12, .c (.int .u32 1925078388)), (13, .c (.int .u32 2162078206)), (14, .c (.int .u32 2614888103)), (15, .c (.int .u32 3248222580)), (16, .c (.int .u32 3835390401)), (17, .c (.int .u32 4022224774)), (18, .c (.int .u32 264347078)), (19, .c (.int .u32 604807628)), (20, .c (.int .u32 770255983)), (21, .c (.int .u32 1249150122)), (22, .c (.int .u32 1555081692)), (23, .c (.int .u32 1996064986)), (24, .c (.int .u32 2554220882)), (25, .c (.int .u32 2821834349)), (26, .c (.int .u32 2952996808)), (27, .c (.int .u32 3210313671)), (28, .c (.int .u32 3336571891)), (29, .c (.int .u32 3584528711)), (30, .c (.int .u32 113926993)), (31, .c (.int .u32 338241895)), (32, .c (.int .u32 666307205)), (33, .c (.int .u32 773529912)), (34, .c (.int .u32 1294757372)), (35, .c (.int .u32 1396182291)), (36, .c (.int .u32 1695183700)), (37, .c (.int .u32 1986661051)), (38, .c (.int .u32 2177026350)), (39, .c (.int .u32 2456956037)), (40, .c (.int .u32 2730485921)), (41, .c (.int .u32 2820302411)), (42, .c (.int .u32 3259730800)), (43, .c (.int .u32 3345764771)), (44, .c (.int .u32 3516065817)), (45, .c (.int .u32 3600352804)), (46, .c (.int .u32 4094571909)), (47, .c (.int .u32 275423344)), (48, .c (.int .u32 430227734)), (49, .c (.int .u32 506948616)), (50, .c (.int .u32 659060556)), (51, .c (.int .u32 883997877)), (52, .c (.int .u32 958139571)), (53, .c (.int .u32 1322822218)), (54, .c (.int .u32 1537002063)), (55, .c (.int .u32 1747873779)), (56, .c (.int .u32 1955562222)), (57, .c (.int .u32 2024104815)), (58, .c (.int .u32 2227730452)), (59, .c (.int .u32 2361852424)), (60, .c (.int .u32 2428436474)), (61, .c (.int .u32 2756734187)), (62, .c (.int .u32 3204031479)), (63, .c (.int .u32 3329325298))] = some (cellsW kS) := by kernel_rfl
set_option maxRecDepth 100000 in
theorem build_h : buildE Try.prog 164 [(0, .c (.int .u32 1779033703)), (1, .c (.int .u32 3144134277)), (2, .c (.int .u32 1013904242)), (3, .c (.int .u32 2773480762)), (4, .c (.int .u32 1359893119)), (5, .c (.int .u32 2600822924)), (6, .c (.int .u32 528734635)), (7, .c (.int .u32 1541459225))] = some (cellsW hS) := by kernel_rfl

def kC : Contract := fun args objs => match args, objs with | [], [] => some ⟨[.pv (.agg (cellsW kS))], []⟩ | _, _ => none
def hC : Contract := fun args objs => match args, objs with | [], [] => some ⟨[.pv (.agg (cellsW hS))], []⟩ | _, _ => none
theorem resB_W (l : List W32) : resB [.pv (.agg (cellsW l))] = true := by simp [resB, pureB, cellsW]

set_option maxRecDepth 100000 in
set_option maxHeartbeats 4000000 in
theorem constants_sound : SoundC Try.prog 69 kC := by
  refine sound_fn Try.func69 (by kernel_rfl) rfl rfl ?_
  intro args objs r hr
  unfold kC at hr
  split at hr
  · cases hr
    refine ⟨resB_W _, by show 0 ≤ _; decide, fun E hN hns hF => ?_⟩
    refine vc_sound none0_sound mixed _ _ _ ?_
    have hN := hN.trans nt_69
    have hp : putAt (cellsW (zerosW 64)) 0 (cellsW kS) = cellsW kS := cellsW_all_put (by rw [zerosW_length, kS_length])
    have ht : (cellsW kS).take 64 = cellsW kS := cellsW_take kS_length.symm
    simp only [runA, runB, runC, runD, runE, runF, fieldE, storeE, ↓reduceIte, Nat.reduceLT, Nat.reduceLeDiff, Nat.reduceEqDiff, Nat.reduceAdd, Nat.reduceMul, Nat.reduceSub, reduceCtorEq, Nat.reduceBEq, List.replicate, Int.reduceLT, Int.reduceLE, Int.reduceToNat, mkE, mapSetE, w_add, w_and, w_or, w_xor, w_xorF, w_not, w_shl8, w_shl16, w_shl24, w_shr3, w_shr8, w_shr10, w_shr16, w_shr24, b_add, b_sub, b_mul, b_quo, b_rem, b_and, b_or, b_xor, b_andNot, b_eql, b_neq, b_lss, b_leq, b_gtr, b_geq, b_str, b_bool, u_neg, u_not, c_bw, c_wb, cellsW_length, cellsW_pure, cellsW_all, cellsE_W, backCells_W, cellsAt_W, cellPairs_W, cellsW_toPCs, cellsW_map, hN, hF, ty_128, ty_166, notIf, isEq, build_k, zrep_W, hp, kS_length, zerosW_length]
    simp only [runB, finC, finD, Option.isSome_some, Option.isSome_none, ↓reduceIte, Nat.reduceEqDiff, Nat.reduceAdd, Nat.reduceMul, forall_eq_or_imp, forall_eq, implies_true, Nat.reduceBEq, reduceCtorEq, false_implies, List.zip_cons_cons, List.zip_nil_left, List.zip_nil_right, Nat.reduceLeDiff, List.forall_mem_nil, rs_69, agg_166, sz_166, cellsW_length, kS_length, ht]
    exact cellsW_amp kS
  · cases hr

set_option maxRecDepth 100000 in
set_option maxHeartbeats 4000000 in
theorem first_sound : SoundC Try.prog 68 hC := by
  refine sound_fn Try.func68 (by kernel_rfl) rfl rfl ?_
  intro args objs r hr
  unfold hC at hr
  split at hr
  · cases hr
    refine ⟨resB_W _, by show 0 ≤ _; decide, fun E hN hns hF => ?_⟩
    refine vc_sound none0_sound mixed _ _ _ ?_
    have hN := hN.trans nt_68
    have ht : (cellsW hS).take 8 = cellsW hS := cellsW_take hS_length.symm
    simp only [runA, runB, runC, runD, runE, runF, fieldE, storeE, ↓reduceIte, Nat.reduceLT, Nat.reduceLeDiff, Nat.reduceEqDiff, Nat.reduceAdd, Nat.reduceMul, Nat.reduceSub, reduceCtorEq, putAt, Nat.reduceBEq, List.replicate, Int.reduceLT, Int.reduceLE, Int.reduceToNat, mkE, mapSetE, w_add, w_and, w_or, w_xor, w_xorF, w_not, w_shl8, w_shl16, w_shl24, w_shr3, w_shr8, w_shr10, w_shr16, w_shr24, b_add, b_sub, b_mul, b_quo, b_rem, b_and, b_or, b_xor, b_andNot, b_eql, b_neq, b_lss, b_leq, b_gtr, b_geq, b_str, b_bool, u_neg, u_not, c_bw, c_wb, cellsW_length, cellsW_pure, cellsW_all, cellsE_W, backCells_W, cellsAt_W, cellPairs_W, cellsW_toPCs, cellsW_map, hN, hF, ty_128, ty_164, notIf, isEq, build_h, hS_length]
    simp only [runB, finC, finD, Option.isSome_some, Option.isSome_none, ↓reduceIte, Nat.reduceEqDiff, Nat.reduceAdd, Nat.reduceMul, forall_eq_or_imp, forall_eq, implies_true, Nat.reduceBEq, reduceCtorEq, false_implies, List.zip_cons_cons, List.zip_nil_left, List.zip_nil_right, Nat.reduceLeDiff, List.forall_mem_nil, rs_68, agg_164, sz_164, cellsW_length, hS_length, ht]
    exact cellsW_amp hS
  · cases hr


variable {Γ : FuncId → Contract}

def nextW (b : List UInt8) (l : List W32) (t : Nat) : W32 :=
  if t < 16 then wordS b (4 * (t : Int)) else
    (((rotr (l.getD (t - 2) 0) 17 ^^^ rotr (l.getD (t - 2) 0) 19) ^^^ (l.getD (t - 2) 0 >>> 10)) + l.getD (t - 7) 0 + ((rotr (l.getD (t - 15) 0) 7 ^^^ rotr (l.getD (t - 15) 0) 18) ^^^ (l.getD (t - 15) 0 >>> 3))) + l.getD (t - 16) 0
def wS (b : List UInt8) : Nat → List W32
  | 0 => []
  | t + 1 => wS b t ++ [nextW b (wS b t) t]
theorem wS_length (b : List UInt8) : ∀ t, (wS b t).length = t
  | 0 => rfl
  | t + 1 => by simp [wS, wS_length b t]
def wCells (b : List UInt8) (t : Nat) : List W32 := wS b t ++ zerosW (64 - t)
theorem wCells_length (b : List UInt8) (t : Nat) (h : t ≤ 64) : (wCells b t).length = 64 := by
  simp [wCells, wS_length, zerosW_length]; omega
theorem wCells_get (b : List UInt8) (t i : Nat) (h : i < t) : (wCells b t)[i]? = some ((wS b t).getD i 0) := by
  have hl : i < (wS b t).length := by rw [wS_length]; exact h
  unfold wCells
  rw [List.getElem?_append_left hl, List.getD_eq_getElem?_getD]
  simp [hl]
theorem wCells_set (b : List UInt8) (t : Nat) (h : t < 64) : (wCells b t).set t (nextW b (wS b t) t) = wCells b (t + 1) := by
  unfold wCells
  have hz : zerosW (64 - t) = 0 :: zerosW (64 - (t + 1)) := by
    unfold zerosW
    rw [show 64 - t = (64 - (t + 1)) + 1 from by omega, List.replicate_succ]
  rw [hz, List.set_append_right _ _ (by rw [wS_length]; exact Nat.le_refl _), wS_length, Nat.sub_self, List.set_cons_zero, wS, List.append_assoc]
  rfl
theorem wCells_end (b : List UInt8) : wCells b 64 = wS b 64 := by simp [wCells, zerosW]

noncomputable def schedC : Contract := mkC (α := List UInt8) (fun b => b.length ≤ 9223372036854775807) (fun b => [.c (.sl (bytes b))]) (fun _ => []) (fun b => ⟨[.pv (.agg (cellsW (wS b 64)))], []⟩)
theorem sched_at (b : List UInt8) (h : b.length ≤ 9223372036854775807) : schedC [.c (.sl (bytes b))] [] = some ⟨[.pv (.agg (cellsW (wS b 64)))], []⟩ :=
  mkC_at (α := List UInt8) b h (by
    rintro y _ h _
    simp at h
    rw [bytes_inj h])

set_option maxRecDepth 100000 in
set_option maxHeartbeats 2000000 in
theorem sched_sound (hΓ : SoundG Try.prog Γ) (h88 : Γ 77 = wordC) (h86 : Γ 75 = rightC) : SoundC Try.prog 74 schedC := by
  refine sound_fn Try.func74 (by kernel_rfl) rfl rfl ?_
  intro args objs r hr
  obtain ⟨b, hl, rfl, rfl, rfl⟩ := mkC_inv hr
  refine ⟨resB_W _, by show 1 ≤ _; decide, fun E hN hns hF => ?_⟩
  refine vc_sound hΓ mixed _ _ _ ?_
  have hN := hN.trans nt_74
  simp only [runA, runB, runC, runD, runE, runF, fieldE, storeE, ↓reduceIte, Nat.reduceLT, Nat.reduceLeDiff, Nat.reduceEqDiff, Nat.reduceAdd, Nat.reduceMul, Nat.reduceSub, reduceCtorEq, putAt, Nat.reduceBEq, buildE, List.replicate, Int.reduceLT, Int.reduceLE, Int.reduceToNat, mkE, mapSetE, w_add, w_and, w_or, w_xor, w_xorF, w_not, w_shl8, w_shl16, w_shl24, w_shr3, w_shr8, w_shr10, w_shr16, w_shr24, b_add, b_sub, b_mul, b_quo, b_rem, b_and, b_or, b_xor, b_andNot, b_eql, b_neq, b_lss, b_leq, b_gtr, b_geq, b_str, b_bool, u_neg, u_not, c_bw, c_wb, cellsW_length, cellsW_pure, cellsW_all, cellsE_W, backCells_W, cellsAt_W, cellPairs_W, cellsW_toPCs, cellsW_map, hN, hF, ty_3, ty_5, ty_73, ty_128, ty_166, notIf, isEq, zrep_W]
  refine AWP.loop (fun c s => ∃ i : Nat, i ≤ 16 ∧ c = 16 - i ∧ s = ⟨[(0, .c (.sl (bytes b))), (2, .ptr 128 0), (3, .ptr 192 0), (10, .c (.int .i64 (i : Int)))], [(192, .obj (cellsW (wCells b i)) false), (128, .obj (cellsW (zerosW 64)) false)]⟩) ⟨16, _, ?w, 0, Nat.zero_le _, rfl, rfl⟩ ?r
  case w =>
    rw [hns]
    simp only [runB, finC, finD, AS.get, AS.mem, false_implies, implies_true, ↓reduceIte, Nat.reduceEqDiff, Option.isSome_some, Option.isSome_none, forall_eq_or_imp, forall_eq, reduceCtorEq, Nat.reduceAdd, Nat.reduceMul, List.zip_cons_cons, List.zip_nil_left, List.zip_nil_right, List.forall_mem_nil, cellsW_amds]
    first | done | (simp [wCells, wS, cellsW_amds])
  case r =>
    rintro c s ⟨i, hi, rfl, rfl⟩
    refine vc_sound hΓ mixed _ _ _ ?_
    have hcl := wCells_length b i (by omega)
    by_cases hlt : i < 16
    · have h1 : decide ((i : Int) < 16) = true := by simp; omega
      have e1 : IntKind.i64.wrap ((i : Int) + 1) = (i : Int) + 1 := wrapI (by omega)
      have e2 : IntKind.i64.wrap (4 * (i : Int)) = 4 * (i : Int) := wrapI (by omega)
      have e3 : (i : Int) < ((64 : Nat) : Int) := by omega
      have hw := word_at b (4 * (i : Int)) hl
      have hp := cellsW_put (l := wCells b i) (i := i) (wordS b (4 * (i : Int))) (by omega)
      have hq : (wCells b i).set i (wordS b (4 * (i : Int))) = wCells b (i + 1) := by
        rw [← wCells_set b i (by omega), nextW, if_pos hlt]
      have e4 : i + 1 ≤ 64 := by omega
      simp only [runA, runB, runC, runD, runE, runF, fieldE, storeE, ↓reduceIte, Nat.reduceLT, Nat.reduceLeDiff, Nat.reduceEqDiff, Nat.reduceAdd, Nat.reduceMul, Nat.reduceSub, reduceCtorEq, Nat.reduceBEq, buildE, List.replicate, Int.reduceLT, Int.reduceLE, Int.reduceToNat, mkE, mapSetE, w_add, w_and, w_or, w_xor, w_xorF, w_not, w_shl8, w_shl16, w_shl24, w_shr3, w_shr8, w_shr10, w_shr16, w_shr24, b_add, b_sub, b_mul, b_quo, b_rem, b_and, b_or, b_xor, b_andNot, b_eql, b_neq, b_lss, b_leq, b_gtr, b_geq, b_str, b_bool, u_neg, u_not, c_bw, c_wb, cellsW_length, cellsW_pure, cellsW_all, cellsE_W, backCells_W, cellsAt_W, cellPairs_W, cellsW_toPCs, cellsW_map, hN, hF, ty_3, ty_5, ty_73, ty_128, ty_166, notIf, isEq, intOp, h1, e1, e2, e3, e4, h88, hw, hp, hq, hcl]
      refine ⟨16 - (i + 1), _, by omega, ?_, i + 1, by omega, rfl, rfl⟩
      rw [hns]
      simp only [runB, finC, finD, AS.get, AS.mem, false_implies, implies_true, ↓reduceIte, Nat.reduceEqDiff, Option.isSome_some, Option.isSome_none, forall_eq_or_imp, forall_eq, reduceCtorEq, Nat.reduceAdd, Nat.reduceMul, List.zip_cons_cons, List.zip_nil_left, List.zip_nil_right, List.forall_mem_nil, cellsW_amds]
      first | done | simp
    · have h1 : decide ((i : Int) < 16) = false := by simp; omega
      obtain rfl : i = 16 := by omega
      simp only [runA, runB, runC, runD, runE, runF, fieldE, storeE, ↓reduceIte, Nat.reduceLT, Nat.reduceLeDiff, Nat.reduceEqDiff, Nat.reduceAdd, Nat.reduceMul, Nat.reduceSub, reduceCtorEq, putAt, Nat.reduceBEq, buildE, List.replicate, Int.reduceLT, Int.reduceLE, Int.reduceToNat, mkE, mapSetE, w_add, w_and, w_or, w_xor, w_xorF, w_not, w_shl8, w_shl16, w_shl24, w_shr3, w_shr8, w_shr10, w_shr16, w_shr24, b_add, b_sub, b_mul, b_quo, b_rem, b_and, b_or, b_xor, b_andNot, b_eql, b_neq, b_lss, b_leq, b_gtr, b_geq, b_str, b_bool, u_neg, u_not, c_bw, c_wb, cellsW_length, cellsW_pure, cellsW_all, cellsE_W, backCells_W, cellsAt_W, cellPairs_W, cellsW_toPCs, cellsW_map, hN, hF, ty_3, ty_5, ty_73, ty_128, ty_166, notIf, isEq, intOp, h1]
      refine AWP.loop (fun c s => ∃ i : Nat, 16 ≤ i ∧ i ≤ 64 ∧ c = 64 - i ∧ s = ⟨[(2, .ptr 128 0), (3, .ptr 192 0), (5, .c (.int .i64 (i : Int)))], [(192, .obj (cellsW (wCells b i)) false), (128, .obj (cellsW (zerosW 64)) false)]⟩) ⟨48, _, ?w2, 16, by omega, by omega, rfl, rfl⟩ ?r2
      case w2 =>
        rw [hns]
        simp only [runB, finC, finD, AS.get, AS.mem, false_implies, implies_true, ↓reduceIte, Nat.reduceEqDiff, Option.isSome_some, Option.isSome_none, forall_eq_or_imp, forall_eq, reduceCtorEq, Nat.reduceAdd, Nat.reduceMul, List.zip_cons_cons, List.zip_nil_left, List.zip_nil_right, List.forall_mem_nil, cellsW_amds]
        first | done | rfl | simp
      case r2 =>
        rintro c s ⟨i, hi16, hi, rfl, rfl⟩
        refine vc_sound hΓ mixed _ _ _ ?_
        have hcl := wCells_length b i (by omega)
        by_cases hlt : i < 64
        · have h1 : decide ((i : Int) < 64) = true := by simp; omega
          have e1 : IntKind.i64.wrap ((i : Int) + 1) = (i : Int) + 1 := wrapI (by omega)
          have a15 : IntKind.i64.wrap ((i : Int) - 15) = ((i - 15 : Nat) : Int) := by rw [wrapI (by omega)]; omega
          have a2 : IntKind.i64.wrap ((i : Int) - 2) = ((i - 2 : Nat) : Int) := by rw [wrapI (by omega)]; omega
          have a7 : IntKind.i64.wrap ((i : Int) - 7) = ((i - 7 : Nat) : Int) := by rw [wrapI (by omega)]; omega
          have a16 : IntKind.i64.wrap ((i : Int) - 16) = ((i - 16 : Nat) : Int) := by rw [wrapI (by omega)]; omega
          have l0 : (i : Int) < ((64 : Nat) : Int) := by omega
          have l15 : ((i - 15 : Nat) : Int) < ((64 : Nat) : Int) := by omega
          have l2 : ((i - 2 : Nat) : Int) < ((64 : Nat) : Int) := by omega
          have l7 : ((i - 7 : Nat) : Int) < ((64 : Nat) : Int) := by omega
          have l16 : ((i - 16 : Nat) : Int) < ((64 : Nat) : Int) := by omega
          have g15 := cellsW_get (wCells_get b i (i - 15) (by omega))
          have g2 := cellsW_get (wCells_get b i (i - 2) (by omega))
          have g7 := cellsW_get (wCells_get b i (i - 7) (by omega))
          have g16 := cellsW_get (wCells_get b i (i - 16) (by omega))
          have r7 : ∀ x, rightC [.c (wC x), .c (.int .i64 7)] [] = _ := fun x => right_at x 7 (by decide) (by decide)
          have r18 : ∀ x, rightC [.c (wC x), .c (.int .i64 18)] [] = _ := fun x => right_at x 18 (by decide) (by decide)
          have r17 : ∀ x, rightC [.c (wC x), .c (.int .i64 17)] [] = _ := fun x => right_at x 17 (by decide) (by decide)
          have r19 : ∀ x, rightC [.c (wC x), .c (.int .i64 19)] [] = _ := fun x => right_at x 19 (by decide) (by decide)
          have hp := cellsW_put (l := wCells b i) (i := i) (nextW b (wS b i) i) (by omega)
          have hq := wCells_set b i hlt
          have hnw : (((rotr ((wS b i).getD (i - 2) 0) 17 ^^^ rotr ((wS b i).getD (i - 2) 0) 19) ^^^ ((wS b i).getD (i - 2) 0 >>> 10)) + (wS b i).getD (i - 7) 0 + ((rotr ((wS b i).getD (i - 15) 0) 7 ^^^ rotr ((wS b i).getD (i - 15) 0) 18) ^^^ ((wS b i).getD (i - 15) 0 >>> 3))) + (wS b i).getD (i - 16) 0 = nextW b (wS b i) i := by
            rw [nextW, if_neg (by omega)]
          have e4 : i + 1 ≤ 64 := by omega
          simp only [runA, runB, runC, runD, runE, runF, fieldE, storeE, ↓reduceIte, Nat.reduceLT, Nat.reduceLeDiff, Nat.reduceEqDiff, Nat.reduceAdd, Nat.reduceMul, Nat.reduceSub, reduceCtorEq, Nat.reduceBEq, buildE, List.replicate, Int.reduceLT, Int.reduceLE, Int.reduceToNat, mkE, mapSetE, w_add, w_and, w_or, w_xor, w_xorF, w_not, w_shl8, w_shl16, w_shl24, w_shr3, w_shr8, w_shr10, w_shr16, w_shr24, b_add, b_sub, b_mul, b_quo, b_rem, b_and, b_or, b_xor, b_andNot, b_eql, b_neq, b_lss, b_leq, b_gtr, b_geq, b_str, b_bool, u_neg, u_not, c_bw, c_wb, cellsW_length, cellsW_pure, cellsW_all, cellsE_W, backCells_W, cellsAt_W, cellPairs_W, cellsW_toPCs, cellsW_map, hN, hF, ty_3, ty_5, ty_73, ty_128, ty_166, notIf, isEq, intOp, h1, e1, a15, a2, a7, a16, l0, l15, l2, l7, l16, g15, g2, g7, g16, r7, r18, r17, r19, h86, hcl, e4, hnw, hp, hq]
          refine drawnP_intro (by kernel_rfl) (by kernel_rfl) ?_
          simp only [runA, runB, runC, runD, runE, runF, fieldE, storeE, ↓reduceIte, Nat.reduceLT, Nat.reduceLeDiff, Nat.reduceEqDiff, Nat.reduceAdd, Nat.reduceMul, Nat.reduceSub, reduceCtorEq, Nat.reduceBEq, buildE, List.replicate, Int.reduceLT, Int.reduceLE, Int.reduceToNat, mkE, mapSetE, w_add, w_and, w_or, w_xor, w_xorF, w_not, w_shl8, w_shl16, w_shl24, w_shr3, w_shr8, w_shr10, w_shr16, w_shr24, b_add, b_sub, b_mul, b_quo, b_rem, b_and, b_or, b_xor, b_andNot, b_eql, b_neq, b_lss, b_leq, b_gtr, b_geq, b_str, b_bool, u_neg, u_not, c_bw, c_wb, cellsW_length, cellsW_pure, cellsW_all, cellsE_W, backCells_W, cellsAt_W, cellPairs_W, cellsW_toPCs, cellsW_map, hN, hF, ty_3, ty_5, ty_73, ty_128, ty_166, notIf, isEq, intOp, h1, e1, a15, a2, a7, a16, l0, l15, l2, l7, l16, g15, g2, g7, g16, r7, r18, r17, r19, h86, hcl, e4, hnw, hp, hq]
          refine drawnP_intro (by kernel_rfl) (by kernel_rfl) ?_
          simp only [runA, runB, runC, runD, runE, runF, fieldE, storeE, ↓reduceIte, Nat.reduceLT, Nat.reduceLeDiff, Nat.reduceEqDiff, Nat.reduceAdd, Nat.reduceMul, Nat.reduceSub, reduceCtorEq, Nat.reduceBEq, buildE, List.replicate, Int.reduceLT, Int.reduceLE, Int.reduceToNat, mkE, mapSetE, w_add, w_and, w_or, w_xor, w_xorF, w_not, w_shl8, w_shl16, w_shl24, w_shr3, w_shr8, w_shr10, w_shr16, w_shr24, b_add, b_sub, b_mul, b_quo, b_rem, b_and, b_or, b_xor, b_andNot, b_eql, b_neq, b_lss, b_leq, b_gtr, b_geq, b_str, b_bool, u_neg, u_not, c_bw, c_wb, cellsW_length, cellsW_pure, cellsW_all, cellsE_W, backCells_W, cellsAt_W, cellPairs_W, cellsW_toPCs, cellsW_map, hN, hF, ty_3, ty_5, ty_73, ty_128, ty_166, notIf, isEq, intOp, e1]
          refine ⟨64 - (i + 1), _, by omega, ?_, i + 1, by omega, by omega, rfl, rfl⟩
          rw [hns]
          simp only [runB, finC, finD, AS.get, AS.mem, false_implies, implies_true, ↓reduceIte, Nat.reduceEqDiff, Option.isSome_some, Option.isSome_none, forall_eq_or_imp, forall_eq, reduceCtorEq, Nat.reduceAdd, Nat.reduceMul, List.zip_cons_cons, List.zip_nil_left, List.zip_nil_right, List.forall_mem_nil, cellsW_amds]
          first | done | simp
        · have h1 : decide ((i : Int) < 64) = false := by simp; omega
          obtain rfl : i = 64 := by omega
          rw [wCells_end] at hcl
          have hp : putAt (cellsW (zerosW 64)) 0 (cellsW (wS b 64)) = cellsW (wS b 64) := cellsW_all_put (by rw [zerosW_length, hcl])
          have ht : (cellsW (wS b 64)).take 64 = cellsW (wS b 64) := cellsW_take hcl.symm
          simp only [runA, runB, runC, runD, runE, runF, fieldE, storeE, ↓reduceIte, Nat.reduceLT, Nat.reduceLeDiff, Nat.reduceEqDiff, Nat.reduceAdd, Nat.reduceMul, Nat.reduceSub, reduceCtorEq, Nat.reduceBEq, buildE, List.replicate, Int.reduceLT, Int.reduceLE, Int.reduceToNat, mkE, mapSetE, w_add, w_and, w_or, w_xor, w_xorF, w_not, w_shl8, w_shl16, w_shl24, w_shr3, w_shr8, w_shr10, w_shr16, w_shr24, b_add, b_sub, b_mul, b_quo, b_rem, b_and, b_or, b_xor, b_andNot, b_eql, b_neq, b_lss, b_leq, b_gtr, b_geq, b_str, b_bool, u_neg, u_not, c_bw, c_wb, cellsW_length, cellsW_pure, cellsW_all, cellsE_W, backCells_W, cellsAt_W, cellPairs_W, cellsW_toPCs, cellsW_map, hN, hF, ty_3, ty_5, ty_73, ty_128, ty_166, notIf, isEq, intOp, h1, hp, ht, hcl, zerosW_length, wCells_end]
          simp only [runB, finC, finD, Option.isSome_some, Option.isSome_none, ↓reduceIte, Nat.reduceEqDiff, Nat.reduceAdd, Nat.reduceMul, forall_eq_or_imp, forall_eq, implies_true, Nat.reduceBEq, reduceCtorEq, false_implies, List.zip_cons_cons, List.zip_nil_left, List.zip_nil_right, Nat.reduceLeDiff, List.forall_mem_nil, rs_74, agg_166, sz_166, cellsW_length, hcl, ht, wCells_end]
          exact cellsW_amp (wS b 64)


variable {Γ : FuncId → Contract}

structure S8 where
  a : W32
  b : W32
  c : W32
  d : W32
  e : W32
  f : W32
  g : W32
  h : W32
def S8.l (s : S8) : List W32 := [s.a, s.b, s.c, s.d, s.e, s.f, s.g, s.h]
theorem S8.l_length (s : S8) : s.l.length = 8 := rfl
theorem S8.l_inj {s t : S8} (h : s.l = t.l) : s = t := by
  obtain ⟨a, b, c, d, e, f, g, i⟩ := s
  obtain ⟨a', b', c', d', e', f', g', i'⟩ := t
  simp only [S8.l, List.cons.injEq, and_true] at h
  obtain ⟨rfl, rfl, rfl, rfl, rfl, rfl, rfl, rfl⟩ := h
  rfl
theorem cellsW_cons (x : W32) (l : List W32) : cellsW (x :: l) = .c (wC x) :: cellsW l := rfl
theorem cellsW_nil : cellsW [] = [] := rfl

/-- A round. -/
def rnd (v : S8) (k w : W32) : S8 :=
  ⟨(((v.h + ((rotr v.e 6 ^^^ rotr v.e 11) ^^^ rotr v.e 25)) + ((v.e &&& v.f) ^^^ (~~~v.e &&& v.g))) + k + w) + (((rotr v.a 2 ^^^ rotr v.a 13) ^^^ rotr v.a 22) + (((v.a &&& v.b) ^^^ (v.a &&& v.c)) ^^^ (v.b &&& v.c))),
    v.a, v.b, v.c, v.d + (((v.h + ((rotr v.e 6 ^^^ rotr v.e 11) ^^^ rotr v.e 25)) + ((v.e &&& v.f) ^^^ (~~~v.e &&& v.g))) + k + w), v.e, v.f, v.g⟩
def rounds (s : S8) (w : List W32) : Nat → S8
  | 0 => s
  | i + 1 => rnd (rounds s w i) (kS.getD i 0) (w.getD i 0)
def addS (v s : S8) : S8 := ⟨v.a + s.a, v.b + s.b, v.c + s.c, v.d + s.d, v.e + s.e, v.f + s.f, v.g + s.g, v.h + s.h⟩
def blockS (s : S8) (b : List UInt8) : S8 := addS (rounds s (wS b 64) 64) s

noncomputable def blockC : Contract := mkC (α := S8 × List UInt8) (fun p => p.2.length ≤ 9223372036854775807) (fun p => [.agg (cellsW p.1.l), .c (.sl (bytes p.2)), .ptr (inObj 0) 0]) (fun _ => [ovW kS]) (fun p => ⟨[.pv (.agg (cellsW (blockS p.1 p.2).l))], [ovW kS]⟩)
theorem block_at (s : S8) (b : List UInt8) (h : b.length ≤ 9223372036854775807) : blockC [.agg (cellsW s.l), .c (.sl (bytes b)), .ptr (inObj 0) 0] [ovW kS] = some ⟨[.pv (.agg (cellsW (blockS s b).l))], [ovW kS]⟩ :=
  mkC_at (α := S8 × List UInt8) (s, b) h (by
    rintro ⟨y, m⟩ _ h _
    simp only [List.cons.injEq, AV.c.injEq, AV.agg.injEq, PC.sl.injEq, true_and, and_true] at h
    obtain ⟨e1, e2⟩ := h
    obtain rfl := bytes_inj e2
    obtain rfl := S8.l_inj (cellsW_inj e1)
    rfl)

/-- So many words have been added. -/
def sumTo (v s : List W32) (i : Nat) : List W32 := (List.zipWith (· + ·) v s).take i ++ v.drop i
theorem sumTo_length {v s : List W32} (h : v.length = 8) (h' : s.length = 8) (i : Nat) (hi : i ≤ 8) : (sumTo v s i).length = 8 := by
  simp [sumTo, h, h']; omega
theorem sumTo_get {v s : List W32} (h : v.length = 8) (h' : s.length = 8) {i : Nat} (hi : i < 8) : (sumTo v s i)[i]? = some (v.getD i 0) := by
  have hl : ((List.zipWith (· + ·) v s).take i).length = i := by simp [h, h']; omega
  unfold sumTo
  rw [List.getElem?_append_right (by omega), hl, Nat.sub_self, List.getElem?_drop, Nat.add_zero, List.getD_eq_getElem?_getD]
  simp [h, hi]
theorem sumTo_set {v s : List W32} (h : v.length = 8) (h' : s.length = 8) {i : Nat} (hi : i < 8) : (sumTo v s i).set i (v.getD i 0 + s.getD i 0) = sumTo v s (i + 1) := by
  have hl : ((List.zipWith (· + ·) v s).take i).length = i := by simp [h, h']; omega
  unfold sumTo
  rw [List.set_append_right _ _ (by omega), hl, Nat.sub_self]
  have hd : v.drop i = v.getD i 0 :: v.drop (i + 1) := by
    rw [List.drop_eq_getElem_cons (by omega), List.getD_eq_getElem?_getD]
    simp [h, hi]
  rw [hd, List.set_cons_zero, List.take_add_one]
  have hz : (List.zipWith (· + ·) v s)[i]? = some (v.getD i 0 + s.getD i 0) := by
    simp [List.getElem?_zipWith, List.getD_eq_getElem?_getD, h, h', hi]
  rw [hz]
  simp
theorem sumTo_end (v s : S8) : sumTo v.l s.l 8 = (addS v s).l := rfl
theorem getW {l : List W32} {n i : Nat} (h : l.length = n) (hi : i < n) : (cellsW l)[i]? = some (.c (wC (l.getD i 0))) := by
  refine cellsW_get ?_
  rw [List.getD_eq_getElem?_getD]
  simp [h, hi]

set_option maxRecDepth 100000 in
theorem build8 (a b c d e f g h : PC) : buildE Try.prog 164 [(0, .c a), (1, .c b), (2, .c c), (3, .c d), (4, .c e), (5, .c f), (6, .c g), (7, .c h)] = some [.c a, .c b, .c c, .c d, .c e, .c f, .c g, .c h] := by kernel_rfl
theorem put8 (a b c d e f g h : PC) (l : List AV) (hl : l.length = 8) : putAt l 0 [.c a, .c b, .c c, .c d, .c e, .c f, .c g, .c h] = [.c a, .c b, .c c, .c d, .c e, .c f, .c g, .c h] := by
  unfold putAt
  rw [List.take_zero, List.nil_append, List.drop_of_length_le (by simp; omega), List.append_nil]

set_option maxRecDepth 100000 in
set_option maxHeartbeats 1000000 in
theorem block_sound (hΓ : SoundG Try.prog Γ) (h85 : Γ 74 = schedC) (h86 : Γ 75 = rightC) : SoundC Try.prog 71 blockC := by
  refine sound_fnA ⟨[], [(5, .tidy [2, 3, 6, 7, 8, 9, 20]), (6, .tidy [2, 3, 6, 7, 8, 9, 10, 11, 20]), (7, .tidy [2, 3, 6, 7, 8, 9, 10, 11, 12, 20]), (8, .tidy [2, 3, 6, 7, 8, 10, 13, 20]), (9, .tidy [2, 3, 6, 7, 8, 10, 13, 14, 20]), (10, .tidy [2, 3, 6, 7, 8, 13, 15, 20]), (11, .tidy [2, 3, 6, 7, 8, 20])]⟩ Try.func71 (by kernel_rfl) rfl rfl ?_
  intro args objs r hr
  obtain ⟨⟨s, b⟩, hl, rfl, rfl, rfl⟩ := mkC_inv hr
  refine ⟨resB_W _, by show 3 ≤ _; decide, fun E hN hns hF => ?_⟩
  refine vc_sound hΓ mixed _ _ _ ?_
  have hN := hN.trans nt_71
  dsimp only at hl ⊢
  have hsd := sched_at b hl
  have hwl : (wS b 64).length = 64 := wS_length b 64
  have hbs : ∀ v, rounds s (wS b 64) 64 = v → blockS s b = addS v s := fun v h => by unfold blockS; rw [h]
  generalize blockS s b = out at hbs ⊢
  generalize wS b 64 = W at hsd hwl hbs ⊢
  have hp : putAt (cellsW (zerosW 64)) 0 (cellsW (W)) = cellsW (W) := cellsW_all_put (by rw [zerosW_length, hwl])
  have hp8 : ∀ l : List AV, l.length = 8 → putAt l 0 (cellsW s.l) = cellsW s.l := fun l h => by
    unfold putAt
    rw [List.take_zero, List.nil_append, Nat.zero_add, cellsW_length, S8.l_length, ← h, List.drop_length, List.append_nil]
  have hp8' := hp8 [AV.c (PC.int .u32 0), .c (.int .u32 0), .c (.int .u32 0), .c (.int .u32 0), .c (.int .u32 0), .c (.int .u32 0), .c (.int .u32 0), .c (.int .u32 0)] rfl
  have ht8 : (cellsW s.l).take 8 = cellsW s.l := cellsW_take (S8.l_length s).symm
  simp only [runA, runB, runC, runD, runE, runF, fieldE, storeE, ↓reduceIte, Nat.reduceLT, Nat.reduceLeDiff, Nat.reduceEqDiff, Nat.reduceAdd, Nat.reduceMul, Nat.reduceSub, reduceCtorEq, Nat.reduceBEq, buildE, List.replicate, Int.reduceLT, Int.reduceLE, Int.reduceToNat, mkE, mapSetE, w_add, w_and, w_or, w_xor, w_xorF, w_not, w_shl8, w_shl16, w_shl24, w_shr3, w_shr8, w_shr10, w_shr16, w_shr24, b_add, b_sub, b_mul, b_quo, b_rem, b_and, b_or, b_xor, b_andNot, b_eql, b_neq, b_lss, b_leq, b_gtr, b_geq, b_str, b_bool, u_neg, u_not, c_bw, c_wb, cellsW_length, cellsW_pure, cellsW_all, cellsE_W, backCells_W, cellsAt_W, cellPairs_W, cellsW_toPCs, cellsW_map, hN, hF, ty_3, ty_5, ty_73, ty_128, ty_164, ty_166, notIf, isEq, zrep_W, h85, hsd, hp, hp8', ht8, hwl, S8.l_length, zerosW_length]
  refine AWP.loop (fun c st => ∃ i : Nat, i ≤ 64 ∧ c = 64 - i ∧ st = ⟨[(2, .ptr 6400000 0), (3, .ptr 192 0), (6, .ptr 384 0), (7, .ptr 448 0), (8, .ptr 512 0), (20, .c (.int .i64 (i : Int)))],
    [(192, .obj (cellsW s.l) false), (384, .obj (cellsW (zerosW 8)) false), (448, .obj (cellsW (W)) false), (512, .obj (cellsW (rounds s (W) i).l) false), (6400000, .obj (cellsW kS) false)]⟩) ⟨64, _, ?w, 0, Nat.zero_le _, rfl, rfl⟩ ?r
  case w =>
    rw [hns]
    simp only [runB, finC, finD, AS.get, AS.mem, false_implies, implies_true, ↓reduceIte, Nat.reduceEqDiff, Option.isSome_some, Option.isSome_none, forall_eq_or_imp, forall_eq, reduceCtorEq, Nat.reduceAdd, Nat.reduceMul, List.zip_cons_cons, List.zip_nil_left, List.zip_nil_right, List.forall_mem_nil, cellsAt_W, cellsW_amds, rounds]
    exact ⟨cellsW_amds _ (zerosW 8), rfl⟩
  case r =>
    rintro c st ⟨i, hi, rfl, rfl⟩
    refine vc_sound hΓ mixed _ _ _ ?_
    by_cases hlt : i < 64
    · have h1 : decide ((i : Int) < 64) = true := by simp; omega
      have e1 : IntKind.i64.wrap ((i : Int) + 1) = (i : Int) + 1 := wrapI (by omega)
      have l0 : (i : Int) < ((64 : Nat) : Int) := by omega
      have gk := getW kS_length hlt
      have gw := getW hwl hlt
      have r6 : ∀ x, rightC [.c (wC x), .c (.int .i64 6)] [] = _ := fun x => right_at x 6 (by decide) (by decide)
      have r11 : ∀ x, rightC [.c (wC x), .c (.int .i64 11)] [] = _ := fun x => right_at x 11 (by decide) (by decide)
      have r25 : ∀ x, rightC [.c (wC x), .c (.int .i64 25)] [] = _ := fun x => right_at x 25 (by decide) (by decide)
      have r2 : ∀ x, rightC [.c (wC x), .c (.int .i64 2)] [] = _ := fun x => right_at x 2 (by decide) (by decide)
      have r13 : ∀ x, rightC [.c (wC x), .c (.int .i64 13)] [] = _ := fun x => right_at x 13 (by decide) (by decide)
      have r22 : ∀ x, rightC [.c (wC x), .c (.int .i64 22)] [] = _ := fun x => right_at x 22 (by decide) (by decide)
      have hsucc : rounds s (W) (i + 1) = rnd (rounds s (W) i) (kS.getD i 0) ((W).getD i 0) := rfl
      generalize rounds s (W) i = v at hsucc ⊢
      obtain ⟨a, b1, c1, d, e, f, g, h⟩ := v
      have c8 : ((0 : Int) < ((8 : Nat) : Int)) ∧ ((1 : Int) < ((8 : Nat) : Int)) ∧ ((2 : Int) < ((8 : Nat) : Int)) ∧ ((3 : Int) < ((8 : Nat) : Int)) ∧ ((4 : Int) < ((8 : Nat) : Int)) ∧ ((5 : Int) < ((8 : Nat) : Int)) ∧ ((6 : Int) < ((8 : Nat) : Int)) ∧ ((7 : Int) < ((8 : Nat) : Int)) := by decide
      obtain ⟨k0, k1, k2, k3, k4, k5, k6, k7⟩ := c8
      simp only [S8.l, cellsW_cons, cellsW_nil]
      simp only [runA, runB, runC, runD, runE, runF, fieldE, storeE, ↓reduceIte, Nat.reduceLT, Nat.reduceLeDiff, Nat.reduceEqDiff, Nat.reduceAdd, Nat.reduceMul, Nat.reduceSub, reduceCtorEq, putAt, Nat.reduceBEq, buildE, List.replicate, Int.reduceLT, Int.reduceLE, Int.reduceToNat, mkE, mapSetE, w_add, w_and, w_or, w_xor, w_xorF, w_not, w_shl8, w_shl16, w_shl24, w_shr3, w_shr8, w_shr10, w_shr16, w_shr24, b_add, b_sub, b_mul, b_quo, b_rem, b_and, b_or, b_xor, b_andNot, b_eql, b_neq, b_lss, b_leq, b_gtr, b_geq, b_str, b_bool, u_neg, u_not, c_bw, c_wb, cellsW_length, cellsW_pure, cellsW_all, cellsE_W, backCells_W, cellsAt_W, cellPairs_W, cellsW_toPCs, cellsW_map, hN, hF, ty_3, ty_5, ty_73, ty_128, ty_164, ty_166, notIf, isEq, intOp, h1, e1, l0, gk, gw, k0, k1, k2, k3, k4, k5, k6, k7]
      refine drawnP_intro (by kernel_rfl) (by kernel_rfl) ?_
      simp only [runA, runB, runC, runD, runE, runF, fieldE, storeE, ↓reduceIte, Nat.reduceLT, Nat.reduceLeDiff, Nat.reduceEqDiff, Nat.reduceAdd, Nat.reduceMul, Nat.reduceSub, reduceCtorEq, putAt, Nat.reduceBEq, buildE, List.replicate, Int.reduceLT, Int.reduceLE, Int.reduceToNat, mkE, mapSetE, w_add, w_and, w_or, w_xor, w_xorF, w_not, w_shl8, w_shl16, w_shl24, w_shr3, w_shr8, w_shr10, w_shr16, w_shr24, b_add, b_sub, b_mul, b_quo, b_rem, b_and, b_or, b_xor, b_andNot, b_eql, b_neq, b_lss, b_leq, b_gtr, b_geq, b_str, b_bool, u_neg, u_not, c_bw, c_wb, cellsW_length, cellsW_pure, cellsW_all, cellsE_W, backCells_W, cellsAt_W, cellPairs_W, cellsW_toPCs, cellsW_map, hN, hF, ty_3, ty_5, ty_73, ty_128, ty_164, ty_166, notIf, isEq, intOp, h86, r6, r11, r25, r2, r13, r22, e1, l0, gk, gw, k0, k1, k2, k3, k4, k5, k6, k7]
      refine drawnP_intro (by kernel_rfl) (by kernel_rfl) ?_
      simp only [runA, runB, runC, runD, runE, runF, fieldE, storeE, ↓reduceIte, Nat.reduceLT, Nat.reduceLeDiff, Nat.reduceEqDiff, Nat.reduceAdd, Nat.reduceMul, Nat.reduceSub, reduceCtorEq, Nat.reduceBEq, List.replicate, Int.reduceLT, Int.reduceLE, Int.reduceToNat, mkE, mapSetE, w_add, w_and, w_or, w_xor, w_xorF, w_not, w_shl8, w_shl16, w_shl24, w_shr3, w_shr8, w_shr10, w_shr16, w_shr24, b_add, b_sub, b_mul, b_quo, b_rem, b_and, b_or, b_xor, b_andNot, b_eql, b_neq, b_lss, b_leq, b_gtr, b_geq, b_str, b_bool, u_neg, u_not, c_bw, c_wb, cellsW_length, cellsW_pure, cellsW_all, cellsE_W, backCells_W, cellsAt_W, cellPairs_W, cellsW_toPCs, cellsW_map, hN, hF, ty_3, ty_5, ty_73, ty_128, ty_164, ty_166, notIf, isEq, intOp, h86, build8, put8, r6, r11, r25, r2, r13, r22, e1, l0, gk, gw, k0, k1, k2, k3, k4, k5, k6, k7]
      refine ⟨64 - (i + 1), _, by omega, ?_, i + 1, by omega, rfl, rfl⟩
      rw [hns, hsucc]
      simp only [runB, finC, finD, AS.get, AS.mem, false_implies, implies_true, ↓reduceIte, Nat.reduceEqDiff, Option.isSome_some, Option.isSome_none, forall_eq_or_imp, forall_eq, reduceCtorEq, Nat.reduceAdd, Nat.reduceMul, List.zip_cons_cons, List.zip_nil_left, List.zip_nil_right, List.forall_mem_nil, cellsAt_W, cellsW_amds, S8.l, rnd, cellsW_cons, cellsW_nil]
      first | done | simp
    · have h1 : decide ((i : Int) < 64) = false := by simp; omega
      obtain rfl : i = 64 := by omega
      have hbs := hbs _ rfl
      generalize rounds s (W) 64 = v at hbs ⊢
      subst hbs
      simp only [runA, runB, runC, runD, runE, runF, fieldE, storeE, ↓reduceIte, Nat.reduceLT, Nat.reduceLeDiff, Nat.reduceEqDiff, Nat.reduceAdd, Nat.reduceMul, Nat.reduceSub, reduceCtorEq, putAt, Nat.reduceBEq, buildE, List.replicate, Int.reduceLT, Int.reduceLE, Int.reduceToNat, mkE, mapSetE, w_add, w_and, w_or, w_xor, w_xorF, w_not, w_shl8, w_shl16, w_shl24, w_shr3, w_shr8, w_shr10, w_shr16, w_shr24, b_add, b_sub, b_mul, b_quo, b_rem, b_and, b_or, b_xor, b_andNot, b_eql, b_neq, b_lss, b_leq, b_gtr, b_geq, b_str, b_bool, u_neg, u_not, c_bw, c_wb, cellsW_length, cellsW_pure, cellsW_all, cellsE_W, backCells_W, cellsAt_W, cellPairs_W, cellsW_toPCs, cellsW_map, hN, hF, ty_3, ty_5, ty_73, ty_128, ty_164, ty_166, notIf, isEq, intOp, h1]
      refine AWP.loop (fun c st => ∃ i : Nat, i ≤ 8 ∧ c = 8 - i ∧ st = ⟨[(3, .ptr 192 0), (6, .ptr 384 0), (8, .ptr 512 0), (106, .c (.int .i64 (i : Int)))],
        [(192, .obj (cellsW s.l) false), (384, .obj (cellsW (zerosW 8)) false), (512, .obj (cellsW (sumTo v.l s.l i)) false), (6400000, .obj (cellsW kS) false)]⟩) ⟨8, _, ?w2, 0, Nat.zero_le _, rfl, rfl⟩ ?r2
      case w2 =>
        rw [hns]
        simp only [runB, finC, finD, AS.get, AS.mem, false_implies, implies_true, ↓reduceIte, Nat.reduceEqDiff, Option.isSome_some, Option.isSome_none, forall_eq_or_imp, forall_eq, reduceCtorEq, Nat.reduceAdd, Nat.reduceMul, List.zip_cons_cons, List.zip_nil_left, List.zip_nil_right, List.forall_mem_nil, cellsAt_W, cellsW_amds, sumTo, List.take_zero, List.drop_zero, List.nil_append]
        first | done | simp
      case r2 =>
        rintro c st ⟨i, hi, rfl, rfl⟩
        refine vc_sound hΓ mixed _ _ _ ?_
        have hcl := sumTo_length (S8.l_length v) (S8.l_length s) i hi
        by_cases hlt : i < 8
        · have h1 : decide ((i : Int) < 8) = true := by simp; omega
          have e1 : IntKind.i64.wrap ((i : Int) + 1) = (i : Int) + 1 := wrapI (by omega)
          have l0 : (i : Int) < ((8 : Nat) : Int) := by omega
          have g1 := cellsW_get (sumTo_get (S8.l_length v) (S8.l_length s) hlt)
          have g2 := getW (S8.l_length s) hlt
          have hp := cellsW_put (l := sumTo v.l s.l i) (i := i) (v.l.getD i 0 + s.l.getD i 0) (by omega)
          have hq := sumTo_set (S8.l_length v) (S8.l_length s) hlt
          have e4 : i + 1 ≤ 8 := by omega
          simp only [runA, runB, runC, runD, runE, runF, fieldE, storeE, ↓reduceIte, Nat.reduceLT, Nat.reduceLeDiff, Nat.reduceEqDiff, Nat.reduceAdd, Nat.reduceMul, Nat.reduceSub, reduceCtorEq, Nat.reduceBEq, buildE, List.replicate, Int.reduceLT, Int.reduceLE, Int.reduceToNat, mkE, mapSetE, w_add, w_and, w_or, w_xor, w_xorF, w_not, w_shl8, w_shl16, w_shl24, w_shr3, w_shr8, w_shr10, w_shr16, w_shr24, b_add, b_sub, b_mul, b_quo, b_rem, b_and, b_or, b_xor, b_andNot, b_eql, b_neq, b_lss, b_leq, b_gtr, b_geq, b_str, b_bool, u_neg, u_not, c_bw, c_wb, cellsW_length, cellsW_pure, cellsW_all, cellsE_W, backCells_W, cellsAt_W, cellPairs_W, cellsW_toPCs, cellsW_map, hN, hF, ty_3, ty_5, ty_73, ty_128, ty_164, ty_166, notIf, isEq, intOp, h1, e1, l0, g1, g2, hp, hq, hcl, e4]
          refine drawnP_intro (by kernel_rfl) (by kernel_rfl) ?_
          simp only [runA, runB, runC, runD, runE, runF, fieldE, storeE, ↓reduceIte, Nat.reduceLT, Nat.reduceLeDiff, Nat.reduceEqDiff, Nat.reduceAdd, Nat.reduceMul, Nat.reduceSub, reduceCtorEq, Nat.reduceBEq, buildE, List.replicate, Int.reduceLT, Int.reduceLE, Int.reduceToNat, mkE, mapSetE, w_add, w_and, w_or, w_xor, w_xorF, w_not, w_shl8, w_shl16, w_shl24, w_shr3, w_shr8, w_shr10, w_shr16, w_shr24, b_add, b_sub, b_mul, b_quo, b_rem, b_and, b_or, b_xor, b_andNot, b_eql, b_neq, b_lss, b_leq, b_gtr, b_geq, b_str, b_bool, u_neg, u_not, c_bw, c_wb, cellsW_length, cellsW_pure, cellsW_all, cellsE_W, backCells_W, cellsAt_W, cellPairs_W, cellsW_toPCs, cellsW_map, hN, hF, ty_3, ty_5, ty_73, ty_128, ty_164, ty_166, notIf, isEq, intOp, e1]
          refine ⟨8 - (i + 1), _, by omega, ?_, i + 1, by omega, rfl, rfl⟩
          rw [hns]
          simp only [runB, finC, finD, AS.get, AS.mem, false_implies, implies_true, ↓reduceIte, Nat.reduceEqDiff, Option.isSome_some, Option.isSome_none, forall_eq_or_imp, forall_eq, reduceCtorEq, Nat.reduceAdd, Nat.reduceMul, List.zip_cons_cons, List.zip_nil_left, List.zip_nil_right, List.forall_mem_nil, cellsAt_W, cellsW_amds]
          first | done | simp
        · have h1 : decide ((i : Int) < 8) = false := by simp; omega
          have hL : sumTo v.l s.l i = (addS v s).l := by
            obtain rfl : i = 8 := by omega
            exact sumTo_end v s
          generalize addS v s = o at hL ⊢
          have hcl : o.l.length = 8 := S8.l_length o
          have hp : putAt (cellsW (zerosW 8)) 0 (cellsW o.l) = cellsW o.l := cellsW_all_put ((S8.l_length o).trans (zerosW_length 8).symm)
          have ht : (cellsW o.l).take 8 = cellsW o.l := cellsW_take (S8.l_length o).symm
          simp only [runA, runB, runC, runD, runE, runF, fieldE, storeE, ↓reduceIte, Nat.reduceLT, Nat.reduceLeDiff, Nat.reduceEqDiff, Nat.reduceAdd, Nat.reduceMul, Nat.reduceSub, reduceCtorEq, Nat.reduceBEq, buildE, List.replicate, Int.reduceLT, Int.reduceLE, Int.reduceToNat, mkE, mapSetE, w_add, w_and, w_or, w_xor, w_xorF, w_not, w_shl8, w_shl16, w_shl24, w_shr3, w_shr8, w_shr10, w_shr16, w_shr24, b_add, b_sub, b_mul, b_quo, b_rem, b_and, b_or, b_xor, b_andNot, b_eql, b_neq, b_lss, b_leq, b_gtr, b_geq, b_str, b_bool, u_neg, u_not, c_bw, c_wb, cellsW_length, cellsW_pure, cellsW_all, cellsE_W, backCells_W, cellsAt_W, cellPairs_W, cellsW_toPCs, cellsW_map, hN, hF, ty_3, ty_5, ty_73, ty_128, ty_164, ty_166, notIf, isEq, intOp, h1, hL, hp, ht, hcl, zerosW_length]
          simp only [runB, finC, finD, Option.isSome_some, Option.isSome_none, ↓reduceIte, Nat.reduceEqDiff, Nat.reduceAdd, Nat.reduceMul, forall_eq_or_imp, forall_eq, implies_true, Nat.reduceBEq, reduceCtorEq, false_implies, List.zip_cons_cons, List.zip_nil_left, List.zip_nil_right, Nat.reduceLeDiff, List.forall_mem_nil, rs_71, agg_164, sz_164, cellsW_length, hcl, ht, cellsAt_W, cellPairs_W, cellsW_amds]
          exact cellsW_amp o.l

end Go.Proofs.Ytofkehedjcinhaa.AM
