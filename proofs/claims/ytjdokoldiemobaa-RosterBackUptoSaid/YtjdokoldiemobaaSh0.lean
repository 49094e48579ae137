/-
  SHA: words of 32 bits; contracts by their shapes.
-/
import Derived.Test.YtjdokoldiemobaaPk2
set_option linter.unusedVariables false
set_option linter.unusedSimpArgs false
namespace Go.Proofs.Ytjdokoldiemobaa.AM
open Go

/-- A contract by shapes: of whatever answers to these arguments and objects. -/
noncomputable def mkC {α : Type} (ok : α → Prop) (A : α → List AV) (O : α → List (List OV)) (R : α → CRes) : Contract := fun args objs =>
  open Classical in if h : ∃ x, ok x ∧ args = A x ∧ objs = O x then some (R h.choose) else none
theorem mkC_inv {α : Type} {ok : α → Prop} {A : α → List AV} {O : α → List (List OV)} {R : α → CRes} {args : List AV} {objs : List (List OV)} {r : CRes} (h : mkC ok A O R args objs = some r) :
    ∃ x, ok x ∧ args = A x ∧ objs = O x ∧ r = R x := by
  unfold mkC at h
  split at h
  · rename_i hx
    cases h
    obtain ⟨h1, h2, h3⟩ := hx.choose_spec
    exact ⟨_, h1, h2, h3, rfl⟩
  · cases h
theorem mkC_at {α : Type} {ok : α → Prop} {A : α → List AV} {O : α → List (List OV)} {R : α → CRes} (x : α) (h : ok x) (hi : ∀ y, ok y → A y = A x → O y = O x → R y = R x) : mkC ok A O R (A x) (O x) = some (R x) := by
  unfold mkC
  have hx : ∃ y, ok y ∧ A x = A y ∧ O x = O y := ⟨x, h, rfl, rfl⟩
  rw [dif_pos hx]
  obtain ⟨h1, h2, h3⟩ := hx.choose_spec
  rw [hi _ h1 h2.symm h3.symm]

theorem bytes_inj {a b : List UInt8} (h : bytes a = bytes b) : a = b := by
  have h1 := bytesOf_bytes a
  rw [h, bytesOf_bytes] at h1
  cases h1; rfl

/-! words -/
abbrev W32 := BitVec 32
def wC (x : W32) : PC := .int .u32 (x.toNat : Int)
theorem wC_inj {x y : W32} (h : wC x = wC y) : x = y := by
  unfold wC at h
  simp only [PC.int.injEq, true_and] at h
  exact BitVec.eq_of_toNat_eq (by omega)
theorem wrap32 (n : Nat) : IntKind.u32.wrap (n : Int) = ((n % 4294967296 : Nat) : Int) := by
  simp [IntKind.wrap, IntKind.bits, IntKind.signed]
theorem wrap32w (x : W32) : IntKind.u32.wrap (x.toNat : Int) = (x.toNat : Int) := by
  rw [wrap32, Nat.mod_eq_of_lt]; exact x.isLt
theorem ofW (x : W32) : BitVec.ofInt 32 (x.toNat : Int) = x := by
  rw [BitVec.ofInt_natCast]; simp
variable {P : Program} {t : TypeId}
theorem w_add (x y : W32) : binE P .add t (.c (wC x)) (.c (wC y)) = some (.c (wC (x + y))) := by
  simp only [binE, wC, isSh, intOp, if_true, Bool.false_eq_true, if_false, Option.map_some]
  have : ((x.toNat : Int) + (y.toNat : Int)) = ((x.toNat + y.toNat : Nat) : Int) := by omega
  rw [this, wrap32, BitVec.toNat_add]
theorem w_and (x y : W32) : binE P .and t (.c (wC x)) (.c (wC y)) = some (.c (wC (x &&& y))) := by
  simp only [binE, wC, isSh, intOp, if_true, Bool.false_eq_true, if_false, Option.map_some, IntKind.bits]
  rw [ofW, ofW]
  exact congrArg (fun n => some (AV.c (PC.int .u32 n))) (wrap32w _)
theorem w_or (x y : W32) : binE P .or t (.c (wC x)) (.c (wC y)) = some (.c (wC (x ||| y))) := by
  simp only [binE, wC, isSh, intOp, if_true, Bool.false_eq_true, if_false, Option.map_some, IntKind.bits]
  rw [ofW, ofW]
  exact congrArg (fun n => some (AV.c (PC.int .u32 n))) (wrap32w _)
theorem w_xor (x y : W32) : binE P .xor t (.c (wC x)) (.c (wC y)) = some (.c (wC (x ^^^ y))) := by
  simp only [binE, wC, isSh, intOp, if_true, Bool.false_eq_true, if_false, Option.map_some, IntKind.bits]
  rw [ofW, ofW]
  exact congrArg (fun n => some (AV.c (PC.int .u32 n))) (wrap32w _)
theorem w_xorF (y : W32) : binE P .xor t (.c (.int .u32 4294967295)) (.c (wC y)) = some (.c (wC (~~~y))) := by
  have : (AV.c (.int .u32 4294967295)) = .c (wC (BitVec.allOnes 32)) := rfl
  rw [this, w_xor, BitVec.allOnes_xor]
theorem w_not (x : W32) : unE .xor (.c (wC x)) = some (.c (wC (~~~x))) := by
  have key : (BitVec.ofInt 32 (if IntKind.signed .u32 then -1 else IntKind.max .u32)) = BitVec.allOnes 32 := by decide
  show some (AV.c (PC.int .u32 (IntKind.u32.wrap ((BitVec.ofInt 32 (if IntKind.signed .u32 then -1 else IntKind.max .u32) ^^^ BitVec.ofInt 32 (x.toNat : Int)).toNat : Int)))) = _
  rw [key, ofW, BitVec.allOnes_xor]
  exact congrArg (fun n => some (AV.c (PC.int .u32 n))) (wrap32w _)
theorem w_shl (x : W32) (n : Nat) (h : n ≤ 32) : binE P .shl t (.c (wC x)) (.c (.int .u64 (n : Int))) = some (.c (wC (x <<< n))) := by
  simp only [binE, wC, isSh, shOp, if_true, Option.map_some, IntKind.bits]
  have h0 : ¬ ((n : Int) < 0) := by omega
  rw [if_neg h0]
  simp only [Option.map_some]
  have h1 : (min (n : Int).toNat 32) = n := by omega
  rw [h1]
  have : ((x.toNat : Int) * 2 ^ n) = ((x.toNat * 2 ^ n : Nat) : Int) := by push_cast; rfl
  rw [this, wrap32, BitVec.toNat_shiftLeft, Nat.shiftLeft_eq]
theorem w_shr (x : W32) (n : Nat) (h : n ≤ 32) : binE P .shr t (.c (wC x)) (.c (.int .u64 (n : Int))) = some (.c (wC (x >>> n))) := by
  simp only [binE, wC, isSh, shOp, if_true, Option.map_some, IntKind.bits]
  have h0 : ¬ ((n : Int) < 0) := by omega
  rw [if_neg h0]
  simp only [Option.map_some]
  have h1 : (min (n : Int).toNat 32) = n := by omega
  rw [h1, BitVec.toNat_ushiftRight, Nat.shiftRight_eq_div_pow]
  have : ((2 : Int) ^ n) = ((2 ^ n : Nat) : Int) := by push_cast; rfl
  rw [this, Int.fdiv_eq_ediv_of_nonneg _ (Int.natCast_nonneg _), ← Int.natCast_ediv]
theorem w_shl8 (x : W32) : binE P .shl t (.c (wC x)) (.c (.int .u64 8)) = some (.c (wC (x <<< 8))) := w_shl x 8 (by decide)
theorem w_shl16 (x : W32) : binE P .shl t (.c (wC x)) (.c (.int .u64 16)) = some (.c (wC (x <<< 16))) := w_shl x 16 (by decide)
theorem w_shl24 (x : W32) : binE P .shl t (.c (wC x)) (.c (.int .u64 24)) = some (.c (wC (x <<< 24))) := w_shl x 24 (by decide)
theorem w_shr3 (x : W32) : binE P .shr t (.c (wC x)) (.c (.int .u64 3)) = some (.c (wC (x >>> 3))) := w_shr x 3 (by decide)
theorem w_shr8 (x : W32) : binE P .shr t (.c (wC x)) (.c (.int .u64 8)) = some (.c (wC (x >>> 8))) := w_shr x 8 (by decide)
theorem w_shr10 (x : W32) : binE P .shr t (.c (wC x)) (.c (.int .u64 10)) = some (.c (wC (x >>> 10))) := w_shr x 10 (by decide)
theorem w_shr16 (x : W32) : binE P .shr t (.c (wC x)) (.c (.int .u64 16)) = some (.c (wC (x >>> 16))) := w_shr x 16 (by decide)
theorem w_shr24 (x : W32) : binE P .shr t (.c (wC x)) (.c (.int .u64 24)) = some (.c (wC (x >>> 24))) := w_shr x 24 (by decide)
/-- Integers of the other kinds, as they are. -/
theorem b_add (k : IntKind) (a b : Int) : binE P .add t (.c (.int k a)) (.c (.int k b)) = (intOp .add k a b).map .c := by simp [binE, isSh]
theorem b_sub (k : IntKind) (a b : Int) : binE P .sub t (.c (.int k a)) (.c (.int k b)) = (intOp .sub k a b).map .c := by simp [binE, isSh]
theorem b_mul (k : IntKind) (a b : Int) : binE P .mul t (.c (.int k a)) (.c (.int k b)) = (intOp .mul k a b).map .c := by simp [binE, isSh]
theorem b_quo (k : IntKind) (a b : Int) : binE P .quo t (.c (.int k a)) (.c (.int k b)) = (intOp .quo k a b).map .c := by simp [binE, isSh]
theorem b_rem (k : IntKind) (a b : Int) : binE P .rem t (.c (.int k a)) (.c (.int k b)) = (intOp .rem k a b).map .c := by simp [binE, isSh]
theorem b_and (k : IntKind) (a b : Int) : binE P .and t (.c (.int k a)) (.c (.int k b)) = (intOp .and k a b).map .c := by simp [binE, isSh]
theorem b_or (k : IntKind) (a b : Int) : binE P .or t (.c (.int k a)) (.c (.int k b)) = (intOp .or k a b).map .c := by simp [binE, isSh]
theorem b_xor (k : IntKind) (a b : Int) : binE P .xor t (.c (.int k a)) (.c (.int k b)) = (intOp .xor k a b).map .c := by simp [binE, isSh]
theorem b_andNot (k : IntKind) (a b : Int) : binE P .andNot t (.c (.int k a)) (.c (.int k b)) = (intOp .andNot k a b).map .c := by simp [binE, isSh]
theorem b_eql (k : IntKind) (a b : Int) : binE P .eql t (.c (.int k a)) (.c (.int k b)) = (intOp .eql k a b).map .c := by simp [binE, isSh]
theorem b_neq (k : IntKind) (a b : Int) : binE P .neq t (.c (.int k a)) (.c (.int k b)) = (intOp .neq k a b).map .c := by simp [binE, isSh]
theorem b_lss (k : IntKind) (a b : Int) : binE P .lss t (.c (.int k a)) (.c (.int k b)) = (intOp .lss k a b).map .c := by simp [binE, isSh]
theorem b_leq (k : IntKind) (a b : Int) : binE P .leq t (.c (.int k a)) (.c (.int k b)) = (intOp .leq k a b).map .c := by simp [binE, isSh]
theorem b_gtr (k : IntKind) (a b : Int) : binE P .gtr t (.c (.int k a)) (.c (.int k b)) = (intOp .gtr k a b).map .c := by simp [binE, isSh]
theorem b_geq (k : IntKind) (a b : Int) : binE P .geq t (.c (.int k a)) (.c (.int k b)) = (intOp .geq k a b).map .c := by simp [binE, isSh]
theorem b_str (op : BinOp) (a b : List UInt8) : binE P op t (.c (.str a)) (.c (.str b)) = (strOp op a b).map .c := rfl
theorem b_bool (op : BinOp) (a b : Bool) : binE P op t (.c (.bool a)) (.c (.bool b)) = if tyBool P t then notIf op (a == b) else none := rfl
theorem u_neg (k : IntKind) (n : Int) : unE .neg (.c (.int k n)) = some (.c (.int k (k.wrap (0 - n)))) := rfl
theorem u_not (b : Bool) : unE .not (.c (.bool b)) = some (.c (.bool (!b))) := rfl
/-- An octet's word, a word's octet. -/
def bw (b : UInt8) : W32 := BitVec.ofNat 32 b.toNat
def wb (x : W32) : UInt8 := UInt8.ofNat x.toNat
theorem c_bw {s d : TypeId} (b : UInt8) (h1 : tyInt P d = some .u32) (h2 : (P.underlying s).isSome = true) : convE P s d (.c (.int .u8 (b.toNat : Int))) = some (.c (wC (bw b))) := by
  simp only [convE, h1, h2, if_true, wC, bw]
  rw [wrap32, BitVec.toNat_ofNat]
theorem c_wb {s d : TypeId} (x : W32) (h1 : tyInt P d = some .u8) (h2 : (P.underlying s).isSome = true) : convE P s d (.c (wC x)) = some (.c (.int .u8 ((wb x).toNat : Int))) := by
  simp only [convE, h1, h2, if_true, wC, wb]
  rw [wrapB]
  simp [UInt8.toNat_ofNat']

/-! cells -/
def cellsW (l : List W32) : List AV := l.map fun x => .c (wC x)
def ovW (l : List W32) : List OV := l.map fun x => .c (wC x)
theorem cellsW_length (l : List W32) : (cellsW l).length = l.length := by simp [cellsW]
theorem cellsW_get {l : List W32} {i : Nat} {x : W32} (h : l[i]? = some x) : (cellsW l)[i]? = some (.c (wC x)) := by simp [cellsW, h]
theorem cellsW_put {l : List W32} {i : Nat} (x : W32) (h : i < l.length) : putAt (cellsW l) i [.c (wC x)] = cellsW (l.set i x) := by
  unfold putAt cellsW
  rw [List.set_eq_take_append_cons_drop, if_pos h]
  simp [List.map_take, List.map_drop]
def zerosW (n : Nat) : List W32 := List.replicate n 0
theorem zerosW_length (n : Nat) : (zerosW n).length = n := by simp [zerosW]
theorem zrep_W (n : Nat) : zrep n (.c (.int .u32 0)) = cellsW (zerosW n) := by
  unfold zrep cellsW zerosW
  rw [List.map_replicate]
  rfl
theorem cellsW_all_put {l l' : List W32} (h : l'.length = l.length) : putAt (cellsW l) 0 (cellsW l') = cellsW l' := by
  unfold putAt
  rw [List.take_zero, List.nil_append, Nat.zero_add, cellsW_length, h, ← cellsW_length l, List.drop_length, List.append_nil]
theorem cellsW_take {l : List W32} {n : Nat} (h : n = l.length) : ((cellsW l).drop 0).take n = cellsW l := by
  rw [List.drop_zero, h, ← cellsW_length l, List.take_length]
theorem cellsW_toPCs (l : List W32) : toPCs (cellsW l) = some (l.map wC) := by
  induction l with
  | nil => rfl
  | cons x l ih =>
    show toPCs (.c (wC x) :: cellsW l) = _
    simp only [toPCs, AV.toPC, ih, List.map_cons]
theorem cellsW_map (l : List W32) : (l.map wC).map AV.c = cellsW l := by simp [cellsW]
theorem cellsW_all (l : List W32) : (cellsW l).all AV.scal = true := by simp [cellsW, AV.scal]
theorem cellsW_pure (l : List W32) : (AV.agg (cellsW l)).pure? = some (.agg (cellsW l)) := by
  simp only [AV.pure?, cellsW_toPCs, Option.map_some, cellsW_map]
theorem cellsW_inj {l l' : List W32} (h : cellsW l = cellsW l') : l = l' := by
  have := cellsW_toPCs l
  rw [h, cellsW_toPCs, Option.some.injEq] at this
  exact (List.map_inj_right (fun _ _ => wC_inj)).1 this.symm
theorem cellsW_amds (ρ : Ren) (l : List W32) : AMds ρ (cellsW l) (cellsW l) := by
  induction l with
  | nil => trivial
  | cons x l ih => exact ⟨rfl, ih⟩
theorem cellsW_amp (l : List W32) : ∀ p ∈ (cellsW l).zip (cellsW l), AMd.AMp p.1 p.2 := by
  induction l with
  | nil => intro p h; simp [cellsW] at h
  | cons x l ih =>
    intro p h
    show AMd.AMp p.1 p.2
    simp only [cellsW, List.map_cons, List.zip_cons_cons, List.mem_cons] at h
    rcases h with rfl | h
    · rfl
    · exact ih p h
theorem cellsE_W (l : List W32) : cellsE (cellsW l) = .ret (ovW l, []) := by
  induction l with
  | nil => rfl
  | cons x l ih =>
    show cellsE (.c (wC x) :: cellsW l) = _
    simp only [cellsE, AV.toPC, ih, EP.bind]
    rfl
theorem backCells_W (l : List W32) (rs : List Nat) : backCells (ovW l) rs = (cellsW l, []) := by
  induction l with
  | nil => rfl
  | cons x l ih =>
    show backCells (.c (wC x) :: ovW l) rs = _
    simp only [backCells, ih]
    rfl
theorem cellsAt_W (nm : Nat → Nat) (l : List W32) : ∀ j, cellsAt nm j (ovW l) = (cellsW l, []) := by
  induction l with
  | nil => intro j; rfl
  | cons x l ih =>
    intro j
    show cellsAt nm j (.c (wC x) :: ovW l) = _
    simp only [cellsAt, ih]
    rfl
theorem cellPairs_W (nm : Nat → Nat) (l : List W32) : ∀ (j : Nat) (cs : List AV), cellPairs nm j cs (ovW l) = ([], []) := by
  induction l with
  | nil => intro j cs; cases cs <;> rfl
  | cons x l ih =>
    intro j cs
    cases cs with
    | nil => rfl
    | cons y cs =>
      show cellPairs nm j (y :: cs) (.c (wC x) :: ovW l) = _
      unfold cellPairs
      split
      · rename_i h1 h2; cases h2
      · rename_i h1 h2; cases h2
      · exact ih _ _
theorem ovW_inj {l l' : List W32} (h : ovW l = ovW l') : l = l' := by
  have h1 := backCells_W l []
  rw [h, backCells_W] at h1
  exact (cellsW_inj (Prod.mk.inj h1).1).symm

end Go.Proofs.Ytjdokoldiemobaa.AM
