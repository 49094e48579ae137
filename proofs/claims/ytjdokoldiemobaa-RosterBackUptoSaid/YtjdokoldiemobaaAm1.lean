/-
  THE ABSTRACT MACHINE, part 1: states, the programs that ask memory, what an operation does.
-/
import Derived.Test.YtjdokoldiemobaaAm0
set_option linter.unusedVariables false
set_option linter.unusedSimpArgs false
namespace Go.Proofs.Ytjdokoldiemobaa.AM
open Go

inductive MC where
  | obj (cells : List AV) (froz : Bool)
  | row (z fr : Nat)
  | mp (ag : Bool) (es : List (List UInt8 × List PC))
  deriving Inhabited

/-- An association list. -/
def look {α : Type} : List (Nat × α) → Nat → Option α
  | [], _ => none
  | (j, x) :: l, i => if j = i then some x else look l i

structure AS where
  t : List (Nat × AV)
  m : List (Nat × MC)

def AS.get (s : AS) (i : Nat) : AV := (look s.t i).getD .undef
def AS.mem (s : AS) (n : Nat) : Option MC := look s.m n
def AS.put (s : AS) (d : Option Tmp) (x : AV) : AS := match d with | some i => { s with t := (i, x) :: s.t } | none => s
def AS.wr (s : AS) (l : List (Nat × MC)) : AS := { s with m := l ++ s.m }
def AS.eval (s : AS) : Operand → AV
  | .tmp t => s.get t
  | .const v => match v with
    | .int k n => .c (.int k n)
    | .bool b => .c (.bool b)
    | .string b => .c (.str b.data.toList)
    | .slice none 0 0 => .nilsl
    | .pointer none => .nilptr
    | .map none => .nilmp
    | _ => .undef
  | .global _ => .undef
  | .func f => .clo f []

/-- A program that asks memory by names. -/
inductive EP (α : Type) where
  | ret (a : α)
  | fail
  | ask (n : Nat) (k : Option MC → EP α)

namespace EP
variable {α β : Type}
def bind : EP α → (α → EP β) → EP β
  | ret a, f => f a
  | fail, _ => fail
  | ask n k, f => ask n fun c => (k c).bind f
def run (m : Nat → Option MC) : EP α → Option (α × List Nat)
  | ret a => some (a, [])
  | fail => none
  | ask n k => match (k (m n)).run m with
    | some (a, l) => some (a, n :: l)
    | none => none

theorem run_agree {m m' : Nat → Option MC} : ∀ (p : EP α) (a : α) (l : List Nat), p.run m = some (a, l) → (∀ n ∈ l, m' n = m n) → p.run m' = some (a, l)
  | ret a, _, _, h, _ => h
  | fail, _, _, h, _ => by simp [run] at h
  | ask n k, a, l, h, hm => by
    simp only [run] at h ⊢
    split at h
    · rename_i a' l' hk
      simp only [Option.some.injEq, Prod.mk.injEq] at h
      obtain ⟨rfl, rfl⟩ := h
      rw [hm n (by simp), run_agree (k (m n)) a' l' hk (fun x hx => hm x (by simp [hx]))]
    · cases h
def ofOption (x : Option α) : EP α := match x with | some a => ret a | none => fail
end EP

/-- What an operation leaves: a value, and what it writes. -/
structure Eff where
  val : AV
  wr : List (Nat × MC)

def AV.toPC : AV → Option PC
  | .c x => some x
  | .nilsl => some (.sl [])
  | .own _ _ rows => some (.sl rows)
  | _ => none
def toPCs : List AV → Option (List PC)
  | [] => some []
  | x :: l => match x.toPC, toPCs l with | some c, some cs => some (c :: cs) | _, _ => none
/-- The cells of a value. -/
def AV.flat : AV → Option (List AV)
  | .agg cs => some cs
  | .undef | .tup _ => none
  | x => some [x]
/-- A cell's own: neither unknown nor of several cells. -/
def AV.scal : AV → Bool
  | .agg _ | .undef | .tup _ => false
  | _ => true
def AV.rows : AV → Option (List (List PC))
  | .c (.sl rows) => some rows
  | .own _ _ rows => some rows
  | .nilsl => some []
  | _ => none

/-! types -/
def tyAgg (P : Program) (t : TypeId) : Option Bool := (P.underlying t).map fun | .struct _ | .array _ _ => true | _ => false
def tySize (P : Program) (t : TypeId) : Option Nat := (P.info? t).map (·.size)
def tyBytes (P : Program) (t : TypeId) : Option Nat := (P.info? t).map (·.bytes)
def Value.toAV : Value → AV
  | .int k n => .c (.int k n)
  | .bool b => .c (.bool b)
  | .string b => .c (.str b.data.toList)
  | .slice none 0 0 => .nilsl
  | .pointer none => .nilptr
  | .map none => .nilmp
  | _ => .undef
def tyZero (P : Program) (t : TypeId) : Option (List AV) := ((P.info? t).bind (·.zero)).map fun v => v.cells.toList.map Value.toAV
/-- The element of a slice type. -/
def tyElem (P : Program) (t : TypeId) : Option TypeId := match P.underlying t with | some (.slice e) => some e | _ => none
def tyArr (P : Program) (t : TypeId) : Option (Nat × TypeId) := match P.underlying t with | some (.array n e) => some (n, e) | _ => none
def tyInt (P : Program) (t : TypeId) : Option IntKind := match P.underlying t with | some (.int k) => some k | _ => none
def tyStr (P : Program) (t : TypeId) : Bool := match P.underlying t with | some .string => true | _ => false
/-- A field: where it lies, its type, how many cells. -/
def tyField (P : Program) (t : TypeId) (i : Nat) : Option (Nat × TypeId × Nat) :=
  match P.underlying t with
  | some (.struct fs) => match fs[i]? with
    | some f => match tySize P f.type with | some z => some (f.offset, f.type, z) | none => none
    | none => none
  | _ => none
def tyMap (P : Program) (t : TypeId) : Option (TypeId × TypeId) := match P.underlying t with | some (.map k e) => some (k, e) | _ => none

def rowsOK (z : Nat) (rows : List (List PC)) : Prop := ∀ r ∈ rows, r.length = z
instance (z : Nat) (rows : List (List PC)) : Decidable (rowsOK z rows) := inferInstanceAs (Decidable (∀ r ∈ rows, r.length = z))
def toRow (vs : List AV) : Option (List PC) := toPCs vs

/-! names -/
def objName (d : Nat) : Nat := 64 * d
def rowName (d : Nat) : Nat := 64 * d + 1
def resName (d i : Nat) : Nat := 64 * d + 2 + i
def resCell (d i j : Nat) : Nat := 64 * d + 10 + 6 * i + j
def inObj (i : Nat) : Nat := 64 * (100000 + i)
def inRow (i j : Nat) : Nat := 64 * (100000 + i) + 1 + j
def outName (i : Nat) : Nat := 64 * (200000 + i)
def outCell (i j : Nat) : Nat := 64 * (200000 + i) + 1 + j

/-! contracts -/
inductive OV where
  | c (x : PC)
  | own (z : Nat) (rows : List (List PC))
inductive RV where
  | pv (x : AV)
  | fresh (z : Nat) (rows : List (List PC))
  | newobj (cells : List OV)
structure CRes where
  res : List RV
  objs : List (List OV)
abbrev Contract := List AV → List (List OV) → Option CRes

/-! two ways, and one behind the other: with a word that simp does not look behind -/
def ifE {α : Type} (b : Bool) (x y : α) : α := match b with | true => x | false => y
@[simp] theorem ifE_true {α : Type} (x y : α) : ifE true x y = x := rfl
@[simp] theorem ifE_false {α : Type} (x y : α) : ifE false x y = y := rfl

/-! arithmetic -/
def pcEq : PC → PC → Option Bool
  | .int k a, .int k' b => if k = k' then some (a == b) else none
  | .bool a, .bool b => some (a == b)
  | .str a, .str b => some (a == b)
  | _, _ => none
def pcsEq : List PC → List PC → Option Bool
  | [], [] => some true
  | x :: xs, y :: ys => match pcEq x y, pcsEq xs ys with | some a, some b => some (a && b) | _, _ => none
  | _, _ => none
def strOp (op : BinOp) (a b : List UInt8) : Option PC :=
  match op with
  | .add => if a.length + b.length ≤ 9223372036854775807 then some (.str (a ++ b)) else none
  | .eql => some (.bool (a == b))
  | .neq => some (.bool (!(a == b)))
  | .lss => some (.bool (Op.bytesLess a b))
  | .leq => some (.bool (Op.bytesLess a b || a == b))
  | .gtr => some (.bool (!(Op.bytesLess a b || a == b)))
  | .geq => some (.bool (!(Op.bytesLess a b)))
  | _ => none
def intOp (op : BinOp) (k : IntKind) (a b : Int) : Option PC :=
  match op with
  | .add => some (.int k (k.wrap (a + b)))
  | .sub => some (.int k (k.wrap (a - b)))
  | .mul => some (.int k (k.wrap (a * b)))
  | .quo => if b = 0 then none else some (.int k (k.wrap (a.tdiv b)))
  | .rem => if b = 0 then none else some (.int k (a.tmod b))
  | .and => some (.int k (k.wrap (BitVec.ofInt k.bits a &&& BitVec.ofInt k.bits b).toNat))
  | .or => some (.int k (k.wrap (BitVec.ofInt k.bits a ||| BitVec.ofInt k.bits b).toNat))
  | .xor => some (.int k (k.wrap (BitVec.ofInt k.bits a ^^^ BitVec.ofInt k.bits b).toNat))
  | .andNot => some (.int k (k.wrap (BitVec.ofInt k.bits a &&& ~~~ BitVec.ofInt k.bits b).toNat))
  | .eql => some (.bool (a == b))
  | .neq => some (.bool (a != b))
  | .lss => some (.bool (decide (a < b)))
  | .leq => some (.bool (decide (a ≤ b)))
  | .gtr => some (.bool (decide (a > b)))
  | .geq => some (.bool (decide (a ≥ b)))
  | _ => none
def shOp (op : BinOp) (k : IntKind) (a b : Int) : Option PC :=
  if b < 0 then none else
  match op with
  | .shl => some (.int k (k.wrap (a * 2 ^ (min b.toNat k.bits))))
  | .shr => some (.int k (a.fdiv (2 ^ (min b.toNat k.bits))))
  | _ => none
def isSh : BinOp → Bool | .shl | .shr => true | _ => false
def tyBool (P : Program) (t : TypeId) : Bool := match P.underlying t with | some .bool => true | _ => false
def tyPtr (P : Program) (t : TypeId) : Bool := match P.underlying t with | some (.pointer _) => true | _ => false
/-- Two values of several cells, held against each other as their type says. -/
def eqFs (rec_ : TypeId → List PC → List PC → Option Bool) (P : Program) (xs ys : List PC) : List Field → Option Bool
  | [] => some true
  | f :: fs => if f.name ≠ "_" then match tySize P f.type with
      | some z => if f.offset + z ≤ xs.length ∧ f.offset + z ≤ ys.length then
          match rec_ f.type ((xs.drop f.offset).take z) ((ys.drop f.offset).take z), eqFs rec_ P xs ys fs with
          | some a, some b => some (a && b)
          | _, _ => none
        else none
      | none => none
    else eqFs rec_ P xs ys fs
def eqE (P : Program) : Nat → TypeId → List PC → List PC → Option Bool
  | 0, _, _, _ => none
  | d + 1, t, xs, ys => match P.underlying t with
    | some .bool => match xs, ys with | [.bool a], [.bool b] => some (a == b) | _, _ => none
    | some (.int _) => match xs, ys with | [.int k a], [.int k' b] => if k = k' then some (a == b) else none | _, _ => none
    | some .string => match xs, ys with | [.str a], [.str b] => some (a == b) | _, _ => none
    | some (.struct fs) => if P.stoodInHeld t then none else eqFs (eqE P d) P xs ys fs.toList
    | _ => none
def notIf (op : BinOp) (b : Bool) : Option AV := match op with | .eql => some (.c (.bool b)) | .neq => some (.c (.bool (!b))) | _ => none
def isEq : BinOp → Bool | .eql | .neq => true | _ => false
def binE (P : Program) (op : BinOp) (t : TypeId) (x y : AV) : Option AV :=
  match x, y with
  | .c (.int k a), .c (.int k' b) => if isSh op then (shOp op k a b).map .c else if k = k' then (intOp op k a b).map .c else none
  | .c (.str a), .c (.str b) => (strOp op a b).map .c
  | .c (.bool a), .c (.bool b) => if tyBool P t then notIf op (a == b) else none
  | .ptr _ _, .nilptr | .rptr _, .nilptr => if tyPtr P t then notIf op false else none
  | .nilptr, .nilptr => if tyPtr P t then notIf op true else none
  | .mp _, .nilmp => if (tyMap P t).isSome then notIf op false else none
  | .nilmp, .nilmp => if (tyMap P t).isSome then notIf op true else none
  | .agg xs, .agg ys => if P.eqGuardType P.depth t = false ∧ tyAgg P t = some true then match toPCs xs, toPCs ys with
      | some a, some b => (eqE P 10000 t a b).bind (notIf op)
      | _, _ => none
    else none
  | .nilsl, .nilsl => if (tyElem P t).isSome then notIf op true else none
  | x, .nilsl => match tyElem P t, x.rows with
    | some _, some [] => if isEq op then some .ubool else none
    | some _, some (_ :: _) => notIf op false
    | _, _ => none
  | _, _ => none

/-! operations -/
def putAt (cells : List AV) (off : Nat) (xs : List AV) : List AV := cells.take off ++ xs ++ cells.drop (off + xs.length)
/-- Parts laid over cells, as 'build' does. -/
def fillE (place : Nat → Option (Nat × Nat)) : List AV → List (Nat × AV) → Option (List AV)
  | cells, [] => some cells
  | cells, (i, x) :: rest => match place i, x.flat with
    | some (off, z), some xs => if xs.length = z ∧ off + z ≤ cells.length then fillE place (putAt cells off xs) rest else none
    | _, _ => none
def tyPlaces (P : Program) (t : TypeId) : Option (List (Nat × Nat)) :=
  match P.underlying t with
  | some (.struct fs) => fs.toList.mapM fun f => (P.info? f.type).map fun i => (f.offset, i.size)
  | _ => none
def buildE (P : Program) (t : TypeId) (parts : List (Nat × AV)) : Option (List AV) :=
  match tyZero P t with
  | some zero => match tyPlaces P t with
    | some ps => fillE (ps[·]?) zero parts
    | none => match tyArr P t with
      | some (_, e) => match tySize P e with
        | some z => fillE (fun i => some (i * z, z)) zero parts
        | none => none
      | none => none
  | none => none

def chunks (z : Nat) : Nat → List PC → List (List PC)
  | 0, _ => []
  | n + 1, l => l.take z :: chunks z n (l.drop z)

def loadE (P : Program) (t : TypeId) (x : AV) : EP AV :=
  match x with
  | .ptr n off => .ask n fun
    | some (.obj cells _) => match tyAgg P t with
      | some true => match tySize P t with
        | some z => if off + z ≤ cells.length then .ret (.agg ((cells.drop off).take z)) else .fail
        | none => .fail
      | some false => match cells[off]? with | some v => .ret v | none => .fail
      | none => .fail
    | _ => .fail
  | .rptr cs => match tyAgg P t with
    | some true => match tySize P t with
      | some z => if z ≤ cs.length then .ret (.agg ((cs.take z).map .c)) else .fail
      | none => .fail
    | some false => match cs[0]? with | some v => .ret (.c v) | none => .fail
    | none => .fail
  | _ => .fail

def storeE (P : Program) (t : TypeId) (x y : AV) : EP Eff :=
  match x, y.flat, tySize P t with
  | .ptr n off, some xs, some z => .ask n fun
    | some (.obj cells false) => if xs.length = z ∧ off + z ≤ cells.length ∧ xs.all AV.scal = true then .ret ⟨.undef, [(n, .obj (putAt cells off xs) false)]⟩ else .fail
    | _ => .fail
  | _, _, _ => .fail

def newObjE (n : Nat) (cells : List AV) : EP Eff := .ask n fun
  | none => .ret ⟨.ptr n 0, [(n, .obj cells false)]⟩
  | some _ => .fail
def newRowE (n z : Nat) (rows : List (List PC)) : EP Eff := .ask n fun
  | none => .ret ⟨.own n z rows, [(n, .row z rows.length)]⟩
  | some _ => .fail

def newMslE (n len : Nat) (cells : List AV) : EP Eff := .ask n fun
  | none => .ret ⟨.msl n 0 len true, [(n, .obj cells false)]⟩
  | some _ => .fail

def indexE (P : Program) (t : TypeId) (x ix : AV) : Option AV :=
  match x, ix with
  | .ptr n off, .c (.int _ i) => match tyArr P t with
    | some (len, e) => match tySize P e with
      | some z => if 0 ≤ i ∧ i < (len : Int) then some (.ptr n (off + i.toNat * z)) else none
      | none => none
    | none => none
  | .rptr cs, .c (.int _ i) => match tyArr P t with
    | some (len, e) => match tySize P e with
      | some z => if 0 ≤ i ∧ i < (len : Int) then some (.rptr (cs.drop (i.toNat * z))) else none
      | none => none
    | none => none
  | .msl n off len _, .c (.int _ i) => match tyElem P t with
    | some e => match tySize P e with
      | some z => if 0 ≤ i ∧ i < (len : Int) then some (.ptr n (off + i.toNat * z)) else none
      | none => none
    | none => none
  | x, .c (.int _ i) => match tyElem P t, x.rows with
    | some e, some rows => match tySize P e with
      | some z => if 0 ≤ i then match rows[i.toNat]? with
        | some r => if r.length = z then some (.rptr r) else none
        | none => none else none
      | none => none
    | _, _ => none
  | _, _ => none

def boundE (x : Option AV) (d : Nat) : Option Int :=
  match x with
  | none => some d
  | some (.c (.int _ i)) => some i
  | _ => none

/-- x[lo:hi:max] of a text, or of a slice (whose owner forgets it). -/
def sliceE (P : Program) (t : TypeId) (x : AV) (lo hi mx : Option AV) : Option AV :=
  match x with
  | .c (.str s) => match tyStr P t, mx, boundE lo 0, boundE hi s.length with
    | true, none, some l, some h => if 0 ≤ l ∧ l ≤ h ∧ h ≤ (s.length : Int) then some (.c (.str ((s.take h.toNat).drop l.toNat))) else none
    | _, _, _, _ => none
  | .ptr n off => match tyArr P t with
    | some (len, e) => match tySize P e, boundE lo 0, boundE hi len, mx with
      | some z, some l, some h, none => if 0 ≤ l ∧ l ≤ h ∧ h ≤ (len : Int) ∧ (l = 0 ∨ l < h) then some (.msl n (off + l.toNat * z) (h.toNat - l.toNat) (decide (h = (len : Int)))) else none
      | _, _, _, _ => none
    | none => none
  | .msl n off len ex => match tyElem P t with
    | some e => match tySize P e, boundE lo 0, boundE hi len, mx with
      | some z, some l, some h, none => if 0 ≤ l ∧ l ≤ h ∧ h ≤ (len : Int) ∧ (l = 0 ∨ l < h) then some (.msl n (off + l.toNat * z) (h.toNat - l.toNat) (ex && decide (h = (len : Int)))) else none
      | _, _, _, _ => none
    | none => none
  | x => match tyElem P t, x.rows with
    | some e, some rows => match tySize P e, boundE lo 0, boundE hi rows.length with
      | some z, some l, some h => match mx with
        | none => if rowsOK z rows ∧ 0 ≤ l ∧ l ≤ h ∧ h ≤ (rows.length : Int) then some (.c (.sl ((rows.take h.toNat).drop l.toNat))) else none
        | some (.c (.int _ m)) => if hi.isSome = true ∧ rowsOK z rows ∧ 0 ≤ l ∧ l ≤ h ∧ h ≤ m ∧ m ≤ (rows.length : Int) then some (.c (.sl ((rows.take h.toNat).drop l.toNat))) else none
        | _ => none
      | _, _, _ => none
    | _, _ => none

def bytesOf : List (List PC) → Option (List UInt8)
  | [] => some []
  | [.int .u8 n] :: rows => match bytesOf rows with | some l => some (UInt8.ofNat n.toNat :: l) | none => none
  | _ => none
def bytes (l : List UInt8) : List (List PC) := l.map fun b => [PC.int .u8 b.toNat]

def convE (P : Program) (src dst : TypeId) (x : AV) : Option AV :=
  match x with
  | .c (.int _ n) => match tyInt P dst with | some k => if (P.underlying src).isSome then some (.c (.int k (k.wrap n))) else none | none => none
  | .c (.str s) => if tyStr P dst then (if (P.underlying src).isSome then some x else none) else match tyElem P dst with
    | some e => if tyInt P e = some .u8 ∧ (P.underlying src).isSome then some (.c (.sl (bytes s))) else none
    | none => none
  | x => match tyElem P src, x.rows with
    | some e, some rows => if tyStr P dst ∧ tyInt P e = some .u8 then (bytesOf rows).map fun l => .c (.str l) else none
    | _, _ => none

def lenE (P : Program) (t : TypeId) (x : AV) : EP AV :=
  match x with
  | .c (.str s) => if tyStr P t then .ret (.c (.int .i64 s.length)) else .fail
  | .mp n => .ask n fun
    | some (.mp _ es) => match tyMap P t with | some _ => .ret (.c (.int .i64 es.length)) | none => .fail
    | _ => .fail
  | .nilmp => match tyMap P t with | some _ => .ret (.c (.int .i64 0)) | none => .fail
  | .msl _ _ len _ => match tyElem P t with | some _ => .ret (.c (.int .i64 len)) | none => .fail
  | x => match tyElem P t, x.rows with
    | some _, some rows => .ret (.c (.int .i64 rows.length))
    | _, _ => .fail

/-- What append adds. -/
def addedE (P : Program) (t : TypeId) (x : AV) : Option (List (List PC)) :=
  match x with
  | .c (.str s) => if tyStr P t then some (bytes s) else none
  | x => match tyElem P t with | some _ => x.rows | none => none

def strz : AV → Nat → Bool
  | .c (.str _), z => z == 1
  | _, _ => true
def appendE (P : Program) (d : Nat) (st xt : TypeId) (s x : AV) : EP Eff :=
  match tyElem P st, addedE P xt x with
  | some e, some ys => match tySize P e, tyBytes P e, tyZero P e with
    | some z, some by_, some zero =>
      if 0 < z ∧ 0 < by_ ∧ zero.length = z ∧ rowsOK z ys ∧ strz x z = true then
        match s with
        | .nilsl => if ys.length * by_ ≤ 140737488355328 then newRowE (rowName d) z ys else .fail
        | .own r z' rows => if z' = z ∧ (rows.length + ys.length) * by_ ≤ 140737488355328 then .ask r fun
          | some (.row _ fr) => if fr = rows.length then .ret ⟨.own r z (rows ++ ys), [(r, .row z (rows.length + ys.length))]⟩ else .fail
          | _ => .fail else .fail
        | _ => .fail
      else .fail
    | _, _, _ => .fail
  | _, _ => .fail

def mm (mx : Bool) : List AV → Option AV
  | [.c (.int k a), .c (.int k' b)] => if k = k' then some (.c (.int k (if mx then (if b > a then b else a) else (if b < a then b else a)))) else none
  | _ => none

/-- The arguments of a call, as a contract takes them: pure ones, and pointers to the objects in their order. -/
def AV.pure? : AV → Option AV
  | .agg cs => (toPCs cs).map fun l => .agg (l.map .c)
  | .rptr cs => some (.rptr cs)
  | .clo f caps => some (.clo f caps)
  | .nilptr => some .nilptr
  | .nilsl => some .nilsl
  | x => x.toPC.map .c
def argsE : List AV → Nat → Option (List AV × List Nat)
  | [], _ => some ([], [])
  | x :: l, i => match x with
    | .ptr n 0 => match argsE l (i + 1) with | some (as, ns) => some (.ptr (inObj i) 0 :: as, n :: ns) | none => none
    | .msl n off len ex => match argsE l (i + 1) with | some (as, ns) => some (.msl (inObj i) off len ex :: as, n :: ns) | none => none
    | x => match x.pure?, argsE l i with | some y, some (as, ns) => some (y :: as, ns) | _, _ => none


/-- An object's cells, its rows under these names. -/
def cellsAt (nm : Nat → Nat) : Nat → List OV → List AV × List (Nat × MC)
  | _, [] => ([], [])
  | j, .c x :: o => (.c x :: (cellsAt nm (j + 1) o).1, (cellsAt nm (j + 1) o).2)
  | j, .own z rows :: o => (.own (nm j) z rows :: (cellsAt nm (j + 1) o).1, (nm j, .row z rows.length) :: (cellsAt nm (j + 1) o).2)
/-- The memory that a call begins with, and what objects it ends with. -/
def entryMem : Nat → List (List OV) → List (Nat × MC)
  | _, [] => []
  | i, o :: os => (inObj i, .obj (cellsAt (inRow i) 0 o).1 false) :: ((cellsAt (inRow i) 0 o).2 ++ entryMem (i + 1) os)
/-- What a call hands back, under these names. -/
def resAt (nr : Nat → Nat) (nc : Nat → Nat → Nat) : Nat → List RV → List AV × List (Nat × MC)
  | _, [] => ([], [])
  | i, .pv x :: l => (x :: (resAt nr nc (i + 1) l).1, (resAt nr nc (i + 1) l).2)
  | i, .fresh z rows :: l => (.own (nr i) z rows :: (resAt nr nc (i + 1) l).1, (nr i, .row z rows.length) :: (resAt nr nc (i + 1) l).2)
  | i, .newobj cells :: l => (.ptr (nr i) 0 :: (resAt nr nc (i + 1) l).1, (nr i, .obj (cellsAt (nc i) 0 cells).1 false) :: ((cellsAt (nc i) 0 cells).2 ++ (resAt nr nc (i + 1) l).2))
def exitMem (r : CRes) : List (Nat × MC) := entryMem 0 r.objs ++ (resAt outName outCell 0 r.res).2
def exitVals (r : CRes) : List AV := (resAt outName outCell 0 r.res).1
def oneE : List AV → AV
  | [x] => x
  | l => .tup l

/-- The objects that a call is handed, as its contract takes them, with their rows' own names. -/
def cellsE : List AV → EP (List OV × List Nat)
  | [] => .ret ([], [])
  | x :: l => match x with
    | .own r z rows => .ask r fun
      | some (.row z' fr) => if z' = z ∧ fr = rows.length then (cellsE l).bind fun o => .ret (.own z rows :: o.1, r :: o.2) else .fail
      | _ => .fail
    | x => match x.toPC with
      | some c => (cellsE l).bind fun o => .ret (.c c :: o.1, o.2)
      | none => .fail
def objsE : List Nat → EP (List (List OV) × List (Nat × List Nat))
  | [] => .ret ([], [])
  | n :: l => .ask n fun
    | some (.obj cells false) => (cellsE cells).bind fun o => (objsE l).bind fun os => .ret (o.1 :: os.1, (n, o.2) :: os.2)
    | _ => .fail
/-- An object's cells behind a call: its rows keep their names. -/
def backCells : List OV → List Nat → List AV × List (Nat × MC)
  | [], _ => ([], [])
  | .c x :: o, rs => (.c x :: (backCells o rs).1, (backCells o rs).2)
  | .own z rows :: o, r :: rs => (.own r z rows :: (backCells o rs).1, (r, .row z rows.length) :: (backCells o rs).2)
  | .own _ rows :: o, [] => (.c (.sl rows) :: (backCells o []).1, (backCells o []).2)
/-- Where the rows are, and of what width. -/
def shapeOf : List OV → List (Option Nat)
  | [] => []
  | .c _ :: o => none :: shapeOf o
  | .own z _ :: o => some z :: shapeOf o
def backObjs : List (Nat × List Nat) → List (List OV) → List (Nat × MC)
  | (n, rs) :: ns, o :: os => (n, .obj (backCells o rs).1 false) :: ((backCells o rs).2 ++ backObjs ns os)
  | _, _ => []
def keys (l : List (Nat × MC)) : List Nat := l.map (·.1)
/-- None of these names is taken. -/
def freeE : List Nat → EP Unit
  | [] => .ret ()
  | n :: l => .ask n fun | none => freeE l | some _ => .fail

/-- A slice of nothing is as good as nil, and nil is nil. -/
def denil : AV → AV
  | .nilsl => .c (.sl [])
  | x => x
def look2 (C : Contract) (as : List AV) (os : List (List OV)) : Option CRes := match C (as.map denil) os with
  | some r => some r
  | none => C as os
def callE (Γ : FuncId → Contract) (d : Nat) (f : FuncId) (args : List AV) : EP Eff :=
  match argsE args 0 with
  | none => .fail
  | some (as, ns) => (objsE ns).bind fun os => match look2 (Γ f) as os.1 with
    | none => .fail
    | some r =>
      if r.objs.map shapeOf = os.1.map shapeOf ∧ (keys (entryMem 0 os.1)).Nodup ∧ (keys (exitMem r)).Nodup ∧ (keys (backObjs os.2 r.objs ++ (resAt (resName d) (resCell d) 0 r.res).2)).Nodup then
        (freeE (keys (resAt (resName d) (resCell d) 0 r.res).2)).bind fun _ =>
        .ret ⟨oneE (resAt (resName d) (resCell d) 0 r.res).1, backObjs os.2 r.objs ++ (resAt (resName d) (resCell d) 0 r.res).2⟩
      else .fail

/-- A variable that a closure captures is never written again. -/
def capE : List AV → EP (List (List PC) × List (Nat × MC))
  | [] => .ret ([], [])
  | x :: l => match x with
    | .ptr n 0 => .ask n fun
      | some (.obj cells _) => match toPCs cells with
        | some cs => (capE l).bind fun r => .ret (cs :: r.1, (n, .obj cells true) :: r.2)
        | none => .fail
      | _ => .fail
    | .rptr cs => (capE l).bind fun r => .ret (cs :: r.1, r.2)
    | _ => .fail

def keyE : AV → Option (List UInt8) | .c (.str s) => some s | _ => none
def findE (k : List UInt8) : List (List UInt8 × List PC) → Option (List PC)
  | [] => none
  | (j, v) :: l => if j == k then some v else findE k l
def setE (k : List UInt8) (v : List PC) : List (List UInt8 × List PC) → List (List UInt8 × List PC)
  | [] => [(k, v)]
  | (j, u) :: l => if j == k then (k, v) :: l else (j, u) :: setE k v l
def elemAV (agg : Bool) (cs : List AV) : AV := if agg then .agg cs else cs.headD .undef

def lookupE (P : Program) (t : TypeId) (m k : AV) (ok : Bool) : EP AV :=
  match tyMap P t, keyE k with
  | some (kt, e), some key => if tyStr P kt then match tyAgg P e, tyZero P e, tySize P e with
    | some ag, some zero, some z => if zero.length = z then
        let out (v : List AV) (b : Bool) : EP AV := if v.length = z then .ret (if ok then .tup [elemAV ag v, .c (.bool b)] else elemAV ag v) else .fail
        match m with
        | .nilmp => out zero false
        | .mp n => .ask n fun
          | some (.mp ag' es) => if ag' = ag then match findE key es with
            | some v => out (v.map .c) true
            | none => out zero false
            else .fail
          | _ => .fail
        | _ => .fail
      else .fail
    | _, _, _ => .fail
    else .fail
  | _, _ => .fail

def mapSetE (P : Program) (t : TypeId) (m k x : AV) : EP Eff :=
  match tyMap P t, keyE k, x.flat.bind toPCs, m with
  | some (kt, e), some key, some cs, .mp n => if tyStr P kt ∧ tySize P e = some cs.length then .ask n fun
      | some (.mp ag es) => if (x matches .agg _) = ag then .ret ⟨.undef, [(n, .mp ag (setE key cs es))]⟩ else .fail
      | _ => .fail
    else .fail
  | _, _, _, _ => .fail

def okE (x : Option AV) : EP Eff := match x with | some v => .ret ⟨v, []⟩ | none => .fail
def okM (x : EP AV) : EP Eff := x.bind fun v => .ret ⟨v, []⟩

def builtinE (P : Program) (d : Nat) (b : Builtin) (ts : Array TypeId) (args : List AV) : EP Eff :=
  match b, args with
  | .len, [x] => match ts[0]? with | some t => okM (lenE P t x) | none => .fail
  | .append, [s, x] => match ts[0]?, ts[1]? with | some st, some xt => appendE P d st xt s x | _, _ => .fail
  | .max, l => okE (mm true l)
  | .min, l => okE (mm false l)
  | _, _ => .fail

def unE (op : UnOp) (x : AV) : Option AV :=
  match op, x with
  | .not, .c (.bool b) => some (.c (.bool (!b)))
  | .neg, .c (.int k n) => some (.c (.int k (k.wrap (0 - n))))
  | .xor, .c (.int k n) => some (.c (.int k (k.wrap (BitVec.ofInt k.bits (if k.signed then -1 else k.max) ^^^ BitVec.ofInt k.bits n).toNat)))
  | _, _ => none

/-- A conversion: of a row of octets to its own type, as it stands; else by the value alone. -/
def convO (P : Program) (src dst : TypeId) (x : AV) : EP Eff :=
  match x with
  | .own r z rows => if src = dst then (match tyElem P src with
    | some e => if tyInt P e = some .u8 ∧ 0 < rows.length then .ask r fun
        | some (.row z' fr) => if fr = rows.length ∧ z' = z then .ret ⟨.own r z rows, [(r, .row z rows.length)]⟩ else .fail
        | _ => .fail else .fail
    | none => .fail) else okE (convE P src dst (.own r z rows))
  | x => okE (convE P src dst x)

def hasN : List Nat → Nat → Bool
  | [], _ => false
  | x :: l, n => x == n || hasN l n

def opE (Γ : FuncId → Contract) (P : Program) (F : List Nat) (o : Oper) (ρ : Operand → AV) : EP Eff :=
  let d := o.dst.getD 0
  match o.op with
  | .move x | .assign x => .ret ⟨ρ x, []⟩
  | .pick c a b => match ρ c with | .c (.bool t) => ifE t (.ret ⟨ρ a, []⟩) (.ret ⟨ρ b, []⟩) | _ => .fail
  | .alloc t => if o.dst.isSome then match tyZero P t with | some cells => newObjE (objName d) cells | none => .fail else .fail
  | .box t x => if o.dst.isSome then match (ρ x).flat with | some cells => newObjE (objName d) cells | none => .fail else .fail
  | .build t parts => okE ((buildE P t (parts.toList.map fun p => (p.1, ρ p.2))).map .agg)
  | .buildSlice t n parts => match tyElem P t with
    | some e => match tyZero P e, tySize P e with
      | some zero, some z => if o.dst.isSome ∧ zero.length = z ∧ 0 < z ∧ n * z ≤ 16777216 then
          ifE (hasN F d) (match fillE (fun i => some (i * z, z)) ((List.replicate n zero).flatten) (parts.toList.map fun p => (p.1, ρ p.2)) with
          | some out => newMslE (objName d) n out
          | none => .fail) (match (fillE (fun i => some (i * z, z)) ((List.replicate n zero).flatten) (parts.toList.map fun p => (p.1, ρ p.2))).bind toPCs with
          | some cs => newRowE (rowName d) z (chunks z n cs)
          | none => .fail)
        else .fail
      | _, _ => .fail
    | none => .fail
  | .load t a => okM (loadE P t (ρ a))
  | .store t a x => storeE P t (ρ a) (ρ x)
  | .nilCheck x => match ρ x with
    | .ptr n off => .ret ⟨.ptr n off, []⟩
    | .rptr cs => .ret ⟨.rptr cs, []⟩
    | .clo f caps => .ret ⟨.clo f caps, []⟩
    | _ => .fail
  | .binOp op t x y _ => okE (binE P op t (ρ x) (ρ y))
  | .unOp op _ x => okE (unE op (ρ x))
  | .convert src dst x => convO P src dst (ρ x)
  | .makeFunc (.func f) first captured => if first = #[] then (capE (captured.toList.map ρ)).bind fun r => .ret ⟨.clo f r.1, r.2⟩ else .fail
  | .makeMap t none => match (tyMap P t).bind fun x => tyAgg P x.2 with
    | some ag => if o.dst.isSome then .ask (objName d) fun | none => .ret ⟨.mp (objName d), [(objName d, .mp ag [])]⟩ | some _ => .fail else .fail
    | none => .fail
  | .makeSlice t l c => match tyElem P t, ρ l, ρ c with
    | some e, .c (.int .i64 n), .c (.int .i64 m) => match tyZero P e, tySize P e, tyBytes P e with
      | some zero, some z, some by_ => match toPCs zero with
        | some zs => if o.dst.isSome ∧ zs.length = z ∧ 0 < z ∧ n ≤ m ∧ 0 ≤ n ∧ m ≤ 9223372036854775807 ∧ m * by_ ≤ 140737488355328 then ifE (hasN F d) (if n = m then newMslE (objName d) n.toNat (List.replicate n.toNat zero).flatten else .fail) (newRowE (rowName d) z (List.replicate n.toNat zs)) else .fail
        | none => .fail
      | _, _, _ => .fail
    | _, _, _ => .fail
  | .slice t x lo hi mx => okE (sliceE P t (ρ x) (lo.map ρ) (hi.map ρ) (mx.map ρ))
  | .fieldAddr t x i => match tyField P t i with
    | some (off, _, z) => if z = 0 then .fail else match ρ x with
      | .ptr n o => .ret ⟨.ptr n (o + off), []⟩
      | .rptr cs => .ret ⟨.rptr (cs.drop off), []⟩
      | _ => .fail
    | none => .fail
  | .field t x i => match tyField P t i, ρ x with
    | some (off, ft, z), .agg cs => match tyAgg P ft with
      | some true => if off + z ≤ cs.length then .ret ⟨.agg ((cs.drop off).take z), []⟩ else .fail
      | some false => match cs[off]? with | some v => .ret ⟨v, []⟩ | none => .fail
      | none => .fail
    | _, _ => .fail
  | .indexAddr t x i => okE (indexE P t (ρ x) (ρ i))
  | .index t x i => match ρ x, ρ i with
    | .c (.str s), .c (.int _ i) => if tyStr P t ∧ 0 ≤ i then match s[i.toNat]? with | some b => .ret ⟨.c (.int .u8 b.toNat), []⟩ | none => .fail else .fail
    | .agg cs, .c (.int _ i) => match tyArr P t with
      | some (n, e) => match tySize P e, tyAgg P e with
        | some z, some false => if 0 ≤ i ∧ i < (n : Int) then match cs[i.toNat * z]? with | some v => .ret ⟨v, []⟩ | none => .fail else .fail
        | some z, some true => if 0 ≤ i ∧ i < (n : Int) ∧ i.toNat * z + z ≤ cs.length then .ret ⟨.agg ((cs.drop (i.toNat * z)).take z), []⟩ else .fail
        | _, _ => .fail
      | none => .fail
    | _, _ => .fail
  | .extract x i => match ρ x with
    | .tup vs => okE vs[i]?
    | _ => .fail
  | .call c => match c.callee with
    | .builtin b => if o.dst.isSome then builtinE P d b c.argTypes (c.args.toList.map ρ) else .fail
    | .value f => match ρ f with
      | .clo f caps => if o.dst.isSome then callE Γ d f (c.args.toList.map ρ ++ caps.map .rptr) else .fail
      | _ => .fail
    | _ => .fail
  | _ => .fail

/-! regions -/
structure FP where
  rd : List Nat
  wr : List Nat

def AS.step (s : AS) (o : Oper) (e : Eff) : AS := (s.wr e.wr).put o.dst e.val

/-- A step of a region: the guard, the operation; what it has read and written. -/
def guardE (ops : Array Oper) (o : Oper) (s : AS) : Option Bool :=
  match o.guard with
  | none => some true
  | some (j, want) => match ((ops[j]?).bind (·.dst)).map s.get with
    | some (.c (.bool b)) => some (b == want)
    | some (.tup []) => some false
    | _ => none
/-- What is said ahead: slots whose slices are written; what to do behind a region. -/
inductive Hint where
  | frz (d z : Nat)
  | toOwn (d z : Nat)
  | tidy (l : List Nat)
structure Adv where
  mu : List Nat
  hints : List (Nat × Hint)
structure Lim where
  n : Nat
  adv : Adv
def dstOK (N : Lim) (o : Oper) : Bool := match o.dst with | some d => d < N.n | none => true
def aStep (Γ : FuncId → Contract) (P : Program) (N : Lim) (ops : Array Oper) (o : Oper) (s : AS) : Option (AS × FP) :=
  if dstOK N o then
    match guardE ops o s with
    | some b => ifE b (match (opE Γ P N.adv.mu o s.eval).run s.mem with
        | some (e, rd) => some (s.step o e, ⟨rd, e.wr.map (·.1)⟩)
        | none => none) (some (s.put o.dst (.tup []), ⟨[], []⟩))
    | none => none
  else none

end Go.Proofs.Ytjdokoldiemobaa.AM
