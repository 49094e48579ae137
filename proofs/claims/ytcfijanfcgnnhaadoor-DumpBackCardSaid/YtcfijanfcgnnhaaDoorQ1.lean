/-
  Q1: Am0 Am1 Am2 Am3 Am4.
-/
import Derived.WalkKit
import Derived.Orders
import Derived.Below
import Derived.OrdersIn
import Derived.TacticsIn
import Derived.RangeFuncWrites
import Derived.RangeFuncCalls
import Derived.Laws.CopyRow
import Derived.Laws.Append
import Derived.Laws.Entries
import Derived.Laws.IdiomStrings
import Derived.Laws.StructEq
import Derived.Laws.Cover3
import Derived.Laws.Pointers
import Derived.Laws.BytesArg
import Derived.Lib.ConvBytes
set_option linter.unusedVariables false
set_option linter.unusedSimpArgs false
namespace Go.Proofs.YtcfijanfcgnnhaaDoor.AM
open Go

/-- A pure cell: a scalar, a text, a slice by its contents (rows of cells). -/
inductive PC where
  | int (k : IntKind) (n : Int)
  | bool (b : Bool)
  | str (s : List UInt8)
  | sl (rows : List (List PC))
  deriving Inhabited

/-- Cells that are known and never change. -/
abbrev Know := Nat → Nat → Option Value

def Know.le (K K' : Know) : Prop := ∀ b o v, K b o = some v → K' b o = some v
theorem Know.le_refl (K : Know) : K.le K := fun _ _ _ h => h
theorem Know.le_trans {K K' K'' : Know} (h : K.le K') (h' : K'.le K'') : K.le K'' := fun b o v e => h' b o v (h b o v e)

inductive VR (K : Know) : PC → Value → Prop
  | int (k : IntKind) (n : Int) : VR K (.int k n) (.int k n)
  | bool (b : Bool) : VR K (.bool b) (.bool b)
  | str (s : List UInt8) : VR K (.str s) (.string ⟨s.toArray⟩)
  | nil : VR K (.sl []) (.slice none 0 0)
  | at0 (a : Addr) (cap : Nat) : VR K (.sl []) (.slice (some a) 0 cap)
  | sl (rows : List (List PC)) (z b off cap : Nat) (f : Nat → Nat → Value)
      (hz : ∀ r ∈ rows, r.length = z) (hc : rows.length ≤ cap)
      (hk : ∀ (j : Nat) (r : List PC) (i : Nat) (c : PC), rows[j]? = some r → r[i]? = some c → K b (off + j * z + i) = some (f j i))
      (hv : ∀ (j : Nat) (r : List PC) (i : Nat) (c : PC), rows[j]? = some r → r[i]? = some c → VR K c (f j i)) :
      VR K (.sl rows) (.slice (some ⟨b, off, none⟩) rows.length cap)

theorem VR.mono {K K' : Know} (h : K.le K') {x : PC} {v : Value} (hv : VR K x v) : VR K' x v := by
  induction hv with
  | int k n => exact .int k n
  | bool b => exact .bool b
  | str s => exact .str s
  | nil => exact .nil
  | at0 a cap => exact .at0 a cap
  | sl rows z b off cap f hz hc hk _ ih => exact .sl rows z b off cap f hz hc (fun j r i c hj hi => h _ _ _ (hk j r i c hj hi)) ih

/-- A row of cells is known at a place. -/
def Known (K : Know) (b off : Nat) (cs : List PC) : Prop := ∀ (i : Nat) (c : PC), cs[i]? = some c → ∃ v, K b (off + i) = some v ∧ VR K c v

theorem Known.mono {K K' : Know} (h : K.le K') {b off : Nat} {cs : List PC} (hk : Known K b off cs) : Known K' b off cs :=
  fun i c hi => let ⟨v, h1, h2⟩ := hk i c hi; ⟨v, h _ _ _ h1, h2.mono h⟩

theorem Known.nil (K : Know) (b off : Nat) : Known K b off [] := fun i c h => by simp at h

theorem Known.drop {K : Know} {b off : Nat} {cs : List PC} (h : Known K b off cs) (n : Nat) : Known K b (off + n) (cs.drop n) := fun i c hi => by
  rw [List.getElem?_drop] at hi
  obtain ⟨v, h1, h2⟩ := h (n + i) c hi
  exact ⟨v, by rw [Nat.add_assoc]; exact h1, h2⟩

theorem Known.take {K : Know} {b off : Nat} {cs : List PC} (h : Known K b off cs) (n : Nat) : Known K b off (cs.take n) := fun i c hi => by
  rw [List.getElem?_take] at hi
  split at hi
  · exact h i c hi
  · cases hi

def Slice (K : Know) (z b off : Nat) (rows : List (List PC)) : Prop := (∀ r ∈ rows, r.length = z) ∧ ∀ (j : Nat) (r : List PC), rows[j]? = some r → Known K b (off + j * z) r

theorem Slice.mono {K K' : Know} (h : K.le K') {z b off : Nat} {rows : List (List PC)} (hs : Slice K z b off rows) : Slice K' z b off rows :=
  ⟨hs.1, fun j r hj => (hs.2 j r hj).mono h⟩

theorem VR.of_slice {K : Know} {z b off cap : Nat} {rows : List (List PC)} (h : Slice K z b off rows) (hc : rows.length ≤ cap) :
    VR K (.sl rows) (.slice (some ⟨b, off, none⟩) rows.length cap) := by
  refine .sl rows z b off cap (fun j i => (K b (off + j * z + i)).getD (.bool false)) h.1 hc ?_ ?_
  · intro j r i c hj hi
    obtain ⟨v, h1, _⟩ := h.2 j r hj i c hi
    simp [h1]
  · intro j r i c hj hi
    obtain ⟨v, h1, h2⟩ := h.2 j r hj i c hi
    simp [h1, h2]

theorem VR.slice_inv {K : Know} {rows : List (List PC)} {v : Value} (h : VR K (.sl rows) v) :
    (rows = [] ∧ ∃ A cap, v = .slice A 0 cap ∧ (A = none → cap = 0)) ∨ ∃ z b off cap, v = .slice (some ⟨b, off, none⟩) rows.length cap ∧ rows.length ≤ cap ∧ Slice K z b off rows := by
  cases h with
  | nil => exact .inl ⟨rfl, none, 0, rfl, fun _ => rfl⟩
  | at0 a cap => exact .inl ⟨rfl, some a, cap, rfl, fun h => by cases h⟩
  | sl _ z b off cap f hz hc hk hv =>
    exact .inr ⟨z, b, off, cap, rfl, hc, hz, fun j r hj i c hi => ⟨_, hk j r i c hj hi, hv j r i c hj hi⟩⟩

theorem VR.slice_form {K : Know} {rows : List (List PC)} {v : Value} (h : VR K (.sl rows) v) : ∃ a cap, v = .slice a rows.length cap ∧ rows.length ≤ cap := by
  rcases h.slice_inv with ⟨rfl, A, cap, rfl, _⟩ | ⟨z, b, off, cap, rfl, hc, _⟩
  · exact ⟨A, cap, rfl, by simp⟩
  · exact ⟨_, cap, rfl, hc⟩

/-- The cells of a value that lies flat. -/
def VRs (K : Know) (cs : List PC) (vs : List Value) : Prop := cs.length = vs.length ∧ ∀ (i : Nat) (c : PC) (v : Value), cs[i]? = some c → vs[i]? = some v → VR K c v

theorem VRs.mono {K K' : Know} (h : K.le K') {cs : List PC} {vs : List Value} (hs : VRs K cs vs) : VRs K' cs vs := ⟨hs.1, fun i c v h1 h2 => (hs.2 i c v h1 h2).mono h⟩
theorem VRs.nil (K : Know) : VRs K [] [] := ⟨rfl, fun i c v h => by simp at h⟩
theorem VRs.cons {K : Know} {c : PC} {v : Value} {cs : List PC} {vs : List Value} (h : VR K c v) (hs : VRs K cs vs) : VRs K (c :: cs) (v :: vs) :=
  ⟨by simp [hs.1], fun i c' v' h1 h2 => by
    cases i with
    | zero => simp at h1 h2; subst h1; subst h2; exact h
    | succ i => simp at h1 h2; exact hs.2 i c' v' h1 h2⟩
theorem VRs.cons_inv {K : Know} {c : PC} {cs : List PC} {vs : List Value} (h : VRs K (c :: cs) vs) : ∃ v vs', vs = v :: vs' ∧ VR K c v ∧ VRs K cs vs' := by
  obtain ⟨h1, h2⟩ := h
  cases vs with
  | nil => simp at h1
  | cons v vs =>
    refine ⟨v, vs, rfl, h2 0 c v (by simp) (by simp), by simpa using h1, fun i c' v' e1 e2 => h2 (i + 1) c' v' (by simpa using e1) (by simpa using e2)⟩

/-- A home: where an abstract object or a row that is owned lies. -/
inductive Home where
  | obj (b : Nat)
  | row (z : Nat) (bk : Option (Nat × Nat)) (fr : Nat)

def Home.blk : Home → Option Nat
  | .obj b => some b
  | .row _ bk _ => bk.map (·.1)

structure Gh where
  K : Know
  h : Nat → Option Home

inductive Home.le : Home → Home → Prop
  | obj (b : Nat) : Home.le (.obj b) (.obj b)
  | row (z : Nat) (bk bk' : Option (Nat × Nat)) (fr fr' : Nat) (h : fr ≤ fr') (he : fr = fr' → bk = bk') : Home.le (.row z bk fr) (.row z bk' fr')

theorem Home.le_refl (h : Home) : Home.le h h := by
  cases h with
  | obj b => exact .obj b
  | row z bk fr => exact .row z bk bk fr fr (Nat.le_refl _) (fun _ => rfl)

theorem Home.le_trans {a b c : Home} (h : Home.le a b) (h' : Home.le b c) : Home.le a c := by
  cases h with
  | obj b => exact h'
  | row z bk bk' fr fr' h1 h2 =>
    cases h' with
    | row _ _ bk'' _ fr'' h3 h4 =>
      refine .row z bk bk'' fr fr'' (Nat.le_trans h1 h3) (fun e => ?_)
      have e1 : fr = fr' := by omega
      have e2 : fr' = fr'' := by omega
      rw [h2 e1, h4 e2]

structure Gh.le (G G' : Gh) : Prop where
  K : G.K.le G'.K
  h : ∀ n h, G.h n = some h → ∃ h', G'.h n = some h' ∧ Home.le h h'

theorem Gh.le_refl (G : Gh) : G.le G := ⟨Know.le_refl _, fun _ h e => ⟨h, e, Home.le_refl h⟩⟩
theorem Gh.le_trans {a b c : Gh} (h : a.le b) (h' : b.le c) : a.le c :=
  ⟨Know.le_trans h.K h'.K, fun n x e => let ⟨y, e1, l1⟩ := h.h n x e; let ⟨z, e2, l2⟩ := h'.h n y e1; ⟨z, e2, Home.le_trans l1 l2⟩⟩

/-- Abstract values. -/
inductive AV where
  | undef
  | c (x : PC)
  | agg (cs : List AV)
  | nilsl
  | own (r z : Nat) (rows : List (List PC))
  | ptr (n off : Nat)
  | msl (n off len : Nat) (ex : Bool)
  | nilptr
  | rptr (cs : List PC)
  | clo (f : FuncId) (caps : List (List PC))
  | mp (n : Nat)
  | nilmp
  | ubool
  | tup (vs : List AV)
  deriving Inhabited

def homeVal (bk : Option (Nat × Nat)) (n : Nat) : Value :=
  match bk with
  | none => .slice none 0 0
  | some (b, cap) => .slice (some ⟨b, 0, none⟩) n cap

inductive AR (G : Gh) : AV → Value → Prop
  | undef (v : Value) : AR G .undef v
  | c (x : PC) (v : Value) (h : VR G.K x v) : AR G (.c x) v
  | agg (cs : List AV) (us : Array Value) (hl : cs.length = us.size) (h : ∀ (i : Nat) (x : AV) (u : Value), cs[i]? = some x → us[i]? = some u → AR G x u) : AR G (.agg cs) (.agg us)
  | nilsl : AR G .nilsl (.slice none 0 0)
  | own (r z : Nat) (rows : List (List PC)) (v : Value) (bk : Option (Nat × Nat)) (fr : Nat) (hh : G.h r = some (.row z bk fr)) (hl : rows.length ≤ fr)
      (hr : ∀ x ∈ rows, x.length = z) (hv : VR G.K (.sl rows) v) (ha : rows.length = fr → v = homeVal bk rows.length) : AR G (.own r z rows) v
  | ptr (n off b : Nat) (h : G.h n = some (.obj b)) : AR G (.ptr n off) (.pointer (some ⟨b, off, none⟩))
  | msl (n off len b cap : Nat) (ex : Bool) (h : G.h n = some (.obj b)) (hc : len ≤ cap) (he : ex = true → cap = len) : AR G (.msl n off len ex) (.slice (some ⟨b, off, none⟩) len cap)
  | nilptr : AR G .nilptr (.pointer none)
  | rptr (cs : List PC) (b off : Nat) (h : Known G.K b off cs) : AR G (.rptr cs) (.pointer (some ⟨b, off, none⟩))
  | clo (f : FuncId) (caps : List (List PC)) (us : List (Nat × Nat)) (hl : caps.length = us.length)
      (h : ∀ (i : Nat) (cs : List PC) (b : Nat × Nat), caps[i]? = some cs → us[i]? = some b → Known G.K b.1 b.2 cs) :
      AR G (.clo f caps) (.func (.func f) #[] (us.map fun b => Value.pointer (some ⟨b.1, b.2, none⟩)).toArray)
  | mp (n b : Nat) (h : G.h n = some (.obj b)) : AR G (.mp n) (.map (some b))
  | nilmp : AR G .nilmp (.map none)
  | ubool (b : Bool) : AR G .ubool (.bool b)
  | tup (vs : List AV) (us : Array Value) (hl : vs.length = us.size) (h : ∀ (i : Nat) (x : AV) (u : Value), vs[i]? = some x → us[i]? = some u → AR G x u) : AR G (.tup vs) (.tuple us)

theorem AR.mono {G G' : Gh} (h : G.le G') {x : AV} {v : Value} (hx : AR G x v) : AR G' x v := by
  induction hx with
  | undef v => exact .undef v
  | c x v hv => exact .c x v (hv.mono h.K)
  | agg vs us hl _ ih => exact .agg vs us hl ih
  | nilsl => exact .nilsl
  | own r z rows v bk fr hh hl hr hv ha =>
    obtain ⟨h', e, l⟩ := h.h r _ hh
    cases l with
    | row _ _ bk' _ fr' h1 h2 =>
      refine .own r z rows v bk' fr' e (by omega) hr (hv.mono h.K) (fun e' => ?_)
      have e1 : rows.length = fr := by omega
      have e2 : fr = fr' := by omega
      rw [← h2 e2]; exact ha e1
  | ptr n off b hh =>
    obtain ⟨h', e, l⟩ := h.h n _ hh
    cases l; exact .ptr n off b e
  | msl n off len b cap ex hh hc he =>
    obtain ⟨h', e, l⟩ := h.h n _ hh
    cases l; exact .msl n off len b cap ex e hc he
  | nilptr => exact .nilptr
  | rptr cs b off hk => exact .rptr cs b off (hk.mono h.K)
  | clo f caps us hl hk => exact .clo f caps us hl (fun i cs b h1 h2 => (hk i cs b h1 h2).mono h.K)
  | mp n b hh =>
    obtain ⟨h', e, l⟩ := h.h n _ hh
    cases l; exact .mp n b e
  | nilmp => exact .nilmp
  | ubool b => exact .ubool b
  | tup vs us hl _ ih => exact .tup vs us hl ih


inductive MC where
  | obj (cells : List AV) (froz : Bool)
  | row (z fr : Nat)
  | mp (ag : Bool) (es : List (List UInt8 × List PC))
  deriving Inhabited

/-- An association list. -/
def look {α : Type} : List (Nat × α) → Nat → Option α
  | [], _ => none
  | (j, x) :: l, i => if j = i then some x else look l i

structure AS where
  t : List (Nat × AV)
  m : List (Nat × MC)

def AS.get (s : AS) (i : Nat) : AV := (look s.t i).getD .undef
def AS.mem (s : AS) (n : Nat) : Option MC := look s.m n
def AS.put (s : AS) (d : Option Tmp) (x : AV) : AS := match d with | some i => { s with t := (i, x) :: s.t } | none => s
def AS.wr (s : AS) (l : List (Nat × MC)) : AS := { s with m := l ++ s.m }
def AS.eval (s : AS) : Operand → AV
  | .tmp t => s.get t
  | .const v => match v with
    | .int k n => .c (.int k n)
    | .bool b => .c (.bool b)
    | .string b => .c (.str b.data.toList)
    | .slice none 0 0 => .nilsl
    | .pointer none => .nilptr
    | .map none => .nilmp
    | _ => .undef
  | .global _ => .undef
  | .func f => .clo f []

/-- A program that asks memory by names. -/
inductive EP (α : Type) where
  | ret (a : α)
  | fail
  | ask (n : Nat) (k : Option MC → EP α)

namespace EP
variable {α β : Type}
def bind : EP α → (α → EP β) → EP β
  | ret a, f => f a
  | fail, _ => fail
  | ask n k, f => ask n fun c => (k c).bind f
def run (m : Nat → Option MC) : EP α → Option (α × List Nat)
  | ret a => some (a, [])
  | fail => none
  | ask n k => match (k (m n)).run m with
    | some (a, l) => some (a, n :: l)
    | none => none

theorem run_agree {m m' : Nat → Option MC} : ∀ (p : EP α) (a : α) (l : List Nat), p.run m = some (a, l) → (∀ n ∈ l, m' n = m n) → p.run m' = some (a, l)
  | ret a, _, _, h, _ => h
  | fail, _, _, h, _ => by simp [run] at h
  | ask n k, a, l, h, hm => by
    simp only [run] at h ⊢
    split at h
    · rename_i a' l' hk
      simp only [Option.some.injEq, Prod.mk.injEq] at h
      obtain ⟨rfl, rfl⟩ := h
      rw [hm n (by simp), run_agree (k (m n)) a' l' hk (fun x hx => hm x (by simp [hx]))]
    · cases h
end EP

/-- What an operation leaves: a value, and what it writes. -/
structure Eff where
  val : AV
  wr : List (Nat × MC)

def AV.toPC : AV → Option PC
  | .c x => some x
  | .nilsl => some (.sl [])
  | .own _ _ rows => some (.sl rows)
  | _ => none
def toPCs : List AV → Option (List PC)
  | [] => some []
  | x :: l => match x.toPC, toPCs l with | some c, some cs => some (c :: cs) | _, _ => none
/-- The cells of a value. -/
def AV.flat : AV → Option (List AV)
  | .agg cs => some cs
  | .undef | .tup _ => none
  | x => some [x]
/-- A cell's own: neither unknown nor of several cells. -/
def AV.scal : AV → Bool
  | .agg _ | .undef | .tup _ => false
  | _ => true
def AV.rows : AV → Option (List (List PC))
  | .c (.sl rows) => some rows
  | .own _ _ rows => some rows
  | .nilsl => some []
  | _ => none

def tyAgg (P : Program) (t : TypeId) : Option Bool := (P.underlying t).map fun | .struct _ | .array _ _ => true | _ => false
def tySize (P : Program) (t : TypeId) : Option Nat := (P.info? t).map (·.size)
def tyBytes (P : Program) (t : TypeId) : Option Nat := (P.info? t).map (·.bytes)
def Value.toAV : Value → AV
  | .int k n => .c (.int k n)
  | .bool b => .c (.bool b)
  | .string b => .c (.str b.data.toList)
  | .slice none 0 0 => .nilsl
  | .pointer none => .nilptr
  | .map none => .nilmp
  | _ => .undef
def tyZero (P : Program) (t : TypeId) : Option (List AV) := ((P.info? t).bind (·.zero)).map fun v => v.cells.toList.map Value.toAV
/-- The element of a slice type. -/
def tyElem (P : Program) (t : TypeId) : Option TypeId := match P.underlying t with | some (.slice e) => some e | _ => none
def tyArr (P : Program) (t : TypeId) : Option (Nat × TypeId) := match P.underlying t with | some (.array n e) => some (n, e) | _ => none
def tyInt (P : Program) (t : TypeId) : Option IntKind := match P.underlying t with | some (.int k) => some k | _ => none
def tyStr (P : Program) (t : TypeId) : Bool := match P.underlying t with | some .string => true | _ => false
/-- A field: where it lies, its type, how many cells. -/
def tyField (P : Program) (t : TypeId) (i : Nat) : Option (Nat × TypeId × Nat) :=
  match P.underlying t with
  | some (.struct fs) => match fs[i]? with
    | some f => match tySize P f.type with | some z => some (f.offset, f.type, z) | none => none
    | none => none
  | _ => none
def tyMap (P : Program) (t : TypeId) : Option (TypeId × TypeId) := match P.underlying t with | some (.map k e) => some (k, e) | _ => none

def rowsOK (z : Nat) (rows : List (List PC)) : Prop := ∀ r ∈ rows, r.length = z
instance (z : Nat) (rows : List (List PC)) : Decidable (rowsOK z rows) := inferInstanceAs (Decidable (∀ r ∈ rows, r.length = z))
def objName (d : Nat) : Nat := 64 * d
def rowName (d : Nat) : Nat := 64 * d + 1
def resName (d i : Nat) : Nat := 64 * d + 2 + i
def resCell (d i j : Nat) : Nat := 64 * d + 10 + 6 * i + j
def inObj (i : Nat) : Nat := 64 * (100000 + i)
def inRow (i j : Nat) : Nat := 64 * (100000 + i) + 1 + j
def outName (i : Nat) : Nat := 64 * (200000 + i)
def outCell (i j : Nat) : Nat := 64 * (200000 + i) + 1 + j

inductive OV where
  | c (x : PC)
  | own (z : Nat) (rows : List (List PC))
  | mp (ag : Bool) (es : List (List UInt8 × List PC))
  | nilmp
  | nilptr
  | self
inductive RV where
  | pv (x : AV)
  | fresh (z : Nat) (rows : List (List PC))
  | newobj (cells : List OV)
  | ref (i : Nat)
structure CRes where
  res : List RV
  objs : List (List OV)
abbrev Contract := List AV → List (List OV) → Option CRes

def ifE {α : Type} (b : Bool) (x y : α) : α := match b with | true => x | false => y
@[simp] theorem ifE_true {α : Type} (x y : α) : ifE true x y = x := rfl
@[simp] theorem ifE_false {α : Type} (x y : α) : ifE false x y = y := rfl

def strOp (op : BinOp) (a b : List UInt8) : Option PC :=
  match op with
  | .add => if a.length + b.length ≤ 9223372036854775807 then some (.str (a ++ b)) else none
  | .eql => some (.bool (a == b))
  | .neq => some (.bool (!(a == b)))
  | .lss => some (.bool (Op.bytesLess a b))
  | .leq => some (.bool (Op.bytesLess a b || a == b))
  | .gtr => some (.bool (!(Op.bytesLess a b || a == b)))
  | .geq => some (.bool (!(Op.bytesLess a b)))
  | _ => none
def intOp (op : BinOp) (k : IntKind) (a b : Int) : Option PC :=
  match op with
  | .add => some (.int k (k.wrap (a + b)))
  | .sub => some (.int k (k.wrap (a - b)))
  | .mul => some (.int k (k.wrap (a * b)))
  | .quo => if b = 0 then none else some (.int k (k.wrap (a.tdiv b)))
  | .rem => if b = 0 then none else some (.int k (a.tmod b))
  | .and => some (.int k (k.wrap (BitVec.ofInt k.bits a &&& BitVec.ofInt k.bits b).toNat))
  | .or => some (.int k (k.wrap (BitVec.ofInt k.bits a ||| BitVec.ofInt k.bits b).toNat))
  | .xor => some (.int k (k.wrap (BitVec.ofInt k.bits a ^^^ BitVec.ofInt k.bits b).toNat))
  | .andNot => some (.int k (k.wrap (BitVec.ofInt k.bits a &&& ~~~ BitVec.ofInt k.bits b).toNat))
  | .eql => some (.bool (a == b))
  | .neq => some (.bool (a != b))
  | .lss => some (.bool (decide (a < b)))
  | .leq => some (.bool (decide (a ≤ b)))
  | .gtr => some (.bool (decide (a > b)))
  | .geq => some (.bool (decide (a ≥ b)))
  | _ => none
def shOp (op : BinOp) (k : IntKind) (a b : Int) : Option PC :=
  if b < 0 then none else
  match op with
  | .shl => some (.int k (k.wrap (a * 2 ^ (min b.toNat k.bits))))
  | .shr => some (.int k (a.fdiv (2 ^ (min b.toNat k.bits))))
  | _ => none
def isSh : BinOp → Bool | .shl | .shr => true | _ => false
def tyBool (P : Program) (t : TypeId) : Bool := match P.underlying t with | some .bool => true | _ => false
def tyPtr (P : Program) (t : TypeId) : Bool := match P.underlying t with | some (.pointer _) => true | _ => false
/-- Two values of several cells, held against each other as their type says. -/
def eqFs (rec_ : TypeId → List PC → List PC → Option Bool) (P : Program) (xs ys : List PC) : List Field → Option Bool
  | [] => some true
  | f :: fs => if f.name ≠ "_" then match tySize P f.type with
      | some z => if f.offset + z ≤ xs.length ∧ f.offset + z ≤ ys.length then
          match rec_ f.type ((xs.drop f.offset).take z) ((ys.drop f.offset).take z), eqFs rec_ P xs ys fs with
          | some a, some b => some (a && b)
          | _, _ => none
        else none
      | none => none
    else eqFs rec_ P xs ys fs
def eqE (P : Program) : Nat → TypeId → List PC → List PC → Option Bool
  | 0, _, _, _ => none
  | d + 1, t, xs, ys => match P.underlying t with
    | some .bool => match xs, ys with | [.bool a], [.bool b] => some (a == b) | _, _ => none
    | some (.int _) => match xs, ys with | [.int k a], [.int k' b] => if k = k' then some (a == b) else none | _, _ => none
    | some .string => match xs, ys with | [.str a], [.str b] => some (a == b) | _, _ => none
    | some (.struct fs) => if P.stoodInHeld t then none else eqFs (eqE P d) P xs ys fs.toList
    | _ => none
def notIf (op : BinOp) (b : Bool) : Option AV := match op with | .eql => some (.c (.bool b)) | .neq => some (.c (.bool (!b))) | _ => none
def isEq : BinOp → Bool | .eql | .neq => true | _ => false
def binE (P : Program) (op : BinOp) (t : TypeId) (x y : AV) : Option AV :=
  match x, y with
  | .c (.int k a), .c (.int k' b) => if isSh op then (shOp op k a b).map .c else if k = k' then (intOp op k a b).map .c else none
  | .c (.str a), .c (.str b) => (strOp op a b).map .c
  | .c (.bool a), .c (.bool b) => if tyBool P t then notIf op (a == b) else none
  | .ptr _ _, .nilptr | .rptr _, .nilptr => if tyPtr P t then notIf op false else none
  | .nilptr, .nilptr => if tyPtr P t then notIf op true else none
  | .mp _, .nilmp => if (tyMap P t).isSome then notIf op false else none
  | .nilmp, .nilmp => if (tyMap P t).isSome then notIf op true else none
  | .agg xs, .agg ys => if P.eqGuardType P.depth t = false ∧ tyAgg P t = some true then match toPCs xs, toPCs ys with
      | some a, some b => (eqE P 10000 t a b).bind (notIf op)
      | _, _ => none
    else none
  | .nilsl, .nilsl => if (tyElem P t).isSome then notIf op true else none
  | .msl _ _ _ _, .nilsl => if (tyElem P t).isSome then notIf op false else none
  | x, .nilsl => match tyElem P t, x.rows with
    | some _, some [] => if isEq op then some .ubool else none
    | some _, some (_ :: _) => notIf op false
    | _, _ => none
  | _, _ => none

def putAt (cells : List AV) (off : Nat) (xs : List AV) : List AV := cells.take off ++ xs ++ cells.drop (off + xs.length)
/-- Parts laid over cells, as 'build' does. -/
def fillE (place : Nat → Option (Nat × Nat)) : List AV → List (Nat × AV) → Option (List AV)
  | cells, [] => some cells
  | cells, (i, x) :: rest => match place i, x.flat with
    | some (off, z), some xs => if xs.length = z ∧ off + z ≤ cells.length then fillE place (putAt cells off xs) rest else none
    | _, _ => none
def tyPlaces (P : Program) (t : TypeId) : Option (List (Nat × Nat)) :=
  match P.underlying t with
  | some (.struct fs) => fs.toList.mapM fun f => (P.info? f.type).map fun i => (f.offset, i.size)
  | _ => none
def buildE (P : Program) (t : TypeId) (parts : List (Nat × AV)) : Option (List AV) :=
  match tyZero P t with
  | some zero => match tyPlaces P t with
    | some ps => fillE (ps[·]?) zero parts
    | none => match tyArr P t with
      | some (_, e) => match tySize P e with
        | some z => fillE (fun i => some (i * z, z)) zero parts
        | none => none
      | none => none
  | none => none

def chunks (z : Nat) : Nat → List PC → List (List PC)
  | 0, _ => []
  | n + 1, l => l.take z :: chunks z n (l.drop z)

def loadE (P : Program) (t : TypeId) (x : AV) : EP AV :=
  match x with
  | .ptr n off => .ask n fun
    | some (.obj cells _) => match tyAgg P t with
      | some true => match tySize P t with
        | some z => if off + z ≤ cells.length then .ret (.agg ((cells.drop off).take z)) else .fail
        | none => .fail
      | some false => match cells[off]? with | some v => .ret v | none => .fail
      | none => .fail
    | _ => .fail
  | .rptr cs => match tyAgg P t with
    | some true => match tySize P t with
      | some z => if z ≤ cs.length then .ret (.agg ((cs.take z).map .c)) else .fail
      | none => .fail
    | some false => match cs[0]? with | some v => .ret (.c v) | none => .fail
    | none => .fail
  | _ => .fail

def storeE (P : Program) (t : TypeId) (x y : AV) : EP Eff :=
  match x, y.flat, tySize P t with
  | .ptr n off, some xs, some z => .ask n fun
    | some (.obj cells false) => if xs.length = z ∧ off + z ≤ cells.length ∧ xs.all AV.scal = true then .ret ⟨.undef, [(n, .obj (putAt cells off xs) false)]⟩ else .fail
    | _ => .fail
  | _, _, _ => .fail

def newObjE (n : Nat) (cells : List AV) : EP Eff := .ask n fun
  | none => .ret ⟨.ptr n 0, [(n, .obj cells false)]⟩
  | some _ => .fail
def newRowE (n z : Nat) (rows : List (List PC)) : EP Eff := .ask n fun
  | none => .ret ⟨.own n z rows, [(n, .row z rows.length)]⟩
  | some _ => .fail

def newMslE (n len : Nat) (cells : List AV) : EP Eff := .ask n fun
  | none => .ret ⟨.msl n 0 len true, [(n, .obj cells false)]⟩
  | some _ => .fail

def indexE (P : Program) (t : TypeId) (x ix : AV) : Option AV :=
  match x, ix with
  | .ptr n off, .c (.int _ i) => match tyArr P t with
    | some (len, e) => match tySize P e with
      | some z => if 0 ≤ i ∧ i < (len : Int) then some (.ptr n (off + i.toNat * z)) else none
      | none => none
    | none => none
  | .rptr cs, .c (.int _ i) => match tyArr P t with
    | some (len, e) => match tySize P e with
      | some z => if 0 ≤ i ∧ i < (len : Int) then some (.rptr (cs.drop (i.toNat * z))) else none
      | none => none
    | none => none
  | .msl n off len _, .c (.int _ i) => match tyElem P t with
    | some e => match tySize P e with
      | some z => if 0 ≤ i ∧ i < (len : Int) then some (.ptr n (off + i.toNat * z)) else none
      | none => none
    | none => none
  | x, .c (.int _ i) => match tyElem P t, x.rows with
    | some e, some rows => match tySize P e with
      | some z => if 0 ≤ i then match rows[i.toNat]? with
        | some r => if r.length = z then some (.rptr r) else none
        | none => none else none
      | none => none
    | _, _ => none
  | _, _ => none

def boundE (x : Option AV) (d : Nat) : Option Int :=
  match x with
  | none => some d
  | some (.c (.int _ i)) => some i
  | _ => none

/-- x[lo:hi:max] of a text, or of a slice (whose owner forgets it). -/
def sliceE (P : Program) (t : TypeId) (x : AV) (lo hi mx : Option AV) : Option AV :=
  match x with
  | .c (.str s) => match tyStr P t, mx, boundE lo 0, boundE hi s.length with
    | true, none, some l, some h => if 0 ≤ l ∧ l ≤ h ∧ h ≤ (s.length : Int) then some (.c (.str ((s.take h.toNat).drop l.toNat))) else none
    | _, _, _, _ => none
  | .ptr n off => match tyArr P t with
    | some (len, e) => match tySize P e, boundE lo 0, boundE hi len, mx with
      | some z, some l, some h, none => if 0 ≤ l ∧ l ≤ h ∧ h ≤ (len : Int) ∧ (l = 0 ∨ l < h) then some (.msl n (off + l.toNat * z) (h.toNat - l.toNat) (decide (h = (len : Int)))) else none
      | _, _, _, _ => none
    | none => none
  | .msl n off len ex => match tyElem P t with
    | some e => match tySize P e, boundE lo 0, boundE hi len, mx with
      | some z, some l, some h, none => if 0 ≤ l ∧ l ≤ h ∧ h ≤ (len : Int) ∧ (l = 0 ∨ l < h) then some (.msl n (off + l.toNat * z) (h.toNat - l.toNat) (ex && decide (h = (len : Int)))) else none
      | some z, some l, some h, some (.c (.int _ m)) => if hi.isSome = true ∧ 0 ≤ l ∧ l ≤ h ∧ h ≤ m ∧ m ≤ (len : Int) ∧ l = 0 then some (.msl n (off + l.toNat * z) (h.toNat - l.toNat) (decide (h = m))) else none
      | _, _, _, _ => none
    | none => none
  | x => match tyElem P t, x.rows with
    | some e, some rows => match tySize P e, boundE lo 0, boundE hi rows.length with
      | some z, some l, some h => match mx with
        | none => if rowsOK z rows ∧ 0 ≤ l ∧ l ≤ h ∧ h ≤ (rows.length : Int) then some (.c (.sl ((rows.take h.toNat).drop l.toNat))) else none
        | some (.c (.int _ m)) => if hi.isSome = true ∧ rowsOK z rows ∧ 0 ≤ l ∧ l ≤ h ∧ h ≤ m ∧ m ≤ (rows.length : Int) then some (.c (.sl ((rows.take h.toNat).drop l.toNat))) else none
        | _ => none
      | _, _, _ => none
    | _, _ => none

def bytesOf : List (List PC) → Option (List UInt8)
  | [] => some []
  | [.int .u8 n] :: rows => match bytesOf rows with | some l => some (UInt8.ofNat n.toNat :: l) | none => none
  | _ => none
def bytes (l : List UInt8) : List (List PC) := l.map fun b => [PC.int .u8 b.toNat]

def convE (P : Program) (src dst : TypeId) (x : AV) : Option AV :=
  match x with
  | .c (.int _ n) => match tyInt P dst with | some k => if (P.underlying src).isSome then some (.c (.int k (k.wrap n))) else none | none => none
  | .c (.str s) => if tyStr P dst then (if (P.underlying src).isSome then some x else none) else match tyElem P dst with
    | some e => if tyInt P e = some .u8 ∧ (P.underlying src).isSome then some (.c (.sl (bytes s))) else none
    | none => none
  | x => match tyElem P src, x.rows with
    | some e, some rows => if tyStr P dst ∧ tyInt P e = some .u8 then (bytesOf rows).map fun l => .c (.str l) else none
    | _, _ => none

def lenE (P : Program) (t : TypeId) (x : AV) : EP AV :=
  match x with
  | .c (.str s) => if tyStr P t then .ret (.c (.int .i64 s.length)) else .fail
  | .mp n => .ask n fun
    | some (.mp _ es) => match tyMap P t with | some _ => .ret (.c (.int .i64 es.length)) | none => .fail
    | _ => .fail
  | .nilmp => match tyMap P t with | some _ => .ret (.c (.int .i64 0)) | none => .fail
  | .msl _ _ len _ => match tyElem P t with | some _ => .ret (.c (.int .i64 len)) | none => .fail
  | x => match tyElem P t, x.rows with
    | some _, some rows => .ret (.c (.int .i64 rows.length))
    | _, _ => .fail

/-- What append adds. -/
def addedE (P : Program) (t : TypeId) (x : AV) : Option (List (List PC)) :=
  match x with
  | .c (.str s) => if tyStr P t then some (bytes s) else none
  | x => match tyElem P t with | some _ => x.rows | none => none

def newLooseE (n len : Nat) (cells : List AV) : EP Eff := .ask n fun
  | none => .ret ⟨.msl n 0 len false, [(n, .obj cells false)]⟩
  | some _ => .fail
/-- Append to a slice of nothing with no room, that may be written behind: a new object, whose block may be longer than what is known. -/
def appendM (d z by_ : Nat) (ys : List (List PC)) (len : Nat) (ex : Bool) : EP Eff :=
  if len = 0 ∧ ex = true ∧ ys.length * by_ ≤ 140737488355328 then ifE (decide (0 < ys.length)) (newLooseE (objName d) ys.length (ys.flatten.map .c)) (.ret ⟨.c (.sl []), []⟩) else .fail
/-- The same, of what lies in an object. -/
def appendX (P : Program) (d : Nat) (e xt : TypeId) (s x : AV) : EP Eff :=
  match s, x with
  | .msl _ _ len ex, .msl n off len' _ => match tyElem P xt, tySize P e, tyBytes P e, tyZero P e with
    | some _, some z, some by_, some zero => if 0 < z ∧ 0 < by_ ∧ zero.length = z then .ask n fun
        | some (.obj cells _) => if off + len' * z ≤ cells.length then (match toPCs ((cells.drop off).take (len' * z)) with
            | some cs => appendM d z by_ (chunks z len' cs) len ex
            | none => .fail) else .fail
        | _ => .fail
      else .fail
    | _, _, _, _ => .fail
  | _, _ => .fail
def strz : AV → Nat → Bool
  | .c (.str _), z => z == 1
  | _, _ => true
def appendE (P : Program) (d : Nat) (st xt : TypeId) (s x : AV) : EP Eff :=
  match tyElem P st, addedE P xt x with
  | some e, some ys => match tySize P e, tyBytes P e, tyZero P e with
    | some z, some by_, some zero =>
      if 0 < z ∧ 0 < by_ ∧ zero.length = z ∧ rowsOK z ys ∧ strz x z = true then
        match s with
        | .nilsl => if ys.length * by_ ≤ 140737488355328 then newRowE (rowName d) z ys else .fail
        | .own r z' rows => if z' = z ∧ (rows.length + ys.length) * by_ ≤ 140737488355328 then .ask r fun
          | some (.row _ fr) => if fr = rows.length then .ret ⟨.own r z (rows ++ ys), [(r, .row z (rows.length + ys.length))]⟩ else .fail
          | _ => .fail else .fail
        | .msl _ _ len ex => appendM d z by_ ys len ex
        | _ => .fail
      else .fail
    | _, _, _ => .fail
  | some e, none => appendX P d e xt s x
  | _, _ => .fail

def mm (mx : Bool) : List AV → Option AV
  | [.c (.int k a), .c (.int k' b)] => if k = k' then some (.c (.int k (if mx then (if b > a then b else a) else (if b < a then b else a)))) else none
  | _ => none

/-- The arguments of a call, as a contract takes them: pure ones, and pointers to the objects in their order. -/
def AV.pure? : AV → Option AV
  | .agg cs => (toPCs cs).map fun l => .agg (l.map .c)
  | .rptr cs => some (.rptr cs)
  | .clo f caps => some (.clo f caps)
  | .nilptr => some .nilptr
  | .nilsl => some .nilsl
  | x => x.toPC.map .c
def argsE : List AV → Nat → Option (List AV × List Nat)
  | [], _ => some ([], [])
  | x :: l, i => match x with
    | .ptr n 0 => match argsE l (i + 1) with | some (as, ns) => some (.ptr (inObj i) 0 :: as, n :: ns) | none => none
    | .msl n off len ex => match argsE l (i + 1) with | some (as, ns) => some (.msl (inObj i) off len ex :: as, n :: ns) | none => none
    | x => match x.pure?, argsE l i with | some y, some (as, ns) => some (y :: as, ns) | _, _ => none


/-- An object's cells, its rows under these names. -/
def cellsAt (nm : Nat → Nat) (me : Nat) : Nat → List OV → List AV × List (Nat × MC)
  | _, [] => ([], [])
  | j, .c x :: o => (.c x :: (cellsAt nm me (j + 1) o).1, (cellsAt nm me (j + 1) o).2)
  | j, .own z rows :: o => (.own (nm j) z rows :: (cellsAt nm me (j + 1) o).1, (nm j, .row z rows.length) :: (cellsAt nm me (j + 1) o).2)
  | j, .mp ag es :: o => (.mp (nm j) :: (cellsAt nm me (j + 1) o).1, (nm j, .mp ag es) :: (cellsAt nm me (j + 1) o).2)
  | j, .nilmp :: o => (.nilmp :: (cellsAt nm me (j + 1) o).1, (cellsAt nm me (j + 1) o).2)
  | j, .nilptr :: o => (.nilptr :: (cellsAt nm me (j + 1) o).1, (cellsAt nm me (j + 1) o).2)
  | j, .self :: o => (.ptr me 0 :: (cellsAt nm me (j + 1) o).1, (cellsAt nm me (j + 1) o).2)
/-- The memory that a call begins with, and what objects it ends with. -/
def entryMem : Nat → List (List OV) → List (Nat × MC)
  | _, [] => []
  | i, o :: os => (inObj i, .obj (cellsAt (inRow i) (inObj i) 0 o).1 false) :: ((cellsAt (inRow i) (inObj i) 0 o).2 ++ entryMem (i + 1) os)
/-- What a call hands back, under these names. -/
def refE (ns : List Nat) (i : Nat) : AV := match ns[i]? with | some n => .ptr n 0 | none => .undef
def resAt (nr : Nat → Nat) (nc : Nat → Nat → Nat) (ns : List Nat) : Nat → List RV → List AV × List (Nat × MC)
  | _, [] => ([], [])
  | i, .pv x :: l => (x :: (resAt nr nc ns (i + 1) l).1, (resAt nr nc ns (i + 1) l).2)
  | i, .fresh z rows :: l => (.own (nr i) z rows :: (resAt nr nc ns (i + 1) l).1, (nr i, .row z rows.length) :: (resAt nr nc ns (i + 1) l).2)
  | i, .newobj cells :: l => (.ptr (nr i) 0 :: (resAt nr nc ns (i + 1) l).1, (nr i, .obj (cellsAt (nc i) (nr i) 0 cells).1 false) :: ((cellsAt (nc i) (nr i) 0 cells).2 ++ (resAt nr nc ns (i + 1) l).2))
  | i, .ref k :: l => (refE ns k :: (resAt nr nc ns (i + 1) l).1, (resAt nr nc ns (i + 1) l).2)
def inNames : Nat → List (List OV) → List Nat
  | _, [] => []
  | i, _ :: os => inObj i :: inNames (i + 1) os
def exitMem (r : CRes) : List (Nat × MC) := entryMem 0 r.objs ++ (resAt outName outCell (inNames 0 r.objs) 0 r.res).2
def exitVals (r : CRes) : List AV := (resAt outName outCell (inNames 0 r.objs) 0 r.res).1
def oneE : List AV → AV
  | [x] => x
  | l => .tup l

/-- The objects that a call is handed, as its contract takes them, with their rows' own names. -/
def cellsE (me : Nat) : List AV → EP (List OV × List Nat)
  | [] => .ret ([], [])
  | x :: l => match x with
    | .own r z rows => .ask r fun
      | some (.row z' fr) => if z' = z ∧ fr = rows.length then (cellsE me l).bind fun o => .ret (.own z rows :: o.1, r :: o.2) else .fail
      | _ => .fail
    | .mp r => .ask r fun
      | some (.mp ag es) => (cellsE me l).bind fun o => .ret (.mp ag es :: o.1, r :: o.2)
      | _ => .fail
    | .nilmp => (cellsE me l).bind fun o => .ret (.nilmp :: o.1, o.2)
    | .nilptr => (cellsE me l).bind fun o => .ret (.nilptr :: o.1, o.2)
    | .ptr r 0 => if r = me then (cellsE me l).bind fun o => .ret (.self :: o.1, o.2) else .fail
    | x => match x.toPC with
      | some c => (cellsE me l).bind fun o => .ret (.c c :: o.1, o.2)
      | none => .fail
def objsE : List Nat → EP (List (List OV) × List (Nat × List Nat))
  | [] => .ret ([], [])
  | n :: l => .ask n fun
    | some (.obj cells false) => (cellsE n cells).bind fun o => (objsE l).bind fun os => .ret (o.1 :: os.1, (n, o.2) :: os.2)
    | _ => .fail
/-- An object's cells behind a call: its rows keep their names. -/
def backCells (me : Nat) : List OV → List Nat → List AV × List (Nat × MC)
  | [], _ => ([], [])
  | .c x :: o, rs => (.c x :: (backCells me o rs).1, (backCells me o rs).2)
  | .own z rows :: o, r :: rs => (.own r z rows :: (backCells me o rs).1, (r, .row z rows.length) :: (backCells me o rs).2)
  | .own _ rows :: o, [] => (.c (.sl rows) :: (backCells me o []).1, (backCells me o []).2)
  | .mp ag es :: o, r :: rs => (.mp r :: (backCells me o rs).1, (r, .mp ag es) :: (backCells me o rs).2)
  | .mp _ _ :: o, [] => (.nilmp :: (backCells me o []).1, (backCells me o []).2)
  | .nilmp :: o, rs => (.nilmp :: (backCells me o rs).1, (backCells me o rs).2)
  | .nilptr :: o, rs => (.nilptr :: (backCells me o rs).1, (backCells me o rs).2)
  | .self :: o, rs => (.ptr me 0 :: (backCells me o rs).1, (backCells me o rs).2)
/-- Where the rows are, and of what width. -/
def shapeOf : List OV → List (Option Nat)
  | [] => []
  | .own z _ :: o => some z :: shapeOf o
  | .mp _ _ :: o => some 0 :: shapeOf o
  | .c _ :: o => none :: shapeOf o
  | .nilmp :: o => none :: shapeOf o
  | .nilptr :: o => none :: shapeOf o
  | .self :: o => none :: shapeOf o
def backObjs : List (Nat × List Nat) → List (List OV) → List (Nat × MC)
  | (n, rs) :: ns, o :: os => (n, .obj (backCells n o rs).1 false) :: ((backCells n o rs).2 ++ backObjs ns os)
  | _, _ => []
def keys (l : List (Nat × MC)) : List Nat := l.map (·.1)
/-- None of these names is taken. -/
def freeE : List Nat → EP Unit
  | [] => .ret ()
  | n :: l => .ask n fun | none => freeE l | some _ => .fail

/-- A slice of nothing is as good as nil, and nil is nil. -/
def denil : AV → AV
  | .nilsl => .c (.sl [])
  | x => x
def look2 (C : Contract) (as : List AV) (os : List (List OV)) : Option CRes := match C (as.map denil) os with
  | some r => some r
  | none => C as os
def callE (Γ : FuncId → Contract) (d : Nat) (f : FuncId) (args : List AV) : EP Eff :=
  match argsE args 0 with
  | none => .fail
  | some (as, ns) => (objsE ns).bind fun os => match look2 (Γ f) as os.1 with
    | none => .fail
    | some r =>
      if r.objs.map shapeOf = os.1.map shapeOf ∧ (keys (entryMem 0 os.1)).Nodup ∧ (keys (exitMem r)).Nodup ∧ (keys (backObjs os.2 r.objs ++ (resAt (resName d) (resCell d) ns 0 r.res).2)).Nodup then
        (freeE (keys (resAt (resName d) (resCell d) ns 0 r.res).2)).bind fun _ =>
        .ret ⟨oneE (resAt (resName d) (resCell d) ns 0 r.res).1, backObjs os.2 r.objs ++ (resAt (resName d) (resCell d) ns 0 r.res).2⟩
      else .fail

/-- A variable that a closure captures is never written again. -/
def capE : List AV → EP (List (List PC) × List (Nat × MC))
  | [] => .ret ([], [])
  | x :: l => match x with
    | .ptr n 0 => .ask n fun
      | some (.obj cells _) => match toPCs cells with
        | some cs => (capE l).bind fun r => .ret (cs :: r.1, (n, .obj cells true) :: r.2)
        | none => .fail
      | _ => .fail
    | .rptr cs => (capE l).bind fun r => .ret (cs :: r.1, r.2)
    | _ => .fail

/-- A type whose zero value is an aggregate. -/
def tyZag (P : Program) (t : TypeId) : Bool := match (P.info? t).bind (·.zero) with | some (.agg _) => true | _ => false
def AV.isAgg : AV → Bool | .agg _ => true | _ => false
def keyE : AV → Option (List UInt8) | .c (.str s) => some s | _ => none
def findE (k : List UInt8) : List (List UInt8 × List PC) → Option (List PC)
  | [] => none
  | (j, v) :: l => if j == k then some v else findE k l
def setE (k : List UInt8) (v : List PC) : List (List UInt8 × List PC) → List (List UInt8 × List PC)
  | [] => [(k, v)]
  | (j, u) :: l => if j == k then (k, v) :: l else (j, u) :: setE k v l
def elemAV (agg : Bool) (cs : List AV) : AV := if agg then .agg cs else cs.headD .undef

def lookOut (z : Nat) (ag ok : Bool) (v : List AV) (b : Bool) : EP AV := if v.length = z then .ret (ifE ok (.tup [elemAV ag v, .c (.bool b)]) (elemAV ag v)) else .fail
def lookFound (z : Nat) (ag ok : Bool) (zero : List AV) (f : Option (List PC)) : EP AV := match f with | some v => lookOut z ag ok (v.map .c) true | none => lookOut z ag ok zero false
def lookupE (P : Program) (t : TypeId) (m k : AV) (ok : Bool) : EP AV :=
  match tyMap P t, keyE k with
  | some (kt, e), some key => if tyStr P kt = true then match tyAgg P e, tyZero P e, tySize P e with
    | some ag, some zero, some z => if tyZag P e = ag then match m with
        | .nilmp => lookFound z ag ok zero none
        | .mp n => .ask n fun
          | some (.mp ag' es) => if ag' = ag then lookFound z ag ok zero (findE key es) else .fail
          | _ => .fail
        | _ => .fail
      else .fail
    | _, _, _ => .fail
    else .fail
  | _, _ => .fail

def mapSetE (P : Program) (t : TypeId) (m k x : AV) : EP Eff :=
  match tyMap P t, keyE k, x.flat.bind toPCs, m with
  | some (kt, e), some key, some cs, .mp n => if tyStr P kt = true ∧ tySize P e = some cs.length then .ask n fun
      | some (.mp ag es) => if x.isAgg = ag then .ret ⟨.undef, [(n, .mp ag (setE key cs es))]⟩ else .fail
      | _ => .fail
    else .fail
  | _, _, _, _ => .fail

def okE (x : Option AV) : EP Eff := match x with | some v => .ret ⟨v, []⟩ | none => .fail
def okM (x : EP AV) : EP Eff := x.bind fun v => .ret ⟨v, []⟩

def builtinE (P : Program) (d : Nat) (b : Builtin) (ts : Array TypeId) (args : List AV) : EP Eff :=
  match b, args with
  | .len, [x] => match ts[0]? with | some t => okM (lenE P t x) | none => .fail
  | .append, [s, x] => match ts[0]?, ts[1]? with | some st, some xt => appendE P d st xt s x | _, _ => .fail
  | .max, l => okE (mm true l)
  | .min, l => okE (mm false l)
  | _, _ => .fail

def unE (op : UnOp) (x : AV) : Option AV :=
  match op, x with
  | .not, .c (.bool b) => some (.c (.bool (!b)))
  | .neg, .c (.int k n) => some (.c (.int k (k.wrap (0 - n))))
  | .xor, .c (.int k n) => some (.c (.int k (k.wrap (BitVec.ofInt k.bits (if k.signed then -1 else k.max) ^^^ BitVec.ofInt k.bits n).toNat)))
  | _, _ => none

/-- A conversion: of a row of octets to its own type, as it stands; else by the value alone. -/
def convO (P : Program) (src dst : TypeId) (x : AV) : EP Eff :=
  match x with
  | .own r z rows => if src = dst then (match tyElem P src with
    | some e => if tyInt P e = some .u8 ∧ 0 < rows.length then .ask r fun
        | some (.row z' fr) => if fr = rows.length ∧ z' = z then .ret ⟨.own r z rows, [(r, .row z rows.length)]⟩ else .fail
        | _ => .fail else .fail
    | none => .fail) else okE (convE P src dst (.own r z rows))
  | x => okE (convE P src dst x)

def hasN : List Nat → Nat → Bool
  | [], _ => false
  | x :: l, n => x == n || hasN l n

def opE (Γ : FuncId → Contract) (P : Program) (F : List Nat) (o : Oper) (ρ : Operand → AV) : EP Eff :=
  let d := o.dst.getD 0
  match o.op with
  | .move x | .assign x => .ret ⟨ρ x, []⟩
  | .pick c a b => match ρ c with | .c (.bool t) => ifE t (.ret ⟨ρ a, []⟩) (.ret ⟨ρ b, []⟩) | _ => .fail
  | .alloc t => if o.dst.isSome then match tyZero P t with | some cells => newObjE (objName d) cells | none => .fail else .fail
  | .box t x => if o.dst.isSome then match (ρ x).flat with | some cells => newObjE (objName d) cells | none => .fail else .fail
  | .build t parts => okE ((buildE P t (parts.toList.map fun p => (p.1, ρ p.2))).map .agg)
  | .buildSlice t n parts => match tyElem P t with
    | some e => match tyZero P e, tySize P e with
      | some zero, some z => if o.dst.isSome ∧ zero.length = z ∧ 0 < z ∧ n * z ≤ 16777216 then
          ifE (hasN F d) (match fillE (fun i => some (i * z, z)) ((List.replicate n zero).flatten) (parts.toList.map fun p => (p.1, ρ p.2)) with
          | some out => newMslE (objName d) n out
          | none => .fail) (match (fillE (fun i => some (i * z, z)) ((List.replicate n zero).flatten) (parts.toList.map fun p => (p.1, ρ p.2))).bind toPCs with
          | some cs => newRowE (rowName d) z (chunks z n cs)
          | none => .fail)
        else .fail
      | _, _ => .fail
    | none => .fail
  | .load t a => okM (loadE P t (ρ a))
  | .store t a x => storeE P t (ρ a) (ρ x)
  | .nilCheck x => match ρ x with
    | .ptr n off => .ret ⟨.ptr n off, []⟩
    | .rptr cs => .ret ⟨.rptr cs, []⟩
    | .clo f caps => .ret ⟨.clo f caps, []⟩
    | _ => .fail
  | .binOp op t x y _ => okE (binE P op t (ρ x) (ρ y))
  | .unOp op _ x => okE (unE op (ρ x))
  | .convert src dst x => convO P src dst (ρ x)
  | .makeFunc (.func f) first captured => if first = #[] then (capE (captured.toList.map ρ)).bind fun r => .ret ⟨.clo f r.1, r.2⟩ else .fail
  | .makeMap t none => match (tyMap P t).bind fun x => tyAgg P x.2 with
    | some ag => if o.dst.isSome then .ask (objName d) fun | none => .ret ⟨.mp (objName d), [(objName d, .mp ag [])]⟩ | some _ => .fail else .fail
    | none => .fail
  | .makeSlice t l c => match tyElem P t, ρ l, ρ c with
    | some e, .c (.int .i64 n), .c (.int .i64 m) => match tyZero P e, tySize P e, tyBytes P e with
      | some zero, some z, some by_ => match toPCs zero with
        | some zs => if o.dst.isSome ∧ zs.length = z ∧ 0 < z ∧ n ≤ m ∧ 0 ≤ n ∧ m ≤ 9223372036854775807 ∧ m * by_ ≤ 140737488355328 then ifE (hasN F d) (if n = m then newMslE (objName d) n.toNat (List.replicate n.toNat zero).flatten else .fail) (newRowE (rowName d) z (List.replicate n.toNat zs)) else .fail
        | none => .fail
      | _, _, _ => .fail
    | _, _, _ => .fail
  | .slice t x lo hi mx => okE (sliceE P t (ρ x) (lo.map ρ) (hi.map ρ) (mx.map ρ))
  | .fieldAddr t x i => match tyField P t i with
    | some (off, _, z) => if z = 0 then .fail else match ρ x with
      | .ptr n o => .ret ⟨.ptr n (o + off), []⟩
      | .rptr cs => .ret ⟨.rptr (cs.drop off), []⟩
      | _ => .fail
    | none => .fail
  | .field t x i => match tyField P t i, ρ x with
    | some (off, ft, z), .agg cs => match tyAgg P ft with
      | some true => if off + z ≤ cs.length then .ret ⟨.agg ((cs.drop off).take z), []⟩ else .fail
      | some false => match cs[off]? with | some v => .ret ⟨v, []⟩ | none => .fail
      | none => .fail
    | _, _ => .fail
  | .indexAddr t x i => okE (indexE P t (ρ x) (ρ i))
  | .index t x i => match ρ x, ρ i with
    | .c (.str s), .c (.int _ i) => if tyStr P t ∧ 0 ≤ i then match s[i.toNat]? with | some b => .ret ⟨.c (.int .u8 b.toNat), []⟩ | none => .fail else .fail
    | .agg cs, .c (.int _ i) => match tyArr P t with
      | some (n, e) => match tySize P e, tyAgg P e with
        | some z, some false => if 0 ≤ i ∧ i < (n : Int) then match cs[i.toNat * z]? with | some v => .ret ⟨v, []⟩ | none => .fail else .fail
        | some z, some true => if 0 ≤ i ∧ i < (n : Int) ∧ i.toNat * z + z ≤ cs.length then .ret ⟨.agg ((cs.drop (i.toNat * z)).take z), []⟩ else .fail
        | _, _ => .fail
      | none => .fail
    | _, _ => .fail
  | .extract x i => match ρ x with
    | .tup vs => okE vs[i]?
    | _ => .fail
  | .call c => match c.callee with
    | .builtin b => if o.dst.isSome then builtinE P d b c.argTypes (c.args.toList.map ρ) else .fail
    | .value f => match ρ f with
      | .clo f caps => if o.dst.isSome then callE Γ d f (c.args.toList.map ρ ++ caps.map .rptr) else .fail
      | _ => .fail
    | _ => .fail
  | .lookup t x k ok => okM (lookupE P t (ρ x) (ρ k) ok)
  | .mapUpdate t m k x => mapSetE P t (ρ m) (ρ k) (ρ x)
  | _ => .fail

structure FP where
  rd : List Nat
  wr : List Nat

def AS.step (s : AS) (o : Oper) (e : Eff) : AS := (s.wr e.wr).put o.dst e.val

/-- A step of a region: the guard, the operation; what it has read and written. -/
def guardE (ops : Array Oper) (o : Oper) (s : AS) : Option Bool :=
  match o.guard with
  | none => some true
  | some (j, want) => match ((ops[j]?).bind (·.dst)).map s.get with
    | some (.c (.bool b)) => some (b == want)
    | some (.tup []) => some false
    | _ => none
/-- What is said ahead: slots whose slices are written; what to do behind a region. -/
inductive Hint where
  | frz (d z : Nat)
  | toOwn (d z : Nat)
  | tidy (l : List Nat)
structure Adv where
  mu : List Nat
  hints : List (Nat × Hint)
structure Lim where
  n : Nat
  adv : Adv
def dstOK (N : Lim) (o : Oper) : Bool := match o.dst with | some d => d < N.n | none => true
def aStep (Γ : FuncId → Contract) (P : Program) (N : Lim) (ops : Array Oper) (o : Oper) (s : AS) : Option (AS × FP) :=
  if dstOK N o then
    match guardE ops o s with
    | some b => ifE b (match (opE Γ P N.adv.mu o s.eval).run s.mem with
        | some (e, rd) => some (s.step o e, ⟨rd, e.wr.map (·.1)⟩)
        | none => none) (some (s.put o.dst (.tup []), ⟨[], []⟩))
    | none => none
  else none


structure Env where
  N : Lim
  ns : List Nat
  H0 : Nat → Option Home
  w0 : World
  B : Nat
  Ext : Nat → Prop
  K0 : Know
  ro : Option Nat
  dfs : List Deferred

/-- The fence that lets all by: in an activation of a function, or in a round. -/
def rF (ro : Option Nat) : Fence := { Fence.wide with round := ro }

/-- The view of a call that begins in this world. -/
def cEnv (w : World) (Ext : Nat → Prop) (K : Know) : Env := ⟨⟨0, ⟨[], []⟩⟩, [], fun _ => none, w, w.heap.size, Ext, K, none, []⟩
def Env.mine (E : Env) (b : Nat) : Prop := E.B ≤ b ∨ E.Ext b

def ObjOK (E : Env) (G : Gh) (w : World) (cells : List AV) (fz : Bool) (b : Nat) : Prop :=
  ∃ (vs : Array Value) (ty : TypeId), w.heap[b]? = some (.cells vs ty (0, 0)) ∧ cells.length ≤ vs.size ∧ (∀ (i : Nat) (x : AV) (v : Value), cells[i]? = some x → vs[i]? = some v → AR G x v) ∧
    E.mine b ∧ (fz = true → ∀ (i : Nat) (v : Value), vs[i]? = some v → G.K b i = some v) ∧ (fz = false → ∀ o, G.K b o = none)

/-- None of a row's cells is frozen. -/
def FrOK (n : Nat) (p : Nat × Nat) : Prop := p = (0, 0) ∨ p = (n, n + 1)
def RowOK (E : Env) (G : Gh) (w : World) (z : Nat) (bk : Option (Nat × Nat)) (fr : Nat) : Prop :=
  match bk with
  | none => fr = 0
  | some (b, cap) => ∃ (vs : Array Value) (ty : TypeId), (∃ p, w.heap[b]? = some (.cells vs ty p) ∧ FrOK vs.size p) ∧ vs.size = cap * z ∧ fr ≤ cap ∧ 0 < z ∧
      E.mine b ∧ ∀ o, fr * z ≤ o → G.K b o = none

def EntryOK (G : Gh) (ag : Bool) (x : List UInt8 × List PC) (e : MapEntry) : Prop :=
  e.key = .string ⟨x.1.toArray⟩ ∧ AR G (elemAV ag (x.2.map .c)) e.val ∧ (ag = false → x.2.length = 1)

def MapOK (E : Env) (G : Gh) (w : World) (ag : Bool) (es : List (List UInt8 × List PC)) (b : Nat) : Prop :=
  ∃ (ms : Array MapEntry) (clock : Nat), w.heap[b]? = some (.map ms clock) ∧ es.length = ms.size ∧
    (∀ (i : Nat) (x : List UInt8 × List PC) (e : MapEntry), es[i]? = some x → ms[i]? = some e → EntryOK G ag x e) ∧ E.mine b

def HomeOK (E : Env) (G : Gh) (w : World) : Option MC → Option Home → Prop
  | none, none => True
  | some (.obj cells fz), some (.obj b) => ObjOK E G w cells fz b
  | some (.row z fr), some (.row z' bk fr') => z = z' ∧ fr = fr' ∧ RowOK E G w z bk fr
  | some (.mp ag es), some (.obj b) => MapOK E G w ag es b
  | _, _ => False

structure MRel (E : Env) (G : Gh) (m : Nat → Option MC) (w : World) : Prop where
  agree : ∀ b o v, G.K b o = some v → w.cell? ⟨b, o, none⟩ = some v
  home : ∀ n, HomeOK E G w (m n) (G.h n)
  inj : ∀ n n' h h' b, G.h n = some h → G.h n' = some h' → h.blk = some b → h'.blk = some b → n = n'
  os : w.os = E.w0.os
  tape : w.tape = E.w0.tape
  output : w.output = E.w0.output
  size0 : E.w0.heap.size ≤ w.heap.size
  sizeB : E.B ≤ w.heap.size
  blk : ∀ k, k < E.B → ¬ E.Ext k → w.heap[k]? = E.w0.heap[k]?
  k0 : E.K0.le G.K
  kfr : ∀ b o, b < E.B → ¬ E.Ext b → G.K b o = E.K0 b o

theorem MRel.k_lt {E : Env} {G : Gh} {m : Nat → Option MC} {w : World} (R : MRel E G m w) {b o : Nat} {v : Value} (h : G.K b o = some v) : b < w.heap.size :=
  World.block_lt_of_cell? w _ (R.agree b o v h)

theorem MRel.k_new {E : Env} {G : Gh} {m : Nat → Option MC} {w : World} (R : MRel E G m w) {b : Nat} (hb : w.heap.size ≤ b) (o : Nat) : G.K b o = none := by
  cases h : G.K b o with
  | none => rfl
  | some v => have := R.k_lt h; omega

theorem heap_some_lt {w : World} {b : Nat} {o : Obj} (h : w.heap[b]? = some o) : b < w.heap.size := (Array.getElem?_eq_some_iff.1 h).1

theorem HomeOK.lt {E : Env} {G : Gh} {w : World} {c : Option MC} {h : Home} {b : Nat} (hh : HomeOK E G w c (some h)) (hb : h.blk = some b) : b < w.heap.size := by
  cases c with
  | none => cases hh
  | some c =>
    cases c with
    | obj cells fz =>
      cases h with
      | obj b' => simp only [Home.blk, Option.some.injEq] at hb; subst hb; obtain ⟨vs, ty, h1, _⟩ := hh; exact heap_some_lt h1
      | row => exact hh.elim
    | row z fr =>
      cases h with
      | obj b' => exact hh.elim
      | row z' bk fr' =>
        obtain ⟨_, _, hr⟩ := hh
        cases bk with
        | none => simp [Home.blk] at hb
        | some p => obtain ⟨b', cap⟩ := p; simp only [Home.blk, Option.map_some, Option.some.injEq] at hb; subst hb; obtain ⟨vs, ty, ⟨_, h1, _⟩, _⟩ := hr; exact heap_some_lt h1
    | mp ag es =>
      cases h with
      | obj b' => simp only [Home.blk, Option.some.injEq] at hb; subst hb; obtain ⟨vs, cl, h1, _⟩ := hh; exact heap_some_lt h1
      | row => exact hh.elim

theorem HomeOK.mine {E : Env} {G : Gh} {w : World} {c : Option MC} {h : Home} {b : Nat} (hh : HomeOK E G w c (some h)) (hb : h.blk = some b) : E.mine b := by
  cases c with
  | none => cases hh
  | some c =>
    cases c with
    | obj cells fz =>
      cases h with
      | obj b' => simp only [Home.blk, Option.some.injEq] at hb; subst hb; obtain ⟨vs, _, _, _, _, h1, _⟩ := hh; exact h1
      | row => exact hh.elim
    | row z fr =>
      cases h with
      | obj b' => exact hh.elim
      | row z' bk fr' =>
        obtain ⟨_, _, hr⟩ := hh
        cases bk with
        | none => simp [Home.blk] at hb
        | some p => obtain ⟨b', cap⟩ := p; simp only [Home.blk, Option.map_some, Option.some.injEq] at hb; subst hb; obtain ⟨vs, ty, _, _, _, _, h1, _⟩ := hr; exact h1
    | mp ag es =>
      cases h with
      | obj b' => simp only [Home.blk, Option.some.injEq] at hb; subst hb; obtain ⟨vs, cl, _, _, _, h1⟩ := hh; exact h1
      | row => exact hh.elim

theorem cell_same {w w' : World} {b : Nat} (h : w'.heap[b]? = w.heap[b]?) (o : Nat) : w'.cell? ⟨b, o, none⟩ = w.cell? ⟨b, o, none⟩ := by
  simp only [World.cell?, h]

/-- A home that nothing touches. -/
theorem HomeOK.keep {E : Env} {G G' : Gh} {w w' : World} {c : Option MC} {h : Option Home} (hh : HomeOK E G w c h) (hle : G.le G')
    (hk : ∀ x b, h = some x → x.blk = some b → w'.heap[b]? = w.heap[b]? ∧ ∀ o, G'.K b o = G.K b o) : HomeOK E G' w' c h := by
  cases h with
  | none => cases c with | none => trivial | some c => cases c <;> exact hh.elim
  | some h =>
    cases c with
    | none => exact hh.elim
    | some c =>
      cases c with
      | obj cells fz =>
        cases h with
        | row => exact hh.elim
        | obj b =>
          obtain ⟨h1, h2⟩ := hk _ b rfl rfl
          obtain ⟨vs, ty, a1, a2, a3, a4, a5, a6⟩ := hh
          exact ⟨vs, ty, h1.trans a1, a2, fun i x v e1 e2 => (a3 i x v e1 e2).mono hle, a4, fun e i v hv => (h2 i).trans (a5 e i v hv), fun e o => (h2 o).trans (a6 e o)⟩
      | row z fr =>
        cases h with
        | obj => exact hh.elim
        | row z' bk fr' =>
          obtain ⟨e1, e2, hr⟩ := hh
          refine ⟨e1, e2, ?_⟩
          cases bk with
          | none => exact hr
          | some p =>
            obtain ⟨b, cap⟩ := p
            obtain ⟨h1, h2⟩ := hk _ b rfl rfl
            obtain ⟨vs, ty, a1, a2, a3, a4, a6, a7⟩ := hr
            obtain ⟨q, a1, aq⟩ := a1
            exact ⟨vs, ty, ⟨q, h1.trans a1, aq⟩, a2, a3, a4, a6, fun o ho => (h2 o).trans (a7 o ho)⟩
      | mp ag es =>
        cases h with
        | row => exact hh.elim
        | obj b =>
          obtain ⟨h1, _⟩ := hk _ b rfl rfl
          obtain ⟨ms, cl, a1, a2, a3, a4⟩ := hh
          exact ⟨ms, cl, h1.trans a1, a2, fun i x e q1 q2 => let ⟨b1, b2, b3⟩ := a3 i x e q1 q2; ⟨b1, b2.mono hle, b3⟩, a4⟩

def mset (m : Nat → Option MC) (n : Nat) (c : MC) : Nat → Option MC := fun i => if n = i then some c else m i

/-- One name's home is new, or turns. -/
theorem MRel.update {E : Env} {G G' : Gh} {m : Nat → Option MC} {w w' : World} (R : MRel E G m w) (hle : G.le G') (n : Nat) (c : MC) (h : Home)
    (hag : ∀ b o v, G'.K b o = some v → w'.cell? ⟨b, o, none⟩ = some v)
    (hG : ∀ i, i ≠ n → G'.h i = G.h i) (hn : G'.h n = some h) (hok : HomeOK E G' w' (some c) (some h))
    (hoth : ∀ i x b, i ≠ n → G.h i = some x → x.blk = some b → w'.heap[b]? = w.heap[b]? ∧ (∀ o, G'.K b o = G.K b o) ∧ h.blk ≠ some b)
    (hos : w'.os = w.os) (htape : w'.tape = w.tape) (hout : w'.output = w.output) (hsz : w.heap.size ≤ w'.heap.size)
    (hblk : ∀ k, k < E.B → ¬ E.Ext k → w'.heap[k]? = w.heap[k]?) (hkf : ∀ b o, b < E.B → ¬ E.Ext b → G'.K b o = G.K b o) : MRel E G' (mset m n c) w' where
  agree := hag
  home i := by
    unfold mset
    by_cases e : n = i
    · subst e; rw [if_pos rfl, hn]; exact hok
    · rw [if_neg e, hG i (Ne.symm e)]
      exact (R.home i).keep hle fun x b e1 e2 => let ⟨h1, h2, _⟩ := hoth i x b (Ne.symm e) e1 e2; ⟨h1, h2⟩
  inj i j x y b e1 e2 e3 e4 := by
    by_cases hi : i = n
    · by_cases hj : j = n
      · rw [hi, hj]
      · subst hi
        rw [hG j hj] at e2
        rw [hn] at e1
        cases e1
        exact absurd e3 (hoth j y b hj e2 e4).2.2
    · by_cases hj : j = n
      · subst hj
        rw [hG i hi] at e1
        rw [hn] at e2
        cases e2
        exact absurd e4 (hoth i x b hi e1 e3).2.2
      · rw [hG i hi] at e1
        rw [hG j hj] at e2
        exact R.inj i j x y b e1 e2 e3 e4
  os := hos.trans R.os
  tape := htape.trans R.tape
  output := hout.trans R.output
  size0 := Nat.le_trans R.size0 hsz
  sizeB := Nat.le_trans R.sizeB hsz
  blk k hk hx := (hblk k hk hx).trans (R.blk k hk hx)
  k0 := Know.le_trans R.k0 hle.K
  kfr b o hb hx := (hkf b o hb hx).trans (R.kfr b o hb hx)

/-- The count of draws alone. -/
theorem MRel.drawn {E : Env} {G : Gh} {m : Nat → Option MC} {w : World} (R : MRel E G m w) (d : Nat) : MRel E G m { w with drawn := d } :=
  ⟨R.agree, fun n => (R.home n).keep (Gh.le_refl G) fun _ _ _ _ => ⟨rfl, fun _ => rfl⟩, R.inj, R.os, R.tape, R.output, R.size0, R.sizeB, R.blk, R.k0, R.kfr⟩

theorem MRel.congr {E : Env} {G : Gh} {m m' : Nat → Option MC} {w : World} (R : MRel E G m w) (h : ∀ n, m' n = m n) : MRel E G m' w := by
  have : m' = m := funext h
  rw [this]; exact R

def Gh.put (G : Gh) (n : Nat) (x : Home) : Gh := ⟨G.K, fun i => if i = n then some x else G.h i⟩
theorem Gh.le_put {G : Gh} {n : Nat} {x : Home} (h : G.h n = none) : G.le (G.put n x) :=
  ⟨Know.le_refl _, fun i y e => ⟨y, by simp only [Gh.put]; rw [if_neg (fun e' => by subst e'; rw [h] at e; cases e)]; exact e, Home.le_refl y⟩⟩

theorem HomeOK.none_of {E : Env} {G : Gh} {w : World} {h : Option Home} (hh : HomeOK E G w none h) : h = none := by
  cases h with
  | none => rfl
  | some h => exact hh.elim

/-- A new block of cells: an object. -/
theorem MRel.newObj {E : Env} {G : Gh} {m : Nat → Option MC} {w : World} (R : MRel E G m w) {n : Nat} (hn : m n = none) {cells : List AV} {vs : Array Value} {ty : TypeId}
    (hl : cells.length ≤ vs.size) (hc : ∀ (i : Nat) (x : AV) (v : Value), cells[i]? = some x → vs[i]? = some v → AR G x v) :
    let G' := G.put n (.obj w.heap.size)
    G.le G' ∧ G'.h n = some (.obj w.heap.size) ∧ MRel E G' (mset m n (.obj cells false)) { w with heap := w.heap.push (.cells vs ty (0, 0)) } := by
  have hnone : G.h n = none := by have := R.home n; rw [hn] at this; exact this.none_of
  have hle : G.le (G.put n (.obj w.heap.size)) := Gh.le_put hnone
  have hold : ∀ b, b < w.heap.size → ({ w with heap := w.heap.push (.cells vs ty (0, 0)) } : World).heap[b]? = w.heap[b]? := fun b hb => by
    show (w.heap.push _)[b]? = _
    rw [Array.getElem?_push, if_neg (by omega)]
  have hb : ({ w with heap := w.heap.push (.cells vs ty (0, 0)) } : World).heap[w.heap.size]? = some (.cells vs ty (0, 0)) := by simp
  refine ⟨hle, by simp [Gh.put], R.update hle n _ (.obj w.heap.size) ?_ ?_ ?_ ?_ ?_ rfl rfl rfl (by simp) ?_ (fun _ _ _ _ => rfl)⟩
  · intro b o v h
    rw [cell_same (hold b (R.k_lt h))]; exact R.agree b o v h
  · intro i hi; simp [Gh.put, hi]
  · simp [Gh.put]
  · refine ⟨vs, ty, hb, hl, fun i x v e1 e2 => (hc i x v e1 e2).mono hle, .inl R.sizeB, (fun e => by cases e), fun _ o => R.k_new (Nat.le_refl _) o⟩
  · intro i x b _ e1 e2
    have hlt := (e1 ▸ R.home i).lt e2
    refine ⟨hold b hlt, fun _ => rfl, ?_⟩
    simp [Home.blk]; omega
  · intro k hk _
    have := R.sizeB
    exact hold k (by omega)


/-- No name turns: new blocks, draws, and what is known of new blocks. -/
theorem MRel.same {E : Env} {G G' : Gh} {m : Nat → Option MC} {w w' : World} (R : MRel E G m w) (hK : G.K.le G'.K) (hh : G'.h = G.h)
    (hag : ∀ b o v, G'.K b o = some v → w'.cell? ⟨b, o, none⟩ = some v)
    (hold : ∀ b, b < w.heap.size → w'.heap[b]? = w.heap[b]?) (hko : ∀ b o, b < w.heap.size → G'.K b o = G.K b o)
    (hos : w'.os = w.os) (htape : w'.tape = w.tape) (hout : w'.output = w.output) (hsz : w.heap.size ≤ w'.heap.size) : MRel E G' m w' := by
  have hle : G.le G' := ⟨hK, fun n h e => ⟨h, by rw [hh]; exact e, Home.le_refl h⟩⟩
  refine ⟨hag, fun n => ?_, fun i j x y b e1 e2 => by rw [hh] at e1 e2; exact R.inj i j x y b e1 e2, hos.trans R.os, htape.trans R.tape, hout.trans R.output,
    Nat.le_trans R.size0 hsz, Nat.le_trans R.sizeB hsz, fun k hk hx => (hold k ?_).trans (R.blk k hk hx), Know.le_trans R.k0 hK, fun b o hb hx => (hko b o ?_).trans (R.kfr b o hb hx)⟩
  · rw [hh]
    exact (R.home n).keep hle fun x b e1 e2 => by
      have hlt := (e1 ▸ R.home n).lt e2
      exact ⟨hold b hlt, fun o => hko b o hlt⟩
  · have := R.sizeB; omega
  · have := R.sizeB; omega

def World.setBlock (w : World) (b : Nat) (o : Obj) : World := { w with heap := w.heap.setIfInBounds b o }
theorem setBlock_same {w : World} {b : Nat} (h : b < w.heap.size) (o : Obj) : (World.setBlock w b o).heap[b]? = some o := by
  simp [World.setBlock, h]
theorem setBlock_other {w : World} {b k : Nat} (h : k ≠ b) (o : Obj) : (World.setBlock w b o).heap[k]? = w.heap[k]? := by
  simp only [World.setBlock]
  rw [Array.getElem?_setIfInBounds_ne (Ne.symm h)]
theorem setBlock_size (w : World) (b : Nat) (o : Obj) : (World.setBlock w b o).heap.size = w.heap.size := by simp [World.setBlock]

/-- An object's cells turn. -/
theorem MRel.setObj {E : Env} {G : Gh} {m : Nat → Option MC} {w : World} (R : MRel E G m w) {n b : Nat} {cells cells' : List AV} {vs' : Array Value}
    (hn : m n = some (.obj cells false)) (hb : G.h n = some (.obj b)) (hl : cells'.length ≤ vs'.size)
    (hc : ∀ (i : Nat) (x : AV) (v : Value), cells'[i]? = some x → vs'[i]? = some v → AR G x v) :
    MRel E G (mset m n (.obj cells' false)) (w.setRow b vs') := by
  have h0 := R.home n
  rw [hn, hb] at h0
  obtain ⟨vs, ty, a1, a2, a3, a4, a5, a6⟩ := h0
  refine R.update (Gh.le_refl G) n _ (.obj b) ?_ (fun _ _ => rfl) hb ⟨vs', ty, setRow_heap w b vs vs' ty _ a1, hl, hc, a4, (fun e => by cases e), a6⟩ ?_ rfl rfl rfl (by simp [World.setRow]) ?_ (fun _ _ _ _ => rfl)
  · intro b' o v h
    by_cases e : b' = b
    · subst e; rw [a6 rfl o] at h; cases h
    · rw [cell_same (setRow_other w b _ vs' e)]; exact R.agree b' o v h
  · intro i x b' hi e1 e2
    have hne : b' ≠ b := fun e => hi (R.inj i n x _ b' e1 hb e2 (by rw [e]; rfl))
    exact ⟨setRow_other w b _ vs' hne, fun _ => rfl, fun e => hne (by simpa [Home.blk] using e.symm)⟩
  · intro k hk hx
    have hne : k ≠ b := fun e => by
      subst e
      rcases a4 with h | h
      · omega
      · exact hx h
    exact setRow_other w b _ vs' hne

def Know.ext (K : Know) (b : Nat) (f : Nat → Option Value) : Know := fun b' o => if b' = b then f o else K b' o

/-- An object's cells are never written again. -/
theorem MRel.freeze {E : Env} {G : Gh} {m : Nat → Option MC} {w : World} (R : MRel E G m w) {n b : Nat} {cells : List AV} {fz : Bool}
    (hn : m n = some (.obj cells fz)) (hb : G.h n = some (.obj b)) :
    ∃ G' : Gh, G.le G' ∧ G'.h = G.h ∧ (∀ i x, cells[i]? = some x → ∃ v, G'.K b i = some v ∧ AR G' x v) ∧ MRel E G' (mset m n (.obj cells true)) w := by
  have h0 := R.home n
  rw [hn, hb] at h0
  obtain ⟨vs, ty, a1, a2, a3, a4, a5, a6⟩ := h0
  have hcell : ∀ o, w.cell? ⟨b, o, none⟩ = vs[o]? := fun o => by simp [World.cell?, a1]
  have hK : G.K.le (Know.ext G.K b fun o => vs[o]?) := fun b' o v h => by
    unfold Know.ext
    split
    · rename_i e; subst e; show vs[o]? = some v; rw [← hcell]; exact R.agree b' o v h
    · exact h
  have hle : G.le ⟨Know.ext G.K b fun o => vs[o]?, G.h⟩ := ⟨hK, fun n h e => ⟨h, e, Home.le_refl h⟩⟩
  have hself : ∀ o, Know.ext G.K b (fun o => vs[o]?) b o = vs[o]? := fun o => by simp [Know.ext]
  refine ⟨⟨Know.ext G.K b fun o => vs[o]?, G.h⟩, hle, rfl, ?_, R.update hle n _ (.obj b) ?_ (fun _ _ => rfl) hb ⟨vs, ty, a1, a2, fun i x v e1 e2 => (a3 i x v e1 e2).mono hle, a4, fun _ i v hv => (hself i).trans hv, (fun e => by cases e)⟩ ?_ rfl rfl rfl (Nat.le_refl _) (fun _ _ _ => rfl) ?_⟩
  · intro i x hx
    have hi : i < vs.size := by
      have := (List.getElem?_eq_some_iff.1 hx).1
      omega
    exact ⟨vs[i], (hself i).trans (by simp [hi]), (a3 i x _ hx (by simp [hi])).mono hle⟩
  · intro b' o v h
    simp only [Know.ext] at h
    split at h
    · rename_i e; subst e; rw [hcell]; exact h
    · exact R.agree b' o v h
  · intro i x b' hi e1 e2
    have hne : b' ≠ b := fun e => hi (R.inj i n x _ b' e1 hb e2 (by rw [e]; rfl))
    refine ⟨rfl, fun o => by simp [Know.ext, hne], fun e => hne (by simpa [Home.blk] using e.symm)⟩
  · intro b' o hb' hx
    have hne : b' ≠ b := fun e => by
      subst e
      rcases a4 with h | h
      · omega
      · exact hx h
    simp [Know.ext, hne]

/-- A new block all of whose cells are known from the first: its place, no name. -/
theorem MRel.newKnown {E : Env} {G : Gh} {m : Nat → Option MC} {w w' : World} (R : MRel E G m w) (f : Nat → Option Value)
    (hf : ∀ o v, f o = some v → w'.cell? ⟨w.heap.size, o, none⟩ = some v)
    (hold : ∀ b, b < w.heap.size → w'.heap[b]? = w.heap[b]?) (hos : w'.os = w.os) (htape : w'.tape = w.tape) (hout : w'.output = w.output) (hsz : w.heap.size ≤ w'.heap.size) :
    let G' : Gh := ⟨Know.ext G.K w.heap.size f, G.h⟩
    G.le G' ∧ MRel E G' m w' := by
  have hK : G.K.le (Know.ext G.K w.heap.size f) := fun b o v h => by
    have := R.k_lt h
    unfold Know.ext
    rw [if_neg (by omega)]; exact h
  refine ⟨⟨hK, fun n h e => ⟨h, e, Home.le_refl h⟩⟩, R.same hK rfl ?_ hold ?_ hos htape hout hsz⟩
  · intro b o v h
    simp only [Know.ext] at h
    split at h
    · rename_i e; subst e; exact hf o v h
    · rw [cell_same (hold b (R.k_lt h))]; exact R.agree b o v h
  · intro b o hb
    simp only [Know.ext]
    rw [if_neg (by omega)]

/-- A new row that is owned: a new block (of which the first cells are known), or nothing. -/
theorem MRel.newRow {E : Env} {G : Gh} {m : Nat → Option MC} {w w' : World} (R : MRel E G m w) {n : Nat} (hn : m n = none) {z cap : Nat} {rows : List (List PC)} {vs : Array Value} {ty : TypeId}
    (hz : 0 < z) (hr : ∀ r ∈ rows, r.length = z) (hcap : rows.length ≤ cap) (hsize : vs.size = cap * z)
    (hw : w'.heap[w.heap.size]? = some (.cells vs ty (0, 0)))
    (hv : ∀ (j : Nat) (r : List PC) (i : Nat) (c : PC), rows[j]? = some r → r[i]? = some c → ∃ v, vs[j * z + i]? = some v ∧ VR G.K c v)
    (hold : ∀ b, b < w.heap.size → w'.heap[b]? = w.heap[b]?) (hos : w'.os = w.os) (htape : w'.tape = w.tape) (hout : w'.output = w.output) (hsz : w.heap.size ≤ w'.heap.size) :
    ∃ G' : Gh, G.le G' ∧ AR G' (.own n z rows) (.slice (some ⟨w.heap.size, 0, none⟩) rows.length cap) ∧ MRel E G' (mset m n (.row z rows.length)) w' := by
  have hnone : G.h n = none := by have := R.home n; rw [hn] at this; exact this.none_of
  let f : Nat → Option Value := fun o => if o < rows.length * z then vs[o]? else none
  have hK : G.K.le (Know.ext G.K w.heap.size f) := fun b o v h => by
    have := R.k_lt h
    unfold Know.ext
    rw [if_neg (by omega)]; exact h
  let G' : Gh := ⟨Know.ext G.K w.heap.size f, fun i => if i = n then some (.row z (some (w.heap.size, cap)) rows.length) else G.h i⟩
  have hle : G.le G' := ⟨hK, fun i h e => ⟨h, by show (if i = n then _ else _) = _; rw [if_neg (fun e' => by subst e'; rw [hnone] at e; cases e)]; exact e, Home.le_refl h⟩⟩
  have hn' : G'.h n = some (.row z (some (w.heap.size, cap)) rows.length) := if_pos rfl
  have hself : ∀ o, G'.K w.heap.size o = f o := fun o => by show (if _ then _ else _) = _; rw [if_pos rfl]
  have hslice : Slice G'.K z w.heap.size 0 rows := by
    refine ⟨hr, fun j r hj i c hi => ?_⟩
    obtain ⟨v, h1, h2⟩ := hv j r i c hj hi
    have hjl : j < rows.length := (List.getElem?_eq_some_iff.1 hj).1
    have hil : i < z := by
      have := (List.getElem?_eq_some_iff.1 hi).1
      rw [hr r (List.mem_of_getElem? hj)] at this; exact this
    have hlt : j * z + i < rows.length * z := by
      have h3 : j * z + z ≤ rows.length * z := by rw [← Nat.succ_mul]; exact Nat.mul_le_mul_right z hjl
      omega
    refine ⟨v, ?_, h2.mono hle.K⟩
    rw [hself]
    show (if 0 + j * z + i < rows.length * z then vs[0 + j * z + i]? else none) = some v
    rw [Nat.zero_add, if_pos hlt]; exact h1
  refine ⟨G', hle, .own n z rows _ _ _ hn' (Nat.le_refl _) hr (VR.of_slice hslice hcap) (fun _ => rfl), ?_⟩
  refine R.update hle n _ _ ?_ ?_ hn' ⟨rfl, rfl, vs, ty, ⟨_, hw, .inl rfl⟩, hsize, hcap, hz, .inl R.sizeB, ?_⟩ ?_ hos htape hout hsz ?_ ?_
  · intro b o v h
    by_cases e : b = w.heap.size
    · subst e
      rw [hself] at h
      simp only [World.cell?, hw]
      show (if _ then _ else _) = _
      simp only [f] at h
      split at h
      · simpa using h
      · cases h
    · have h' : G.K b o = some v := by
        have h2 : (if b = w.heap.size then f o else G.K b o) = some v := h
        rw [if_neg e] at h2; exact h2
      rw [cell_same (hold b (R.k_lt h'))]; exact R.agree b o v h'
  · intro i hi; show (if i = n then _ else _) = _; rw [if_neg hi]
  · intro o ho
    rw [hself]
    show (if _ then _ else _) = _
    rw [if_neg (by omega)]
  · intro i x b hi e1 e2
    have hlt := (e1 ▸ R.home i).lt e2
    refine ⟨hold b hlt, fun o => ?_, ?_⟩
    · show (if _ then _ else _) = _
      rw [if_neg (by omega)]
    · simp [Home.blk]; omega
  · intro k hk _
    have := R.sizeB
    exact hold k (by omega)
  · intro b o hb _
    have := R.sizeB
    show (if _ then _ else _) = _
    rw [if_neg (by omega)]


/-- A row that is owned grows: where it lies, or in a new block. -/
theorem MRel.turnRow {E : Env} {G : Gh} {m : Nat → Option MC} {w w' : World} (R : MRel E G m w) {n z : Nat} {bk : Option (Nat × Nat)} {b' cap' : Nat} {rows ys : List (List PC)} {vs' : Array Value} {ty : TypeId}
    (hn : m n = some (.row z rows.length)) (hb : G.h n = some (.row z bk rows.length))
    (hplace : bk = some (b', cap') ∨ (b' = w.heap.size ∧ 0 < ys.length)) (hz : 0 < z) (hr : ∀ r ∈ rows ++ ys, r.length = z)
    (hcap : (rows ++ ys).length ≤ cap') (hsize : vs'.size = cap' * z)
    (hw : ∃ p, w'.heap[b']? = some (.cells vs' ty p) ∧ FrOK vs'.size p)
    (hv : ∀ (j : Nat) (r : List PC) (i : Nat) (c : PC), (rows ++ ys)[j]? = some r → r[i]? = some c → ∃ v, vs'[j * z + i]? = some v ∧ VR G.K c v)
    (hkeep : ∀ o v, G.K b' o = some v → vs'[o]? = some v)
    (hold : ∀ b, b ≠ b' → b < w.heap.size → w'.heap[b]? = w.heap[b]?) (hos : w'.os = w.os) (htape : w'.tape = w.tape) (hout : w'.output = w.output) (hsz : w.heap.size ≤ w'.heap.size) :
    ∃ G' : Gh, G.le G' ∧ AR G' (.own n z (rows ++ ys)) (.slice (some ⟨b', 0, none⟩) (rows ++ ys).length cap') ∧ MRel E G' (mset m n (.row z (rows ++ ys).length)) w' := by
  obtain ⟨pq, hwq, hwf⟩ := hw
  have h0 := R.home n
  rw [hn, hb] at h0
  obtain ⟨_, _, h0⟩ := h0
  have hbeyond : ∀ o, rows.length * z ≤ o → G.K b' o = none := by
    rcases hplace with rfl | ⟨rfl, _⟩
    · obtain ⟨_, _, _, _, _, _, _, h⟩ := h0; exact h
    · exact fun o _ => R.k_new (Nat.le_refl _) o
  have hmine : E.mine b' := by
    rcases hplace with rfl | ⟨rfl, _⟩
    · obtain ⟨_, _, _, _, _, _, h, _⟩ := h0; exact h
    · exact .inl R.sizeB
  have hother : ∀ i x b, i ≠ n → G.h i = some x → x.blk = some b → b ≠ b' := by
    intro i x b hi e1 e2 e
    rcases hplace with rfl | ⟨rfl, _⟩
    · exact hi (R.inj i n x _ b e1 hb e2 (by rw [e]; rfl))
    · have hlt := (e1 ▸ R.home i).lt e2
      omega
  have hlen : (rows ++ ys).length = rows.length + ys.length := List.length_append
  have hL : rows.length * z ≤ (rows ++ ys).length * z := Nat.mul_le_mul_right z (by omega)
  let f : Nat → Option Value := fun o => if o < (rows ++ ys).length * z then vs'[o]? else none
  have hK : G.K.le (Know.ext G.K b' f) := fun b o v h => by
    unfold Know.ext
    split
    · rename_i e; subst e
      have : o < rows.length * z := by
        rcases Nat.lt_or_ge o (rows.length * z) with h1 | h1
        · exact h1
        · rw [hbeyond o h1] at h; cases h
      show (if o < (rows ++ ys).length * z then vs'[o]? else none) = some v
      rw [if_pos (by omega)]; exact hkeep o v h
    · exact h
  let G' : Gh := ⟨Know.ext G.K b' f, fun i => if i = n then some (.row z (some (b', cap')) (rows ++ ys).length) else G.h i⟩
  have hle : G.le G' := by
    refine ⟨hK, fun i h e => ?_⟩
    by_cases hi : i = n
    · subst hi
      rw [hb] at e
      cases e
      refine ⟨_, if_pos rfl, .row z _ _ _ _ (by omega) (fun e => ?_)⟩
      rcases hplace with h | ⟨_, h⟩
      · exact h
      · omega
    · exact ⟨h, (if_neg hi).trans e, Home.le_refl h⟩
  have hn' : G'.h n = some (.row z (some (b', cap')) (rows ++ ys).length) := if_pos rfl
  have hself : ∀ o, G'.K b' o = f o := fun o => by show (if _ then _ else _) = _; rw [if_pos rfl]
  have hoth : ∀ b o, b ≠ b' → G'.K b o = G.K b o := fun b o e => by show (if _ then _ else _) = _; rw [if_neg e]
  have hslice : Slice G'.K z b' 0 (rows ++ ys) := by
    refine ⟨hr, fun j r hj i c hi => ?_⟩
    obtain ⟨v, h1, h2⟩ := hv j r i c hj hi
    have hjl : j < (rows ++ ys).length := (List.getElem?_eq_some_iff.1 hj).1
    have hil : i < z := by
      have := (List.getElem?_eq_some_iff.1 hi).1
      rw [hr r (List.mem_of_getElem? hj)] at this; exact this
    have hlt : j * z + i < (rows ++ ys).length * z := by
      have h3 : j * z + z ≤ (rows ++ ys).length * z := by rw [← Nat.succ_mul]; exact Nat.mul_le_mul_right z hjl
      omega
    refine ⟨v, ?_, h2.mono hle.K⟩
    rw [hself]
    show (if 0 + j * z + i < (rows ++ ys).length * z then vs'[0 + j * z + i]? else none) = some v
    rw [Nat.zero_add, if_pos hlt]; exact h1
  refine ⟨G', hle, .own n z _ _ _ _ hn' (Nat.le_refl _) hr (VR.of_slice hslice hcap) (fun _ => rfl), ?_⟩
  refine R.update hle n _ _ ?_ ?_ hn' ⟨rfl, rfl, vs', ty, ⟨pq, hwq, hwf⟩, hsize, hcap, hz, hmine, ?_⟩ ?_ hos htape hout hsz ?_ ?_
  · intro b o v h
    by_cases e : b = b'
    · subst e
      rw [hself] at h
      simp only [World.cell?, hwq]
      simp only [f] at h
      split at h
      · simpa using h
      · cases h
    · rw [hoth b o e] at h
      rw [cell_same (hold b e (R.k_lt h))]; exact R.agree b o v h
  · intro i hi; show (if i = n then _ else _) = _; rw [if_neg hi]
  · intro o ho
    rw [hself]
    show (if _ then _ else _) = _
    rw [if_neg (by omega)]
  · intro i x b hi e1 e2
    have hne := hother i x b hi e1 e2
    have hlt := (e1 ▸ R.home i).lt e2
    exact ⟨hold b hne hlt, fun o => hoth b o hne, fun e => hne (by simpa [Home.blk] using e.symm)⟩
  · intro k hk hx
    have := R.sizeB
    refine hold k (fun e => ?_) (by omega)
    subst e
    rcases hmine with h | h
    · omega
    · exact hx h
  · intro b o hb' hx
    refine hoth b o (fun e => ?_)
    subst e
    rcases hmine with h | h
    · omega
    · exact hx h

/-- A row of nothing, owned. -/
theorem MRel.nilRow {E : Env} {G : Gh} {m : Nat → Option MC} {w : World} (R : MRel E G m w) {n : Nat} (hn : m n = none) (z : Nat) :
    ∃ G' : Gh, G.le G' ∧ AR G' (.own n z []) (.slice none 0 0) ∧ MRel E G' (mset m n (.row z 0)) w := by
  have hnone : G.h n = none := by have := R.home n; rw [hn] at this; exact this.none_of
  have hle : G.le (G.put n (.row z none 0)) := Gh.le_put hnone
  have hn' : (G.put n (.row z none 0)).h n = some (.row z none 0) := by simp [Gh.put]
  refine ⟨_, hle, .own n z [] _ none 0 hn' (Nat.le_refl _) (by simp) .nil (fun _ => rfl), ?_⟩
  refine R.update hle n _ (.row z none 0) R.agree (fun i hi => by simp [Gh.put, hi]) hn' ⟨rfl, rfl, rfl⟩ (fun i x b _ _ _ => ⟨rfl, fun _ => rfl, by simp [Home.blk]⟩) rfl rfl rfl (Nat.le_refl _) (fun _ _ _ => rfl) (fun _ _ _ _ => rfl)

/-- A map that is new. -/
theorem MRel.newMap {E : Env} {G : Gh} {m : Nat → Option MC} {w : World} (R : MRel E G m w) {n : Nat} (hn : m n = none) (ag : Bool) :
    let G' := G.put n (.obj w.heap.size)
    G.le G' ∧ AR G' (.mp n) (.map (some w.heap.size)) ∧ MRel E G' (mset m n (.mp ag [])) { w with heap := w.heap.push (.map #[] 0) } := by
  have hnone : G.h n = none := by have := R.home n; rw [hn] at this; exact this.none_of
  have hle : G.le (G.put n (.obj w.heap.size)) := Gh.le_put hnone
  have hold : ∀ b, b < w.heap.size → ({ w with heap := w.heap.push (.map #[] 0) } : World).heap[b]? = w.heap[b]? := fun b hb => by
    show (w.heap.push _)[b]? = _
    rw [Array.getElem?_push, if_neg (by omega)]
  refine ⟨hle, .mp n _ (by simp [Gh.put]), R.update hle n _ (.obj w.heap.size) ?_ ?_ ?_ ?_ ?_ rfl rfl rfl (by simp) ?_ (fun _ _ _ _ => rfl)⟩
  · intro b o v h
    rw [cell_same (hold b (R.k_lt h))]; exact R.agree b o v h
  · intro i hi; simp [Gh.put, hi]
  · simp [Gh.put]
  · exact ⟨#[], 0, by simp, rfl, fun i x e h => by simp at h, .inl R.sizeB⟩
  · intro i x b _ e1 e2
    have hlt := (e1 ▸ R.home i).lt e2
    refine ⟨hold b hlt, fun _ => rfl, ?_⟩
    simp [Home.blk]; omega
  · intro k hk _
    have := R.sizeB
    exact hold k (by omega)

/-- A map's entries turn. -/
theorem MRel.setMap {E : Env} {G : Gh} {m : Nat → Option MC} {w : World} (R : MRel E G m w) {n b : Nat} {ag : Bool} {es es' : List (List UInt8 × List PC)} {ms' : Array MapEntry} {cl' : Nat}
    (hn : m n = some (.mp ag es)) (hb : G.h n = some (.obj b)) (hl : es'.length = ms'.size)
    (hc : ∀ (i : Nat) (x : List UInt8 × List PC) (e : MapEntry), es'[i]? = some x → ms'[i]? = some e → EntryOK G ag x e) :
    MRel E G (mset m n (.mp ag es')) (World.setBlock w b (.map ms' cl')) := by
  have h0 := R.home n
  rw [hn, hb] at h0
  obtain ⟨ms, cl, a1, a2, a3, a4⟩ := h0
  have hlt := heap_some_lt a1
  refine R.update (Gh.le_refl G) n _ (.obj b) ?_ (fun _ _ => rfl) hb ⟨ms', cl', setBlock_same hlt _, hl, hc, a4⟩ ?_ rfl rfl rfl (by simp [setBlock_size]) ?_ (fun _ _ _ _ => rfl)
  · intro b' o v h
    by_cases e : b' = b
    · subst e
      have := R.agree _ _ _ h
      simp [World.cell?, a1] at this
    · rw [cell_same (setBlock_other e _)]; exact R.agree b' o v h
  · intro i x b' hi e1 e2
    have hne : b' ≠ b := fun e => hi (R.inj i n x _ b' e1 hb e2 (by rw [e]; rfl))
    exact ⟨setBlock_other hne _, fun _ => rfl, fun e => hne (by simpa [Home.blk] using e.symm)⟩
  · intro k hk hx
    have hne : k ≠ b := fun e => by
      subst e
      rcases a4 with h | h
      · omega
      · exact hx h
    exact setBlock_other hne _


structure Rel (E : Env) (G : Gh) (s : AS) (a : Act) (w : World) : Prop where
  size : a.tmps.size = E.N.n
  defs : a.defers = E.dfs
  tmps : ∀ i, AR G (s.get i) (a.tmps.getD i Go.undef)
  mem : MRel E G s.mem w
  ent : ∀ n ∈ E.ns, ∃ h h', E.H0 n = some h ∧ G.h n = some h' ∧ Home.le h h'

section
variable {P : Program} {E : Env} {G : Gh} {s : AS} {a : Act} {w : World} {o : Oper} {next : Act → World → Prop} {Q : Exit → Act → World → Prop}

theorem ba_eq (b : ByteArray) : (⟨b.data.toList.toArray⟩ : ByteArray) = b := by cases b; simp

theorem toAV_rel (G : Gh) (v : Value) : AR G (Value.toAV v) v := by
  unfold Value.toAV
  split
  · exact .c _ _ (.int _ _)
  · exact .c _ _ (.bool _)
  · rename_i b; have := VR.str (K := G.K) b.data.toList; rw [ba_eq] at this; exact .c _ _ this
  · exact .nilsl
  · exact .nilptr
  · exact .nilmp
  · exact .undef _

theorem Rel.eval (R : Rel E G s a w) (x : Operand) : AR G (s.eval x) (a.eval x) := by
  cases x with
  | tmp t => exact R.tmps t
  | const v => exact toAV_rel G v
  | global g => exact .undef _
  | func f => exact .clo f [] [] rfl (fun i cs b h => by simp at h)

theorem AR.int_inv {k : IntKind} {n : Int} {v : Value} (h : AR G (.c (.int k n)) v) : v = .int k n := by cases h with | c _ _ h => cases h; rfl
theorem AR.bool_inv {b : Bool} {v : Value} (h : AR G (.c (.bool b)) v) : v = .bool b := by cases h with | c _ _ h => cases h; rfl
theorem AR.str_inv {l : List UInt8} {v : Value} (h : AR G (.c (.str l)) v) : v = .string ⟨l.toArray⟩ := by cases h with | c _ _ h => cases h; rfl
theorem AR.int (k : IntKind) (n : Int) : AR G (.c (.int k n)) (.int k n) := .c _ _ (.int k n)
theorem AR.bool (b : Bool) : AR G (.c (.bool b)) (.bool b) := .c _ _ (.bool b)
theorem AR.str (l : List UInt8) : AR G (.c (.str l)) (.string ⟨l.toArray⟩) := .c _ _ (.str l)

theorem AR.toPC {x : AV} {v : Value} {c : PC} (h : AR G x v) (hc : x.toPC = some c) : VR G.K c v := by
  cases h <;> simp only [AV.toPC, Option.some.injEq, reduceCtorEq] at hc
  · subst hc; assumption
  · subst hc; exact .nil
  · subst hc; assumption

theorem AR.rows {x : AV} {v : Value} {rows : List (List PC)} (h : AR G x v) (hc : x.rows = some rows) : VR G.K (.sl rows) v := by
  cases h with
  | c x v hv => cases x <;> simp only [AV.rows, Option.some.injEq, reduceCtorEq] at hc; subst hc; exact hv
  | nilsl => simp only [AV.rows, Option.some.injEq] at hc; subst hc; exact .nil
  | own r z rows v bk fr hh hl hr hv ha => simp only [AV.rows, Option.some.injEq] at hc; subst hc; exact hv
  | _ => simp [AV.rows] at hc

theorem toPCs_spec : ∀ {l : List AV} {cs : List PC}, toPCs l = some cs → l.length = cs.length ∧ ∀ (i : Nat) (x : AV) (c : PC), l[i]? = some x → cs[i]? = some c → x.toPC = some c
  | [], cs, h => by simp only [toPCs, Option.some.injEq] at h; subst h; exact ⟨rfl, fun i x c h => by simp at h⟩
  | x :: l, cs, h => by
    simp only [toPCs] at h
    split at h
    · rename_i c cs' h1 h2
      simp only [Option.some.injEq] at h
      subst h
      obtain ⟨a1, a2⟩ := toPCs_spec h2
      refine ⟨by simp [a1], fun i y d e1 e2 => ?_⟩
      cases i with
      | zero => simp at e1 e2; subst e1; subst e2; exact h1
      | succ i => exact a2 i y d (by simpa using e1) (by simpa using e2)
    · cases h

theorem tyAgg_run {t : TypeId} {b : Bool} (h : tyAgg P t = some b) (w : World) : (isAgg t).run P w = .ok b w := by
  unfold tyAgg at h
  cases hu : P.underlying t with
  | none => rw [hu] at h; cases h
  | some d =>
    rw [hu] at h
    simp only [Option.map_some, Option.some.injEq] at h
    subst h
    cases d <;> simp [isAgg, run_underlying hu]

theorem tySize_run {t : TypeId} {z : Nat} (h : tySize P t = some z) (w : World) : (sizeOf t).run P w = .ok z w := by
  unfold tySize at h
  cases hi : P.info? t with
  | none => rw [hi] at h; cases h
  | some i =>
    rw [hi] at h
    simp only [Option.map_some, Option.some.injEq] at h
    subst h
    simp [sizeOf, typeInfo, hi]
theorem tySize_info {t : TypeId} {z : Nat} (h : tySize P t = some z) : ∃ i, P.info? t = some i ∧ i.size = z := by
  unfold tySize at h
  cases hi : P.info? t with
  | none => rw [hi] at h; cases h
  | some i => rw [hi] at h; exact ⟨i, rfl, by simpa using h⟩
theorem tyBytes_info {t : TypeId} {z : Nat} (h : tyBytes P t = some z) : ∃ i, P.info? t = some i ∧ i.bytes = z := by
  unfold tyBytes at h
  cases hi : P.info? t with
  | none => rw [hi] at h; cases h
  | some i => rw [hi] at h; exact ⟨i, rfl, by simpa using h⟩
theorem tyZero_info {t : TypeId} {z : List AV} (h : tyZero P t = some z) : ∃ i v, P.info? t = some i ∧ i.zero = some v ∧ z = v.cells.toList.map Value.toAV := by
  unfold tyZero at h
  cases hi : P.info? t with
  | none => rw [hi] at h; cases h
  | some i =>
    rw [hi] at h
    cases hz : i.zero with
    | none => simp [hz] at h
    | some v => exact ⟨i, v, rfl, hz, by simpa [hz] using h.symm⟩
theorem tyElem_run {t e : TypeId} (h : tyElem P t = some e) : P.underlying t = some (.slice e) := by
  unfold tyElem at h
  split at h
  · rename_i e' hu; cases h; exact hu
  · cases h
theorem tyArr_run {t e : TypeId} {n : Nat} (h : tyArr P t = some (n, e)) : P.underlying t = some (.array n e) := by
  unfold tyArr at h
  split at h
  · rename_i e' hu; cases h; exact hu
  · cases h
theorem tyInt_run {t : TypeId} {k : IntKind} (h : tyInt P t = some k) : P.underlying t = some (.int k) := by
  unfold tyInt at h
  split at h
  · rename_i e' hu; cases h; exact hu
  · cases h
theorem tyStr_run {t : TypeId} (h : tyStr P t = true) : P.underlying t = some .string := by
  unfold tyStr at h
  split at h
  · assumption
  · cases h
theorem tyMap_run {t k e : TypeId} (h : tyMap P t = some (k, e)) : P.underlying t = some (.map k e) := by
  unfold tyMap at h
  split at h
  · rename_i hu; cases h; exact hu
  · cases h
theorem tyField_run {t : TypeId} {i off z : Nat} {ft : TypeId} (h : tyField P t i = some (off, ft, z)) :
    ∃ fs f, P.underlying t = some (.struct fs) ∧ fs[i]? = some f ∧ f.offset = off ∧ f.type = ft ∧ tySize P ft = some z := by
  unfold tyField at h
  split at h
  · rename_i fs hu
    split at h
    · rename_i f hf
      split at h
      · rename_i z' hz; cases h; exact ⟨fs, f, hu, hf, rfl, rfl, hz⟩
      · cases h
    · cases h
  · cases h

theorem EP.bind_inv {α β : Type} {m : Nat → Option MC} {f : α → EP β} {b : β} : ∀ {p : EP α} {l : List Nat}, (p.bind f).run m = some (b, l) →
    ∃ x l1 l2, p.run m = some (x, l1) ∧ (f x).run m = some (b, l2) ∧ l = l1 ++ l2
  | .ret x, l, h => ⟨x, [], l, rfl, h, rfl⟩
  | .fail, l, h => by simp [EP.bind, EP.run] at h
  | .ask n k, l, h => by
    simp only [EP.bind, EP.run] at h
    split at h
    · rename_i b' l' hk
      simp only [Option.some.injEq, Prod.mk.injEq] at h
      obtain ⟨rfl, rfl⟩ := h
      obtain ⟨x, l1, l2, e1, e2, e3⟩ := EP.bind_inv hk
      exact ⟨x, n :: l1, l2, by simp only [EP.run, e1], e2, by simp [e3]⟩
    · cases h
theorem EP.ask_inv {α : Type} {m : Nat → Option MC} {n : Nat} {k : Option MC → EP α} {x : α} {l : List Nat} (h : (EP.ask n k).run m = some (x, l)) :
    ∃ l', (k (m n)).run m = some (x, l') ∧ l = n :: l' := by
  simp only [EP.run] at h
  split at h
  · rename_i b' l' hk; cases h; exact ⟨l', hk, rfl⟩
  · cases h
theorem EP.ret_inv {α : Type} {m : Nat → Option MC} {x y : α} {l : List Nat} (h : (EP.ret x).run m = some (y, l)) : x = y ∧ l = [] := by
  simp only [EP.run, Option.some.injEq, Prod.mk.injEq] at h; exact ⟨h.1, h.2.symm⟩
theorem EP.fail_inv {α : Type} {m : Nat → Option MC} {y : α} {l : List Nat} {p : Prop} (h : (EP.fail : EP α).run m = some (y, l)) : p := by simp [EP.run] at h
theorem okE_inv {m : Nat → Option MC} {x : Option AV} {e : Eff} {l : List Nat} (h : (okE x).run m = some (e, l)) : ∃ v, x = some v ∧ e = ⟨v, []⟩ := by
  unfold okE at h
  split at h
  · rename_i v; exact ⟨v, rfl, (EP.ret_inv h).1.symm⟩
  · exact EP.fail_inv h
theorem okM_inv {m : Nat → Option MC} {x : EP AV} {e : Eff} {l : List Nat} (h : (okM x).run m = some (e, l)) : ∃ v l', x.run m = some (v, l') ∧ e = ⟨v, []⟩ := by
  obtain ⟨v, l1, l2, h1, h2, _⟩ := EP.bind_inv h
  exact ⟨v, l1, h1, (EP.ret_inv h2).1.symm⟩

def Post (E : Env) (G : Gh) (s : AS) (o : Oper) (e : Eff) (a : Act) (next : Act → World → Prop) : Prop :=
  ∀ (G' : Gh) (v : Value) (w' : World), G.le G' → AR G' e.val v → MRel E G' (s.wr e.wr).mem w' → next (a.put o.dst v) w'

theorem wp_value {v : Value} {w' : World} (h : (execOp a.eval o).run P w = .ok (.value v) w') (k : next (a.put o.dst v) w') : o.wp P a w next Q := by
  unfold Oper.wp; rw [h]; exact k
theorem wp_unit {w' : World} (h : (execOp a.eval o).run P w = .ok .skip w') (k : next (a.put o.dst Go.undef) w') : o.wp P a w next Q := by
  unfold Oper.wp; rw [h]; exact k

theorem sound_val (R : Rel E G s a w) {v : Value} {x : AV} (hrun : (execOp a.eval o).run P w = .ok (.value v) w) (hx : AR G x v) (K : Post E G s o ⟨x, []⟩ a next) : o.wp P a w next Q :=
  wp_value hrun (K G v w (Gh.le_refl G) hx R.mem)

theorem sound_move (R : Rel E G s a w) {x : Operand} (ho : o.op = .move x ∨ o.op = .assign x) (K : Post E G s o ⟨s.eval x, []⟩ a next) : o.wp P a w next Q := by
  refine sound_val R (v := a.eval x) ?_ (R.eval x) K
  rcases ho with ho | ho <;> simp [execOp, ho]

theorem sound_pick (R : Rel E G s a w) {c x y : Operand} {b : Bool} (ho : o.op = .pick c x y) (hc : s.eval c = .c (.bool b)) (K : Post E G s o ⟨s.eval (if b then x else y), []⟩ a next) : o.wp P a w next Q := by
  have h := R.eval c
  rw [hc] at h
  have hb := h.bool_inv
  refine sound_val R (v := a.eval (if b then x else y)) ?_ (R.eval _) K
  cases b <;> simp [execOp, ho, hb, asBool]


theorem obj_of {n off : Nat} {v : Value} {cells : List AV} {fz : Bool} (M : MRel E G s.mem w) (h : AR G (.ptr n off) v) (hm : s.mem n = some (.obj cells fz)) :
    ∃ b, v = .pointer (some ⟨b, off, none⟩) ∧ G.h n = some (.obj b) ∧ ObjOK E G w cells fz b := by
  cases h with
  | ptr _ _ b hb =>
    have h0 := M.home n
    rw [hm, hb] at h0
    exact ⟨b, rfl, hb, h0⟩

theorem add_at (b off j : Nat) : (⟨b, off, none⟩ : Addr).add j = ⟨b, off + j, none⟩ := by unfold Addr.add; split <;> simp_all

theorem load_run {t : TypeId} {x y : AV} {v : Value} {l : List Nat} (M : MRel E G s.mem w) (hx : AR G x v) (h : (loadE P t x).run s.mem = some (y, l)) :
    ∃ u, (Instr.loadAt t v).run P w = .ok u w ∧ AR G y u := by
  unfold loadE at h
  split at h
  · rename_i n off
    obtain ⟨l', h, _⟩ := EP.ask_inv h
    split at h
    · rename_i cells fz hm
      obtain ⟨b, rfl, hb, vs, ty, a1, a2, a3, _⟩ := obj_of M hx hm
      have hcell : ∀ j, w.cell? ⟨b, j, none⟩ = vs[j]? := fun j => by simp [World.cell?, a1]
      split at h
      · rename_i hag
        split at h
        · rename_i z hz
          split at h
          · rename_i hle
            obtain ⟨rfl, _⟩ := EP.ret_inv h
            have hl : ((vs.toList.drop off).take z).length = z := by simp; omega
            have hc := run_loadCells_list (P := P) w ⟨b, off, none⟩ ((vs.toList.drop off).take z) (fun j u hj => by
              rw [add_at, hcell]
              rw [List.getElem?_take] at hj
              split at hj
              · rw [List.getElem?_drop] at hj; simpa using hj
              · cases hj)
            rw [hl] at hc
            refine ⟨.agg ((vs.toList.drop off).take z).toArray, ?_, .agg _ _ (by simp; omega) ?_⟩
            · simp [Instr.loadAt, Instr.sureAddr, loadVar, tyAgg_run hag, tySize_run hz, hc]
            · intro i x u e1 e2
              rw [List.getElem?_take] at e1
              split at e1
              · rename_i hi
                rw [List.getElem?_drop] at e1
                refine a3 (off + i) x u e1 ?_
                simp only [List.getElem?_toArray, List.getElem?_take, if_pos hi, List.getElem?_drop] at e2
                simpa using e2
              · cases e1
          · exact EP.fail_inv h
        · exact EP.fail_inv h
      · rename_i hag
        split at h
        · rename_i x hx'
          obtain ⟨rfl, _⟩ := EP.ret_inv h
          have hi : off < vs.size := by have := (List.getElem?_eq_some_iff.1 hx').1; omega
          refine ⟨vs[off], ?_, a3 off _ _ hx' (by simp [hi])⟩
          simp [Instr.loadAt, Instr.sureAddr, loadVar, tyAgg_run hag, run_load, hcell, hi]
        · exact EP.fail_inv h
      · exact EP.fail_inv h
    · exact EP.fail_inv h
  · rename_i cs
    cases hx with
    | rptr _ b off hk =>
    split at h
    · rename_i hag
      split at h
      · rename_i z hz
        split at h
        · rename_i hle
          obtain ⟨rfl, _⟩ := EP.ret_inv h
          let us : List Value := (List.range z).map fun i => (G.K b (off + i)).getD (.bool false)
          have hu : ∀ i, i < z → us[i]? = G.K b (off + i) ∧ ∃ u, G.K b (off + i) = some u := fun i hi => by
            have hc : cs[i]? = some cs[i] := by simp
            obtain ⟨u, h1, _⟩ := hk i _ hc
            exact ⟨by simp [us, hi, h1], u, h1⟩
          have hl : us.length = z := by simp [us]
          have hc := run_loadCells_list (P := P) w ⟨b, off, none⟩ us (fun j u hj => by
            have hj' : j < z := by have := (List.getElem?_eq_some_iff.1 hj).1; omega
            rw [add_at]
            exact M.agree _ _ _ ((hu j hj').1.symm.trans hj))
          rw [hl] at hc
          refine ⟨.agg us.toArray, ?_, .agg _ _ (by simp [us]; omega) ?_⟩
          · simp [Instr.loadAt, Instr.sureAddr, loadVar, tyAgg_run hag, tySize_run hz, hc]
          · intro i x u e1 e2
            simp only [List.getElem?_map, List.getElem?_take, Option.map_eq_some_iff] at e1
            obtain ⟨c, e1, rfl⟩ := e1
            split at e1
            · rename_i hi
              obtain ⟨u', h1, h2⟩ := hk i c e1
              have : us[i]? = some u := by simpa using e2
              rw [(hu i hi).1, h1] at this
              cases this
              exact .c _ _ h2
            · cases e1
        · exact EP.fail_inv h
      · exact EP.fail_inv h
    · rename_i hag
      split at h
      · rename_i x hx'
        obtain ⟨rfl, _⟩ := EP.ret_inv h
        obtain ⟨u, h1, h2⟩ := hk 0 _ hx'
        refine ⟨u, ?_, .c _ _ h2⟩
        have hcell : w.cell? ⟨b, off, none⟩ = some u := M.agree b off u h1
        simp [Instr.loadAt, Instr.sureAddr, loadVar, tyAgg_run hag, run_load, hcell]
      · exact EP.fail_inv h
    · exact EP.fail_inv h
  · exact EP.fail_inv h

theorem sound_load (R : Rel E G s a w) {t : TypeId} {x : Operand} (ho : o.op = .load t x) {e : Eff} {l : List Nat} (h : (okM (loadE P t (s.eval x))).run s.mem = some (e, l)) (K : Post E G s o e a next) : o.wp P a w next Q := by
  obtain ⟨y, l', h1, rfl⟩ := okM_inv h
  obtain ⟨u, h2, h3⟩ := load_run R.mem (R.eval x) h1
  exact sound_val R (v := u) (by simp [execOp, ho, h2]) h3 K


theorem flat_rel {x : AV} {v : Value} {xs : List AV} (h : AR G x v) (hf : x.flat = some xs) :
    xs.length = v.cells.size ∧ ∀ (i : Nat) (y : AV) (u : Value), xs[i]? = some y → v.cells[i]? = some u → AR G y u := by
  have one : ∀ {x : AV} {v : Value}, AR G x v → v.cells = #[v] → [x].length = v.cells.size ∧ ∀ (i : Nat) (y : AV) (u : Value), [x][i]? = some y → v.cells[i]? = some u → AR G y u := by
    intro x v h hv
    rw [hv]
    refine ⟨rfl, fun i y u e1 e2 => ?_⟩
    cases i with
    | zero => simp at e1 e2; subst e1; subst e2; exact h
    | succ i => simp at e1
  have h' := h
  cases h with
  | undef => cases hf
  | tup => cases hf
  | agg cs us hl hc => simp only [AV.flat, Option.some.injEq] at hf; subst hf; exact ⟨hl, hc⟩
  | c x v hv => simp only [AV.flat, Option.some.injEq] at hf; subst hf; cases hv <;> exact one h' rfl
  | own r z rows v bk fr hh hl hr hv ha => simp only [AV.flat, Option.some.injEq] at hf; subst hf; cases hv <;> exact one h' rfl
  | _ => simp only [AV.flat, Option.some.injEq] at hf; subst hf; exact one h' rfl

theorem scal_one {x : AV} {v : Value} (h : AR G x v) (hs : x.scal = true) : v.oneCell' = true := by
  cases h with
  | undef => cases hs
  | tup => cases hs
  | agg => cases hs
  | c x v hv => cases hv <;> rfl
  | own r z rows v bk fr hh hl hr hv ha => cases hv <;> rfl
  | _ => rfl

theorem AS.mem_wr1 (s : AS) (n : Nat) (c : MC) : ∀ i, (s.wr [(n, c)]).mem i = mset s.mem n c i := fun _ => rfl

theorem sound_store (R : Rel E G s a w) {t : TypeId} {x y : Operand} (ho : o.op = .store t x y) {e : Eff} {l : List Nat} (h : (storeE P t (s.eval x) (s.eval y)).run s.mem = some (e, l)) (K : Post E G s o e a next) : o.wp P a w next Q := by
  have hx := R.eval x
  have hy := R.eval y
  unfold storeE at h
  split at h
  · rename_i n off xs z ex ef hz
    obtain ⟨l', h, _⟩ := EP.ask_inv h
    split at h
    · rename_i cells hm
      rw [ex] at hx
      obtain ⟨b, hv, hb, hobj⟩ := obj_of R.mem hx hm
      obtain ⟨vs, ty, a1, a2, a3, _⟩ := hobj
      split at h
      · rename_i hc
        obtain ⟨hc1, hc2, hc3⟩ := hc
        obtain ⟨rfl, _⟩ := EP.ret_inv h
        obtain ⟨f1, f2⟩ := flat_rel hy ef
        have hsize : (a.eval y).cells.size = z := by omega
        have hone : ∀ u ∈ (a.eval y).cells.toList, u.oneCell' = true := fun u hu => by
          obtain ⟨i, hi⟩ := List.mem_iff_getElem?.1 hu
          have hil : i < xs.length := by
            have := (List.getElem?_eq_some_iff.1 hi).1
            simp at this; omega
          have hxi : xs[i]? = some xs[i] := by simp
          refine scal_one (f2 i _ u hxi (by simpa using hi)) ?_
          rw [List.all_eq_true] at hc3
          exact hc3 _ (List.getElem_mem hil)
        have hst := run_storeCells_at P b off ty (a.eval y).cells.toList 0 vs w a1 (by simp; omega) hone
        simp only [Nat.add_zero, Array.length_toList] at hst
        refine wp_unit (w' := w.setRow b (vs.toList.take off ++ (a.eval y).cells.toList ++ vs.toList.drop (off + (a.eval y).cells.size)).toArray) ?_ ?_
        · simp [execOp, ho, hv, Instr.storeAt, Instr.sureAddr, storeVar, tySize_run hz, hsize]
          simp [hsize] at hst
          simp [hst]
        · refine K G _ _ (Gh.le_refl G) (.undef _) ((R.mem.setObj hm hb ?_ ?_).congr (AS.mem_wr1 s n _))
          · simp [putAt]; omega
          · intro i x u e1 e2
            simp only [putAt] at e1
            have e2' : (vs.toList.take off ++ (a.eval y).cells.toList ++ vs.toList.drop (off + (a.eval y).cells.size))[i]? = some u := by simpa using e2
            have t1 : (cells.take off).length = off := by simp; omega
            have t2 : (vs.toList.take off).length = off := by simp; omega
            rcases Nat.lt_or_ge i off with hi | hi
            · rw [List.append_assoc, List.getElem?_append_left (by omega), List.getElem?_take, if_pos hi] at e1
              rw [List.append_assoc, List.getElem?_append_left (by omega), List.getElem?_take, if_pos hi] at e2'
              exact a3 i x u e1 (by simpa using e2')
            · rw [List.append_assoc, List.getElem?_append_right (by omega), t1] at e1
              rw [List.append_assoc, List.getElem?_append_right (by omega), t2] at e2'
              rcases Nat.lt_or_ge (i - off) xs.length with hj | hj
              · rw [List.getElem?_append_left hj] at e1
                rw [List.getElem?_append_left (by simp; omega)] at e2'
                exact f2 (i - off) x u e1 (by simpa using e2')
              · rw [List.getElem?_append_right hj, List.getElem?_drop] at e1
                rw [List.getElem?_append_right (by simp; omega), List.getElem?_drop] at e2'
                refine a3 i x u ?_ ?_
                · rw [← e1]; congr 1; omega
                · have e3 : vs.toList[i]? = some u := by rw [← e2']; congr 1; simp; omega
                  simpa using e3
      · exact EP.fail_inv h
    · exact EP.fail_inv h
  · exact EP.fail_inv h

theorem sound_newObj (R : Rel E G s a w) {n : Nat} {cells : List AV} {ty : TypeId} {vs : Array Value} {e : Eff} {l : List Nat} (h : (newObjE n cells).run s.mem = some (e, l))
    (hrun : (execOp a.eval o).run P w = .ok (.value (.pointer (some ⟨w.heap.size, 0, none⟩))) { w with heap := w.heap.push (.cells vs ty (0, 0)) })
    (hl : cells.length = vs.size) (hc : ∀ (i : Nat) (x : AV) (v : Value), cells[i]? = some x → vs[i]? = some v → AR G x v) (K : Post E G s o e a next) : o.wp P a w next Q := by
  unfold newObjE at h
  obtain ⟨l', h, _⟩ := EP.ask_inv h
  split at h
  · rename_i hm
    obtain ⟨rfl, _⟩ := EP.ret_inv h
    obtain ⟨h1, h2, h3⟩ := R.mem.newObj hm (ty := ty) (Nat.le_of_eq hl) hc
    exact wp_value hrun (K _ _ _ h1 (.ptr n 0 _ h2) (h3.congr (AS.mem_wr1 s n _)))
  · exact EP.fail_inv h

theorem sound_newMsl (R : Rel E G s a w) {n len : Nat} {cells : List AV} {ty : TypeId} {vs : Array Value} {e : Eff} {l : List Nat} (h : (newMslE n len cells).run s.mem = some (e, l))
    (hrun : (execOp a.eval o).run P w = .ok (.value (.slice (some ⟨w.heap.size, 0, none⟩) len len)) (w.alloc (.cells vs ty)))
    (hl : cells.length = vs.size) (hc : ∀ (i : Nat) (x : AV) (v : Value), cells[i]? = some x → vs[i]? = some v → AR G x v) (K : Post E G s o e a next) : o.wp P a w next Q := by
  unfold newMslE at h
  obtain ⟨l', h, _⟩ := EP.ask_inv h
  split at h
  · rename_i hm
    obtain ⟨rfl, _⟩ := EP.ret_inv h
    obtain ⟨h1, h2, h3⟩ := R.mem.newObj hm (ty := ty) (Nat.le_of_eq hl) hc
    exact wp_value hrun (K _ _ _ h1 (.msl n 0 len _ len true h2 (Nat.le_refl _) (fun _ => rfl)) (h3.congr (AS.mem_wr1 s n _)))
  · exact EP.fail_inv h

theorem MRel.drew {m : Nat → Option MC} (R : MRel E G m w) : MRel E G m w.drew :=
  R.same (Know.le_refl _) rfl R.agree (fun _ _ => rfl) (fun _ _ _ => rfl) rfl rfl rfl (Nat.le_refl _)

theorem sound_newLoose (R : Rel E G s a w) {n len cap : Nat} {cells : List AV} {ty : TypeId} {vs : Array Value} {e : Eff} {l : List Nat} (h : (newLooseE n len cells).run s.mem = some (e, l))
    (hrun : (execOp a.eval o).run P w = .ok (.value (.slice (some ⟨w.heap.size, 0, none⟩) len cap)) (w.drew.alloc (.cells vs ty))) (hcap : len ≤ cap)
    (hl : cells.length ≤ vs.size) (hc : ∀ (i : Nat) (x : AV) (v : Value), cells[i]? = some x → vs[i]? = some v → AR G x v) (K : Post E G s o e a next) : o.wp P a w next Q := by
  unfold newLooseE at h
  obtain ⟨l', h, _⟩ := EP.ask_inv h
  split at h
  · rename_i hm
    obtain ⟨rfl, _⟩ := EP.ret_inv h
    obtain ⟨h1, h2, h3⟩ := (MRel.drew R.mem).newObj hm (ty := ty) hl hc
    exact wp_value hrun (K _ _ _ h1 (.msl n 0 len _ cap false h2 hcap (fun e => by cases e)) (h3.congr (AS.mem_wr1 s n _)))
  · exact EP.fail_inv h

theorem zero_rel {t : TypeId} {z : List AV} (G : Gh) (h : tyZero P t = some z) : ∃ i v, P.info? t = some i ∧ i.zero = some v ∧ z.length = v.cells.size ∧
    ∀ (j : Nat) (x : AV) (u : Value), z[j]? = some x → v.cells[j]? = some u → AR G x u := by
  obtain ⟨i, v, h1, h2, rfl⟩ := tyZero_info h
  refine ⟨i, v, h1, h2, by simp, fun j x u e1 e2 => ?_⟩
  simp only [List.getElem?_map, Option.map_eq_some_iff] at e1
  obtain ⟨y, e1, rfl⟩ := e1
  have : v.cells.toList[j]? = some u := by simpa using e2
  rw [this] at e1
  cases e1
  exact toAV_rel G _

theorem zero_run {t : TypeId} {i : TypeInfo} {v : Value} (h1 : P.info? t = some i) (h2 : i.zero = some v) (w : World) : (zeroValue t).run P w = .ok v w := by
  simp [zeroValue, typeInfo, h1, h2]

theorem sound_alloc (R : Rel E G s a w) {t : TypeId} (ho : o.op = .alloc t) {n : Nat} {cells : List AV} (hz : tyZero P t = some cells) {e : Eff} {l : List Nat} (h : (newObjE n cells).run s.mem = some (e, l)) (K : Post E G s o e a next) : o.wp P a w next Q := by
  obtain ⟨i, v, h1, h2, h3, h4⟩ := zero_rel G hz
  refine sound_newObj R h (ty := t) (vs := v.cells) ?_ h3 h4 K
  simp [execOp, ho, Instr.alloc, zero_run h1 h2, newVar, newRow]

theorem sound_box (R : Rel E G s a w) {t : TypeId} {x : Operand} (ho : o.op = .box t x) {n : Nat} {cells : List AV} (hz : (s.eval x).flat = some cells) {e : Eff} {l : List Nat} (h : (newObjE n cells).run s.mem = some (e, l)) (K : Post E G s o e a next) : o.wp P a w next Q := by
  obtain ⟨h3, h4⟩ := flat_rel (R.eval x) hz
  refine sound_newObj R h (ty := t) (vs := (a.eval x).cells) ?_ h3 h4 K
  simp [execOp, ho, Instr.box, newVar, newRow]

theorem sound_nilCheck (R : Rel E G s a w) {x : Operand} (ho : o.op = .nilCheck x) (hx : (∃ n off, s.eval x = .ptr n off) ∨ (∃ cs, s.eval x = .rptr cs) ∨ ∃ f caps, s.eval x = .clo f caps)
    (K : Post E G s o ⟨s.eval x, []⟩ a next) : o.wp P a w next Q := by
  have h := R.eval x
  refine sound_val R (v := a.eval x) ?_ h K
  rcases hx with ⟨n, off, e⟩ | ⟨cs, e⟩ | ⟨f, caps, e⟩ <;> rw [e] at h <;> generalize hv : a.eval x = v at h <;> cases h <;> simp [execOp, ho, hv]

theorem sound_extract (R : Rel E G s a w) {x : Operand} {i : Nat} (ho : o.op = .extract x i) {vs : List AV} {y : AV} (hx : s.eval x = .tup vs) (hi : vs[i]? = some y) (K : Post E G s o ⟨y, []⟩ a next) : o.wp P a w next Q := by
  have h := R.eval x
  rw [hx] at h
  generalize hv : a.eval x = v at h
  cases h with
  | tup _ us hl hc =>
    have hlt : i < us.size := by have := (List.getElem?_eq_some_iff.1 hi).1; omega
    refine sound_val R (v := us[i]) ?_ (hc i y _ hi (by simp [hlt])) K
    simp [execOp, ho, hv, Instr.extract, hlt]

theorem sound_fieldAddr (R : Rel E G s a w) {t : TypeId} {x : Operand} {i off z : Nat} {ft : TypeId} (ho : o.op = .fieldAddr t x i) (hf : tyField P t i = some (off, ft, z)) (hz : z ≠ 0) {y : AV}
    (hx : (∃ n q, s.eval x = .ptr n q ∧ y = .ptr n (q + off)) ∨ (∃ cs, s.eval x = .rptr cs ∧ y = .rptr (cs.drop off))) (K : Post E G s o ⟨y, []⟩ a next) : o.wp P a w next Q := by
  obtain ⟨fs, f, h1, h2, h3, h4, h5⟩ := tyField_run hf
  have h := R.eval x
  have hrun : ∀ b q, a.eval x = .pointer (some ⟨b, q, none⟩) → (execOp a.eval o).run P w = .ok (.value (.pointer (some ⟨b, q + off, none⟩))) w := by
    intro b q e
    subst h4
    simp [execOp, ho, e, Instr.fieldAt, run_underlying h1, h2, Instr.sureAddr, fieldPlace, tySize_run h5, hz, add_at, h3]
  rcases hx with ⟨n, q, e, rfl⟩ | ⟨cs, e, rfl⟩
  · rw [e] at h
    generalize hv : a.eval x = v at h
    cases h with
    | ptr _ _ b hb => exact sound_val R (hrun b q hv) (.ptr n _ b hb) K
  · rw [e] at h
    generalize hv : a.eval x = v at h
    cases h with
    | rptr _ b q hk => exact sound_val R (hrun b q hv) (.rptr _ b _ (hk.drop off)) K

theorem sound_field (R : Rel E G s a w) {t : TypeId} {x : Operand} {i off z : Nat} {ft : TypeId} (ho : o.op = .field t x i) (hf : tyField P t i = some (off, ft, z)) {cs : List AV} (hx : s.eval x = .agg cs) {y : AV}
    (hy : (tyAgg P ft = some true ∧ off + z ≤ cs.length ∧ y = .agg ((cs.drop off).take z)) ∨ (tyAgg P ft = some false ∧ cs[off]? = some y)) (K : Post E G s o ⟨y, []⟩ a next) : o.wp P a w next Q := by
  obtain ⟨fs, f, h1, h2, h3, h4, h5⟩ := tyField_run hf
  have h := R.eval x
  rw [hx] at h
  generalize hv : a.eval x = v at h
  subst h4
  cases h with
  | agg _ us hl hc =>
    rcases hy with ⟨hag, hle, rfl⟩ | ⟨hag, hy⟩
    · refine sound_val R (v := .agg (us.extract off (off + z))) ?_ (.agg _ _ (by simp; omega) ?_) K
      · simp [execOp, ho, hv, Instr.field, run_underlying h1, h2, part, tyAgg_run hag, tySize_run h5, asAgg, h3]
      · intro j x u e1 e2
        rw [List.getElem?_take] at e1
        split at e1
        · rename_i hj
          rw [List.getElem?_drop] at e1
          refine hc (off + j) x u e1 ?_
          rw [Array.getElem?_extract] at e2
          split at e2
          · exact e2
          · cases e2
        · cases e1
    · have hlt : off < us.size := by have := (List.getElem?_eq_some_iff.1 hy).1; omega
      refine sound_val R (v := us[off]) ?_ (hc off y _ hy (by simp [hlt])) K
      simp [execOp, ho, hv, Instr.field, run_underlying h1, h2, part, tyAgg_run hag, asAgg, h3, hlt]


def PC.val : PC → Value
  | .int k n => .int k n
  | .bool b => .bool b
  | .str s => .string ⟨s.toArray⟩
  | .sl _ => .nilIface
theorem asList (l : List UInt8) : (ByteArray.mk l.toArray).toList = l := by simp

theorem sound_unOp (R : Rel E G s a w) {op : UnOp} {t : TypeId} {x : Operand} (ho : o.op = .unOp op t x) {y : AV} (hx : unE op (s.eval x) = some y) (K : Post E G s o ⟨y, []⟩ a next) : o.wp P a w next Q := by
  have h := R.eval x
  unfold unE at hx
  split at hx
  · rename_i b e; rw [e] at h; cases hx
    exact sound_val R (v := .bool (!b)) (by simp [execOp, ho, h.bool_inv, Op.unary]) (.bool _) K
  · rename_i k n e; rw [e] at h; cases hx
    exact sound_val R (v := .int k (k.wrap (0 - n))) (by simp [execOp, ho, h.int_inv, Op.unary, Op.intArith]) (.int _ _) K
  · rename_i k n e; rw [e] at h; cases hx
    exact sound_val R (v := .int k (k.wrap (BitVec.ofInt k.bits (if k.signed then -1 else k.max) ^^^ BitVec.ofInt k.bits n).toNat)) (by simp [execOp, ho, h.int_inv, Op.unary, Op.intBits]) (.int _ _) K
  · cases hx

theorem eqGuard_int (op : BinOp) (t : TypeId) (x y : Operand) (k k' : IntKind) (i j : Int) (w : World) : (eqGuard op t x y (.int k i) (.int k' j)).run P w = .ok () w := by
  cases op <;> simp [eqGuard]
theorem eqGuard_str (op : BinOp) (t : TypeId) (x y : Operand) (i j : ByteArray) (w : World) : (eqGuard op t x y (.string i) (.string j)).run P w = .ok () w := by
  cases op <;> simp [eqGuard]
theorem eqGuard_bool (op : BinOp) (t : TypeId) (x y : Operand) (i j : Bool) (w : World) : (eqGuard op t x y (.bool i) (.bool j)).run P w = .ok () w := by
  cases op <;> simp [eqGuard]
theorem eqGuard_ptr (op : BinOp) (t : TypeId) (x y : Operand) (i j : Option Addr) (w : World) : (eqGuard op t x y (.pointer i) (.pointer j)).run P w = .ok () w := by
  cases op <;> simp [eqGuard]
theorem eqGuard_map (op : BinOp) (t : TypeId) (x y : Operand) (i j : Option Nat) (w : World) : (eqGuard op t x y (.map i) (.map j)).run P w = .ok () w := by
  cases op <;> simp [eqGuard]
theorem eqGuard_sl (op : BinOp) (t : TypeId) (x y : Operand) (i j : Option Addr) (n c n' c' : Nat) (w : World) : (eqGuard op t x y (.slice i n c) (.slice j n' c')).run P w = .ok () w := by
  cases op <;> simp [eqGuard]

theorem intOp_run {op : BinOp} {t : TypeId} {k : IntKind} {i j : Int} {c : PC} (h : intOp op k i j = some c) (w : World) :
    (binOp op t (.int k i) (.int k j)).run P w = .ok c.val w ∧ VR G.K c c.val := by
  unfold intOp at h
  cases op
  case quo => dsimp only at h; split at h <;> cases h; rename_i hj; exact ⟨by simp [binOp, Op.intDiv, hj, PC.val], .int _ _⟩
  case rem => dsimp only at h; split at h <;> cases h; rename_i hj; exact ⟨by simp [binOp, Op.intDiv, hj, PC.val], .int _ _⟩
  case shl => cases h
  case shr => cases h
  all_goals
    simp only [Option.some.injEq] at h
    subst h
    exact ⟨by simp [binOp, Op.intArith, Op.intBits, Op.intCmp, PC.val], by first | exact .int _ _ | exact .bool _⟩

theorem shOp_run {op : BinOp} {t : TypeId} {k k' : IntKind} {i j : Int} {c : PC} (hs : isSh op = true) (h : shOp op k i j = some c) (w : World) :
    (binOp op t (.int k i) (.int k' j)).run P w = .ok c.val w ∧ VR G.K c c.val := by
  unfold shOp at h
  split at h
  · cases h
  · rename_i hj
    cases op <;> simp only [isSh, Bool.false_eq_true] at hs <;> cases h
    · exact ⟨by simp [binOp, Op.shift, hj, PC.val], .int _ _⟩
    · exact ⟨by simp [binOp, Op.shift, hj, PC.val], .int _ _⟩

theorem strOp_run {op : BinOp} {t : TypeId} {i j : List UInt8} {c : PC} (h : strOp op i j = some c) (w : World) :
    (binOp op t (.string ⟨i.toArray⟩) (.string ⟨j.toArray⟩)).run P w = .ok c.val w ∧ VR G.K c c.val := by
  unfold strOp at h
  cases op
  case add =>
    dsimp only at h
    split at h
    · rename_i hl
      cases h
      refine ⟨?_, .str _⟩
      have h1 : ¬ ((((ByteArray.mk i.toArray).size + (ByteArray.mk j.toArray).size : Nat) : Int) > IntKind.i64.max) := by
        have : IntKind.i64.max = 9223372036854775807 := by decide
        rw [this]
        simp [ByteArray.size]; omega
      have h2 : (ByteArray.mk i.toArray) ++ (ByteArray.mk j.toArray) = ByteArray.mk (i ++ j).toArray := by
        apply ByteArray.ext; simp
      simp only [binOp, Op.stringOp, h1, if_false, h2]; rfl
    · cases h
  all_goals first
    | (cases h; done)
    | (simp only [Option.some.injEq] at h
       subst h
       exact ⟨by simp [binOp, Op.stringOp, asList, PC.val], .bool _⟩)

theorem notIf_run {op : BinOp} {b : Bool} {y : AV} {t : TypeId} {u v : Value} (h : notIf op b = some y) (he : ∀ w : World, (Op.equal t u v).run P w = .ok b w)
    (hb1 : binOp .eql t u v = (do pure (.bool (← Op.equal t u v)))) (hb2 : binOp .neq t u v = (do pure (.bool (!(← Op.equal t u v))))) (w : World) :
    ∃ z, (binOp op t u v).run P w = .ok z w ∧ AR G y z := by
  unfold notIf at h
  cases op <;> simp only [Option.some.injEq, reduceCtorEq] at h
  · subst h; exact ⟨.bool b, by rw [hb1]; simp [he], .bool _⟩
  · subst h; exact ⟨.bool (!b), by rw [hb2]; simp [he], .bool _⟩

theorem tyPtr_run {t : TypeId} (h : tyPtr P t = true) : ∃ e, P.underlying t = some (.pointer e) := by
  unfold tyPtr at h
  split at h
  · exact ⟨_, by assumption⟩
  · cases h
theorem tyBool_run {t : TypeId} (h : tyBool P t = true) : P.underlying t = some .bool := by
  unfold tyBool at h
  split at h
  · assumption
  · cases h

theorem equal_of {t : TypeId} {u v : Value} {b : Bool} {w : World} (h : (Op.equalIn (9999 + 1) t u v).run P w = .ok b w) : (Op.equal t u v).run P w = .ok b w := h

end

section
variable {P : Program} {E : Env} {G : Gh} {s : AS} {a : Act} {w : World} {o : Oper} {next : Act → World → Prop} {Q : Exit → Act → World → Prop}

theorem VRs.sub {K : Know} {cs : List PC} {us : List Value} (h : VRs K cs us) (i n : Nat) : VRs K ((cs.drop i).take n) ((us.drop i).take n) := by
  obtain ⟨h1, h2⟩ := h
  refine ⟨by simp [h1], fun j c u e1 e2 => ?_⟩
  rw [List.getElem?_take] at e1 e2
  split at e1
  · rename_i hj
    rw [if_pos hj] at e2
    rw [List.getElem?_drop] at e1 e2
    exact h2 _ c u e1 e2
  · cases e1

/-- A value that has these cells, by its type: of several cells, or of one. -/
def OfCells (P : Program) (t : TypeId) (us : List Value) (v : Value) : Prop :=
  (∃ fs, P.underlying t = some (.struct fs)) ∧ v = .agg us.toArray ∨ (¬ ∃ fs, P.underlying t = some (.struct fs)) ∧ us = [v]

theorem part_run {t : TypeId} {z off : Nat} {us : List Value} (hz : tySize P t = some z) (hle : off + z ≤ us.length) (hsc : (∃ fs, P.underlying t = some (.struct fs)) ∨ ((∃ d, P.underlying t = some d ∧ (d = .bool ∨ d = .string ∨ ∃ k, d = .int k)) ∧ z = 1)) (w : World) :
    ∃ v, (part t us.toArray off).run P w = .ok v w ∧ OfCells P t ((us.drop off).take z) v := by
  rcases hsc with ⟨fs, hu⟩ | ⟨⟨d, hu, hd⟩, rfl⟩
  · refine ⟨.agg ((us.drop off).take z).toArray, ?_, .inl ⟨⟨fs, hu⟩, rfl⟩⟩
    have : (isAgg t).run P w = .ok true w := by simp [isAgg, run_underlying hu]
    have e : (us.toArray.extract off (off + z)) = ((us.drop off).take z).toArray := by
      simp [List.extract_toArray, List.extract_eq_take_drop]
    simp [part, this, tySize_run hz, e]
  · have hlt : off < us.length := by omega
    refine ⟨us[off], ?_, .inr ⟨?_, ?_⟩⟩
    · have : (isAgg t).run P w = .ok false w := by rcases hd with rfl | rfl | ⟨k, rfl⟩ <;> simp [isAgg, run_underlying hu]
      simp [part, this, hlt]
    · rintro ⟨fs, hf⟩; rw [hu] at hf; cases hf; rcases hd with h | h | ⟨k, h⟩ <;> cases h
    · have : us.drop off = us[off] :: us.drop (off + 1) := List.drop_eq_getElem_cons hlt
      rw [this]; rfl

theorem eqE_type {d : Nat} {t : TypeId} {xs ys : List PC} {b : Bool} (h : eqE P d t xs ys = some b) :
    (∃ fs, P.underlying t = some (.struct fs)) ∨ ((∃ d, P.underlying t = some d ∧ (d = .bool ∨ d = .string ∨ ∃ k, d = .int k)) ∧ xs.length = 1) := by
  cases d with
  | zero => cases h
  | succ d =>
    unfold eqE at h
    split at h
    · split at h
      · exact .inr ⟨⟨_, by assumption, .inl rfl⟩, rfl⟩
      · cases h
    · split at h
      · exact .inr ⟨⟨_, by assumption, .inr (.inr ⟨_, rfl⟩)⟩, rfl⟩
      · cases h
    · split at h
      · exact .inr ⟨⟨_, by assumption, .inr (.inl rfl)⟩, rfl⟩
      · cases h
    · exact .inl ⟨_, by assumption⟩
    · cases h

theorem VRs.one_inv {K : Know} {c : PC} {us : List Value} (h : VRs K [c] us) : ∃ u, us = [u] ∧ VR K c u := by
  obtain ⟨u, us', rfl, h1, h2⟩ := h.cons_inv
  have : us' = [] := by have := h2.1; cases us' with | nil => rfl | cons => simp at this
  subst this
  exact ⟨u, rfl, h1⟩

theorem eqE_run {K : Know} : ∀ (d : Nat) (t : TypeId) (xs ys : List PC) (b : Bool), eqE P d t xs ys = some b → ∀ (us vs : List Value) (u v : Value), VRs K xs us → VRs K ys vs → OfCells P t us u → OfCells P t vs v →
    ∀ w : World, (Op.equalIn d t u v).run P w = .ok b w := by
  intro d
  induction d with
  | zero => intro t xs ys b h; cases h
  | succ d ih =>
    intro t xs ys b h us vs u v hu hv cu cv w
    unfold eqE at h
    split at h
    · rename_i ht
      split at h
      · cases h
        obtain ⟨u', rfl, h1⟩ := hu.one_inv
        obtain ⟨v', rfl, h2⟩ := hv.one_inv
        rcases cu with ⟨⟨fs, e⟩, _⟩ | ⟨_, e⟩
        · rw [ht] at e; cases e
        rcases cv with ⟨⟨fs, e'⟩, _⟩ | ⟨_, e'⟩
        · rw [ht] at e'; cases e'
        cases e; cases e'; cases h1; cases h2
        exact run_equalIn_bool' w d t _ _ ht
      · cases h
    · rename_i k0 ht
      split at h
      · split at h
        · rename_i hk
          cases h
          subst hk
          obtain ⟨u', rfl, h1⟩ := hu.one_inv
          obtain ⟨v', rfl, h2⟩ := hv.one_inv
          rcases cu with ⟨⟨fs, e⟩, _⟩ | ⟨_, e⟩
          · rw [ht] at e; cases e
          rcases cv with ⟨⟨fs, e'⟩, _⟩ | ⟨_, e'⟩
          · rw [ht] at e'; cases e'
          cases e; cases e'; cases h1; cases h2
          exact run_equalIn_int w d t _ _ _ _ ht
        · cases h
      · cases h
    · rename_i ht
      split at h
      · cases h
        obtain ⟨u', rfl, h1⟩ := hu.one_inv
        obtain ⟨v', rfl, h2⟩ := hv.one_inv
        rcases cu with ⟨⟨fs, e⟩, _⟩ | ⟨_, e⟩
        · rw [ht] at e; cases e
        rcases cv with ⟨⟨fs, e'⟩, _⟩ | ⟨_, e'⟩
        · rw [ht] at e'; cases e'
        cases e; cases e'; cases h1; cases h2
        rw [run_equalIn_string w d t _ _ ht]
        simp
      · cases h
    · rename_i fs ht
      split at h
      · cases h
      · rename_i hp
        rcases cu with ⟨_, e⟩ | ⟨e, _⟩
        · rcases cv with ⟨_, e'⟩ | ⟨e', _⟩
          · subst e; subst e'
            have hf : P.fieldsOf t = fs := by simp [Program.fieldsOf, ht]
            rw [run_equalIn_struct w d t _ _ (by rw [hf]; exact ht) (by simpa using hp), hf]
            clear hf ht hp
            generalize fs.toList = l at h
            induction l generalizing b w with
            | nil => simp only [eqFs, Option.some.injEq] at h; subst h; simp [Op.eqFields]
            | cons f l ihl =>
              simp only [eqFs] at h
              split at h
              · rename_i hn
                split at h
                · rename_i z hz
                  split at h
                  · rename_i hle
                    split at h
                    · rename_i p q e1 e2
                      cases h
                      have hty := eqE_type e1
                      have hz1 : (∃ fs, P.underlying f.type = some (.struct fs)) ∨ ((∃ d, P.underlying f.type = some d ∧ (d = .bool ∨ d = .string ∨ ∃ k, d = .int k)) ∧ z = 1) := by
                        rcases hty with h | ⟨h, h'⟩
                        · exact .inl h
                        · refine .inr ⟨h, ?_⟩
                          simp at h'; omega
                      have lu := hu.1
                      have lv := hv.1
                      obtain ⟨pu, r1, c1⟩ := part_run hz (us := us) (off := f.offset) (by omega) hz1 w
                      obtain ⟨pv, r2, c2⟩ := part_run hz (us := vs) (off := f.offset) (by omega) hz1 w
                      have := ih _ _ _ _ e1 _ _ pu pv (hu.sub f.offset z) (hv.sub f.offset z) c1 c2 w
                      simp only [Op.eqFields, Sem.run_bind, Sem.run_ite, hn, if_true, ne_eq, not_false_eq_true, r1, r2, this, Result.andThen_ok]
                      cases p
                      · simp
                      · simp [ihl _ w e2]
                    · cases h
                  · cases h
                · cases h
              · rename_i hn
                simp only [ne_eq, Decidable.not_not] at hn
                simp only [Op.eqFields, hn, ne_eq, not_true_eq_false, if_false]
                exact ihl _ w h
          · exact absurd ⟨fs, ht⟩ e'
        · exact absurd ⟨fs, ht⟩ e
    · cases h


theorem toPCs_vrs {xs : List AV} {cs : List PC} {us : List Value} (h : toPCs xs = some cs) (hl : xs.length = us.length) (hc : ∀ (i : Nat) (x : AV) (u : Value), xs[i]? = some x → us[i]? = some u → AR G x u) : VRs G.K cs us := by
  obtain ⟨h1, h2⟩ := toPCs_spec h
  refine ⟨by omega, fun i c u e1 e2 => ?_⟩
  have hi : i < xs.length := by have := (List.getElem?_eq_some_iff.1 e1).1; omega
  have hx : xs[i]? = some xs[i] := by simp
  exact (hc i _ u hx e2).toPC (h2 i _ c hx e1)

theorem eq_ptr {t e : TypeId} (h : P.underlying t = some (.pointer e)) (p : Option Addr) (w : World) : (Op.equal t (.pointer p) (.pointer none)).run P w = .ok p.isNone w :=
  run_equal_pointer_nil w t p (by simp [Program.pointee, h])

theorem sound_binOp (R : Rel E G s a w) {op : BinOp} {t t' : TypeId} {x y : Operand} (ho : o.op = .binOp op t x y t') {z : AV} (hx : binE P op t (s.eval x) (s.eval y) = some z) (K : Post E G s o ⟨z, []⟩ a next) : o.wp P a w next Q := by
  have h1 := R.eval x
  have h2 := R.eval y
  suffices H : ∃ v, (execOp a.eval o).run P w = .ok (.value v) w ∧ AR G z v by
    obtain ⟨v, hr, hz⟩ := H
    exact sound_val R hr hz K
  generalize hu : a.eval x = u at h1
  generalize hv : a.eval y = v at h2
  have hexec : ∀ {r : Value}, (eqGuard op t x y u v).run P w = .ok () w → (binOp op t u v).run P w = .ok r w → (execOp a.eval o).run P w = .ok (.value r) w := by
    intro r g1 g2
    simp [execOp, ho, hu, hv, g1, g2]
  unfold binE at hx
  split at hx
  · rename_i k i k' j e1 e2
    rw [e1] at h1; rw [e2] at h2
    cases h1.int_inv; cases h2.int_inv
    split at hx
    · rename_i hs
      obtain ⟨c, hc, rfl⟩ := Option.map_eq_some_iff.1 hx
      obtain ⟨r1, r2⟩ := shOp_run (G := G) (P := P) (t := t) (k' := k') hs hc w
      exact ⟨_, hexec (eqGuard_int _ _ _ _ _ _ _ _ _) r1, .c _ _ r2⟩
    · split at hx
      · rename_i hk
        subst hk
        obtain ⟨c, hc, rfl⟩ := Option.map_eq_some_iff.1 hx
        obtain ⟨r1, r2⟩ := intOp_run (G := G) (P := P) (t := t) hc w
        exact ⟨_, hexec (eqGuard_int _ _ _ _ _ _ _ _ _) r1, .c _ _ r2⟩
      · cases hx
  · rename_i i j e1 e2
    rw [e1] at h1; rw [e2] at h2
    cases h1.str_inv; cases h2.str_inv
    obtain ⟨c, hc, rfl⟩ := Option.map_eq_some_iff.1 hx
    obtain ⟨r1, r2⟩ := strOp_run (G := G) (P := P) (t := t) hc w
    exact ⟨_, hexec (eqGuard_str _ _ _ _ _ _ _) r1, .c _ _ r2⟩
  · rename_i i j e1 e2
    rw [e1] at h1; rw [e2] at h2
    cases h1.bool_inv; cases h2.bool_inv
    split at hx
    · rename_i ht
      obtain ⟨r, r1, r2⟩ := notIf_run (G := G) (P := P) (t := t) (u := .bool i) (v := .bool j) hx (fun w => equal_of (run_equalIn_bool' w 9999 t i j (tyBool_run ht))) rfl rfl w
      exact ⟨_, hexec (eqGuard_bool _ _ _ _ _ _ _) r1, r2⟩
    · cases hx
  · rename_i n off e1 e2
    rw [e1] at h1; rw [e2] at h2
    cases h1; cases h2
    split at hx
    · rename_i ht
      obtain ⟨el, ht⟩ := tyPtr_run ht
      obtain ⟨r, r1, r2⟩ := notIf_run (G := G) (P := P) (t := t) (u := .pointer (some _)) (v := .pointer none) hx (eq_ptr ht _) rfl rfl w
      exact ⟨_, hexec (eqGuard_ptr _ _ _ _ _ _ _) r1, r2⟩
    · cases hx
  · rename_i cs e1 e2
    rw [e1] at h1; rw [e2] at h2
    cases h1; cases h2
    split at hx
    · rename_i ht
      obtain ⟨el, ht⟩ := tyPtr_run ht
      obtain ⟨r, r1, r2⟩ := notIf_run (G := G) (P := P) (t := t) (u := .pointer (some _)) (v := .pointer none) hx (eq_ptr ht _) rfl rfl w
      exact ⟨_, hexec (eqGuard_ptr _ _ _ _ _ _ _) r1, r2⟩
    · cases hx
  · rename_i e1 e2
    rw [e1] at h1; rw [e2] at h2
    cases h1; cases h2
    split at hx
    · rename_i ht
      obtain ⟨el, ht⟩ := tyPtr_run ht
      obtain ⟨r, r1, r2⟩ := notIf_run (G := G) (P := P) (t := t) (u := .pointer none) (v := .pointer none) hx (eq_ptr ht _) rfl rfl w
      exact ⟨_, hexec (eqGuard_ptr _ _ _ _ _ _ _) r1, r2⟩
    · cases hx
  · rename_i n e1 e2
    rw [e1] at h1; rw [e2] at h2
    cases h1; cases h2
    split at hx
    · rename_i ht
      obtain ⟨⟨kt, et⟩, ht⟩ := Option.isSome_iff_exists.1 ht
      obtain ⟨r, r1, r2⟩ := notIf_run (G := G) (P := P) (t := t) (u := .map (some _)) (v := .map none) hx (fun w => run_equal_map_nil w t _ _ _ (tyMap_run ht)) rfl rfl w
      exact ⟨_, hexec (eqGuard_map _ _ _ _ _ _ _) r1, r2⟩
    · cases hx
  · rename_i e1 e2
    rw [e1] at h1; rw [e2] at h2
    cases h1; cases h2
    split at hx
    · rename_i ht
      obtain ⟨⟨kt, et⟩, ht⟩ := Option.isSome_iff_exists.1 ht
      obtain ⟨r, r1, r2⟩ := notIf_run (G := G) (P := P) (t := t) (u := .map none) (v := .map none) hx (fun w => run_equal_map_nil w t _ _ _ (tyMap_run ht)) rfl rfl w
      exact ⟨_, hexec (eqGuard_map _ _ _ _ _ _ _) r1, r2⟩
    · cases hx
  · rename_i xs ys e1 e2
    rw [e1] at h1; rw [e2] at h2
    cases h1 with
    | agg _ us l1 c1 =>
    cases h2 with
    | agg _ vs l2 c2 =>
    split at hx
    · rename_i hg
      obtain ⟨hg, hop⟩ := hg
      split at hx
      · rename_i p q ep eq_
        obtain ⟨b, hb, hx⟩ := Option.bind_eq_some_iff.1 hx
        have v1 := toPCs_vrs (us := us.toList) ep (by simpa using l1) (fun i x u a1 a2 => c1 i x u a1 (by simpa using a2))
        have v2 := toPCs_vrs (us := vs.toList) eq_ (by simpa using l2) (fun i x u a1 a2 => c2 i x u a1 (by simpa using a2))
        have hst : ∃ fs, P.underlying t = some (.struct fs) := by
          rcases eqE_type hb with h | ⟨⟨d, hd, hd'⟩, _⟩
          · exact h
          · exfalso
            unfold tyAgg at hop
            rw [hd] at hop
            rcases hd' with rfl | rfl | ⟨k, rfl⟩ <;> simp at hop
        have hof : ∀ us : Array Value, OfCells P t us.toList (.agg us) := fun us => .inl ⟨hst, by simp⟩
        have heq : ∀ w : World, (Op.equal t (.agg us) (.agg vs)).run P w = .ok b w := eqE_run 10000 t p q b hb us.toList vs.toList _ _ v1 v2 (hof us) (hof vs)
        obtain ⟨r, r1, r2⟩ := notIf_run (G := G) (P := P) (t := t) (u := .agg us) (v := .agg vs) hx heq rfl rfl w
        exact ⟨_, hexec (run_eqGuard_agg w op t x y us vs hg) r1, r2⟩
      · cases hx
    · cases hx
  · rename_i e1 e2
    rw [e1] at h1; rw [e2] at h2
    cases h1; cases h2
    split at hx
    · rename_i ht
      obtain ⟨et, ht⟩ := Option.isSome_iff_exists.1 ht
      obtain ⟨r, r1, r2⟩ := notIf_run (G := G) (P := P) (t := t) (u := .slice none 0 0) (v := .slice none 0 0) hx (fun w => run_equal_slice_nil w t _ _ _ _ (tyElem_run ht)) rfl rfl w
      exact ⟨_, hexec (eqGuard_sl _ _ _ _ _ _ _ _ _ _ _) r1, r2⟩
    · cases hx
  · rename_i e1 e2
    rw [e1] at h1; rw [e2] at h2
    cases h1 with
    | msl _ _ _ b cap _ hb hc he =>
    cases h2
    split at hx
    · rename_i ht
      obtain ⟨et, ht⟩ := Option.isSome_iff_exists.1 ht
      obtain ⟨r, r1, r2⟩ := notIf_run (G := G) (P := P) (t := t) (u := .slice (some _) _ _) (v := .slice none 0 0) hx (fun w => run_equal_slice_nil w t _ _ _ _ (tyElem_run ht)) rfl rfl w
      exact ⟨_, hexec (eqGuard_sl _ _ _ _ _ _ _ _ _ _ _) r1, r2⟩
    · cases hx
  · rename_i e2 _ _
    rw [e2] at h2
    cases h2
    split at hx
    · rename_i et ht hr
      have hv := h1.rows hr
      have : ∃ A n c, u = .slice A n c := by
        rcases hv.slice_inv with ⟨_, _, _, rfl, _⟩ | ⟨_, _, _, _, rfl, _⟩
        · exact ⟨_, _, _, rfl⟩
        · exact ⟨_, _, _, rfl⟩
      obtain ⟨A, n, c, rfl⟩ := this
      split at hx
      · rename_i hop
        cases hx
        have heq : ∀ w : World, (Op.equal t (.slice A n c) (.slice none 0 0)).run P w = .ok A.isNone w := fun w => run_equal_slice_nil w t _ _ _ _ (tyElem_run ht)
        cases op <;> simp only [isEq, Bool.false_eq_true] at hop
        · exact ⟨.bool A.isNone, hexec (eqGuard_sl _ _ _ _ _ _ _ _ _ _ _) (by simp [binOp, heq]), .ubool _⟩
        · exact ⟨.bool !A.isNone, hexec (eqGuard_sl _ _ _ _ _ _ _ _ _ _ _) (by simp [binOp, heq]), .ubool _⟩
      · cases hx
    · rename_i et r rs ht hr
      have hv := h1.rows hr
      rcases hv.slice_inv with ⟨h, _⟩ | ⟨_, _, _, _, rfl, _⟩
      · cases h
      · obtain ⟨r, r1, r2⟩ := notIf_run (G := G) (P := P) (t := t) (u := .slice (some _) _ _) (v := .slice none 0 0) hx (fun w => run_equal_slice_nil w t _ _ _ _ (tyElem_run ht)) rfl rfl w
        exact ⟨_, hexec (eqGuard_sl _ _ _ _ _ _ _ _ _ _ _) r1, r2⟩
    · cases hx
  · cases hx


theorem bytes_rows (l : List UInt8) : rowsOK 1 (bytes l) := by
  intro r hr
  simp only [bytes, List.mem_map] at hr
  obtain ⟨b, _, rfl⟩ := hr
  rfl

theorem sound_indexAddr (R : Rel E G s a w) {t : TypeId} {x i : Operand} (ho : o.op = .indexAddr t x i) {y : AV} (hx : indexE P t (s.eval x) (s.eval i) = some y) (K : Post E G s o ⟨y, []⟩ a next) : o.wp P a w next Q := by
  have h1 := R.eval x
  have h2 := R.eval i
  suffices H : ∃ v, (execOp a.eval o).run P w = .ok (.value v) w ∧ AR G y v by
    obtain ⟨v, hr, hz⟩ := H
    exact sound_val R hr hz K
  generalize hu : a.eval x = u at h1
  generalize hv : a.eval i = v at h2
  unfold indexE at hx
  split at hx
  · rename_i n off k i' e1 e2
    rw [e1] at h1; rw [e2] at h2
    cases h2.int_inv
    cases h1 with
    | ptr _ _ b hb =>
    split at hx
    · rename_i len e hl
      split at hx
      · rename_i z hz
        split at hx
        · rename_i hi
          cases hx
          refine ⟨.pointer (some ⟨b, off + i'.toNat * z, none⟩), ?_, .ptr n _ b hb⟩
          simp [execOp, ho, hu, hv, Instr.indexAt, asIntOf, run_underlying (tyArr_run hl), Instr.sureAddr, hi, tySize_run hz, add_at]
        · cases hx
      · cases hx
    · cases hx
  · rename_i cs k i' e1 e2
    rw [e1] at h1; rw [e2] at h2
    cases h2.int_inv
    cases h1 with
    | rptr _ b off hk =>
    split at hx
    · rename_i len e hl
      split at hx
      · rename_i z hz
        split at hx
        · rename_i hi
          cases hx
          refine ⟨.pointer (some ⟨b, off + i'.toNat * z, none⟩), ?_, .rptr _ b _ (hk.drop _)⟩
          simp [execOp, ho, hu, hv, Instr.indexAt, asIntOf, run_underlying (tyArr_run hl), Instr.sureAddr, hi, tySize_run hz, add_at]
        · cases hx
      · cases hx
    · cases hx
  · rename_i n off len ex k i' e1 e2
    rw [e1] at h1; rw [e2] at h2
    cases h2.int_inv
    cases h1 with
    | msl _ _ _ b cap _ hb hc he =>
    split at hx
    · rename_i e hl
      split at hx
      · rename_i z hz
        split at hx
        · rename_i hi
          cases hx
          refine ⟨.pointer (some ⟨b, off + i'.toNat * z, none⟩), ?_, .ptr n _ b hb⟩
          simp [execOp, ho, hu, hv, Instr.indexAt, asIntOf, run_underlying (tyElem_run hl), hi, tySize_run hz, add_at]
        · cases hx
      · cases hx
    · cases hx
  · rename_i k i' e2 _ _ _
    rw [e2] at h2
    cases h2.int_inv
    split at hx
    · rename_i e rows he hr
      split at hx
      · rename_i z hz
        split at hx
        · rename_i hi0
          split at hx
          · rename_i r hri
            split at hx
            · rename_i hrz
              cases hx
              have hv := h1.rows hr
              rcases hv.slice_inv with ⟨h, _⟩ | ⟨z', b, off, cap, rfl, hc, hs⟩
              · subst h; simp at hri
              · have hlt : i'.toNat < rows.length := (List.getElem?_eq_some_iff.1 hri).1
                have hz' : z' = z := by rw [← hrz]; exact (hs.1 r (List.mem_of_getElem? hri)).symm
                subst hz'
                refine ⟨.pointer (some ⟨b, off + i'.toNat * z', none⟩), ?_, .rptr _ b _ (hs.2 _ _ hri)⟩
                have hi : 0 ≤ i' ∧ i' < (rows.length : Int) := ⟨hi0, by omega⟩
                simp [execOp, ho, hu, *, Instr.indexAt, asIntOf, run_underlying (tyElem_run he), tySize_run hz, add_at]
            · cases hx
          · cases hx
        · cases hx
      · cases hx
    · cases hx
  · cases hx

theorem sound_index (R : Rel E G s a w) {t : TypeId} {x i : Operand} (ho : o.op = .index t x i) {l : List UInt8} {k : IntKind} {j : Int} {b : UInt8} (ex : s.eval x = .c (.str l)) (ei : s.eval i = .c (.int k j))
    (ht : tyStr P t = true) (hj : 0 ≤ j) (hb : l[j.toNat]? = some b) (K : Post E G s o ⟨.c (.int .u8 b.toNat), []⟩ a next) : o.wp P a w next Q := by
  have h1 := R.eval x
  have h2 := R.eval i
  rw [ex] at h1; rw [ei] at h2
  have hb' : (ByteArray.mk l.toArray)[j.toNat]? = some b := by
    have hlt : j.toNat < l.length := (List.getElem?_eq_some_iff.1 hb).1
    have hv := (List.getElem?_eq_some_iff.1 hb).2
    rw [getElem?_pos _ _ (by simp [ByteArray.size]; exact hlt)]
    congr 1
  refine sound_val R (v := .int .u8 b.toNat) ?_ (.int _ _) K
  simp [execOp, ho, h1.str_inv, h2.int_inv, Instr.index, asIntOf, run_underlying (tyStr_run ht), hj, hb']

theorem sound_indexA (R : Rel E G s a w) {t e : TypeId} {x i : Operand} (ho : o.op = .index t x i) {cs : List AV} {k : IntKind} {j : Int} {n z : Nat} {y : AV} (ex : s.eval x = .agg cs) (ei : s.eval i = .c (.int k j))
    (ht : tyArr P t = some (n, e)) (hz : tySize P e = some z) (hj : 0 ≤ j) (hj2 : j < (n : Int))
    (hy : (tyAgg P e = some true ∧ j.toNat * z + z ≤ cs.length ∧ y = .agg ((cs.drop (j.toNat * z)).take z)) ∨ (tyAgg P e = some false ∧ cs[j.toNat * z]? = some y)) (K : Post E G s o ⟨y, []⟩ a next) : o.wp P a w next Q := by
  have h := R.eval x
  have h2 := R.eval i
  rw [ex] at h; rw [ei] at h2
  generalize hv : a.eval x = v at h
  cases h with
  | agg _ us hl hc =>
    rcases hy with ⟨hag, hle, rfl⟩ | ⟨hag, hy⟩
    · refine sound_val R (v := .agg (us.extract (j.toNat * z) (j.toNat * z + z))) ?_ (.agg _ _ (by simp; omega) ?_) K
      · simp [execOp, ho, hv, h2.int_inv, Instr.index, asIntOf, run_underlying (tyArr_run ht), hj, hj2, part, tyAgg_run hag, tySize_run hz]
      · intro q x u e1 e2
        rw [List.getElem?_take] at e1
        split at e1
        · rename_i hq
          rw [List.getElem?_drop] at e1
          refine hc (j.toNat * z + q) x u e1 ?_
          rw [Array.getElem?_extract] at e2
          split at e2
          · exact e2
          · cases e2
        · cases e1
    · have hlt : j.toNat * z < us.size := by have := (List.getElem?_eq_some_iff.1 hy).1; omega
      refine sound_val R (v := us[j.toNat * z]) ?_ (hc (j.toNat * z) y _ hy (by simp [hlt])) K
      simp [execOp, ho, hv, h2.int_inv, Instr.index, asIntOf, run_underlying (tyArr_run ht), hj, hj2, part, tyAgg_run hag, tySize_run hz, hlt]

theorem boundE_run {xo : Option Operand} {d : Nat} {l : Int} (R : Rel E G s a w) (h : boundE (xo.map s.eval) d = some l) (hne : xo ≠ none) : ∃ k, xo.map a.eval = some (.int k l) := by
  cases xo with
  | none => exact absurd rfl hne
  | some x =>
    simp only [Option.map_some, boundE] at h
    have h1 := R.eval x
    split at h
    · rename_i e; cases e
    · rename_i k i e
      simp only [Option.some.injEq] at e h
      rw [e] at h1
      exact ⟨k, by rw [Option.map_some, h1.int_inv, h]⟩
    · cases h

theorem bound_ok {k : IntKind} {i : Int} {y : Nat} {c : BoundsCode} (h0 : 0 ≤ i) (h1 : i ≤ y) (w : World) : (Instr.sliceBound (.int k i) y c).run P w = .ok i.toNat w := by
  simp [Instr.sliceBound, asIntOf, h0, h1]

theorem bounds_run (R : Rel E G s a w) {lo hi : Option Operand} {isSlice : Bool} {len cap : Nat} {l h : Int} (el : boundE (lo.map s.eval) 0 = some l) (eh : boundE (hi.map s.eval) len = some h)
    (h0 : 0 ≤ l) (h1 : l ≤ h) (h2 : h ≤ (len : Int)) (hc : len ≤ cap) : (Instr.sliceBounds isSlice len cap (lo.map a.eval) (hi.map a.eval) none).run P w = .ok (l.toNat, h.toNat, cap) w := by
  have hh : hi = none → h = len := by rintro rfl; simpa [boundE] using eh.symm
  have hl : lo = none → l = 0 := by rintro rfl; simpa [boundE] using el.symm
  cases hi with
  | none =>
    have := hh rfl
    subst this
    cases lo with
    | none => have := hl rfl; subst this; simp [Instr.sliceBounds]
    | some x =>
      obtain ⟨k, e⟩ := boundE_run R el (by simp)
      rw [e]
      simp [Instr.sliceBounds, bound_ok h0 h1]
  | some y =>
    obtain ⟨k, e⟩ := boundE_run R eh (by simp)
    rw [e]
    cases lo with
    | none => have := hl rfl; subst this; simp [Instr.sliceBounds, bound_ok (P := P) (i := h) (y := cap) (by omega) (by omega)]
    | some x =>
      obtain ⟨k', e'⟩ := boundE_run R el (by simp)
      rw [e']
      simp [Instr.sliceBounds, bound_ok (P := P) (i := h) (y := cap) (by omega) (by omega), bound_ok (P := P) (i := l) (y := h.toNat) h0 (by omega)]

theorem bounds_run3 (R : Rel E G s a w) {lo hi mx : Option Operand} {isSlice : Bool} {len cap : Nat} {l h m : Int} (el : boundE (lo.map s.eval) 0 = some l) (hhi : hi ≠ none) (eh : boundE (hi.map s.eval) len = some h) {k : IntKind} (em : mx.map a.eval = some (.int k m))
    (h0 : 0 ≤ l) (h1 : l ≤ h) (h2 : h ≤ m) (h3 : m ≤ (len : Int)) (hc : len ≤ cap) : (Instr.sliceBounds isSlice len cap (lo.map a.eval) (hi.map a.eval) (mx.map a.eval)).run P w = .ok (l.toNat, h.toNat, m.toNat) w := by
  have hl : lo = none → l = 0 := by rintro rfl; simpa [boundE] using el.symm
  rw [em]
  cases hi with
  | none => exact absurd rfl hhi
  | some y =>
    obtain ⟨k, e⟩ := boundE_run R eh (by simp)
    rw [e]
    cases lo with
    | none => have := hl rfl; subst this; simp [Instr.sliceBounds, bound_ok (P := P) (i := m) (y := cap) (by omega) (by omega), bound_ok (P := P) (i := h) (y := m.toNat) (by omega) (by omega)]
    | some x =>
      obtain ⟨k', e'⟩ := boundE_run R el (by simp)
      rw [e']
      simp [Instr.sliceBounds, bound_ok (P := P) (i := m) (y := cap) (by omega) (by omega), bound_ok (P := P) (i := h) (y := m.toNat) (by omega) (by omega), bound_ok (P := P) (i := l) (y := h.toNat) h0 (by omega)]


theorem Slice.sub {K : Know} {z b off : Nat} {rows : List (List PC)} (h : Slice K z b off rows) (l m : Nat) : Slice K z b (off + l * z) ((rows.take m).drop l) := by
  refine ⟨fun r hr => h.1 r (List.mem_of_mem_take (List.mem_of_mem_drop hr)), fun j r hj => ?_⟩
  rw [List.getElem?_drop, List.getElem?_take] at hj
  split at hj
  · have := h.2 (l + j) r hj
    rw [Nat.add_mul, ← Nat.add_assoc] at this
    exact this
  · cases hj

theorem str_extract (l : List UInt8) (i j : Nat) (h : i ≤ j) (hj : j ≤ l.length) : (ByteArray.mk l.toArray).extract i j = ByteArray.mk ((l.take j).drop i).toArray := by
  apply ByteArray.ext
  apply Array.ext'
  simp [ByteArray.data_extract, List.extract_toArray, List.extract_eq_take_drop, List.drop_take]

theorem sliced {z l h cap : Nat} {rows : List (List PC)} {v : Value} (hv : VR G.K (.sl rows) v) (hz : rowsOK z rows) (hlh : l ≤ h) (hh : h ≤ rows.length) :
    ∃ A c, v = .slice A rows.length c ∧ rows.length ≤ c ∧ ∀ m, h ≤ m → m ≤ c → AR G (.c (.sl ((rows.take h).drop l))) (.slice (if m = l then A else A.map (·.add (l * z))) (h - l) (m - l)) := by
  have hlen : ((rows.take h).drop l).length = h - l := by simp; omega
  rcases hv.slice_inv with ⟨rfl, A, cap, rfl, hA⟩ | ⟨z', b, off, cap, rfl, hc, hs⟩
  · refine ⟨A, cap, rfl, by simp, fun m _ hm => ?_⟩
    have : h = 0 := by simpa using hh
    subst this
    have : l = 0 := by omega
    subst this
    cases A with
    | none =>
      have := hA rfl
      have : m = 0 := by omega
      subst this
      simp; exact .c _ _ .nil
    | some a =>
      simp only [List.take_nil, List.drop_nil, Nat.sub_self, Nat.sub_zero, Option.map_some]
      split <;> exact .c _ _ (.at0 _ _)
  · refine ⟨_, cap, rfl, hc, fun m hm hmc => ?_⟩
    by_cases e : ((rows.take h).drop l) = []
    · rw [e]
      have hl0 : h - l = 0 := by rw [← hlen, e]; rfl
      rw [hl0]
      have key : ∀ b' o', AR G (.c (.sl [])) (.slice (some ⟨b', o', none⟩) 0 (m - l)) := fun b' o' => .c _ _ (.sl [] 0 b' o' (m - l) (fun _ _ => .nilIface) (by simp) (by simp) (by simp) (by simp))
      split
      · exact key _ _
      · simp only [Option.map_some, add_at]; exact key _ _
    · have hz' : z' = z := by
        cases rows with
        | nil => simp at e
        | cons r rs => rw [← hs.1 r (by simp)]; exact hz r (by simp)
      subst hz'
      have hlt : l < h := by
        rcases Nat.lt_or_ge l h with h1 | h1
        · exact h1
        · have : ((rows.take h).drop l).length = 0 := by omega
          exact absurd (List.length_eq_zero_iff.1 this) e
      rw [if_neg (by omega)]
      simp only [Option.map_some, add_at]
      have := VR.of_slice (hs.sub l h) (cap := m - l) (by omega)
      rw [hlen] at this
      exact .c _ _ this

theorem sound_slice (R : Rel E G s a w) {t : TypeId} {x : Operand} {lo hi mx : Option Operand} (ho : o.op = .slice t x lo hi mx) {y : AV} (hx : sliceE P t (s.eval x) (lo.map s.eval) (hi.map s.eval) (mx.map s.eval) = some y) (K : Post E G s o ⟨y, []⟩ a next) : o.wp P a w next Q := by
  have h1 := R.eval x
  suffices H : ∃ v, (execOp a.eval o).run P w = .ok (.value v) w ∧ AR G y v by
    obtain ⟨v, hr, hz⟩ := H
    exact sound_val R hr hz K
  generalize hu : a.eval x = u at h1
  unfold sliceE at hx
  split at hx
  · rename_i str e
    rw [e] at h1
    cases h1.str_inv
    split at hx
    · rename_i l h ht em el eh
      split at hx
      · rename_i hc
        obtain ⟨c0, c1, c2⟩ := hc
        cases hx
        have hm : mx = none := by cases mx with | none => rfl | some _ => cases em
        subst hm
        have hs : (ByteArray.mk str.toArray).size = str.length := by simp [ByteArray.size]
        have hb := bounds_run (P := P) (isSlice := false) (cap := str.length) R el eh c0 c1 c2 (Nat.le_refl _)
        refine ⟨_, ?_, .str _⟩
        have hex := str_extract str l.toNat h.toNat (by omega) (by omega)
        simp [execOp, ho, hu, Instr.sliceAt, run_underlying (tyStr_run ht), Instr.slice, hs, hb, hex]
      · cases hx
    · cases hx
  · rename_i n off e
    rw [e] at h1
    cases h1 with
    | ptr _ _ b hb =>
    split at hx
    · rename_i len el' hl
      split at hx
      · rename_i z l h hz el eh em
        have hm : mx = none := by cases mx with | none => rfl | some _ => cases em
        subst hm
        split at hx
        · rename_i hc
          obtain ⟨c0, c1, c2, c3⟩ := hc
          cases hx
          have hb' := bounds_run (P := P) (isSlice := false) (cap := len) R el eh c0 c1 c2 (Nat.le_refl _)
          refine ⟨.slice (some ⟨b, off + l.toNat * z, none⟩) (h.toNat - l.toNat) (len - l.toNat), ?_, .msl n _ _ b _ _ hb (by omega) (fun hd => by have := of_decide_eq_true hd; omega)⟩
          have ha : (if len = l.toNat then (⟨b, off, none⟩ : Addr) else (⟨b, off, none⟩ : Addr).add (l.toNat * z)) = ⟨b, off + l.toNat * z, none⟩ := by
            rw [add_at]
            split
            · have : l.toNat = 0 := by omega
              rw [this]; simp
            · rfl
          simp [execOp, ho, hu, Instr.sliceAt, run_underlying (tyArr_run hl), Instr.sureAddr, hb', tySize_run hz, ha]
        · cases hx
      · cases hx
    · cases hx
  · rename_i n off len ex e
    rw [e] at h1
    cases h1 with
    | msl _ _ _ b cap _ hb hcp hex =>
    split at hx
    · rename_i el' hl
      split at hx
      · rename_i z l h hz el eh em
        have hm : mx = none := by cases mx with | none => rfl | some _ => cases em
        subst hm
        split at hx
        · rename_i hc
          obtain ⟨c0, c1, c2, c3⟩ := hc
          cases hx
          have hb' := bounds_run (P := P) (isSlice := true) (cap := cap) R el eh c0 c1 c2 hcp
          refine ⟨.slice (some ⟨b, off + l.toNat * z, none⟩) (h.toNat - l.toNat) (cap - l.toNat), ?_, .msl n _ _ b _ _ hb (by omega) (fun hd => by
            rw [Bool.and_eq_true] at hd
            have h1 := hex hd.1
            have h2 := of_decide_eq_true hd.2
            omega)⟩
          have ha : (if cap = l.toNat then (some (⟨b, off, none⟩ : Addr)) else (some (⟨b, off, none⟩ : Addr)).map (·.add (l.toNat * z))) = some ⟨b, off + l.toNat * z, none⟩ := by
            simp only [Option.map_some, add_at]
            split
            · have : l.toNat = 0 := by omega
              rw [this]; simp
            · rfl
          simp only [Option.map_some] at ha
          simp [execOp, ho, hu, Instr.sliceAt, run_underlying (tyElem_run hl), Instr.slice, hb', tySize_run hz, ha]
        · cases hx
      · rename_i z l h k m hz el eh em
        split at hx
        · rename_i hc
          obtain ⟨chi, c0, c1, c2, c3, c4⟩ := hc
          cases hx
          subst c4
          have em' : mx.map a.eval = some (.int k m) := by
            cases mx with
            | none => cases em
            | some q =>
              simp only [Option.map_some, Option.some.injEq] at em ⊢
              have := R.eval q
              rw [em] at this
              exact this.int_inv
          by_cases hhi : hi = none
          · exfalso
            subst hhi
            cases chi
          · have hb' := bounds_run3 (P := P) (isSlice := true) (cap := cap) R el hhi eh em' c0 c1 c2 c3 hcp
            refine ⟨.slice (some ⟨b, off, none⟩) h.toNat m.toNat, ?_, ?_⟩
            · simp [execOp, ho, hu, Instr.sliceAt, run_underlying (tyElem_run hl), Instr.slice, hb', tySize_run hz, add_at]
            · have := AR.msl (G := G) n off h.toNat b m.toNat (decide (h = m)) hb (by omega) (fun hd => by have := of_decide_eq_true hd; omega)
              simpa using this
        · cases hx
      · cases hx
    · cases hx
  · split at hx
    · rename_i e rows he hr
      split at hx
      · rename_i z l h hz el eh
        have hv := h1.rows hr
        split at hx
        · rename_i em
          have hm : mx = none := by cases mx with | none => rfl | some _ => cases em
          subst hm
          split at hx
          · rename_i hc
            obtain ⟨cz, c0, c1, c2⟩ := hc
            cases hx
            obtain ⟨A, c, rfl, hcap, hA⟩ := sliced (z := z) (l := l.toNat) (h := h.toNat) (cap := 0) hv cz (by omega) (by omega)
            have hb := bounds_run (P := P) (isSlice := true) (cap := c) R el eh c0 c1 c2 hcap
            refine ⟨_, ?_, hA c (by omega) (Nat.le_refl _)⟩
            simp [execOp, ho, hu, Instr.sliceAt, run_underlying (tyElem_run he), Instr.slice, hb, tySize_run hz]
          · cases hx
        · rename_i k m em
          split at hx
          · rename_i hc
            obtain ⟨chi, cz, c0, c1, c2, c3⟩ := hc
            cases hx
            obtain ⟨A, c, rfl, hcap, hA⟩ := sliced (z := z) (l := l.toNat) (h := h.toNat) (cap := 0) hv cz (by omega) (by omega)
            have em' : mx.map a.eval = some (.int k m) := by
              cases mx with
              | none => cases em
              | some q =>
                simp only [Option.map_some, Option.some.injEq] at em ⊢
                have := R.eval q
                rw [em] at this
                exact this.int_inv
            by_cases hhi : hi = none
            · exfalso
              subst hhi
              cases chi
            · have hb := bounds_run3 (P := P) (isSlice := true) (cap := c) R el hhi eh em' c0 c1 c2 c3 hcap
              refine ⟨_, ?_, hA m.toNat (by omega) (by omega)⟩
              simp [execOp, ho, hu, Instr.sliceAt, run_underlying (tyElem_run he), Instr.slice, hb, tySize_run hz]
          · cases hx
        · cases hx
      · cases hx
    · cases hx

theorem bytesOf_bytes (l : List UInt8) : bytesOf (bytes l) = some l := by
  induction l with
  | nil => rfl
  | cons b l ih =>
    show (match bytesOf (bytes l) with | some l => some (UInt8.ofNat (b.toNat : Int).toNat :: l) | none => none) = _
    rw [ih]; simp

theorem bytes_of_string (G : Gh) (l : List UInt8) : ∀ (j : Nat) (r : List PC) (i : Nat) (c : PC), (bytes l)[j]? = some r → r[i]? = some c → i = 0 ∧ ∃ b, l[j]? = some b ∧ c = .int .u8 b.toNat := by
  intro j r i c hj hi
  simp only [bytes, List.getElem?_map, Option.map_eq_some_iff] at hj
  obtain ⟨b, hb, rfl⟩ := hj
  cases i with
  | zero => simp at hi; exact ⟨rfl, b, hb, hi.symm⟩
  | succ i => simp at hi

theorem bytesOf_inv : ∀ {rows : List (List PC)} {l : List UInt8}, bytesOf rows = some l → ∃ xs : List Int, rows = xs.map (fun n => [PC.int .u8 n]) ∧ l = xs.map fun n => UInt8.ofNat n.toNat
  | [], l, h => by simp only [bytesOf, Option.some.injEq] at h; subst h; exact ⟨[], rfl, rfl⟩
  | [.int .u8 n] :: rows, l, h => by
    simp only [bytesOf] at h
    split at h
    · rename_i l' h'
      cases h
      obtain ⟨xs, rfl, rfl⟩ := bytesOf_inv h'
      exact ⟨n :: xs, rfl, rfl⟩
    · cases h
  | [] :: rows, l, h => by simp [bytesOf] at h
  | [.bool _] :: rows, l, h => by simp [bytesOf] at h
  | [.str _] :: rows, l, h => by simp [bytesOf] at h
  | [.sl _] :: rows, l, h => by simp [bytesOf] at h
  | [.int .i8 _] :: rows, l, h => by simp [bytesOf] at h
  | [.int .i16 _] :: rows, l, h => by simp [bytesOf] at h
  | [.int .i32 _] :: rows, l, h => by simp [bytesOf] at h
  | [.int .i64 _] :: rows, l, h => by simp [bytesOf] at h
  | [.int .u16 _] :: rows, l, h => by simp [bytesOf] at h
  | [.int .u32 _] :: rows, l, h => by simp [bytesOf] at h
  | [.int .u64 _] :: rows, l, h => by simp [bytesOf] at h
  | (_ :: _ :: _) :: rows, l, h => by simp [bytesOf] at h

theorem sound_convert (R : Rel E G s a w) {src dst : TypeId} {x : Operand} (ho : o.op = .convert src dst x) {y : AV} (hx : convE P src dst (s.eval x) = some y) (K : Post E G s o ⟨y, []⟩ a next) : o.wp P a w next Q := by
  have h1 := R.eval x
  generalize hu : a.eval x = u at h1
  unfold convE at hx
  split at hx
  · rename_i k n e
    rw [e] at h1
    cases h1.int_inv
    split at hx
    · rename_i k' hk
      split at hx
      · rename_i hs
        cases hx
        obtain ⟨d, hd⟩ := Option.isSome_iff_exists.1 hs
        exact sound_val R (v := .int k' (k'.wrap n)) (by simp [execOp, ho, hu, convert, run_underlying (tyInt_run hk), run_underlying hd, Conv.intToInt]) (.int _ _) K
      · cases hx
    · cases hx
  · rename_i l e
    rw [e] at h1
    cases h1.str_inv
    split at hx
    · rename_i ht
      split at hx
      · rename_i hs
        cases hx
        obtain ⟨d, hd⟩ := Option.isSome_iff_exists.1 hs
        rw [e] at K
        exact sound_val R (v := .string ⟨l.toArray⟩) (by simp [execOp, ho, hu, convert, run_underlying (tyStr_run ht), run_underlying hd]) (.str _) K
      · cases hx
    · split at hx
      · rename_i el hel
        split at hx
        · rename_i hc
          obtain ⟨hk, hs⟩ := hc
          cases hx
          obtain ⟨d, hd⟩ := Option.isSome_iff_exists.1 hs
          have hrun := Lib.run_convert_string_bytes (P := P) w src dst el ⟨l.toArray⟩ hd (tyElem_run hel) (tyInt_run hk)
          let f : Nat → Option Value := fun j => (l[j]?).map fun b => .int .u8 b.toNat
          have hsz : (ByteArray.mk l.toArray).size = l.length := by simp [ByteArray.size]
          obtain ⟨hle, hM⟩ := R.mem.newKnown (w' := Lib.bytesWorld w el ⟨l.toArray⟩) f (by
            intro j v hj
            simp only [f, Option.map_eq_some_iff] at hj
            obtain ⟨b, hb, rfl⟩ := hj
            have hlt : j < l.length := (List.getElem?_eq_some_iff.1 hb).1
            rw [Lib.bytesWorld_cell w el _ j (by omega)]
            simp [List.getD, hb]) (fun b hb => Lib.bytesWorld_at_old w el _ b hb) rfl rfl rfl (by rw [Lib.bytesWorld_size]; omega)
          refine wp_value (v := .slice (some ⟨w.heap.size, 0, none⟩) l.length (grownCap w (ByteArray.mk l.toArray).size 0 el)) (w' := Lib.bytesWorld w el ⟨l.toArray⟩) ?_ (K _ _ _ hle ?_ hM)
          · simp [execOp, ho, hu, hrun, hsz]
          · have hlen : (bytes l).length = l.length := by simp [bytes]
            have hcap : l.length ≤ grownCap w (ByteArray.mk l.toArray).size 0 el := by
              rw [hsz]; exact Nat.le_add_right _ _
            have := VR.of_slice (K := Know.ext G.K w.heap.size f) (z := 1) (b := w.heap.size) (off := 0) (rows := bytes l) (cap := grownCap w (ByteArray.mk l.toArray).size 0 el) ⟨bytes_rows l, fun j r hj i c hi => by
              obtain ⟨rfl, b, hb, rfl⟩ := bytes_of_string G l j r i c hj hi
              exact ⟨.int .u8 b.toNat, by simp [Know.ext, f, hb], .int _ _⟩⟩ (by omega)
            rw [hlen] at this
            exact .c _ _ this
        · cases hx
      · cases hx
  · split at hx
    · rename_i el rows hel hr
      split at hx
      · rename_i hc
        obtain ⟨ht, hk⟩ := hc
        obtain ⟨l, hl, rfl⟩ := Option.map_eq_some_iff.1 hx
        obtain ⟨xs, rfl, rfl⟩ := bytesOf_inv hl
        have hv := h1.rows hr
        rcases hv.slice_inv with ⟨h, A, cap, rfl, hA⟩ | ⟨z, b, off, cap, rfl, hcap, hs⟩
        · have : xs = [] := by simpa using h
          subst this
          cases A with
          | none =>
            have := hA rfl
            subst this
            have := run_convert_bytes_nil (P := P) w src el (tyElem_run hel) (tyInt_run hk) 0 0 dst (tyStr_run ht)
            exact sound_val R (v := .string ⟨#[]⟩) (by simp [execOp, ho, hu, this]; rfl) (.str []) K
          | some a0 =>
            have := run_convert_bytes_back (P := P) w src dst el a0 cap [] (tyElem_run hel) (tyInt_run hk) (tyStr_run ht) (fun j hj => by simp at hj)
            have this' : (convert src dst (.slice (some a0) 0 cap)).run P w = .ok (.string ⟨#[]⟩) w := by simpa using this
            exact sound_val R (v := .string ⟨#[]⟩) (by simp [execOp, ho, hu, this']) (.str []) K
        · have hcell : ∀ i, i < xs.length → w.cell? ⟨b, off + i, none⟩ = some (.int .u8 (xs.getD i 0)) := by
            intro i hi
            have hz : z = 1 := by
              cases xs with
              | nil => simp at hi
              | cons x xs => exact (hs.1 [PC.int .u8 x] (by simp)).symm
            subst hz
            obtain ⟨v, h1, h2⟩ := hs.2 i [PC.int .u8 xs[i]] (by simp [hi]) 0 _ rfl
            cases h2
            have := R.mem.agree _ _ _ h1
            simpa [hi] using this
          have := run_convert_bytes_arg (P := P) w src el (tyElem_run hel) (tyInt_run hk) b off xs.length cap xs rfl hcell dst (tyStr_run ht)
          refine sound_val R (v := .string (strOfNums xs)) (by simp [execOp, ho, hu, this]) ?_ K
          exact .str _
      · cases hx
    · cases hx

theorem freeze1 (w : World) (b n : Nat) {vs : Array Value} {ty : TypeId} {p : Nat × Nat} (h : w.heap[b]? = some (.cells vs ty p)) (hp : FrOK vs.size p) (hn : n = vs.size) :
    (w.freeze ⟨b, n, none⟩ 1).heap[b]? = some (.cells vs ty (n, n + 1)) ∧ (∀ k, k ≠ b → (w.freeze ⟨b, n, none⟩ 1).heap[k]? = w.heap[k]?) ∧ (w.freeze ⟨b, n, none⟩ 1).os = w.os ∧ (w.freeze ⟨b, n, none⟩ 1).tape = w.tape ∧ (w.freeze ⟨b, n, none⟩ 1).output = w.output ∧ (w.freeze ⟨b, n, none⟩ 1).heap.size = w.heap.size := by
  subst hn
  unfold World.freeze
  rw [if_neg (by decide)]
  have hlt : b < w.heap.size := (Array.getElem?_eq_some_iff.1 h).1
  have hv : w.heap[b] = .cells vs ty p := (Array.getElem?_eq_some_iff.1 h).2
  refine ⟨?_, fun k hk => ?_, rfl, rfl, rfl, by simp⟩
  · show (w.heap.modify b _)[b]? = _
    rw [Array.getElem?_eq_getElem (by simpa using hlt), Array.getElem_modify, if_pos rfl, hv]
    rcases hp with rfl | rfl
    · simp
    · simp
  · show (w.heap.modify b _)[k]? = _
    rcases Nat.lt_or_ge k w.heap.size with h1 | h1
    · rw [Array.getElem?_eq_getElem (by simpa using h1), Array.getElem_modify, if_neg (Ne.symm hk), Array.getElem?_eq_getElem h1]
    · rw [Array.getElem?_eq_none (by simpa using h1), Array.getElem?_eq_none h1]

/-- A row of octets, converted to its own type. -/
theorem sound_convSame (R : Rel E G s a w) {t el : TypeId} {x : Operand} (ho : o.op = .convert t t x) {r z : Nat} {rows : List (List PC)} (hx : s.eval x = .own r z rows) (hel : tyElem P t = some el) (hk : tyInt P el = some .u8) (h0 : 0 < rows.length)
    (hm : s.mem r = some (.row z rows.length)) (K : Post E G s o ⟨.own r z rows, [(r, .row z rows.length)]⟩ a next) : o.wp P a w next Q := by
  have h1 := R.eval x
  rw [hx] at h1
  generalize hu : a.eval x = u at h1
  have h1' := h1
  cases h1 with
  | own _ _ _ _ bk fr hh hl hr hv ha =>
  have hhome := R.mem.home r
  rw [hm, hh] at hhome
  obtain ⟨_, hfr, hrow⟩ := hhome
  have hu' := ha hfr
  cases bk with
  | none =>
    have : rows.length = 0 := hrow
    omega
  | some p =>
    obtain ⟨b, cap⟩ := p
    obtain ⟨vs, ty, ⟨q, q1, qf⟩, q2, q3, q4, q5, q6⟩ := hrow
    have hu2 : u = .slice (some ⟨b, 0, none⟩) rows.length cap := hu'
    subst hu2
    obtain ⟨f1, f2, f3, f4, f5, f6⟩ := freeze1 w b vs.size q1 qf rfl
    have hrun : (execOp a.eval o).run P w = .ok (.value (.slice (some ⟨b, 0, none⟩) rows.length cap)) (w.freeze ⟨b, vs.size, none⟩ 1) := by
      have hsh : w.shape? b = some (ty, vs.size) := by unfold World.shape?; rw [q1]
      simp [execOp, ho, hu, convert, run_underlying (tyElem_run hel), run_underlying (tyInt_run hk), markStringish, hsh]
    have hc : ∀ b' o', (w.freeze ⟨b, vs.size, none⟩ 1).cell? ⟨b', o', none⟩ = w.cell? ⟨b', o', none⟩ := by
      intro b' o'
      by_cases e : b' = b
      · subst e; simp only [World.cell?, f1, q1]
      · simp only [World.cell?, f2 b' e]
    refine wp_value hrun (K G _ _ (Gh.le_refl G) h1' ?_)
    refine (R.mem.update (w' := w.freeze ⟨b, vs.size, none⟩ 1) (Gh.le_refl G) r (.row z rows.length) (.row z (some (b, cap)) fr) ?_ (fun _ _ => rfl) hh ?_ ?_ f3 f4 f5 (by rw [f6]; exact Nat.le_refl _) ?_ (fun _ _ _ _ => rfl)).congr (AS.mem_wr1 s r _)
    · intro b' o' v hk'
      rw [hc]; exact R.mem.agree b' o' v hk'
    · exact ⟨rfl, hfr, vs, ty, ⟨_, f1, .inr rfl⟩, q2, q3, q4, q5, q6⟩
    · intro i x' b' hi e1 e2
      have hne : b' ≠ b := fun e => hi (R.mem.inj i r x' _ b' e1 hh e2 (by rw [e]; rfl))
      exact ⟨f2 b' hne, fun _ => rfl, fun e => hne (by simpa [Home.blk] using e.symm)⟩
    · intro k hk' hx'
      refine f2 k fun e => ?_
      subst e
      rcases q5 with h | h
      · omega
      · exact hx' h

end
end Go.Proofs.YtcfijanfcgnnhaaDoor.AM
