/-
  Q1: Am0 Am1 Am2.
-/
import Derived.WalkKit
import Derived.Orders
import Derived.Below
import Derived.OrdersIn
import Derived.TacticsIn
import Derived.RangeFuncWrites
import Derived.RangeFuncCalls
import Derived.MapKept
import Derived.Laws.CopyRow
import Derived.Laws.Append
import Derived.Laws.Entries
set_option linter.unusedVariables false
set_option linter.unusedSimpArgs false
namespace Go.Proofs.Ytofkehedjcinhaa.AM
open Go

/-- A pure cell: a scalar, a text, a slice by its contents (rows of cells). -/
inductive PC where
  | int (k : IntKind) (n : Int)
  | bool (b : Bool)
  | str (s : List UInt8)
  | sl (rows : List (List PC))
  | junk
  deriving Inhabited

/-- Cells that are known and never change. -/
abbrev Know := Nat → Nat → Option Value

def Know.le (K K' : Know) : Prop := ∀ b o v, K b o = some v → K' b o = some v
theorem Know.le_refl (K : Know) : K.le K := fun _ _ _ h => h
theorem Know.le_trans {K K' K'' : Know} (h : K.le K') (h' : K'.le K'') : K.le K'' := fun b o v e => h' b o v (h b o v e)

inductive VR (K : Know) : PC → Value → Prop
  | int (k : IntKind) (n : Int) : VR K (.int k n) (.int k n)
  | bool (b : Bool) : VR K (.bool b) (.bool b)
  | str (s : List UInt8) : VR K (.str s) (.string ⟨s.toArray⟩)
  | nil : VR K (.sl []) (.slice none 0 0)
  | at0 (a : Addr) (cap : Nat) : VR K (.sl []) (.slice (some a) 0 cap)
  | sl (rows : List (List PC)) (z b off cap : Nat) (f : Nat → Nat → Value)
      (hz : ∀ r ∈ rows, r.length = z) (hc : rows.length ≤ cap)
      (hk : ∀ (j : Nat) (r : List PC) (i : Nat) (c : PC), rows[j]? = some r → r[i]? = some c → K b (off + j * z + i) = some (f j i))
      (hv : ∀ (j : Nat) (r : List PC) (i : Nat) (c : PC), rows[j]? = some r → r[i]? = some c → VR K c (f j i)) :
      VR K (.sl rows) (.slice (some ⟨b, off, none⟩) rows.length cap)
  | junk (v : Value) (h : v.oneCell' = true) : VR K .junk v

theorem VR.mono {K K' : Know} (h : K.le K') {x : PC} {v : Value} (hv : VR K x v) : VR K' x v := by
  induction hv with
  | int k n => exact .int k n
  | bool b => exact .bool b
  | str s => exact .str s
  | nil => exact .nil
  | at0 a cap => exact .at0 a cap
  | sl rows z b off cap f hz hc hk _ ih => exact .sl rows z b off cap f hz hc (fun j r i c hj hi => h _ _ _ (hk j r i c hj hi)) ih
  | junk v h => exact .junk v h
theorem VR.one {K : Know} {x : PC} {v : Value} (h : VR K x v) : v.oneCell' = true := by
  cases h with
  | junk _ h => exact h
  | _ => rfl
theorem one_cells {v : Value} (h : v.oneCell' = true) : v.cells = #[v] := by
  cases v <;> first | rfl | cases h

/-- A row of cells is known at a place. -/
def Known (K : Know) (b off : Nat) (cs : List PC) : Prop := ∀ (i : Nat) (c : PC), cs[i]? = some c → ∃ v, K b (off + i) = some v ∧ VR K c v

theorem Known.mono {K K' : Know} (h : K.le K') {b off : Nat} {cs : List PC} (hk : Known K b off cs) : Known K' b off cs :=
  fun i c hi => let ⟨v, h1, h2⟩ := hk i c hi; ⟨v, h _ _ _ h1, h2.mono h⟩

theorem Known.nil (K : Know) (b off : Nat) : Known K b off [] := fun i c h => by simp at h

theorem Known.drop {K : Know} {b off : Nat} {cs : List PC} (h : Known K b off cs) (n : Nat) : Known K b (off + n) (cs.drop n) := fun i c hi => by
  rw [List.getElem?_drop] at hi
  obtain ⟨v, h1, h2⟩ := h (n + i) c hi
  exact ⟨v, by rw [Nat.add_assoc]; exact h1, h2⟩

theorem Known.take {K : Know} {b off : Nat} {cs : List PC} (h : Known K b off cs) (n : Nat) : Known K b off (cs.take n) := fun i c hi => by
  rw [List.getElem?_take] at hi
  split at hi
  · exact h i c hi
  · cases hi

def Slice (K : Know) (z b off : Nat) (rows : List (List PC)) : Prop := (∀ r ∈ rows, r.length = z) ∧ ∀ (j : Nat) (r : List PC), rows[j]? = some r → Known K b (off + j * z) r

theorem Slice.mono {K K' : Know} (h : K.le K') {z b off : Nat} {rows : List (List PC)} (hs : Slice K z b off rows) : Slice K' z b off rows :=
  ⟨hs.1, fun j r hj => (hs.2 j r hj).mono h⟩

theorem VR.of_slice {K : Know} {z b off cap : Nat} {rows : List (List PC)} (h : Slice K z b off rows) (hc : rows.length ≤ cap) :
    VR K (.sl rows) (.slice (some ⟨b, off, none⟩) rows.length cap) := by
  refine .sl rows z b off cap (fun j i => (K b (off + j * z + i)).getD (.bool false)) h.1 hc ?_ ?_
  · intro j r i c hj hi
    obtain ⟨v, h1, _⟩ := h.2 j r hj i c hi
    simp [h1]
  · intro j r i c hj hi
    obtain ⟨v, h1, h2⟩ := h.2 j r hj i c hi
    simp [h1, h2]

theorem VR.slice_inv {K : Know} {rows : List (List PC)} {v : Value} (h : VR K (.sl rows) v) :
    (rows = [] ∧ ∃ A cap, v = .slice A 0 cap ∧ (A = none → cap = 0)) ∨ ∃ z b off cap, v = .slice (some ⟨b, off, none⟩) rows.length cap ∧ rows.length ≤ cap ∧ Slice K z b off rows := by
  cases h with
  | nil => exact .inl ⟨rfl, none, 0, rfl, fun _ => rfl⟩
  | at0 a cap => exact .inl ⟨rfl, some a, cap, rfl, fun h => by cases h⟩
  | sl _ z b off cap f hz hc hk hv =>
    exact .inr ⟨z, b, off, cap, rfl, hc, hz, fun j r hj i c hi => ⟨_, hk j r i c hj hi, hv j r i c hj hi⟩⟩

theorem VR.slice_form {K : Know} {rows : List (List PC)} {v : Value} (h : VR K (.sl rows) v) : ∃ a cap, v = .slice a rows.length cap ∧ rows.length ≤ cap := by
  rcases h.slice_inv with ⟨rfl, A, cap, rfl, _⟩ | ⟨z, b, off, cap, rfl, hc, _⟩
  · exact ⟨A, cap, rfl, by simp⟩
  · exact ⟨_, cap, rfl, hc⟩

/-- The cells of a value that lies flat. -/
def VRs (K : Know) (cs : List PC) (vs : List Value) : Prop := cs.length = vs.length ∧ ∀ (i : Nat) (c : PC) (v : Value), cs[i]? = some c → vs[i]? = some v → VR K c v

theorem VRs.mono {K K' : Know} (h : K.le K') {cs : List PC} {vs : List Value} (hs : VRs K cs vs) : VRs K' cs vs := ⟨hs.1, fun i c v h1 h2 => (hs.2 i c v h1 h2).mono h⟩
theorem VRs.nil (K : Know) : VRs K [] [] := ⟨rfl, fun i c v h => by simp at h⟩
theorem VRs.cons {K : Know} {c : PC} {v : Value} {cs : List PC} {vs : List Value} (h : VR K c v) (hs : VRs K cs vs) : VRs K (c :: cs) (v :: vs) :=
  ⟨by simp [hs.1], fun i c' v' h1 h2 => by
    cases i with
    | zero => simp at h1 h2; subst h1; subst h2; exact h
    | succ i => simp at h1 h2; exact hs.2 i c' v' h1 h2⟩
theorem VRs.cons_inv {K : Know} {c : PC} {cs : List PC} {vs : List Value} (h : VRs K (c :: cs) vs) : ∃ v vs', vs = v :: vs' ∧ VR K c v ∧ VRs K cs vs' := by
  obtain ⟨h1, h2⟩ := h
  cases vs with
  | nil => simp at h1
  | cons v vs =>
    refine ⟨v, vs, rfl, h2 0 c v (by simp) (by simp), by simpa using h1, fun i c' v' e1 e2 => h2 (i + 1) c' v' (by simpa using e1) (by simpa using e2)⟩

/-- A home: where an abstract object or a row that is owned lies. -/
inductive Home where
  | obj (b : Nat)
  | row (z : Nat) (bk : Option (Nat × Nat)) (fr : Nat)

def Home.blk : Home → Option Nat
  | .obj b => some b
  | .row _ bk _ => bk.map (·.1)

structure Gh where
  K : Know
  h : Nat → Option Home

inductive Home.le : Home → Home → Prop
  | obj (b : Nat) : Home.le (.obj b) (.obj b)
  | row (z : Nat) (bk bk' : Option (Nat × Nat)) (fr fr' : Nat) (h : fr ≤ fr') (he : fr = fr' → bk = bk') : Home.le (.row z bk fr) (.row z bk' fr')

theorem Home.le_refl (h : Home) : Home.le h h := by
  cases h with
  | obj b => exact .obj b
  | row z bk fr => exact .row z bk bk fr fr (Nat.le_refl _) (fun _ => rfl)

theorem Home.le_trans {a b c : Home} (h : Home.le a b) (h' : Home.le b c) : Home.le a c := by
  cases h with
  | obj b => exact h'
  | row z bk bk' fr fr' h1 h2 =>
    cases h' with
    | row _ _ bk'' _ fr'' h3 h4 =>
      refine .row z bk bk'' fr fr'' (Nat.le_trans h1 h3) (fun e => ?_)
      have e1 : fr = fr' := by omega
      have e2 : fr' = fr'' := by omega
      rw [h2 e1, h4 e2]

structure Gh.le (G G' : Gh) : Prop where
  K : G.K.le G'.K
  h : ∀ n h, G.h n = some h → ∃ h', G'.h n = some h' ∧ Home.le h h'

theorem Gh.le_refl (G : Gh) : G.le G := ⟨Know.le_refl _, fun _ h e => ⟨h, e, Home.le_refl h⟩⟩
theorem Gh.le_trans {a b c : Gh} (h : a.le b) (h' : b.le c) : a.le c :=
  ⟨Know.le_trans h.K h'.K, fun n x e => let ⟨y, e1, l1⟩ := h.h n x e; let ⟨z, e2, l2⟩ := h'.h n y e1; ⟨z, e2, Home.le_trans l1 l2⟩⟩

/-- Abstract values. -/
inductive AV where
  | undef
  | c (x : PC)
  | agg (cs : List AV)
  | nilsl
  | own (r z : Nat) (rows : List (List PC))
  | ptr (n off : Nat)
  | msl (n off len : Nat) (ex : Bool)
  | nilptr
  | rptr (cs : List PC)
  | clo (f : FuncId) (caps : List (List PC))
  | mp (n : Nat)
  | nilmp
  | ubool
  | tup (vs : List AV)
  deriving Inhabited

def homeVal (bk : Option (Nat × Nat)) (n : Nat) : Value :=
  match bk with
  | none => .slice none 0 0
  | some (b, cap) => .slice (some ⟨b, 0, none⟩) n cap

inductive AR (G : Gh) : AV → Value → Prop
  | undef (v : Value) : AR G .undef v
  | c (x : PC) (v : Value) (h : VR G.K x v) : AR G (.c x) v
  | agg (cs : List AV) (us : Array Value) (hl : cs.length = us.size) (h : ∀ (i : Nat) (x : AV) (u : Value), cs[i]? = some x → us[i]? = some u → AR G x u) : AR G (.agg cs) (.agg us)
  | nilsl : AR G .nilsl (.slice none 0 0)
  | own (r z : Nat) (rows : List (List PC)) (v : Value) (bk : Option (Nat × Nat)) (fr : Nat) (hh : G.h r = some (.row z bk fr)) (hl : rows.length ≤ fr)
      (hr : ∀ x ∈ rows, x.length = z) (hv : VR G.K (.sl rows) v) (ha : rows.length = fr → v = homeVal bk rows.length) : AR G (.own r z rows) v
  | ptr (n off b : Nat) (h : G.h n = some (.obj b)) : AR G (.ptr n off) (.pointer (some ⟨b, off, none⟩))
  | msl (n off len b cap : Nat) (ex : Bool) (h : G.h n = some (.obj b)) (hc : len ≤ cap) (he : ex = true → cap = len) : AR G (.msl n off len ex) (.slice (some ⟨b, off, none⟩) len cap)
  | nilptr : AR G .nilptr (.pointer none)
  | rptr (cs : List PC) (b off : Nat) (h : Known G.K b off cs) : AR G (.rptr cs) (.pointer (some ⟨b, off, none⟩))
  | clo (f : FuncId) (caps : List (List PC)) (us : List (Nat × Nat)) (hl : caps.length = us.length)
      (h : ∀ (i : Nat) (cs : List PC) (b : Nat × Nat), caps[i]? = some cs → us[i]? = some b → Known G.K b.1 b.2 cs) :
      AR G (.clo f caps) (.func (.func f) #[] (us.map fun b => Value.pointer (some ⟨b.1, b.2, none⟩)).toArray)
  | mp (n b : Nat) (h : G.h n = some (.obj b)) : AR G (.mp n) (.map (some b))
  | nilmp : AR G .nilmp (.map none)
  | ubool (b : Bool) : AR G .ubool (.bool b)
  | tup (vs : List AV) (us : Array Value) (hl : vs.length = us.size) (h : ∀ (i : Nat) (x : AV) (u : Value), vs[i]? = some x → us[i]? = some u → AR G x u) : AR G (.tup vs) (.tuple us)

theorem AR.mono {G G' : Gh} (h : G.le G') {x : AV} {v : Value} (hx : AR G x v) : AR G' x v := by
  induction hx with
  | undef v => exact .undef v
  | c x v hv => exact .c x v (hv.mono h.K)
  | agg vs us hl _ ih => exact .agg vs us hl ih
  | nilsl => exact .nilsl
  | own r z rows v bk fr hh hl hr hv ha =>
    obtain ⟨h', e, l⟩ := h.h r _ hh
    cases l with
    | row _ _ bk' _ fr' h1 h2 =>
      refine .own r z rows v bk' fr' e (by omega) hr (hv.mono h.K) (fun e' => ?_)
      have e1 : rows.length = fr := by omega
      have e2 : fr = fr' := by omega
      rw [← h2 e2]; exact ha e1
  | ptr n off b hh =>
    obtain ⟨h', e, l⟩ := h.h n _ hh
    cases l; exact .ptr n off b e
  | msl n off len b cap ex hh hc he =>
    obtain ⟨h', e, l⟩ := h.h n _ hh
    cases l; exact .msl n off len b cap ex e hc he
  | nilptr => exact .nilptr
  | rptr cs b off hk => exact .rptr cs b off (hk.mono h.K)
  | clo f caps us hl hk => exact .clo f caps us hl (fun i cs b h1 h2 => (hk i cs b h1 h2).mono h.K)
  | mp n b hh =>
    obtain ⟨h', e, l⟩ := h.h n _ hh
    cases l; exact .mp n b e
  | nilmp => exact .nilmp
  | ubool b => exact .ubool b
  | tup vs us hl _ ih => exact .tup vs us hl ih


inductive MC where
  | obj (cells : List AV) (froz : Bool)
  | row (z fr : Nat)
  | mp (ag : Bool) (es : List (List UInt8 × List PC))
  deriving Inhabited

/-- An association list. -/
def look {α : Type} : List (Nat × α) → Nat → Option α
  | [], _ => none
  | (j, x) :: l, i => if j = i then some x else look l i

structure AS where
  t : List (Nat × AV)
  m : List (Nat × MC)

def AS.get (s : AS) (i : Nat) : AV := (look s.t i).getD .undef
def AS.mem (s : AS) (n : Nat) : Option MC := look s.m n
def AS.put (s : AS) (d : Option Tmp) (x : AV) : AS := match d with | some i => { s with t := (i, x) :: s.t } | none => s
def AS.wr (s : AS) (l : List (Nat × MC)) : AS := { s with m := l ++ s.m }
def AS.eval (s : AS) : Operand → AV
  | .tmp t => s.get t
  | .const v => match v with
    | .int k n => .c (.int k n)
    | .bool b => .c (.bool b)
    | .string b => .c (.str b.data.toList)
    | .slice none 0 0 => .nilsl
    | .pointer none => .nilptr
    | .map none => .nilmp
    | _ => .undef
  | .global _ => .undef
  | .func f => .clo f []

/-- A program that asks memory by names. -/
inductive EP (α : Type) where
  | ret (a : α)
  | fail
  | ask (n : Nat) (k : Option MC → EP α)

namespace EP
variable {α β : Type}
def bind : EP α → (α → EP β) → EP β
  | ret a, f => f a
  | fail, _ => fail
  | ask n k, f => ask n fun c => (k c).bind f
def run (m : Nat → Option MC) : EP α → Option (α × List Nat)
  | ret a => some (a, [])
  | fail => none
  | ask n k => match (k (m n)).run m with
    | some (a, l) => some (a, n :: l)
    | none => none

theorem run_agree {m m' : Nat → Option MC} : ∀ (p : EP α) (a : α) (l : List Nat), p.run m = some (a, l) → (∀ n ∈ l, m' n = m n) → p.run m' = some (a, l)
  | ret a, _, _, h, _ => h
  | fail, _, _, h, _ => by simp [run] at h
  | ask n k, a, l, h, hm => by
    simp only [run] at h ⊢
    split at h
    · rename_i a' l' hk
      simp only [Option.some.injEq, Prod.mk.injEq] at h
      obtain ⟨rfl, rfl⟩ := h
      rw [hm n (by simp), run_agree (k (m n)) a' l' hk (fun x hx => hm x (by simp [hx]))]
    · cases h
end EP

/-- What an operation leaves: a value, and what it writes. -/
structure Eff where
  val : AV
  wr : List (Nat × MC)

def AV.toPC : AV → Option PC
  | .c x => some x
  | .nilsl => some (.sl [])
  | .own _ _ rows => some (.sl rows)
  | .ptr _ _ => some .junk
  | .mp _ => some .junk
  | .nilptr => some .junk
  | .nilmp => some .junk
  | _ => none
def toPCs : List AV → Option (List PC)
  | [] => some []
  | x :: l => match x.toPC, toPCs l with | some c, some cs => some (c :: cs) | _, _ => none
/-- The cells of a value. -/
def AV.flat : AV → Option (List AV)
  | .agg cs => some cs
  | .undef | .tup _ => none
  | x => some [x]
/-- A cell's own: neither unknown nor of several cells. -/
def AV.scal : AV → Bool
  | .agg _ | .undef | .tup _ => false
  | _ => true
def AV.rows : AV → Option (List (List PC))
  | .c (.sl rows) => some rows
  | .own _ _ rows => some rows
  | .nilsl => some []
  | _ => none

def tyAgg (P : Program) (t : TypeId) : Option Bool := (P.underlying t).map fun | .struct _ | .array _ _ => true | _ => false
def tySize (P : Program) (t : TypeId) : Option Nat := (P.info? t).map (·.size)
def tyBytes (P : Program) (t : TypeId) : Option Nat := (P.info? t).map (·.bytes)
def Value.toAV : Value → AV
  | .int k n => .c (.int k n)
  | .bool b => .c (.bool b)
  | .string b => .c (.str b.data.toList)
  | .slice none 0 0 => .nilsl
  | .pointer none => .nilptr
  | .map none => .nilmp
  | _ => .undef
def tyZero (P : Program) (t : TypeId) : Option (List AV) := ((P.info? t).bind (·.zero)).map fun v => v.cells.toList.map Value.toAV
/-- The element of a slice type. -/
def tyElem (P : Program) (t : TypeId) : Option TypeId := match P.underlying t with | some (.slice e) => some e | _ => none
def tyArr (P : Program) (t : TypeId) : Option (Nat × TypeId) := match P.underlying t with | some (.array n e) => some (n, e) | _ => none
def tyInt (P : Program) (t : TypeId) : Option IntKind := match P.underlying t with | some (.int k) => some k | _ => none
def tyStr (P : Program) (t : TypeId) : Bool := match P.underlying t with | some .string => true | _ => false
/-- A field: where it lies, its type, how many cells. -/
def tyField (P : Program) (t : TypeId) (i : Nat) : Option (Nat × TypeId × Nat) :=
  match P.underlying t with
  | some (.struct fs) => match fs[i]? with
    | some f => match tySize P f.type with | some z => some (f.offset, f.type, z) | none => none
    | none => none
  | _ => none
def tyMap (P : Program) (t : TypeId) : Option (TypeId × TypeId) := match P.underlying t with | some (.map k e) => some (k, e) | _ => none

def rowsOK (z : Nat) (rows : List (List PC)) : Prop := ∀ r ∈ rows, r.length = z
instance (z : Nat) (rows : List (List PC)) : Decidable (rowsOK z rows) := inferInstanceAs (Decidable (∀ r ∈ rows, r.length = z))
def objName (d : Nat) : Nat := 64 * d
def rowName (d : Nat) : Nat := 64 * d + 1
def resName (d i : Nat) : Nat := 64 * d + 2 + i
def resCell (d i j : Nat) : Nat := 64 * d + 10 + 6 * i + j
def inObj (i : Nat) : Nat := 64 * (100000 + i)
def inRow (i j : Nat) : Nat := 64 * (100000 + i) + 1 + j
def outName (i : Nat) : Nat := 64 * (200000 + i)
def outCell (i j : Nat) : Nat := 64 * (200000 + i) + 1 + j

inductive OV where
  | c (x : PC)
  | own (z : Nat) (rows : List (List PC))
  | mp (ag : Bool) (es : List (List UInt8 × List PC))
  | nilmp
  | nilptr
  | self
inductive RV where
  | pv (x : AV)
  | fresh (z : Nat) (rows : List (List PC))
  | newobj (cells : List OV)
  | ref (i : Nat)
structure CRes where
  res : List RV
  objs : List (List OV)
abbrev Contract := List AV → List (List OV) → Option CRes

def ifE {α : Type} (b : Bool) (x y : α) : α := match b with | true => x | false => y
@[simp] theorem ifE_true {α : Type} (x y : α) : ifE true x y = x := rfl
@[simp] theorem ifE_false {α : Type} (x y : α) : ifE false x y = y := rfl

def strOp (op : BinOp) (a b : List UInt8) : Option PC :=
  match op with
  | .add => if a.length + b.length ≤ 9223372036854775807 then some (.str (a ++ b)) else none
  | .eql => some (.bool (a == b))
  | .neq => some (.bool (!(a == b)))
  | .lss => some (.bool (Op.bytesLess a b))
  | .leq => some (.bool (Op.bytesLess a b || a == b))
  | .gtr => some (.bool (!(Op.bytesLess a b || a == b)))
  | .geq => some (.bool (!(Op.bytesLess a b)))
  | _ => none
def intOp (op : BinOp) (k : IntKind) (a b : Int) : Option PC :=
  match op with
  | .add => some (.int k (k.wrap (a + b)))
  | .sub => some (.int k (k.wrap (a - b)))
  | .mul => some (.int k (k.wrap (a * b)))
  | .quo => if b = 0 then none else some (.int k (k.wrap (a.tdiv b)))
  | .rem => if b = 0 then none else some (.int k (a.tmod b))
  | .and => some (.int k (k.wrap (BitVec.ofInt k.bits a &&& BitVec.ofInt k.bits b).toNat))
  | .or => some (.int k (k.wrap (BitVec.ofInt k.bits a ||| BitVec.ofInt k.bits b).toNat))
  | .xor => some (.int k (k.wrap (BitVec.ofInt k.bits a ^^^ BitVec.ofInt k.bits b).toNat))
  | .andNot => some (.int k (k.wrap (BitVec.ofInt k.bits a &&& ~~~ BitVec.ofInt k.bits b).toNat))
  | .eql => some (.bool (a == b))
  | .neq => some (.bool (a != b))
  | .lss => some (.bool (decide (a < b)))
  | .leq => some (.bool (decide (a ≤ b)))
  | .gtr => some (.bool (decide (a > b)))
  | .geq => some (.bool (decide (a ≥ b)))
  | _ => none
def shOp (op : BinOp) (k : IntKind) (a b : Int) : Option PC :=
  if b < 0 then none else
  match op with
  | .shl => some (.int k (k.wrap (a * 2 ^ (min b.toNat k.bits))))
  | .shr => some (.int k (a.fdiv (2 ^ (min b.toNat k.bits))))
  | _ => none
def isSh : BinOp → Bool | .shl | .shr => true | _ => false
def tyBool (P : Program) (t : TypeId) : Bool := match P.underlying t with | some .bool => true | _ => false
def tyPtr (P : Program) (t : TypeId) : Bool := match P.underlying t with | some (.pointer _) => true | _ => false
/-- Two values of several cells, held against each other as their type says. -/
def eqFs (rec_ : TypeId → List PC → List PC → Option Bool) (P : Program) (xs ys : List PC) : List Field → Option Bool
  | [] => some true
  | f :: fs => if f.name ≠ "_" then match tySize P f.type with
      | some z => if f.offset + z ≤ xs.length ∧ f.offset + z ≤ ys.length then
          match rec_ f.type ((xs.drop f.offset).take z) ((ys.drop f.offset).take z), eqFs rec_ P xs ys fs with
          | some a, some b => some (a && b)
          | _, _ => none
        else none
      | none => none
    else eqFs rec_ P xs ys fs
def eqE (P : Program) : Nat → TypeId → List PC → List PC → Option Bool
  | 0, _, _, _ => none
  | d + 1, t, xs, ys => match P.underlying t with
    | some .bool => match xs, ys with | [.bool a], [.bool b] => some (a == b) | _, _ => none
    | some (.int _) => match xs, ys with | [.int k a], [.int k' b] => if k = k' then some (a == b) else none | _, _ => none
    | some .string => match xs, ys with | [.str a], [.str b] => some (a == b) | _, _ => none
    | some (.struct fs) => if P.stoodInHeld t then none else eqFs (eqE P d) P xs ys fs.toList
    | _ => none
def notIf (op : BinOp) (b : Bool) : Option AV := match op with | .eql => some (.c (.bool b)) | .neq => some (.c (.bool (!b))) | _ => none
def isEq : BinOp → Bool | .eql | .neq => true | _ => false
def binE (P : Program) (op : BinOp) (t : TypeId) (x y : AV) : Option AV :=
  match x, y with
  | .c (.int k a), .c (.int k' b) => if isSh op then (shOp op k a b).map .c else if k = k' then (intOp op k a b).map .c else none
  | .c (.str a), .c (.str b) => (strOp op a b).map .c
  | .c (.bool a), .c (.bool b) => if tyBool P t then notIf op (a == b) else none
  | .ptr _ _, .nilptr | .rptr _, .nilptr => if tyPtr P t then notIf op false else none
  | .nilptr, .nilptr => if tyPtr P t then notIf op true else none
  | .mp _, .nilmp => if (tyMap P t).isSome then notIf op false else none
  | .nilmp, .nilmp => if (tyMap P t).isSome then notIf op true else none
  | .agg xs, .agg ys => if P.eqGuardType P.depth t = false ∧ tyAgg P t = some true then match toPCs xs, toPCs ys with
      | some a, some b => (eqE P 10000 t a b).bind (notIf op)
      | _, _ => none
    else none
  | .nilsl, .nilsl => if (tyElem P t).isSome then notIf op true else none
  | x, .nilsl => match tyElem P t, x.rows with
    | some _, some [] => if isEq op then some .ubool else none
    | some _, some (_ :: _) => notIf op false
    | _, _ => none
  | _, _ => none

def putAt (cells : List AV) (off : Nat) (xs : List AV) : List AV := cells.take off ++ xs ++ cells.drop (off + xs.length)
/-- Parts laid over cells, as 'build' does. -/
def fillE (place : Nat → Option (Nat × Nat)) : List AV → List (Nat × AV) → Option (List AV)
  | cells, [] => some cells
  | cells, (i, x) :: rest => match place i, x.flat with
    | some (off, z), some xs => if xs.length = z ∧ off + z ≤ cells.length then fillE place (putAt cells off xs) rest else none
    | _, _ => none
def tyPlaces (P : Program) (t : TypeId) : Option (List (Nat × Nat)) :=
  match P.underlying t with
  | some (.struct fs) => fs.toList.mapM fun f => (P.info? f.type).map fun i => (f.offset, i.size)
  | _ => none
def buildE (P : Program) (t : TypeId) (parts : List (Nat × AV)) : Option (List AV) :=
  match tyZero P t with
  | some zero => match tyPlaces P t with
    | some ps => fillE (ps[·]?) zero parts
    | none => match tyArr P t with
      | some (_, e) => match tySize P e with
        | some z => fillE (fun i => some (i * z, z)) zero parts
        | none => none
      | none => none
  | none => none

def chunks (z : Nat) : Nat → List PC → List (List PC)
  | 0, _ => []
  | n + 1, l => l.take z :: chunks z n (l.drop z)

def loadE (P : Program) (t : TypeId) (x : AV) : EP AV :=
  match x with
  | .ptr n off => .ask n fun
    | some (.obj cells _) => match tyAgg P t with
      | some true => match tySize P t with
        | some z => if off + z ≤ cells.length then .ret (.agg ((cells.drop off).take z)) else .fail
        | none => .fail
      | some false => match cells[off]? with | some v => .ret v | none => .fail
      | none => .fail
    | _ => .fail
  | .rptr cs => match tyAgg P t with
    | some true => match tySize P t with
      | some z => if z ≤ cs.length then .ret (.agg ((cs.take z).map .c)) else .fail
      | none => .fail
    | some false => match cs[0]? with | some v => .ret (.c v) | none => .fail
    | none => .fail
  | _ => .fail

def storeE (P : Program) (t : TypeId) (x y : AV) : EP Eff :=
  match x, y.flat, tySize P t with
  | .ptr n off, some xs, some z => .ask n fun
    | some (.obj cells false) => if xs.length = z ∧ off + z ≤ cells.length ∧ xs.all AV.scal = true then .ret ⟨.undef, [(n, .obj (putAt cells off xs) false)]⟩ else .fail
    | _ => .fail
  | _, _, _ => .fail

def newObjE (n : Nat) (cells : List AV) : EP Eff := .ask n fun
  | none => .ret ⟨.ptr n 0, [(n, .obj cells false)]⟩
  | some _ => .fail
def newRowE (n z : Nat) (rows : List (List PC)) : EP Eff := .ask n fun
  | none => .ret ⟨.own n z rows, [(n, .row z rows.length)]⟩
  | some _ => .fail

def newMslE (n len : Nat) (cells : List AV) : EP Eff := .ask n fun
  | none => .ret ⟨.msl n 0 len true, [(n, .obj cells false)]⟩
  | some _ => .fail

def indexE (P : Program) (t : TypeId) (x ix : AV) : Option AV :=
  match x, ix with
  | .ptr n off, .c (.int _ i) => match tyArr P t with
    | some (len, e) => match tySize P e with
      | some z => if 0 ≤ i ∧ i < (len : Int) then some (.ptr n (off + i.toNat * z)) else none
      | none => none
    | none => none
  | .rptr cs, .c (.int _ i) => match tyArr P t with
    | some (len, e) => match tySize P e with
      | some z => if 0 ≤ i ∧ i < (len : Int) then some (.rptr (cs.drop (i.toNat * z))) else none
      | none => none
    | none => none
  | .msl n off len _, .c (.int _ i) => match tyElem P t with
    | some e => match tySize P e with
      | some z => if 0 ≤ i ∧ i < (len : Int) then some (.ptr n (off + i.toNat * z)) else none
      | none => none
    | none => none
  | x, .c (.int _ i) => match tyElem P t, x.rows with
    | some e, some rows => match tySize P e with
      | some z => if 0 ≤ i then match rows[i.toNat]? with
        | some r => if r.length = z then some (.rptr r) else none
        | none => none else none
      | none => none
    | _, _ => none
  | _, _ => none

def boundE (x : Option AV) (d : Nat) : Option Int :=
  match x with
  | none => some d
  | some (.c (.int _ i)) => some i
  | _ => none

/-- x[lo:hi:max] of a text, or of a slice (whose owner forgets it). -/
def sliceE (P : Program) (t : TypeId) (x : AV) (lo hi mx : Option AV) : Option AV :=
  match x with
  | .c (.str s) => match tyStr P t, mx, boundE lo 0, boundE hi s.length with
    | true, none, some l, some h => if 0 ≤ l ∧ l ≤ h ∧ h ≤ (s.length : Int) then some (.c (.str ((s.take h.toNat).drop l.toNat))) else none
    | _, _, _, _ => none
  | .ptr n off => match tyArr P t with
    | some (len, e) => match tySize P e, boundE lo 0, boundE hi len, mx with
      | some z, some l, some h, none => if 0 ≤ l ∧ l ≤ h ∧ h ≤ (len : Int) ∧ (l = 0 ∨ l < h) then some (.msl n (off + l.toNat * z) (h.toNat - l.toNat) (decide (h = (len : Int)))) else none
      | _, _, _, _ => none
    | none => none
  | .msl n off len ex => match tyElem P t with
    | some e => match tySize P e, boundE lo 0, boundE hi len, mx with
      | some z, some l, some h, none => if 0 ≤ l ∧ l ≤ h ∧ h ≤ (len : Int) ∧ (l = 0 ∨ l < h) then some (.msl n (off + l.toNat * z) (h.toNat - l.toNat) (ex && decide (h = (len : Int)))) else none
      | _, _, _, _ => none
    | none => none
  | x => match tyElem P t, x.rows with
    | some e, some rows => match tySize P e, boundE lo 0, boundE hi rows.length with
      | some z, some l, some h => match mx with
        | none => if rowsOK z rows ∧ 0 ≤ l ∧ l ≤ h ∧ h ≤ (rows.length : Int) then some (.c (.sl ((rows.take h.toNat).drop l.toNat))) else none
        | some (.c (.int _ m)) => if hi.isSome = true ∧ rowsOK z rows ∧ 0 ≤ l ∧ l ≤ h ∧ h ≤ m ∧ m ≤ (rows.length : Int) then some (.c (.sl ((rows.take h.toNat).drop l.toNat))) else none
        | _ => none
      | _, _, _ => none
    | _, _ => none

def bytesOf : List (List PC) → Option (List UInt8)
  | [] => some []
  | [.int .u8 n] :: rows => match bytesOf rows with | some l => some (UInt8.ofNat n.toNat :: l) | none => none
  | _ => none
def bytes (l : List UInt8) : List (List PC) := l.map fun b => [PC.int .u8 b.toNat]

def convE (P : Program) (src dst : TypeId) (x : AV) : Option AV :=
  match x with
  | .c (.int _ n) => match tyInt P dst with | some k => if (P.underlying src).isSome then some (.c (.int k (k.wrap n))) else none | none => none
  | .c (.str s) => if tyStr P dst then (if (P.underlying src).isSome then some x else none) else match tyElem P dst with
    | some e => if tyInt P e = some .u8 ∧ (P.underlying src).isSome then some (.c (.sl (bytes s))) else none
    | none => none
  | x => match tyElem P src, x.rows with
    | some e, some rows => if tyStr P dst ∧ tyInt P e = some .u8 then (bytesOf rows).map fun l => .c (.str l) else none
    | _, _ => none

def lenE (P : Program) (t : TypeId) (x : AV) : EP AV :=
  match x with
  | .c (.str s) => if tyStr P t then .ret (.c (.int .i64 s.length)) else .fail
  | .mp n => .ask n fun
    | _ => .fail
  | .nilmp => match tyMap P t with | some _ => .ret (.c (.int .i64 0)) | none => .fail
  | .msl _ _ len _ => match tyElem P t with | some _ => .ret (.c (.int .i64 len)) | none => .fail
  | x => match tyElem P t, x.rows with
    | some _, some rows => .ret (.c (.int .i64 rows.length))
    | _, _ => .fail

/-- What append adds. -/
def addedE (P : Program) (t : TypeId) (x : AV) : Option (List (List PC)) :=
  match x with
  | .c (.str s) => if tyStr P t then some (bytes s) else none
  | x => match tyElem P t with | some _ => x.rows | none => none

def strz : AV → Nat → Bool
  | .c (.str _), z => z == 1
  | _, _ => true
def appendE (P : Program) (d : Nat) (st xt : TypeId) (s x : AV) : EP Eff :=
  match tyElem P st, addedE P xt x with
  | some e, some ys => match tySize P e, tyBytes P e, tyZero P e with
    | some z, some by_, some zero =>
      if 0 < z ∧ 0 < by_ ∧ zero.length = z ∧ rowsOK z ys ∧ strz x z = true then
        match s with
        | .nilsl => if ys.length * by_ ≤ 140737488355328 then newRowE (rowName d) z ys else .fail
        | .own r z' rows => if z' = z ∧ (rows.length + ys.length) * by_ ≤ 140737488355328 then .ask r fun
          | some (.row _ fr) => if fr = rows.length then .ret ⟨.own r z (rows ++ ys), [(r, .row z (rows.length + ys.length))]⟩ else .fail
          | _ => .fail else .fail
        | _ => .fail
      else .fail
    | _, _, _ => .fail
  | _, _ => .fail

def mm (mx : Bool) : List AV → Option AV
  | [.c (.int k a), .c (.int k' b)] => if k = k' then some (.c (.int k (if mx then (if b > a then b else a) else (if b < a then b else a)))) else none
  | _ => none

/-- The arguments of a call, as a contract takes them: pure ones, and pointers to the objects in their order. -/
def AV.pure? : AV → Option AV
  | .agg cs => (toPCs cs).map fun l => .agg (l.map .c)
  | .rptr cs => some (.rptr cs)
  | .clo f caps => some (.clo f caps)
  | .nilptr => some .nilptr
  | .nilsl => some .nilsl
  | x => x.toPC.map .c
def argsE : List AV → Nat → Option (List AV × List Nat)
  | [], _ => some ([], [])
  | x :: l, i => match x with
    | .ptr n 0 => match argsE l (i + 1) with | some (as, ns) => some (.ptr (inObj i) 0 :: as, n :: ns) | none => none
    | .msl n off len ex => match argsE l (i + 1) with | some (as, ns) => some (.msl (inObj i) off len ex :: as, n :: ns) | none => none
    | x => match x.pure?, argsE l i with | some y, some (as, ns) => some (y :: as, ns) | _, _ => none


/-- An object's cells, its rows under these names. -/
def cellsAt (nm : Nat → Nat) (me : Nat) : Nat → List OV → List AV × List (Nat × MC)
  | _, [] => ([], [])
  | j, .c x :: o => (.c x :: (cellsAt nm me (j + 1) o).1, (cellsAt nm me (j + 1) o).2)
  | j, .own z rows :: o => (.own (nm j) z rows :: (cellsAt nm me (j + 1) o).1, (nm j, .row z rows.length) :: (cellsAt nm me (j + 1) o).2)
  | j, .mp ag es :: o => (.mp (nm j) :: (cellsAt nm me (j + 1) o).1, (nm j, .mp ag es) :: (cellsAt nm me (j + 1) o).2)
  | j, .nilmp :: o => (.nilmp :: (cellsAt nm me (j + 1) o).1, (cellsAt nm me (j + 1) o).2)
  | j, .nilptr :: o => (.nilptr :: (cellsAt nm me (j + 1) o).1, (cellsAt nm me (j + 1) o).2)
  | j, .self :: o => (.ptr me 0 :: (cellsAt nm me (j + 1) o).1, (cellsAt nm me (j + 1) o).2)
/-- The memory that a call begins with, and what objects it ends with. -/
def entryMem : Nat → List (List OV) → List (Nat × MC)
  | _, [] => []
  | i, o :: os => (inObj i, .obj (cellsAt (inRow i) (inObj i) 0 o).1 false) :: ((cellsAt (inRow i) (inObj i) 0 o).2 ++ entryMem (i + 1) os)
/-- What a call hands back, under these names. -/
def refE (ns : List Nat) (i : Nat) : AV := match ns[i]? with | some n => .ptr n 0 | none => .undef
def resAt (nr : Nat → Nat) (nc : Nat → Nat → Nat) (ns : List Nat) : Nat → List RV → List AV × List (Nat × MC)
  | _, [] => ([], [])
  | i, .pv x :: l => (x :: (resAt nr nc ns (i + 1) l).1, (resAt nr nc ns (i + 1) l).2)
  | i, .fresh z rows :: l => (.own (nr i) z rows :: (resAt nr nc ns (i + 1) l).1, (nr i, .row z rows.length) :: (resAt nr nc ns (i + 1) l).2)
  | i, .newobj cells :: l => (.ptr (nr i) 0 :: (resAt nr nc ns (i + 1) l).1, (nr i, .obj (cellsAt (nc i) (nr i) 0 cells).1 false) :: ((cellsAt (nc i) (nr i) 0 cells).2 ++ (resAt nr nc ns (i + 1) l).2))
  | i, .ref k :: l => (refE ns k :: (resAt nr nc ns (i + 1) l).1, (resAt nr nc ns (i + 1) l).2)
def inNames : Nat → List (List OV) → List Nat
  | _, [] => []
  | i, _ :: os => inObj i :: inNames (i + 1) os
def exitMem (r : CRes) : List (Nat × MC) := entryMem 0 r.objs ++ (resAt outName outCell (inNames 0 r.objs) 0 r.res).2
def exitVals (r : CRes) : List AV := (resAt outName outCell (inNames 0 r.objs) 0 r.res).1
def oneE : List AV → AV
  | [x] => x
  | l => .tup l

/-- The objects that a call is handed, as its contract takes them, with their rows' own names. -/
def cellsE (me : Nat) : List AV → EP (List OV × List Nat)
  | [] => .ret ([], [])
  | x :: l => match x with
    | .own r z rows => .ask r fun
      | some (.row z' fr) => if z' = z ∧ fr = rows.length then (cellsE me l).bind fun o => .ret (.own z rows :: o.1, r :: o.2) else .fail
      | _ => .fail
    | .mp r => .ask r fun
      | some (.mp ag es) => (cellsE me l).bind fun o => .ret (.mp ag es :: o.1, r :: o.2)
      | _ => .fail
    | .nilmp => (cellsE me l).bind fun o => .ret (.nilmp :: o.1, o.2)
    | .nilptr => (cellsE me l).bind fun o => .ret (.nilptr :: o.1, o.2)
    | .ptr r 0 => if r = me then (cellsE me l).bind fun o => .ret (.self :: o.1, o.2) else (cellsE me l).bind fun o => .ret (.c .junk :: o.1, o.2)
    | x => match x.toPC with
      | some c => (cellsE me l).bind fun o => .ret (.c c :: o.1, o.2)
      | none => .fail
def objsE : List Nat → EP (List (List OV) × List (Nat × List Nat))
  | [] => .ret ([], [])
  | n :: l => .ask n fun
    | some (.obj cells false) => (cellsE n cells).bind fun o => (objsE l).bind fun os => .ret (o.1 :: os.1, (n, o.2) :: os.2)
    | _ => .fail
/-- An object's cells behind a call: its rows keep their names. -/
def backCells (me : Nat) : List OV → List Nat → List AV × List (Nat × MC)
  | [], _ => ([], [])
  | .c x :: o, rs => (.c x :: (backCells me o rs).1, (backCells me o rs).2)
  | .own z rows :: o, r :: rs => (.own r z rows :: (backCells me o rs).1, (r, .row z rows.length) :: (backCells me o rs).2)
  | .own _ rows :: o, [] => (.c (.sl rows) :: (backCells me o []).1, (backCells me o []).2)
  | .mp ag es :: o, r :: rs => (.mp r :: (backCells me o rs).1, (r, .mp ag es) :: (backCells me o rs).2)
  | .mp _ _ :: o, [] => (.nilmp :: (backCells me o []).1, (backCells me o []).2)
  | .nilmp :: o, rs => (.nilmp :: (backCells me o rs).1, (backCells me o rs).2)
  | .nilptr :: o, rs => (.nilptr :: (backCells me o rs).1, (backCells me o rs).2)
  | .self :: o, rs => (.ptr me 0 :: (backCells me o rs).1, (backCells me o rs).2)
/-- Where the rows are, and of what width. -/
def shapeOf : List OV → List (Option Nat)
  | [] => []
  | .own z _ :: o => some z :: shapeOf o
  | .mp _ _ :: o => some 0 :: shapeOf o
  | .c _ :: o => none :: shapeOf o
  | .nilmp :: o => none :: shapeOf o
  | .nilptr :: o => none :: shapeOf o
  | .self :: o => none :: shapeOf o
def backObjs : List (Nat × List Nat) → List (List OV) → List (Nat × MC)
  | (n, rs) :: ns, o :: os => (n, .obj (backCells n o rs).1 false) :: ((backCells n o rs).2 ++ backObjs ns os)
  | _, _ => []
def keys (l : List (Nat × MC)) : List Nat := l.map (·.1)
/-- None of these names is taken. -/
def freeE : List Nat → EP Unit
  | [] => .ret ()
  | n :: l => .ask n fun | none => freeE l | some _ => .fail

/-- A slice of nothing is as good as nil, and nil is nil. -/
def denil : AV → AV
  | .nilsl => .c (.sl [])
  | x => x
def look2 (C : Contract) (as : List AV) (os : List (List OV)) : Option CRes := match C (as.map denil) os with
  | some r => some r
  | none => C as os
def callE (Γ : FuncId → Contract) (d : Nat) (f : FuncId) (args : List AV) : EP Eff :=
  match argsE args 0 with
  | none => .fail
  | some (as, ns) => (objsE ns).bind fun os => match look2 (Γ f) as os.1 with
    | none => .fail
    | some r =>
      if r.objs.map shapeOf = os.1.map shapeOf ∧ (keys (entryMem 0 os.1)).Nodup ∧ (keys (exitMem r)).Nodup ∧ (keys (backObjs os.2 r.objs ++ (resAt (resName d) (resCell d) ns 0 r.res).2)).Nodup then
        (freeE (keys (resAt (resName d) (resCell d) ns 0 r.res).2)).bind fun _ =>
        .ret ⟨oneE (resAt (resName d) (resCell d) ns 0 r.res).1, backObjs os.2 r.objs ++ (resAt (resName d) (resCell d) ns 0 r.res).2⟩
      else .fail

/-- A variable that a closure captures is never written again. -/
def capE : List AV → EP (List (List PC) × List (Nat × MC))
  | [] => .ret ([], [])
  | x :: l => match x with
    | .ptr n 0 => .ask n fun
      | some (.obj cells _) => match toPCs cells with
        | some cs => (capE l).bind fun r => .ret (cs :: r.1, (n, .obj cells true) :: r.2)
        | none => .fail
      | _ => .fail
    | .rptr cs => (capE l).bind fun r => .ret (cs :: r.1, r.2)
    | _ => .fail

/-- A type whose zero value is an aggregate. -/
def tyZag (P : Program) (t : TypeId) : Bool := match (P.info? t).bind (·.zero) with | some (.agg _) => true | _ => false
def AV.isAgg : AV → Bool | .agg _ => true | _ => false
def keyE : AV → Option (List UInt8) | .c (.str s) => some s | _ => none
def elemAV (agg : Bool) (cs : List AV) : AV := if agg then .agg cs else cs.headD .undef

def lookOut (z : Nat) (ag ok : Bool) (v : List AV) (b : Bool) : EP AV := if v.length = z then .ret (ifE ok (.tup [elemAV ag v, .c (.bool b)]) (elemAV ag v)) else .fail
def lookFound (z : Nat) (ag ok : Bool) (zero : List AV) (f : Option (List PC)) : EP AV := match f with | some v => lookOut z ag ok (v.map .c) true | none => lookOut z ag ok zero false
def lookupE (P : Program) (t : TypeId) (m k : AV) (ok : Bool) : EP AV := .fail
def keyI : AV → Option Int | .c (.int .i64 n) => some n | _ => none
def tyI64 (P : Program) (t : TypeId) : Bool := match P.underlying t with | some (.int .i64) => true | _ => false
/-- What lies in a map is not known: it may be written. -/
def mapSetE (P : Program) (t : TypeId) (m k x : AV) : EP Eff :=
  match tyMap P t, keyI k, m with
  | some (kt, e), some key, .mp n => if tyI64 P kt = true then .ask n fun
      | some (.mp ag es) => .ret ⟨.undef, [(n, .mp ag es)]⟩
      | _ => .fail
    else .fail
  | _, _, _ => .fail

def okE (x : Option AV) : EP Eff := match x with | some v => .ret ⟨v, []⟩ | none => .fail
def okM (x : EP AV) : EP Eff := x.bind fun v => .ret ⟨v, []⟩

def builtinE (P : Program) (d : Nat) (b : Builtin) (ts : Array TypeId) (args : List AV) : EP Eff :=
  match b, args with
  | .len, [x] => match ts[0]? with | some t => okM (lenE P t x) | none => .fail
  | .append, [s, x] => match ts[0]?, ts[1]? with | some st, some xt => appendE P d st xt s x | _, _ => .fail
  | .max, l => okE (mm true l)
  | .min, l => okE (mm false l)
  | _, _ => .fail

def unE (op : UnOp) (x : AV) : Option AV :=
  match op, x with
  | .not, .c (.bool b) => some (.c (.bool (!b)))
  | .neg, .c (.int k n) => some (.c (.int k (k.wrap (0 - n))))
  | .xor, .c (.int k n) => some (.c (.int k (k.wrap (BitVec.ofInt k.bits (if k.signed then -1 else k.max) ^^^ BitVec.ofInt k.bits n).toNat)))
  | _, _ => none

/-- A conversion: of a row of octets to its own type, as it stands; else by the value alone. -/
def convO (P : Program) (src dst : TypeId) (x : AV) : EP Eff :=
  match x with
  | .own r z rows => if src = dst then (match tyElem P src with
    | some e => if tyInt P e = some .u8 ∧ 0 < rows.length then .ask r fun
        | some (.row z' fr) => if fr = rows.length ∧ z' = z then .ret ⟨.own r z rows, [(r, .row z rows.length)]⟩ else .fail
        | _ => .fail else .fail
    | none => .fail) else okE (convE P src dst (.own r z rows))
  | x => okE (convE P src dst x)

def hasN : List Nat → Nat → Bool
  | [], _ => false
  | x :: l, n => x == n || hasN l n

def opE (Γ : FuncId → Contract) (P : Program) (F : List Nat) (o : Oper) (ρ : Operand → AV) : EP Eff :=
  let d := o.dst.getD 0
  match o.op with
  | .move x | .assign x => .ret ⟨ρ x, []⟩
  | .pick c a b => match ρ c with | .c (.bool t) => ifE t (.ret ⟨ρ a, []⟩) (.ret ⟨ρ b, []⟩) | _ => .fail
  | .alloc t => if o.dst.isSome then match tyZero P t with | some cells => newObjE (objName d) cells | none => .fail else .fail
  | .box t x => if o.dst.isSome then match (ρ x).flat with | some cells => newObjE (objName d) cells | none => .fail else .fail
  | .build t parts => okE ((buildE P t (parts.toList.map fun p => (p.1, ρ p.2))).map .agg)
  | .buildSlice t n parts => match tyElem P t with
    | some e => match tyZero P e, tySize P e with
      | some zero, some z => if o.dst.isSome ∧ zero.length = z ∧ 0 < z ∧ n * z ≤ 16777216 then
          ifE (hasN F d) (match fillE (fun i => some (i * z, z)) ((List.replicate n zero).flatten) (parts.toList.map fun p => (p.1, ρ p.2)) with
          | some out => newMslE (objName d) n out
          | none => .fail) (match (fillE (fun i => some (i * z, z)) ((List.replicate n zero).flatten) (parts.toList.map fun p => (p.1, ρ p.2))).bind toPCs with
          | some cs => newRowE (rowName d) z (chunks z n cs)
          | none => .fail)
        else .fail
      | _, _ => .fail
    | none => .fail
  | .load t a => okM (loadE P t (ρ a))
  | .store t a x => storeE P t (ρ a) (ρ x)
  | .nilCheck x => match ρ x with
    | .ptr n off => .ret ⟨.ptr n off, []⟩
    | .rptr cs => .ret ⟨.rptr cs, []⟩
    | .clo f caps => .ret ⟨.clo f caps, []⟩
    | _ => .fail
  | .binOp op t x y _ => okE (binE P op t (ρ x) (ρ y))
  | .unOp op _ x => okE (unE op (ρ x))
  | .convert src dst x => convO P src dst (ρ x)
  | .makeFunc (.func f) first captured => if first = #[] then (capE (captured.toList.map ρ)).bind fun r => .ret ⟨.clo f r.1, r.2⟩ else .fail
  | .makeMap t none => match (tyMap P t).bind fun x => tyAgg P x.2 with
    | some ag => if o.dst.isSome then .ask (objName d) fun | none => .ret ⟨.mp (objName d), [(objName d, .mp ag [])]⟩ | some _ => .fail else .fail
    | none => .fail
  | .makeSlice t l c => match tyElem P t, ρ l, ρ c with
    | some e, .c (.int .i64 n), .c (.int .i64 m) => match tyZero P e, tySize P e, tyBytes P e with
      | some zero, some z, some by_ => match toPCs zero with
        | some zs => if o.dst.isSome ∧ zs.length = z ∧ 0 < z ∧ n ≤ m ∧ 0 ≤ n ∧ m ≤ 9223372036854775807 ∧ m * by_ ≤ 140737488355328 then ifE (hasN F d) (if n = m then newMslE (objName d) n.toNat (List.replicate n.toNat zero).flatten else .fail) (newRowE (rowName d) z (List.replicate n.toNat zs)) else .fail
        | none => .fail
      | _, _, _ => .fail
    | _, _, _ => .fail
  | .slice t x lo hi mx => okE (sliceE P t (ρ x) (lo.map ρ) (hi.map ρ) (mx.map ρ))
  | .fieldAddr t x i => match tyField P t i with
    | some (off, _, z) => if z = 0 then .fail else match ρ x with
      | .ptr n o => .ret ⟨.ptr n (o + off), []⟩
      | .rptr cs => .ret ⟨.rptr (cs.drop off), []⟩
      | _ => .fail
    | none => .fail
  | .field t x i => match tyField P t i, ρ x with
    | some (off, ft, z), .agg cs => match tyAgg P ft with
      | some true => if off + z ≤ cs.length then .ret ⟨.agg ((cs.drop off).take z), []⟩ else .fail
      | some false => match cs[off]? with | some v => .ret ⟨v, []⟩ | none => .fail
      | none => .fail
    | _, _ => .fail
  | .indexAddr t x i => okE (indexE P t (ρ x) (ρ i))
  | .index t x i => match ρ x, ρ i with
    | .c (.str s), .c (.int _ i) => if tyStr P t ∧ 0 ≤ i then match s[i.toNat]? with | some b => .ret ⟨.c (.int .u8 b.toNat), []⟩ | none => .fail else .fail
    | .agg cs, .c (.int _ i) => match tyArr P t with
      | some (n, e) => match tySize P e, tyAgg P e with
        | some z, some false => if 0 ≤ i ∧ i < (n : Int) then match cs[i.toNat * z]? with | some v => .ret ⟨v, []⟩ | none => .fail else .fail
        | some z, some true => if 0 ≤ i ∧ i < (n : Int) ∧ i.toNat * z + z ≤ cs.length then .ret ⟨.agg ((cs.drop (i.toNat * z)).take z), []⟩ else .fail
        | _, _ => .fail
      | none => .fail
    | _, _ => .fail
  | .extract x i => match ρ x with
    | .tup vs => okE vs[i]?
    | _ => .fail
  | .call c => match c.callee with
    | .builtin b => if o.dst.isSome then builtinE P d b c.argTypes (c.args.toList.map ρ) else .fail
    | .value f => match ρ f with
      | .clo f caps => if o.dst.isSome then callE Γ d f (c.args.toList.map ρ ++ caps.map .rptr) else .fail
      | _ => .fail
    | _ => .fail
  | .lookup t x k ok => okM (lookupE P t (ρ x) (ρ k) ok)
  | .mapUpdate t m k x => mapSetE P t (ρ m) (ρ k) (ρ x)
  | _ => .fail

structure FP where
  rd : List Nat
  wr : List Nat

def AS.step (s : AS) (o : Oper) (e : Eff) : AS := (s.wr e.wr).put o.dst e.val

/-- A step of a region: the guard, the operation; what it has read and written. -/
def guardE (ops : Array Oper) (o : Oper) (s : AS) : Option Bool :=
  match o.guard with
  | none => some true
  | some (j, want) => match ((ops[j]?).bind (·.dst)).map s.get with
    | some (.c (.bool b)) => some (b == want)
    | some (.tup []) => some false
    | _ => none
/-- What is said ahead: slots whose slices are written; what to do behind a region. -/
inductive Hint where
  | frz (d z : Nat)
  | toOwn (d z : Nat)
  | tidy (l : List Nat)
  | frzAt (p off z : Nat)
structure Adv where
  mu : List Nat
  hints : List (Nat × Hint)
structure Lim where
  n : Nat
  adv : Adv
def dstOK (N : Lim) (o : Oper) : Bool := match o.dst with | some d => d < N.n | none => true
def aStep (Γ : FuncId → Contract) (P : Program) (N : Lim) (ops : Array Oper) (o : Oper) (s : AS) : Option (AS × FP) :=
  if dstOK N o then
    match guardE ops o s with
    | some b => ifE b (match (opE Γ P N.adv.mu o s.eval).run s.mem with
        | some (e, rd) => some (s.step o e, ⟨rd, e.wr.map (·.1)⟩)
        | none => none) (some (s.put o.dst (.tup []), ⟨[], []⟩))
    | none => none
  else none


structure Env where
  N : Lim
  ns : List Nat
  H0 : Nat → Option Home
  w0 : World
  B : Nat
  Ext : Nat → Prop
  K0 : Know
  ro : Option Nat
  dfs : List Deferred

/-- The fence that lets all by: in an activation of a function, or in a round. -/
def rF (ro : Option Nat) : Fence := { Fence.wide with round := ro }

/-- The view of a call that begins in this world. -/
def cEnv (w : World) (Ext : Nat → Prop) (K : Know) : Env := ⟨⟨0, ⟨[], []⟩⟩, [], fun _ => none, w, w.heap.size, Ext, K, none, []⟩
def Env.mine (E : Env) (b : Nat) : Prop := E.B ≤ b ∨ E.Ext b

def ObjOK (E : Env) (G : Gh) (w : World) (cells : List AV) (fz : Bool) (b : Nat) : Prop :=
  ∃ (vs : Array Value) (ty : TypeId), w.heap[b]? = some (.cells vs ty (0, 0)) ∧ cells.length = vs.size ∧ (∀ (i : Nat) (x : AV) (v : Value), cells[i]? = some x → vs[i]? = some v → AR G x v) ∧
    E.mine b ∧ (fz = true → ∀ (i : Nat) (v : Value), vs[i]? = some v → G.K b i = some v) ∧ (fz = false → ∀ o, G.K b o = none)

/-- None of a row's cells is frozen. -/
def FrOK (n : Nat) (p : Nat × Nat) : Prop := p = (0, 0) ∨ p = (n, n + 1)
def RowOK (E : Env) (G : Gh) (w : World) (z : Nat) (bk : Option (Nat × Nat)) (fr : Nat) : Prop :=
  match bk with
  | none => fr = 0
  | some (b, cap) => ∃ (vs : Array Value) (ty : TypeId), (∃ p, w.heap[b]? = some (.cells vs ty p) ∧ FrOK vs.size p) ∧ vs.size = cap * z ∧ fr ≤ cap ∧ 0 < z ∧
      E.mine b ∧ ∀ o, fr * z ≤ o → G.K b o = none

def MapOK (E : Env) (G : Gh) (w : World) (ag : Bool) (es : List (List UInt8 × List PC)) (b : Nat) : Prop :=
  ∃ (ms : Array MapEntry) (clock : Nat), w.heap[b]? = some (.map ms clock) ∧ (∀ x ∈ ms.toList, MapKept.IsKey (.int .i64) x.key) ∧ E.mine b

def HomeOK (E : Env) (G : Gh) (w : World) : Option MC → Option Home → Prop
  | none, none => True
  | some (.obj cells fz), some (.obj b) => ObjOK E G w cells fz b
  | some (.row z fr), some (.row z' bk fr') => z = z' ∧ fr = fr' ∧ RowOK E G w z bk fr
  | some (.mp ag es), some (.obj b) => MapOK E G w ag es b
  | _, _ => False

structure MRel (E : Env) (G : Gh) (m : Nat → Option MC) (w : World) : Prop where
  agree : ∀ b o v, G.K b o = some v → w.cell? ⟨b, o, none⟩ = some v
  home : ∀ n, HomeOK E G w (m n) (G.h n)
  inj : ∀ n n' h h' b, G.h n = some h → G.h n' = some h' → h.blk = some b → h'.blk = some b → n = n'
  os : w.os = E.w0.os
  tape : w.tape = E.w0.tape
  output : w.output = E.w0.output
  size0 : E.w0.heap.size ≤ w.heap.size
  sizeB : E.B ≤ w.heap.size
  blk : ∀ k, k < E.B → ¬ E.Ext k → w.heap[k]? = E.w0.heap[k]?
  k0 : E.K0.le G.K
  kfr : ∀ b o, b < E.B → ¬ E.Ext b → G.K b o = E.K0 b o

theorem MRel.k_lt {E : Env} {G : Gh} {m : Nat → Option MC} {w : World} (R : MRel E G m w) {b o : Nat} {v : Value} (h : G.K b o = some v) : b < w.heap.size :=
  World.block_lt_of_cell? w _ (R.agree b o v h)

theorem MRel.k_new {E : Env} {G : Gh} {m : Nat → Option MC} {w : World} (R : MRel E G m w) {b : Nat} (hb : w.heap.size ≤ b) (o : Nat) : G.K b o = none := by
  cases h : G.K b o with
  | none => rfl
  | some v => have := R.k_lt h; omega

theorem heap_some_lt {w : World} {b : Nat} {o : Obj} (h : w.heap[b]? = some o) : b < w.heap.size := (Array.getElem?_eq_some_iff.1 h).1

theorem HomeOK.lt {E : Env} {G : Gh} {w : World} {c : Option MC} {h : Home} {b : Nat} (hh : HomeOK E G w c (some h)) (hb : h.blk = some b) : b < w.heap.size := by
  cases c with
  | none => cases hh
  | some c =>
    cases c with
    | obj cells fz =>
      cases h with
      | obj b' => simp only [Home.blk, Option.some.injEq] at hb; subst hb; obtain ⟨vs, ty, h1, _⟩ := hh; exact heap_some_lt h1
      | row => exact hh.elim
    | row z fr =>
      cases h with
      | obj b' => exact hh.elim
      | row z' bk fr' =>
        obtain ⟨_, _, hr⟩ := hh
        cases bk with
        | none => simp [Home.blk] at hb
        | some p => obtain ⟨b', cap⟩ := p; simp only [Home.blk, Option.map_some, Option.some.injEq] at hb; subst hb; obtain ⟨vs, ty, ⟨_, h1, _⟩, _⟩ := hr; exact heap_some_lt h1
    | mp ag es =>
      cases h with
      | obj b' => simp only [Home.blk, Option.some.injEq] at hb; subst hb; obtain ⟨vs, cl, h1, _⟩ := hh; exact heap_some_lt h1
      | row => exact hh.elim

theorem HomeOK.mine {E : Env} {G : Gh} {w : World} {c : Option MC} {h : Home} {b : Nat} (hh : HomeOK E G w c (some h)) (hb : h.blk = some b) : E.mine b := by
  cases c with
  | none => cases hh
  | some c =>
    cases c with
    | obj cells fz =>
      cases h with
      | obj b' => simp only [Home.blk, Option.some.injEq] at hb; subst hb; obtain ⟨vs, _, _, _, _, h1, _⟩ := hh; exact h1
      | row => exact hh.elim
    | row z fr =>
      cases h with
      | obj b' => exact hh.elim
      | row z' bk fr' =>
        obtain ⟨_, _, hr⟩ := hh
        cases bk with
        | none => simp [Home.blk] at hb
        | some p => obtain ⟨b', cap⟩ := p; simp only [Home.blk, Option.map_some, Option.some.injEq] at hb; subst hb; obtain ⟨vs, ty, _, _, _, _, h1, _⟩ := hr; exact h1
    | mp ag es =>
      cases h with
      | obj b' => simp only [Home.blk, Option.some.injEq] at hb; subst hb; obtain ⟨vs, cl, _, _, h1⟩ := hh; exact h1
      | row => exact hh.elim

theorem cell_same {w w' : World} {b : Nat} (h : w'.heap[b]? = w.heap[b]?) (o : Nat) : w'.cell? ⟨b, o, none⟩ = w.cell? ⟨b, o, none⟩ := by
  simp only [World.cell?, h]

/-- A home that nothing touches. -/
theorem HomeOK.keep {E : Env} {G G' : Gh} {w w' : World} {c : Option MC} {h : Option Home} (hh : HomeOK E G w c h) (hle : G.le G')
    (hk : ∀ x b, h = some x → x.blk = some b → w'.heap[b]? = w.heap[b]? ∧ ∀ o, G'.K b o = G.K b o) : HomeOK E G' w' c h := by
  cases h with
  | none => cases c with | none => trivial | some c => cases c <;> exact hh.elim
  | some h =>
    cases c with
    | none => exact hh.elim
    | some c =>
      cases c with
      | obj cells fz =>
        cases h with
        | row => exact hh.elim
        | obj b =>
          obtain ⟨h1, h2⟩ := hk _ b rfl rfl
          obtain ⟨vs, ty, a1, a2, a3, a4, a5, a6⟩ := hh
          exact ⟨vs, ty, h1.trans a1, a2, fun i x v e1 e2 => (a3 i x v e1 e2).mono hle, a4, fun e i v hv => (h2 i).trans (a5 e i v hv), fun e o => (h2 o).trans (a6 e o)⟩
      | row z fr =>
        cases h with
        | obj => exact hh.elim
        | row z' bk fr' =>
          obtain ⟨e1, e2, hr⟩ := hh
          refine ⟨e1, e2, ?_⟩
          cases bk with
          | none => exact hr
          | some p =>
            obtain ⟨b, cap⟩ := p
            obtain ⟨h1, h2⟩ := hk _ b rfl rfl
            obtain ⟨vs, ty, a1, a2, a3, a4, a6, a7⟩ := hr
            obtain ⟨q, a1, aq⟩ := a1
            exact ⟨vs, ty, ⟨q, h1.trans a1, aq⟩, a2, a3, a4, a6, fun o ho => (h2 o).trans (a7 o ho)⟩
      | mp ag es =>
        cases h with
        | row => exact hh.elim
        | obj b =>
          obtain ⟨h1, _⟩ := hk _ b rfl rfl
          obtain ⟨ms, cl, a1, a3, a4⟩ := hh
          exact ⟨ms, cl, h1.trans a1, a3, a4⟩

def mset (m : Nat → Option MC) (n : Nat) (c : MC) : Nat → Option MC := fun i => if n = i then some c else m i

/-- One name's home is new, or turns. -/
theorem MRel.update {E : Env} {G G' : Gh} {m : Nat → Option MC} {w w' : World} (R : MRel E G m w) (hle : G.le G') (n : Nat) (c : MC) (h : Home)
    (hag : ∀ b o v, G'.K b o = some v → w'.cell? ⟨b, o, none⟩ = some v)
    (hG : ∀ i, i ≠ n → G'.h i = G.h i) (hn : G'.h n = some h) (hok : HomeOK E G' w' (some c) (some h))
    (hoth : ∀ i x b, i ≠ n → G.h i = some x → x.blk = some b → w'.heap[b]? = w.heap[b]? ∧ (∀ o, G'.K b o = G.K b o) ∧ h.blk ≠ some b)
    (hos : w'.os = w.os) (htape : w'.tape = w.tape) (hout : w'.output = w.output) (hsz : w.heap.size ≤ w'.heap.size)
    (hblk : ∀ k, k < E.B → ¬ E.Ext k → w'.heap[k]? = w.heap[k]?) (hkf : ∀ b o, b < E.B → ¬ E.Ext b → G'.K b o = G.K b o) : MRel E G' (mset m n c) w' where
  agree := hag
  home i := by
    unfold mset
    by_cases e : n = i
    · subst e; rw [if_pos rfl, hn]; exact hok
    · rw [if_neg e, hG i (Ne.symm e)]
      exact (R.home i).keep hle fun x b e1 e2 => let ⟨h1, h2, _⟩ := hoth i x b (Ne.symm e) e1 e2; ⟨h1, h2⟩
  inj i j x y b e1 e2 e3 e4 := by
    by_cases hi : i = n
    · by_cases hj : j = n
      · rw [hi, hj]
      · subst hi
        rw [hG j hj] at e2
        rw [hn] at e1
        cases e1
        exact absurd e3 (hoth j y b hj e2 e4).2.2
    · by_cases hj : j = n
      · subst hj
        rw [hG i hi] at e1
        rw [hn] at e2
        cases e2
        exact absurd e4 (hoth i x b hi e1 e3).2.2
      · rw [hG i hi] at e1
        rw [hG j hj] at e2
        exact R.inj i j x y b e1 e2 e3 e4
  os := hos.trans R.os
  tape := htape.trans R.tape
  output := hout.trans R.output
  size0 := Nat.le_trans R.size0 hsz
  sizeB := Nat.le_trans R.sizeB hsz
  blk k hk hx := (hblk k hk hx).trans (R.blk k hk hx)
  k0 := Know.le_trans R.k0 hle.K
  kfr b o hb hx := (hkf b o hb hx).trans (R.kfr b o hb hx)

/-- The count of draws alone. -/
theorem MRel.drawn {E : Env} {G : Gh} {m : Nat → Option MC} {w : World} (R : MRel E G m w) (d : Nat) : MRel E G m { w with drawn := d } :=
  ⟨R.agree, fun n => (R.home n).keep (Gh.le_refl G) fun _ _ _ _ => ⟨rfl, fun _ => rfl⟩, R.inj, R.os, R.tape, R.output, R.size0, R.sizeB, R.blk, R.k0, R.kfr⟩

theorem MRel.congr {E : Env} {G : Gh} {m m' : Nat → Option MC} {w : World} (R : MRel E G m w) (h : ∀ n, m' n = m n) : MRel E G m' w := by
  have : m' = m := funext h
  rw [this]; exact R

def Gh.put (G : Gh) (n : Nat) (x : Home) : Gh := ⟨G.K, fun i => if i = n then some x else G.h i⟩
theorem Gh.le_put {G : Gh} {n : Nat} {x : Home} (h : G.h n = none) : G.le (G.put n x) :=
  ⟨Know.le_refl _, fun i y e => ⟨y, by simp only [Gh.put]; rw [if_neg (fun e' => by subst e'; rw [h] at e; cases e)]; exact e, Home.le_refl y⟩⟩

theorem HomeOK.none_of {E : Env} {G : Gh} {w : World} {h : Option Home} (hh : HomeOK E G w none h) : h = none := by
  cases h with
  | none => rfl
  | some h => exact hh.elim

/-- A new block of cells: an object. -/
theorem MRel.newObj {E : Env} {G : Gh} {m : Nat → Option MC} {w : World} (R : MRel E G m w) {n : Nat} (hn : m n = none) {cells : List AV} {vs : Array Value} {ty : TypeId}
    (hl : cells.length = vs.size) (hc : ∀ (i : Nat) (x : AV) (v : Value), cells[i]? = some x → vs[i]? = some v → AR G x v) :
    let G' := G.put n (.obj w.heap.size)
    G.le G' ∧ G'.h n = some (.obj w.heap.size) ∧ MRel E G' (mset m n (.obj cells false)) { w with heap := w.heap.push (.cells vs ty (0, 0)) } := by
  have hnone : G.h n = none := by have := R.home n; rw [hn] at this; exact this.none_of
  have hle : G.le (G.put n (.obj w.heap.size)) := Gh.le_put hnone
  have hold : ∀ b, b < w.heap.size → ({ w with heap := w.heap.push (.cells vs ty (0, 0)) } : World).heap[b]? = w.heap[b]? := fun b hb => by
    show (w.heap.push _)[b]? = _
    rw [Array.getElem?_push, if_neg (by omega)]
  have hb : ({ w with heap := w.heap.push (.cells vs ty (0, 0)) } : World).heap[w.heap.size]? = some (.cells vs ty (0, 0)) := by simp
  refine ⟨hle, by simp [Gh.put], R.update hle n _ (.obj w.heap.size) ?_ ?_ ?_ ?_ ?_ rfl rfl rfl (by simp) ?_ (fun _ _ _ _ => rfl)⟩
  · intro b o v h
    rw [cell_same (hold b (R.k_lt h))]; exact R.agree b o v h
  · intro i hi; simp [Gh.put, hi]
  · simp [Gh.put]
  · refine ⟨vs, ty, hb, hl, fun i x v e1 e2 => (hc i x v e1 e2).mono hle, .inl R.sizeB, (fun e => by cases e), fun _ o => R.k_new (Nat.le_refl _) o⟩
  · intro i x b _ e1 e2
    have hlt := (e1 ▸ R.home i).lt e2
    refine ⟨hold b hlt, fun _ => rfl, ?_⟩
    simp [Home.blk]; omega
  · intro k hk _
    have := R.sizeB
    exact hold k (by omega)


/-- No name turns: new blocks, draws, and what is known of new blocks. -/
theorem MRel.same {E : Env} {G G' : Gh} {m : Nat → Option MC} {w w' : World} (R : MRel E G m w) (hK : G.K.le G'.K) (hh : G'.h = G.h)
    (hag : ∀ b o v, G'.K b o = some v → w'.cell? ⟨b, o, none⟩ = some v)
    (hold : ∀ b, b < w.heap.size → w'.heap[b]? = w.heap[b]?) (hko : ∀ b o, b < w.heap.size → G'.K b o = G.K b o)
    (hos : w'.os = w.os) (htape : w'.tape = w.tape) (hout : w'.output = w.output) (hsz : w.heap.size ≤ w'.heap.size) : MRel E G' m w' := by
  have hle : G.le G' := ⟨hK, fun n h e => ⟨h, by rw [hh]; exact e, Home.le_refl h⟩⟩
  refine ⟨hag, fun n => ?_, fun i j x y b e1 e2 => by rw [hh] at e1 e2; exact R.inj i j x y b e1 e2, hos.trans R.os, htape.trans R.tape, hout.trans R.output,
    Nat.le_trans R.size0 hsz, Nat.le_trans R.sizeB hsz, fun k hk hx => (hold k ?_).trans (R.blk k hk hx), Know.le_trans R.k0 hK, fun b o hb hx => (hko b o ?_).trans (R.kfr b o hb hx)⟩
  · rw [hh]
    exact (R.home n).keep hle fun x b e1 e2 => by
      have hlt := (e1 ▸ R.home n).lt e2
      exact ⟨hold b hlt, fun o => hko b o hlt⟩
  · have := R.sizeB; omega
  · have := R.sizeB; omega

def World.setBlock (w : World) (b : Nat) (o : Obj) : World := { w with heap := w.heap.setIfInBounds b o }
theorem setBlock_same {w : World} {b : Nat} (h : b < w.heap.size) (o : Obj) : (World.setBlock w b o).heap[b]? = some o := by
  simp [World.setBlock, h]
theorem setBlock_other {w : World} {b k : Nat} (h : k ≠ b) (o : Obj) : (World.setBlock w b o).heap[k]? = w.heap[k]? := by
  simp only [World.setBlock]
  rw [Array.getElem?_setIfInBounds_ne (Ne.symm h)]
theorem setBlock_size (w : World) (b : Nat) (o : Obj) : (World.setBlock w b o).heap.size = w.heap.size := by simp [World.setBlock]

/-- An object's cells turn. -/
theorem MRel.setObj {E : Env} {G : Gh} {m : Nat → Option MC} {w : World} (R : MRel E G m w) {n b : Nat} {cells cells' : List AV} {vs' : Array Value}
    (hn : m n = some (.obj cells false)) (hb : G.h n = some (.obj b)) (hl : cells'.length = vs'.size)
    (hc : ∀ (i : Nat) (x : AV) (v : Value), cells'[i]? = some x → vs'[i]? = some v → AR G x v) :
    MRel E G (mset m n (.obj cells' false)) (w.setRow b vs') := by
  have h0 := R.home n
  rw [hn, hb] at h0
  obtain ⟨vs, ty, a1, a2, a3, a4, a5, a6⟩ := h0
  refine R.update (Gh.le_refl G) n _ (.obj b) ?_ (fun _ _ => rfl) hb ⟨vs', ty, setRow_heap w b vs vs' ty _ a1, hl, hc, a4, (fun e => by cases e), a6⟩ ?_ rfl rfl rfl (by simp [World.setRow]) ?_ (fun _ _ _ _ => rfl)
  · intro b' o v h
    by_cases e : b' = b
    · subst e; rw [a6 rfl o] at h; cases h
    · rw [cell_same (setRow_other w b _ vs' e)]; exact R.agree b' o v h
  · intro i x b' hi e1 e2
    have hne : b' ≠ b := fun e => hi (R.inj i n x _ b' e1 hb e2 (by rw [e]; rfl))
    exact ⟨setRow_other w b _ vs' hne, fun _ => rfl, fun e => hne (by simpa [Home.blk] using e.symm)⟩
  · intro k hk hx
    have hne : k ≠ b := fun e => by
      subst e
      rcases a4 with h | h
      · omega
      · exact hx h
    exact setRow_other w b _ vs' hne

def Know.ext (K : Know) (b : Nat) (f : Nat → Option Value) : Know := fun b' o => if b' = b then f o else K b' o

/-- An object's cells are never written again. -/
theorem MRel.freeze {E : Env} {G : Gh} {m : Nat → Option MC} {w : World} (R : MRel E G m w) {n b : Nat} {cells : List AV} {fz : Bool}
    (hn : m n = some (.obj cells fz)) (hb : G.h n = some (.obj b)) :
    ∃ G' : Gh, G.le G' ∧ G'.h = G.h ∧ (∀ i x, cells[i]? = some x → ∃ v, G'.K b i = some v ∧ AR G' x v) ∧ MRel E G' (mset m n (.obj cells true)) w := by
  have h0 := R.home n
  rw [hn, hb] at h0
  obtain ⟨vs, ty, a1, a2, a3, a4, a5, a6⟩ := h0
  have hcell : ∀ o, w.cell? ⟨b, o, none⟩ = vs[o]? := fun o => by simp [World.cell?, a1]
  have hK : G.K.le (Know.ext G.K b fun o => vs[o]?) := fun b' o v h => by
    unfold Know.ext
    split
    · rename_i e; subst e; show vs[o]? = some v; rw [← hcell]; exact R.agree b' o v h
    · exact h
  have hle : G.le ⟨Know.ext G.K b fun o => vs[o]?, G.h⟩ := ⟨hK, fun n h e => ⟨h, e, Home.le_refl h⟩⟩
  have hself : ∀ o, Know.ext G.K b (fun o => vs[o]?) b o = vs[o]? := fun o => by simp [Know.ext]
  refine ⟨⟨Know.ext G.K b fun o => vs[o]?, G.h⟩, hle, rfl, ?_, R.update hle n _ (.obj b) ?_ (fun _ _ => rfl) hb ⟨vs, ty, a1, a2, fun i x v e1 e2 => (a3 i x v e1 e2).mono hle, a4, fun _ i v hv => (hself i).trans hv, (fun e => by cases e)⟩ ?_ rfl rfl rfl (Nat.le_refl _) (fun _ _ _ => rfl) ?_⟩
  · intro i x hx
    have hi : i < vs.size := by
      have := (List.getElem?_eq_some_iff.1 hx).1
      omega
    exact ⟨vs[i], (hself i).trans (by simp [hi]), (a3 i x _ hx (by simp [hi])).mono hle⟩
  · intro b' o v h
    simp only [Know.ext] at h
    split at h
    · rename_i e; subst e; rw [hcell]; exact h
    · exact R.agree b' o v h
  · intro i x b' hi e1 e2
    have hne : b' ≠ b := fun e => hi (R.inj i n x _ b' e1 hb e2 (by rw [e]; rfl))
    refine ⟨rfl, fun o => by simp [Know.ext, hne], fun e => hne (by simpa [Home.blk] using e.symm)⟩
  · intro b' o hb' hx
    have hne : b' ≠ b := fun e => by
      subst e
      rcases a4 with h | h
      · omega
      · exact hx h
    simp [Know.ext, hne]

/-- A new block all of whose cells are known from the first: its place, no name. -/
theorem MRel.newKnown {E : Env} {G : Gh} {m : Nat → Option MC} {w w' : World} (R : MRel E G m w) (f : Nat → Option Value)
    (hf : ∀ o v, f o = some v → w'.cell? ⟨w.heap.size, o, none⟩ = some v)
    (hold : ∀ b, b < w.heap.size → w'.heap[b]? = w.heap[b]?) (hos : w'.os = w.os) (htape : w'.tape = w.tape) (hout : w'.output = w.output) (hsz : w.heap.size ≤ w'.heap.size) :
    let G' : Gh := ⟨Know.ext G.K w.heap.size f, G.h⟩
    G.le G' ∧ MRel E G' m w' := by
  have hK : G.K.le (Know.ext G.K w.heap.size f) := fun b o v h => by
    have := R.k_lt h
    unfold Know.ext
    rw [if_neg (by omega)]; exact h
  refine ⟨⟨hK, fun n h e => ⟨h, e, Home.le_refl h⟩⟩, R.same hK rfl ?_ hold ?_ hos htape hout hsz⟩
  · intro b o v h
    simp only [Know.ext] at h
    split at h
    · rename_i e; subst e; exact hf o v h
    · rw [cell_same (hold b (R.k_lt h))]; exact R.agree b o v h
  · intro b o hb
    simp only [Know.ext]
    rw [if_neg (by omega)]

/-- A new row that is owned: a new block (of which the first cells are known), or nothing. -/
theorem MRel.newRow {E : Env} {G : Gh} {m : Nat → Option MC} {w w' : World} (R : MRel E G m w) {n : Nat} (hn : m n = none) {z cap : Nat} {rows : List (List PC)} {vs : Array Value} {ty : TypeId}
    (hz : 0 < z) (hr : ∀ r ∈ rows, r.length = z) (hcap : rows.length ≤ cap) (hsize : vs.size = cap * z)
    (hw : w'.heap[w.heap.size]? = some (.cells vs ty (0, 0)))
    (hv : ∀ (j : Nat) (r : List PC) (i : Nat) (c : PC), rows[j]? = some r → r[i]? = some c → ∃ v, vs[j * z + i]? = some v ∧ VR G.K c v)
    (hold : ∀ b, b < w.heap.size → w'.heap[b]? = w.heap[b]?) (hos : w'.os = w.os) (htape : w'.tape = w.tape) (hout : w'.output = w.output) (hsz : w.heap.size ≤ w'.heap.size) :
    ∃ G' : Gh, G.le G' ∧ AR G' (.own n z rows) (.slice (some ⟨w.heap.size, 0, none⟩) rows.length cap) ∧ MRel E G' (mset m n (.row z rows.length)) w' := by
  have hnone : G.h n = none := by have := R.home n; rw [hn] at this; exact this.none_of
  let f : Nat → Option Value := fun o => if o < rows.length * z then vs[o]? else none
  have hK : G.K.le (Know.ext G.K w.heap.size f) := fun b o v h => by
    have := R.k_lt h
    unfold Know.ext
    rw [if_neg (by omega)]; exact h
  let G' : Gh := ⟨Know.ext G.K w.heap.size f, fun i => if i = n then some (.row z (some (w.heap.size, cap)) rows.length) else G.h i⟩
  have hle : G.le G' := ⟨hK, fun i h e => ⟨h, by show (if i = n then _ else _) = _; rw [if_neg (fun e' => by subst e'; rw [hnone] at e; cases e)]; exact e, Home.le_refl h⟩⟩
  have hn' : G'.h n = some (.row z (some (w.heap.size, cap)) rows.length) := if_pos rfl
  have hself : ∀ o, G'.K w.heap.size o = f o := fun o => by show (if _ then _ else _) = _; rw [if_pos rfl]
  have hslice : Slice G'.K z w.heap.size 0 rows := by
    refine ⟨hr, fun j r hj i c hi => ?_⟩
    obtain ⟨v, h1, h2⟩ := hv j r i c hj hi
    have hjl : j < rows.length := (List.getElem?_eq_some_iff.1 hj).1
    have hil : i < z := by
      have := (List.getElem?_eq_some_iff.1 hi).1
      rw [hr r (List.mem_of_getElem? hj)] at this; exact this
    have hlt : j * z + i < rows.length * z := by
      have h3 : j * z + z ≤ rows.length * z := by rw [← Nat.succ_mul]; exact Nat.mul_le_mul_right z hjl
      omega
    refine ⟨v, ?_, h2.mono hle.K⟩
    rw [hself]
    show (if 0 + j * z + i < rows.length * z then vs[0 + j * z + i]? else none) = some v
    rw [Nat.zero_add, if_pos hlt]; exact h1
  refine ⟨G', hle, .own n z rows _ _ _ hn' (Nat.le_refl _) hr (VR.of_slice hslice hcap) (fun _ => rfl), ?_⟩
  refine R.update hle n _ _ ?_ ?_ hn' ⟨rfl, rfl, vs, ty, ⟨_, hw, .inl rfl⟩, hsize, hcap, hz, .inl R.sizeB, ?_⟩ ?_ hos htape hout hsz ?_ ?_
  · intro b o v h
    by_cases e : b = w.heap.size
    · subst e
      rw [hself] at h
      simp only [World.cell?, hw]
      show (if _ then _ else _) = _
      simp only [f] at h
      split at h
      · simpa using h
      · cases h
    · have h' : G.K b o = some v := by
        have h2 : (if b = w.heap.size then f o else G.K b o) = some v := h
        rw [if_neg e] at h2; exact h2
      rw [cell_same (hold b (R.k_lt h'))]; exact R.agree b o v h'
  · intro i hi; show (if i = n then _ else _) = _; rw [if_neg hi]
  · intro o ho
    rw [hself]
    show (if _ then _ else _) = _
    rw [if_neg (by omega)]
  · intro i x b hi e1 e2
    have hlt := (e1 ▸ R.home i).lt e2
    refine ⟨hold b hlt, fun o => ?_, ?_⟩
    · show (if _ then _ else _) = _
      rw [if_neg (by omega)]
    · simp [Home.blk]; omega
  · intro k hk _
    have := R.sizeB
    exact hold k (by omega)
  · intro b o hb _
    have := R.sizeB
    show (if _ then _ else _) = _
    rw [if_neg (by omega)]


/-- A row that is owned grows: where it lies, or in a new block. -/
theorem MRel.turnRow {E : Env} {G : Gh} {m : Nat → Option MC} {w w' : World} (R : MRel E G m w) {n z : Nat} {bk : Option (Nat × Nat)} {b' cap' : Nat} {rows ys : List (List PC)} {vs' : Array Value} {ty : TypeId}
    (hn : m n = some (.row z rows.length)) (hb : G.h n = some (.row z bk rows.length))
    (hplace : bk = some (b', cap') ∨ (b' = w.heap.size ∧ 0 < ys.length)) (hz : 0 < z) (hr : ∀ r ∈ rows ++ ys, r.length = z)
    (hcap : (rows ++ ys).length ≤ cap') (hsize : vs'.size = cap' * z)
    (hw : ∃ p, w'.heap[b']? = some (.cells vs' ty p) ∧ FrOK vs'.size p)
    (hv : ∀ (j : Nat) (r : List PC) (i : Nat) (c : PC), (rows ++ ys)[j]? = some r → r[i]? = some c → ∃ v, vs'[j * z + i]? = some v ∧ VR G.K c v)
    (hkeep : ∀ o v, G.K b' o = some v → vs'[o]? = some v)
    (hold : ∀ b, b ≠ b' → b < w.heap.size → w'.heap[b]? = w.heap[b]?) (hos : w'.os = w.os) (htape : w'.tape = w.tape) (hout : w'.output = w.output) (hsz : w.heap.size ≤ w'.heap.size) :
    ∃ G' : Gh, G.le G' ∧ AR G' (.own n z (rows ++ ys)) (.slice (some ⟨b', 0, none⟩) (rows ++ ys).length cap') ∧ MRel E G' (mset m n (.row z (rows ++ ys).length)) w' := by
  obtain ⟨pq, hwq, hwf⟩ := hw
  have h0 := R.home n
  rw [hn, hb] at h0
  obtain ⟨_, _, h0⟩ := h0
  have hbeyond : ∀ o, rows.length * z ≤ o → G.K b' o = none := by
    rcases hplace with rfl | ⟨rfl, _⟩
    · obtain ⟨_, _, _, _, _, _, _, h⟩ := h0; exact h
    · exact fun o _ => R.k_new (Nat.le_refl _) o
  have hmine : E.mine b' := by
    rcases hplace with rfl | ⟨rfl, _⟩
    · obtain ⟨_, _, _, _, _, _, h, _⟩ := h0; exact h
    · exact .inl R.sizeB
  have hother : ∀ i x b, i ≠ n → G.h i = some x → x.blk = some b → b ≠ b' := by
    intro i x b hi e1 e2 e
    rcases hplace with rfl | ⟨rfl, _⟩
    · exact hi (R.inj i n x _ b e1 hb e2 (by rw [e]; rfl))
    · have hlt := (e1 ▸ R.home i).lt e2
      omega
  have hlen : (rows ++ ys).length = rows.length + ys.length := List.length_append
  have hL : rows.length * z ≤ (rows ++ ys).length * z := Nat.mul_le_mul_right z (by omega)
  let f : Nat → Option Value := fun o => if o < (rows ++ ys).length * z then vs'[o]? else none
  have hK : G.K.le (Know.ext G.K b' f) := fun b o v h => by
    unfold Know.ext
    split
    · rename_i e; subst e
      have : o < rows.length * z := by
        rcases Nat.lt_or_ge o (rows.length * z) with h1 | h1
        · exact h1
        · rw [hbeyond o h1] at h; cases h
      show (if o < (rows ++ ys).length * z then vs'[o]? else none) = some v
      rw [if_pos (by omega)]; exact hkeep o v h
    · exact h
  let G' : Gh := ⟨Know.ext G.K b' f, fun i => if i = n then some (.row z (some (b', cap')) (rows ++ ys).length) else G.h i⟩
  have hle : G.le G' := by
    refine ⟨hK, fun i h e => ?_⟩
    by_cases hi : i = n
    · subst hi
      rw [hb] at e
      cases e
      refine ⟨_, if_pos rfl, .row z _ _ _ _ (by omega) (fun e => ?_)⟩
      rcases hplace with h | ⟨_, h⟩
      · exact h
      · omega
    · exact ⟨h, (if_neg hi).trans e, Home.le_refl h⟩
  have hn' : G'.h n = some (.row z (some (b', cap')) (rows ++ ys).length) := if_pos rfl
  have hself : ∀ o, G'.K b' o = f o := fun o => by show (if _ then _ else _) = _; rw [if_pos rfl]
  have hoth : ∀ b o, b ≠ b' → G'.K b o = G.K b o := fun b o e => by show (if _ then _ else _) = _; rw [if_neg e]
  have hslice : Slice G'.K z b' 0 (rows ++ ys) := by
    refine ⟨hr, fun j r hj i c hi => ?_⟩
    obtain ⟨v, h1, h2⟩ := hv j r i c hj hi
    have hjl : j < (rows ++ ys).length := (List.getElem?_eq_some_iff.1 hj).1
    have hil : i < z := by
      have := (List.getElem?_eq_some_iff.1 hi).1
      rw [hr r (List.mem_of_getElem? hj)] at this; exact this
    have hlt : j * z + i < (rows ++ ys).length * z := by
      have h3 : j * z + z ≤ (rows ++ ys).length * z := by rw [← Nat.succ_mul]; exact Nat.mul_le_mul_right z hjl
      omega
    refine ⟨v, ?_, h2.mono hle.K⟩
    rw [hself]
    show (if 0 + j * z + i < (rows ++ ys).length * z then vs'[0 + j * z + i]? else none) = some v
    rw [Nat.zero_add, if_pos hlt]; exact h1
  refine ⟨G', hle, .own n z _ _ _ _ hn' (Nat.le_refl _) hr (VR.of_slice hslice hcap) (fun _ => rfl), ?_⟩
  refine R.update hle n _ _ ?_ ?_ hn' ⟨rfl, rfl, vs', ty, ⟨pq, hwq, hwf⟩, hsize, hcap, hz, hmine, ?_⟩ ?_ hos htape hout hsz ?_ ?_
  · intro b o v h
    by_cases e : b = b'
    · subst e
      rw [hself] at h
      simp only [World.cell?, hwq]
      simp only [f] at h
      split at h
      · simpa using h
      · cases h
    · rw [hoth b o e] at h
      rw [cell_same (hold b e (R.k_lt h))]; exact R.agree b o v h
  · intro i hi; show (if i = n then _ else _) = _; rw [if_neg hi]
  · intro o ho
    rw [hself]
    show (if _ then _ else _) = _
    rw [if_neg (by omega)]
  · intro i x b hi e1 e2
    have hne := hother i x b hi e1 e2
    have hlt := (e1 ▸ R.home i).lt e2
    exact ⟨hold b hne hlt, fun o => hoth b o hne, fun e => hne (by simpa [Home.blk] using e.symm)⟩
  · intro k hk hx
    have := R.sizeB
    refine hold k (fun e => ?_) (by omega)
    subst e
    rcases hmine with h | h
    · omega
    · exact hx h
  · intro b o hb' hx
    refine hoth b o (fun e => ?_)
    subst e
    rcases hmine with h | h
    · omega
    · exact hx h

/-- A row of nothing, owned. -/
theorem MRel.nilRow {E : Env} {G : Gh} {m : Nat → Option MC} {w : World} (R : MRel E G m w) {n : Nat} (hn : m n = none) (z : Nat) :
    ∃ G' : Gh, G.le G' ∧ AR G' (.own n z []) (.slice none 0 0) ∧ MRel E G' (mset m n (.row z 0)) w := by
  have hnone : G.h n = none := by have := R.home n; rw [hn] at this; exact this.none_of
  have hle : G.le (G.put n (.row z none 0)) := Gh.le_put hnone
  have hn' : (G.put n (.row z none 0)).h n = some (.row z none 0) := by simp [Gh.put]
  refine ⟨_, hle, .own n z [] _ none 0 hn' (Nat.le_refl _) (by simp) .nil (fun _ => rfl), ?_⟩
  refine R.update hle n _ (.row z none 0) R.agree (fun i hi => by simp [Gh.put, hi]) hn' ⟨rfl, rfl, rfl⟩ (fun i x b _ _ _ => ⟨rfl, fun _ => rfl, by simp [Home.blk]⟩) rfl rfl rfl (Nat.le_refl _) (fun _ _ _ => rfl) (fun _ _ _ _ => rfl)

/-- A map that is new. -/
theorem MRel.newMap {E : Env} {G : Gh} {m : Nat → Option MC} {w : World} (R : MRel E G m w) {n : Nat} (hn : m n = none) (ag : Bool) :
    let G' := G.put n (.obj w.heap.size)
    G.le G' ∧ AR G' (.mp n) (.map (some w.heap.size)) ∧ MRel E G' (mset m n (.mp ag [])) { w with heap := w.heap.push (.map #[] 0) } := by
  have hnone : G.h n = none := by have := R.home n; rw [hn] at this; exact this.none_of
  have hle : G.le (G.put n (.obj w.heap.size)) := Gh.le_put hnone
  have hold : ∀ b, b < w.heap.size → ({ w with heap := w.heap.push (.map #[] 0) } : World).heap[b]? = w.heap[b]? := fun b hb => by
    show (w.heap.push _)[b]? = _
    rw [Array.getElem?_push, if_neg (by omega)]
  refine ⟨hle, .mp n _ (by simp [Gh.put]), R.update hle n _ (.obj w.heap.size) ?_ ?_ ?_ ?_ ?_ rfl rfl rfl (by simp) ?_ (fun _ _ _ _ => rfl)⟩
  · intro b o v h
    rw [cell_same (hold b (R.k_lt h))]; exact R.agree b o v h
  · intro i hi; simp [Gh.put, hi]
  · simp [Gh.put]
  · exact ⟨#[], 0, by simp, by simp, .inl R.sizeB⟩
  · intro i x b _ e1 e2
    have hlt := (e1 ▸ R.home i).lt e2
    refine ⟨hold b hlt, fun _ => rfl, ?_⟩
    simp [Home.blk]; omega
  · intro k hk _
    have := R.sizeB
    exact hold k (by omega)

/-- A map's entries turn. -/
theorem MRel.setMap {E : Env} {G : Gh} {m : Nat → Option MC} {w : World} (R : MRel E G m w) {n b : Nat} {ag : Bool} {es es' : List (List UInt8 × List PC)} {ms' : Array MapEntry} {cl' : Nat}
    (hn : m n = some (.mp ag es)) (hb : G.h n = some (.obj b)) (hk : ∀ x ∈ ms'.toList, MapKept.IsKey (.int .i64) x.key) :
    MRel E G (mset m n (.mp ag es')) (World.setBlock w b (.map ms' cl')) := by
  have h0 := R.home n
  rw [hn, hb] at h0
  obtain ⟨ms, cl, a1, _, a4⟩ := h0
  have hlt := heap_some_lt a1
  refine R.update (Gh.le_refl G) n _ (.obj b) ?_ (fun _ _ => rfl) hb ⟨ms', cl', setBlock_same hlt _, hk, a4⟩ ?_ rfl rfl rfl (by simp [setBlock_size]) ?_ (fun _ _ _ _ => rfl)
  · intro b' o v h
    by_cases e : b' = b
    · subst e
      have := R.agree _ _ _ h
      simp [World.cell?, a1] at this
    · rw [cell_same (setBlock_other e _)]; exact R.agree b' o v h
  · intro i x b' hi e1 e2
    have hne : b' ≠ b := fun e => hi (R.inj i n x _ b' e1 hb e2 (by rw [e]; rfl))
    exact ⟨setBlock_other hne _, fun _ => rfl, fun e => hne (by simpa [Home.blk] using e.symm)⟩
  · intro k hk hx
    have hne : k ≠ b := fun e => by
      subst e
      rcases a4 with h | h
      · omega
      · exact hx h
    exact setBlock_other hne _

end Go.Proofs.Ytofkehedjcinhaa.AM
