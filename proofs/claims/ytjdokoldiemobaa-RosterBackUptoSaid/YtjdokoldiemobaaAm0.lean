/-
  THE ABSTRACT MACHINE, part 0: pure values, abstract values, ghosts, their relation to Go's values; nothing of one program.
-/
import Derived.WalkKit
import Derived.Orders
import Derived.Below
import Derived.OrdersIn
import Derived.TacticsIn
import Derived.RangeFuncWrites
import Derived.RangeFuncCalls
set_option linter.unusedVariables false
set_option linter.unusedSimpArgs false
namespace Go.Proofs.Ytjdokoldiemobaa.AM
open Go

/-- A pure cell: a scalar, a text, a slice by its contents (rows of cells). -/
inductive PC where
  | int (k : IntKind) (n : Int)
  | bool (b : Bool)
  | str (s : List UInt8)
  | sl (rows : List (List PC))
  deriving Inhabited

/-- Cells that are known and never change. -/
abbrev Know := Nat → Nat → Option Value

def Know.le (K K' : Know) : Prop := ∀ b o v, K b o = some v → K' b o = some v
theorem Know.le_refl (K : Know) : K.le K := fun _ _ _ h => h
theorem Know.le_trans {K K' K'' : Know} (h : K.le K') (h' : K'.le K'') : K.le K'' := fun b o v e => h' b o v (h b o v e)

inductive VR (K : Know) : PC → Value → Prop
  | int (k : IntKind) (n : Int) : VR K (.int k n) (.int k n)
  | bool (b : Bool) : VR K (.bool b) (.bool b)
  | str (s : List UInt8) : VR K (.str s) (.string ⟨s.toArray⟩)
  | nil : VR K (.sl []) (.slice none 0 0)
  | at0 (a : Addr) (cap : Nat) : VR K (.sl []) (.slice (some a) 0 cap)
  | sl (rows : List (List PC)) (z b off cap : Nat) (f : Nat → Nat → Value)
      (hz : ∀ r ∈ rows, r.length = z) (hc : rows.length ≤ cap)
      (hk : ∀ (j : Nat) (r : List PC) (i : Nat) (c : PC), rows[j]? = some r → r[i]? = some c → K b (off + j * z + i) = some (f j i))
      (hv : ∀ (j : Nat) (r : List PC) (i : Nat) (c : PC), rows[j]? = some r → r[i]? = some c → VR K c (f j i)) :
      VR K (.sl rows) (.slice (some ⟨b, off, none⟩) rows.length cap)

theorem VR.mono {K K' : Know} (h : K.le K') {x : PC} {v : Value} (hv : VR K x v) : VR K' x v := by
  induction hv with
  | int k n => exact .int k n
  | bool b => exact .bool b
  | str s => exact .str s
  | nil => exact .nil
  | at0 a cap => exact .at0 a cap
  | sl rows z b off cap f hz hc hk _ ih => exact .sl rows z b off cap f hz hc (fun j r i c hj hi => h _ _ _ (hk j r i c hj hi)) ih

/-- A row of cells is known at a place. -/
def Known (K : Know) (b off : Nat) (cs : List PC) : Prop := ∀ (i : Nat) (c : PC), cs[i]? = some c → ∃ v, K b (off + i) = some v ∧ VR K c v

theorem Known.mono {K K' : Know} (h : K.le K') {b off : Nat} {cs : List PC} (hk : Known K b off cs) : Known K' b off cs :=
  fun i c hi => let ⟨v, h1, h2⟩ := hk i c hi; ⟨v, h _ _ _ h1, h2.mono h⟩

theorem Known.nil (K : Know) (b off : Nat) : Known K b off [] := fun i c h => by simp at h

theorem Known.drop {K : Know} {b off : Nat} {cs : List PC} (h : Known K b off cs) (n : Nat) : Known K b (off + n) (cs.drop n) := fun i c hi => by
  rw [List.getElem?_drop] at hi
  obtain ⟨v, h1, h2⟩ := h (n + i) c hi
  exact ⟨v, by rw [Nat.add_assoc]; exact h1, h2⟩

theorem Known.take {K : Know} {b off : Nat} {cs : List PC} (h : Known K b off cs) (n : Nat) : Known K b off (cs.take n) := fun i c hi => by
  rw [List.getElem?_take] at hi
  split at hi
  · exact h i c hi
  · cases hi

def Slice (K : Know) (z b off : Nat) (rows : List (List PC)) : Prop := (∀ r ∈ rows, r.length = z) ∧ ∀ (j : Nat) (r : List PC), rows[j]? = some r → Known K b (off + j * z) r

theorem Slice.mono {K K' : Know} (h : K.le K') {z b off : Nat} {rows : List (List PC)} (hs : Slice K z b off rows) : Slice K' z b off rows :=
  ⟨hs.1, fun j r hj => (hs.2 j r hj).mono h⟩

theorem VR.of_slice {K : Know} {z b off cap : Nat} {rows : List (List PC)} (h : Slice K z b off rows) (hc : rows.length ≤ cap) :
    VR K (.sl rows) (.slice (some ⟨b, off, none⟩) rows.length cap) := by
  refine .sl rows z b off cap (fun j i => (K b (off + j * z + i)).getD (.bool false)) h.1 hc ?_ ?_
  · intro j r i c hj hi
    obtain ⟨v, h1, _⟩ := h.2 j r hj i c hi
    simp [h1]
  · intro j r i c hj hi
    obtain ⟨v, h1, h2⟩ := h.2 j r hj i c hi
    simp [h1, h2]

theorem VR.slice_inv {K : Know} {rows : List (List PC)} {v : Value} (h : VR K (.sl rows) v) :
    (rows = [] ∧ ∃ A cap, v = .slice A 0 cap ∧ (A = none → cap = 0)) ∨ ∃ z b off cap, v = .slice (some ⟨b, off, none⟩) rows.length cap ∧ rows.length ≤ cap ∧ Slice K z b off rows := by
  cases h with
  | nil => exact .inl ⟨rfl, none, 0, rfl, fun _ => rfl⟩
  | at0 a cap => exact .inl ⟨rfl, some a, cap, rfl, fun h => by cases h⟩
  | sl _ z b off cap f hz hc hk hv =>
    exact .inr ⟨z, b, off, cap, rfl, hc, hz, fun j r hj i c hi => ⟨_, hk j r i c hj hi, hv j r i c hj hi⟩⟩

theorem VR.slice_form {K : Know} {rows : List (List PC)} {v : Value} (h : VR K (.sl rows) v) : ∃ a cap, v = .slice a rows.length cap ∧ rows.length ≤ cap := by
  rcases h.slice_inv with ⟨rfl, A, cap, rfl, _⟩ | ⟨z, b, off, cap, rfl, hc, _⟩
  · exact ⟨A, cap, rfl, by simp⟩
  · exact ⟨_, cap, rfl, hc⟩

/-- The cells of a value that lies flat. -/
def VRs (K : Know) (cs : List PC) (vs : List Value) : Prop := cs.length = vs.length ∧ ∀ (i : Nat) (c : PC) (v : Value), cs[i]? = some c → vs[i]? = some v → VR K c v

theorem VRs.mono {K K' : Know} (h : K.le K') {cs : List PC} {vs : List Value} (hs : VRs K cs vs) : VRs K' cs vs := ⟨hs.1, fun i c v h1 h2 => (hs.2 i c v h1 h2).mono h⟩
theorem VRs.nil (K : Know) : VRs K [] [] := ⟨rfl, fun i c v h => by simp at h⟩
theorem VRs.cons {K : Know} {c : PC} {v : Value} {cs : List PC} {vs : List Value} (h : VR K c v) (hs : VRs K cs vs) : VRs K (c :: cs) (v :: vs) :=
  ⟨by simp [hs.1], fun i c' v' h1 h2 => by
    cases i with
    | zero => simp at h1 h2; subst h1; subst h2; exact h
    | succ i => simp at h1 h2; exact hs.2 i c' v' h1 h2⟩
theorem VRs.cons_inv {K : Know} {c : PC} {cs : List PC} {vs : List Value} (h : VRs K (c :: cs) vs) : ∃ v vs', vs = v :: vs' ∧ VR K c v ∧ VRs K cs vs' := by
  obtain ⟨h1, h2⟩ := h
  cases vs with
  | nil => simp at h1
  | cons v vs =>
    refine ⟨v, vs, rfl, h2 0 c v (by simp) (by simp), by simpa using h1, fun i c' v' e1 e2 => h2 (i + 1) c' v' (by simpa using e1) (by simpa using e2)⟩

/-- A home: where an abstract object or a row that is owned lies. -/
inductive Home where
  | obj (b : Nat)
  | row (z : Nat) (bk : Option (Nat × Nat)) (fr : Nat)

def Home.blk : Home → Option Nat
  | .obj b => some b
  | .row _ bk _ => bk.map (·.1)

structure Gh where
  K : Know
  h : Nat → Option Home

inductive Home.le : Home → Home → Prop
  | obj (b : Nat) : Home.le (.obj b) (.obj b)
  | row (z : Nat) (bk bk' : Option (Nat × Nat)) (fr fr' : Nat) (h : fr ≤ fr') (he : fr = fr' → bk = bk') : Home.le (.row z bk fr) (.row z bk' fr')

theorem Home.le_refl (h : Home) : Home.le h h := by
  cases h with
  | obj b => exact .obj b
  | row z bk fr => exact .row z bk bk fr fr (Nat.le_refl _) (fun _ => rfl)

theorem Home.le_trans {a b c : Home} (h : Home.le a b) (h' : Home.le b c) : Home.le a c := by
  cases h with
  | obj b => exact h'
  | row z bk bk' fr fr' h1 h2 =>
    cases h' with
    | row _ _ bk'' _ fr'' h3 h4 =>
      refine .row z bk bk'' fr fr'' (Nat.le_trans h1 h3) (fun e => ?_)
      have e1 : fr = fr' := by omega
      have e2 : fr' = fr'' := by omega
      rw [h2 e1, h4 e2]

structure Gh.le (G G' : Gh) : Prop where
  K : G.K.le G'.K
  h : ∀ n h, G.h n = some h → ∃ h', G'.h n = some h' ∧ Home.le h h'

theorem Gh.le_refl (G : Gh) : G.le G := ⟨Know.le_refl _, fun _ h e => ⟨h, e, Home.le_refl h⟩⟩
theorem Gh.le_trans {a b c : Gh} (h : a.le b) (h' : b.le c) : a.le c :=
  ⟨Know.le_trans h.K h'.K, fun n x e => let ⟨y, e1, l1⟩ := h.h n x e; let ⟨z, e2, l2⟩ := h'.h n y e1; ⟨z, e2, Home.le_trans l1 l2⟩⟩

/-- Abstract values. -/
inductive AV where
  | undef
  | c (x : PC)
  | agg (cs : List AV)
  | nilsl
  | own (r z : Nat) (rows : List (List PC))
  | ptr (n off : Nat)
  | msl (n off len : Nat) (ex : Bool)
  | nilptr
  | rptr (cs : List PC)
  | clo (f : FuncId) (caps : List (List PC))
  | mp (n : Nat)
  | nilmp
  | ubool
  | tup (vs : List AV)
  deriving Inhabited

def homeVal (bk : Option (Nat × Nat)) (n : Nat) : Value :=
  match bk with
  | none => .slice none 0 0
  | some (b, cap) => .slice (some ⟨b, 0, none⟩) n cap

inductive AR (G : Gh) : AV → Value → Prop
  | undef (v : Value) : AR G .undef v
  | c (x : PC) (v : Value) (h : VR G.K x v) : AR G (.c x) v
  | agg (cs : List AV) (us : Array Value) (hl : cs.length = us.size) (h : ∀ (i : Nat) (x : AV) (u : Value), cs[i]? = some x → us[i]? = some u → AR G x u) : AR G (.agg cs) (.agg us)
  | nilsl : AR G .nilsl (.slice none 0 0)
  | own (r z : Nat) (rows : List (List PC)) (v : Value) (bk : Option (Nat × Nat)) (fr : Nat) (hh : G.h r = some (.row z bk fr)) (hl : rows.length ≤ fr)
      (hr : ∀ x ∈ rows, x.length = z) (hv : VR G.K (.sl rows) v) (ha : rows.length = fr → v = homeVal bk rows.length) : AR G (.own r z rows) v
  | ptr (n off b : Nat) (h : G.h n = some (.obj b)) : AR G (.ptr n off) (.pointer (some ⟨b, off, none⟩))
  | msl (n off len b cap : Nat) (ex : Bool) (h : G.h n = some (.obj b)) (hc : len ≤ cap) (he : ex = true → cap = len) : AR G (.msl n off len ex) (.slice (some ⟨b, off, none⟩) len cap)
  | nilptr : AR G .nilptr (.pointer none)
  | rptr (cs : List PC) (b off : Nat) (h : Known G.K b off cs) : AR G (.rptr cs) (.pointer (some ⟨b, off, none⟩))
  | clo (f : FuncId) (caps : List (List PC)) (us : List (Nat × Nat)) (hl : caps.length = us.length)
      (h : ∀ (i : Nat) (cs : List PC) (b : Nat × Nat), caps[i]? = some cs → us[i]? = some b → Known G.K b.1 b.2 cs) :
      AR G (.clo f caps) (.func (.func f) #[] (us.map fun b => Value.pointer (some ⟨b.1, b.2, none⟩)).toArray)
  | mp (n b : Nat) (h : G.h n = some (.obj b)) : AR G (.mp n) (.map (some b))
  | nilmp : AR G .nilmp (.map none)
  | ubool (b : Bool) : AR G .ubool (.bool b)
  | tup (vs : List AV) (us : Array Value) (hl : vs.length = us.size) (h : ∀ (i : Nat) (x : AV) (u : Value), vs[i]? = some x → us[i]? = some u → AR G x u) : AR G (.tup vs) (.tuple us)

theorem AR.mono {G G' : Gh} (h : G.le G') {x : AV} {v : Value} (hx : AR G x v) : AR G' x v := by
  induction hx with
  | undef v => exact .undef v
  | c x v hv => exact .c x v (hv.mono h.K)
  | agg vs us hl _ ih => exact .agg vs us hl ih
  | nilsl => exact .nilsl
  | own r z rows v bk fr hh hl hr hv ha =>
    obtain ⟨h', e, l⟩ := h.h r _ hh
    cases l with
    | row _ _ bk' _ fr' h1 h2 =>
      refine .own r z rows v bk' fr' e (by omega) hr (hv.mono h.K) (fun e' => ?_)
      have e1 : rows.length = fr := by omega
      have e2 : fr = fr' := by omega
      rw [← h2 e2]; exact ha e1
  | ptr n off b hh =>
    obtain ⟨h', e, l⟩ := h.h n _ hh
    cases l; exact .ptr n off b e
  | msl n off len b cap ex hh hc he =>
    obtain ⟨h', e, l⟩ := h.h n _ hh
    cases l; exact .msl n off len b cap ex e hc he
  | nilptr => exact .nilptr
  | rptr cs b off hk => exact .rptr cs b off (hk.mono h.K)
  | clo f caps us hl hk => exact .clo f caps us hl (fun i cs b h1 h2 => (hk i cs b h1 h2).mono h.K)
  | mp n b hh =>
    obtain ⟨h', e, l⟩ := h.h n _ hh
    cases l; exact .mp n b e
  | nilmp => exact .nilmp
  | ubool b => exact .ubool b
  | tup vs us hl _ ih => exact .tup vs us hl ih

end Go.Proofs.Ytjdokoldiemobaa.AM
