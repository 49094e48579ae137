/-
  Q6: Sh0 Sh1 Sh2 Sh3 Sh4.
-/
import Derived.Test.YtcfijanfcgnnhaaQ5
import Derived.Lib.Walk
import Derived.Lib.SliceRun
import Derived.Lib.AppendZerosOnto
import Derived.Shelf.Abstract
import Derived.Shelf.RegionOpen
import Derived.OwnWalkIn
import Derived.TacticsInMore
set_option linter.unusedVariables false
set_option linter.unusedSimpArgs false
namespace Go.Proofs.Ytcfijanfcgnnhaa.AM
open Go

/-- A contract by shapes: of whatever answers to these arguments and objects. -/
noncomputable def mkC {α : Type} (ok : α → Prop) (A : α → List AV) (O : α → List (List OV)) (R : α → CRes) : Contract := fun args objs =>
  open Classical in if h : ∃ x, ok x ∧ args = A x ∧ objs = O x then some (R h.choose) else none
theorem mkC_inv {α : Type} {ok : α → Prop} {A : α → List AV} {O : α → List (List OV)} {R : α → CRes} {args : List AV} {objs : List (List OV)} {r : CRes} (h : mkC ok A O R args objs = some r) :
    ∃ x, ok x ∧ args = A x ∧ objs = O x ∧ r = R x := by
  unfold mkC at h
  split at h
  · rename_i hx
    cases h
    obtain ⟨h1, h2, h3⟩ := hx.choose_spec
    exact ⟨_, h1, h2, h3, rfl⟩
  · cases h
theorem mkC_at {α : Type} {ok : α → Prop} {A : α → List AV} {O : α → List (List OV)} {R : α → CRes} (x : α) (h : ok x) (hi : ∀ y, ok y → A y = A x → O y = O x → R y = R x) : mkC ok A O R (A x) (O x) = some (R x) := by
  unfold mkC
  have hx : ∃ y, ok y ∧ A x = A y ∧ O x = O y := ⟨x, h, rfl, rfl⟩
  rw [dif_pos hx]
  obtain ⟨h1, h2, h3⟩ := hx.choose_spec
  rw [hi _ h1 h2.symm h3.symm]

abbrev W32 := BitVec 32
def wC (x : W32) : PC := .int .u32 (x.toNat : Int)
variable {P : Program} {t : TypeId}
def cellsW (l : List W32) : List AV := l.map fun x => .c (wC x)

variable {Γ : FuncId → Contract}

/-- A word, turned right. -/
def rotr (x : W32) (n : Nat) : W32 := x >>> n ||| x <<< (32 - n)
open Go Go.Proofs Go.RowKit Go.Shelf

variable {Γ : FuncId → Contract}

/-- Slices of octets, as cells. -/
def slices (l : List (List UInt8)) : List (List PC) := l.map fun b => [PC.sl (bytes b)]

variable {Γ : FuncId → Contract}


variable {Γ : FuncId → Contract}

def kS : List W32 := [1116352408, 1899447441, 3049323471, 3921009573, 961987163, 1508970993, 2453635748, 2870763221, 3624381080, 310598401, 607225278, 1426881987, 1925078388, 2162078206, 2614888103, 3248222580, 3835390401, 4022224774, 264347078, 604807628, 770255983, 1249150122, 1555081692, 1996064986, 2554220882, 2821834349, 2952996808, 3210313671, 3336571891, 3584528711, 113926993, 338241895, 666307205, 773529912, 1294757372, 1396182291, 1695183700, 1986661051, 2177026350, 2456956037, 2730485921, 2820302411, 3259730800, 3345764771, 3516065817, 3600352804, 4094571909, 275423344, 430227734, 506948616, 659060556, 883997877, 958139571, 1322822218, 1537002063, 1747873779, 1955562222, 2024104815, 2227730452, 2361852424, 2428436474, 2756734187, 3204031479, 3329325298]
def hS : List W32 := [1779033703, 3144134277, 1013904242, 2773480762, 1359893119, 2600822924, 528734635, 1541459225]
def hC : Contract := fun args objs => match args, objs with | [], [] => some ⟨[.pv (.agg (cellsW hS))], []⟩ | _, _ => none
end Go.Proofs.Ytcfijanfcgnnhaa.AM
