/-
  QF: Sh1 Sh2 Sh3 Sh4 Sh5 Sh6.
-/
import Derived.Test.YtcfijanfcgnnhaaDoorQC
import Derived.Lib.Walk
import Derived.Lib.SliceRun
import Derived.Lib.AppendZerosOnto
import Derived.Shelf.Abstract
import Derived.Shelf.RegionOpen
import Derived.OwnWalkIn
import Derived.TacticsInMore
set_option linter.unusedVariables false
set_option linter.unusedSimpArgs false
namespace Go.Proofs.YtcfijanfcgnnhaaDoor.AM
open Go

variable {Γ : FuncId → Contract}

/-- A word, turned right. -/
def rotr (x : W32) (n : Nat) : W32 := x >>> n ||| x <<< (32 - n)
open Go Go.Proofs Go.RowKit Go.Shelf

variable {Γ : FuncId → Contract}

/-- Slices of octets, as cells. -/
def slices (l : List (List UInt8)) : List (List PC) := l.map fun b => [PC.sl (bytes b)]

variable {Γ : FuncId → Contract}


variable {Γ : FuncId → Contract}

def kS : List W32 := [1116352408, 1899447441, 3049323471, 3921009573, 961987163, 1508970993, 2453635748, 2870763221, 3624381080, 310598401, 607225278, 1426881987, 1925078388, 2162078206, 2614888103, 3248222580, 3835390401, 4022224774, 264347078, 604807628, 770255983, 1249150122, 1555081692, 1996064986, 2554220882, 2821834349, 2952996808, 3210313671, 3336571891, 3584528711, 113926993, 338241895, 666307205, 773529912, 1294757372, 1396182291, 1695183700, 1986661051, 2177026350, 2456956037, 2730485921, 2820302411, 3259730800, 3345764771, 3516065817, 3600352804, 4094571909, 275423344, 430227734, 506948616, 659060556, 883997877, 958139571, 1322822218, 1537002063, 1747873779, 1955562222, 2024104815, 2227730452, 2361852424, 2428436474, 2756734187, 3204031479, 3329325298]
def hS : List W32 := [1779033703, 3144134277, 1013904242, 2773480762, 1359893119, 2600822924, 528734635, 1541459225]
def hC : Contract := fun args objs => match args, objs with | [], [] => some ⟨[.pv (.agg (cellsW hS))], []⟩ | _, _ => none

variable {Γ : FuncId → Contract}


variable {Γ : FuncId → Contract}

structure S8 where
  a : W32
  b : W32
  c : W32
  d : W32
  e : W32
  f : W32
  g : W32
  h : W32
def S8.l (s : S8) : List W32 := [s.a, s.b, s.c, s.d, s.e, s.f, s.g, s.h]
/-- A round. -/
def rnd (v : S8) (k w : W32) : S8 :=
  ⟨(((v.h + ((rotr v.e 6 ^^^ rotr v.e 11) ^^^ rotr v.e 25)) + ((v.e &&& v.f) ^^^ (~~~v.e &&& v.g))) + k + w) + (((rotr v.a 2 ^^^ rotr v.a 13) ^^^ rotr v.a 22) + (((v.a &&& v.b) ^^^ (v.a &&& v.c)) ^^^ (v.b &&& v.c))),
    v.a, v.b, v.c, v.d + (((v.h + ((rotr v.e 6 ^^^ rotr v.e 11) ^^^ rotr v.e 25)) + ((v.e &&& v.f) ^^^ (~~~v.e &&& v.g))) + k + w), v.e, v.f, v.g⟩
def rounds (s : S8) (w : List W32) : Nat → S8
  | 0 => s
  | i + 1 => rnd (rounds s w i) (kS.getD i 0) (w.getD i 0)
end Go.Proofs.YtcfijanfcgnnhaaDoor.AM
