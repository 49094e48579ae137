/-
  Q7: Sh5 Sh6 Sh7 Sh8 Sh9 ShT Au.
-/
import Derived.Test.YtcfijanfcgnnhaaQ6
import Derived.Test.YtcfijanfcgnnhaaQ5
set_option linter.unusedVariables false
set_option linter.unusedSimpArgs false
namespace Go.Proofs.Ytcfijanfcgnnhaa.AM
open Go

variable {Γ : FuncId → Contract}


variable {Γ : FuncId → Contract}

structure S8 where
  a : W32
  b : W32
  c : W32
  d : W32
  e : W32
  f : W32
  g : W32
  h : W32
def S8.l (s : S8) : List W32 := [s.a, s.b, s.c, s.d, s.e, s.f, s.g, s.h]
/-- A round. -/
def rnd (v : S8) (k w : W32) : S8 :=
  ⟨(((v.h + ((rotr v.e 6 ^^^ rotr v.e 11) ^^^ rotr v.e 25)) + ((v.e &&& v.f) ^^^ (~~~v.e &&& v.g))) + k + w) + (((rotr v.a 2 ^^^ rotr v.a 13) ^^^ rotr v.a 22) + (((v.a &&& v.b) ^^^ (v.a &&& v.c)) ^^^ (v.b &&& v.c))),
    v.a, v.b, v.c, v.d + (((v.h + ((rotr v.e 6 ^^^ rotr v.e 11) ^^^ rotr v.e 25)) + ((v.e &&& v.f) ^^^ (~~~v.e &&& v.g))) + k + w), v.e, v.f, v.g⟩
def rounds (s : S8) (w : List W32) : Nat → S8
  | 0 => s
  | i + 1 => rnd (rounds s w i) (kS.getD i 0) (w.getD i 0)

variable {Γ : FuncId → Contract}

def H0 : S8 := ⟨1779033703, 3144134277, 1013904242, 2773480762, 1359893119, 2600822924, 528734635, 1541459225⟩

variable {Γ : FuncId → Contract}


variable {Γ : FuncId → Contract}


/-- Texts, as cells. -/
def texts (l : List (List UInt8)) : List (List PC) := l.map fun s => [PC.str s]

end Go.Proofs.Ytcfijanfcgnnhaa.AM
