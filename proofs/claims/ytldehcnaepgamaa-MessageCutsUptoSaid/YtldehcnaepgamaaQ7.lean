/-
  Q7: Sh5 Sh6 Sh7 Sh8 Sh9 ShT.
-/
import Derived.Test.YtldehcnaepgamaaQ6
import Derived.Test.YtldehcnaepgamaaQ5
set_option linter.unusedVariables false
set_option linter.unusedSimpArgs false
namespace Go.Proofs.Ytldehcnaepgamaa.AM
open Go

variable {Γ : FuncId → Contract}

def nextW (b : List UInt8) (l : List W32) (t : Nat) : W32 :=
  if t < 16 then wordS b (4 * (t : Int)) else
    (((rotr (l.getD (t - 2) 0) 17 ^^^ rotr (l.getD (t - 2) 0) 19) ^^^ (l.getD (t - 2) 0 >>> 10)) + l.getD (t - 7) 0 + ((rotr (l.getD (t - 15) 0) 7 ^^^ rotr (l.getD (t - 15) 0) 18) ^^^ (l.getD (t - 15) 0 >>> 3))) + l.getD (t - 16) 0
def wS (b : List UInt8) : Nat → List W32
  | 0 => []
  | t + 1 => wS b t ++ [nextW b (wS b t) t]

variable {Γ : FuncId → Contract}

structure S8 where
  a : W32
  b : W32
  c : W32
  d : W32
  e : W32
  f : W32
  g : W32
  h : W32
def S8.l (s : S8) : List W32 := [s.a, s.b, s.c, s.d, s.e, s.f, s.g, s.h]
/-- A round. -/
def rnd (v : S8) (k w : W32) : S8 :=
  ⟨(((v.h + ((rotr v.e 6 ^^^ rotr v.e 11) ^^^ rotr v.e 25)) + ((v.e &&& v.f) ^^^ (~~~v.e &&& v.g))) + k + w) + (((rotr v.a 2 ^^^ rotr v.a 13) ^^^ rotr v.a 22) + (((v.a &&& v.b) ^^^ (v.a &&& v.c)) ^^^ (v.b &&& v.c))),
    v.a, v.b, v.c, v.d + (((v.h + ((rotr v.e 6 ^^^ rotr v.e 11) ^^^ rotr v.e 25)) + ((v.e &&& v.f) ^^^ (~~~v.e &&& v.g))) + k + w), v.e, v.f, v.g⟩
def rounds (s : S8) (w : List W32) : Nat → S8
  | 0 => s
  | i + 1 => rnd (rounds s w i) (kS.getD i 0) (w.getD i 0)
def addS (v s : S8) : S8 := ⟨v.a + s.a, v.b + s.b, v.c + s.c, v.d + s.d, v.e + s.e, v.f + s.f, v.g + s.g, v.h + s.h⟩
def blockS (s : S8) (b : List UInt8) : S8 := addS (rounds s (wS b 64) 64) s


variable {Γ : FuncId → Contract}

def padS (b : List UInt8) : List UInt8 := [b, [128], List.replicate ((119 - b.length % 64) % 64) 0, putB (8 * (b.length : Int)) 8].flatten
def H0 : S8 := ⟨1779033703, 3144134277, 1013904242, 2773480762, 1359893119, 2600822924, 528734635, 1541459225⟩
def chunk (p : List UInt8) (i : Nat) : List UInt8 := (p.drop (64 * i)).take 64
def stS (p : List UInt8) : Nat → S8
  | 0 => H0
  | i + 1 => blockS (stS p i) (chunk p i)
def shaS (b : List UInt8) : List UInt8 := octsOf (stS (padS b) ((padS b).length / 64)).l
theorem bytes_take (l : List UInt8) (n : Nat) : (bytes l).take n = bytes (l.take n) := by simp [bytes, List.map_take]
theorem bytes_drop (l : List UInt8) (n : Nat) : (bytes l).drop n = bytes (l.drop n) := by simp [bytes, List.map_drop]

/-- The first octets of a sum. -/
def shortS (b : List UInt8) : List UInt8 := (shaS b).take 8

variable {Γ : FuncId → Contract}


variable {Γ : FuncId → Contract}


/-- Texts, as cells. -/
def texts (l : List (List UInt8)) : List (List PC) := l.map fun s => [PC.str s]
theorem texts_length (l : List (List UInt8)) : (texts l).length = l.length := by simp [texts]
theorem texts_inj {a b : List (List UInt8)} (h : texts a = texts b) : a = b := by
  unfold texts at h
  refine (List.map_inj_right (fun x y h => ?_)).1 h
  simpa using h
end Go.Proofs.Ytldehcnaepgamaa.AM
