/-
  Lists of texts, as cells.
-/
import Derived.Test.YtjdokoldiemobaaSh9
set_option linter.unusedVariables false
set_option linter.unusedSimpArgs false
namespace Go.Proofs.Ytjdokoldiemobaa.AM
open Go

/-- Texts, as cells. -/
def texts (l : List (List UInt8)) : List (List PC) := l.map fun s => [PC.str s]
theorem texts_length (l : List (List UInt8)) : (texts l).length = l.length := by simp [texts]
theorem texts_inj {a b : List (List UInt8)} (h : texts a = texts b) : a = b := by
  unfold texts at h
  refine (List.map_inj_right (fun x y h => ?_)).1 h
  simpa using h
theorem texts_app (a b : List (List UInt8)) : texts a ++ texts b = texts (a ++ b) := by simp [texts]
theorem rowsOK_texts (l : List (List UInt8)) : rowsOK 1 (texts l) := by
  intro r hr
  simp only [texts, List.mem_map] at hr
  obtain ⟨b, _, rfl⟩ := hr
  rfl
theorem texts1 (s : List UInt8) : [[PC.str s]] = texts [s] := rfl

end Go.Proofs.Ytjdokoldiemobaa.AM
