/-
  The law PackWrites holds: any fields' octets, or why there are none, are as the page says.
-/
import Derived.Test.YtacglboiodolkaaPk7
import Derived.Test.YtacglboiodolkaaRows
import Derived.ProofKit
import Derived.SizedLaws
set_option linter.unusedVariables false
set_option linter.unusedSimpArgs false
namespace Go.Proofs.Ytacglboiodolkaa.AM
open Go

def G1 : FuncId → Contract := ext (ext (ext (ext (ext (ext none0 53 putC) 52 faultC) 54 putC) 55 cloneC) 21 newC) 28 numEC
theorem G1_sound : SoundG Try.prog G1 :=
  ext_sound (ext_sound (ext_sound (ext_sound (ext_sound (ext_sound none0_sound put_sound) fault_sound) (refPut_sound none0_sound)) clone_sound) new_sound) numE_sound
def G2 : FuncId → Contract := ext (ext (ext (ext (ext (ext G1 22 numC) 24 textC) 26 doneC) 23 rNumC) 25 rTextC) 27 rDoneC
theorem G2_sound : SoundG Try.prog G2 :=
  ext_sound (ext_sound (ext_sound (ext_sound (ext_sound (ext_sound G1_sound (num_sound G1_sound rfl rfl)) (text_sound G1_sound rfl rfl)) (done_sound G1_sound rfl)) (rNum_sound G1_sound rfl)) (rText_sound G1_sound rfl)) rDone_sound
def G3 : FuncId → Contract := ext G2 29 trueC
theorem G3_sound : SoundG Try.prog G3 := ext_sound G2_sound (alive_sound G2_sound rfl rfl rfl rfl)

theorem laid : laidOutB Try.prog = true := by kernel_rfl
theorem ownK : ownKnob Try.prog.godebug = none := by kernel_rfl

theorem len3 {r : List PC} (h : r.length = 3) : ∃ a b c, r = [a, b, c] := by
  match r, h with
  | [a, b, c], _ => exact ⟨a, b, c, rfl⟩

set_option maxRecDepth 100000 in
/-- What a law's argument is: fields. -/
theorem fields_of {n : Nat} {cs : List PC} (h : PT Try.prog n 39 cs) : ∃ rows, cs = [.sl rows] ∧ rows.all fieldB = true ∧ rows.length ≤ 9223372036854775807 := by
  have u1 : Try.prog.underlying 39 = some (.slice 46) := by kernel_rfl
  have fl : ∀ fs, Try.prog.underlying 46 = some (.struct fs) → fs.toList.map (fun f => (f.offset, f.type)) = [(0, 3), (1, 3), (2, 9)] := by
    intro fs h
    have : (Try.prog.underlying 46).map (fun t => match t with | .struct fs => fs.toList.map (fun f => (f.offset, f.type)) | _ => []) = some [(0, 3), (1, 3), (2, 9)] := by kernel_rfl
    rw [h] at this
    simpa using this
  have c0 : Try.prog.cellsOf 46 = 3 := by kernel_rfl
  have c1 : Try.prog.cellsOf 3 = 1 := by kernel_rfl
  have c2 : Try.prog.cellsOf 9 = 1 := by kernel_rfl
  have u3 : Try.prog.underlying 3 = some (.int .i64) := by kernel_rfl
  have u9 : Try.prog.underlying 9 = some .string := by kernel_rfl
  cases n with
  | zero => exact h.elim
  | succ n =>
    rw [PT, u1] at h
    obtain ⟨rows, rfl, hl, hr⟩ := h
    refine ⟨rows, rfl, ?_, by simp [maxLen] at hl; omega⟩
    rw [List.all_eq_true]
    intro r hr'
    have h := hr r hr'
    cases n with
    | zero => exact h.elim
    | succ n =>
      obtain ⟨fs, hu⟩ : ∃ fs, Try.prog.underlying 46 = some (.struct fs) := ⟨_, Try.underlying46⟩
      rw [PT, hu] at h
      have hf := fl fs hu
      obtain ⟨hlen, hall⟩ := h
      rw [c0] at hlen
      obtain ⟨a, b, c, rfl⟩ := len3 hlen
      have key : ∀ (o t : Nat), (o, t) ∈ fs.toList.map (fun f => (f.offset, f.type)) → PT Try.prog n t (([a, b, c].drop o).take (Try.prog.cellsOf t)) := by
        intro o t h
        rw [List.mem_map] at h
        obtain ⟨f, hf, e⟩ := h
        cases e
        exact hall f hf
      rw [hf] at key
      have k0 := key 0 3 (by simp)
      have k1 := key 1 3 (by simp)
      have k2 := key 2 9 (by simp)
      rw [c1] at k0 k1
      rw [c2] at k2
      simp only [List.drop, List.take] at k0 k1 k2
      clear key hall
      obtain ⟨m, rfl⟩ : ∃ m, n = m + 1 := by
        cases n with
        | zero => exact k0.elim
        | succ n => exact ⟨n, rfl⟩
      · simp only [PT, u3] at k0
        simp only [PT, u3] at k1
        simp only [PT, u9] at k2
        obtain ⟨x, hx, _⟩ := k0
        obtain ⟨y, hy, _⟩ := k1
        obtain ⟨z, hz, hzl⟩ := k2
        cases hx; cases hy; cases hz
        simp [fieldB, maxLen] at hzl ⊢
        omega

set_option maxRecDepth 100000 in
theorem writes_lifted (os : Os) (started : os.Started) (H : Type) (enc : TypeId × Value → H) :
    ReturnsInHanded {} Try.checked os 5 .any (Rows.packWritesSpec.pre6 enc Try.prog Try.f5 Rows.packWritesRow.domain false) (Rows.packWritesSpec.post enc Try.prog Try.f5 false true false false) := by
  refine returnsInHanded_of_change_sized (C := Try.checked) ownK started (by kernel_rfl) Try.func5
    (ChangeSpec.witness6 (enc := enc) (C := Try.checked) false ⟨#[], #[.slice none 0 0], []⟩ 8 (by kernel_rfl) (by kernel_rfl) (by kernel_rfl) (by kernel_rfl)) ?_
  intro W base args ds gs before hval hW hcnd hsz _
  refine law_done laid (writes_sound G3_sound rfl rfl rfl rfl rfl rfl rfl rfl rfl) rfl (ts := [39]) (by kernel_rfl) (tb := 4) (by kernel_rfl) (by kernel_rfl) ?_ ?_ ?_ ?_ hval hW
  · intro t ht; simp at ht; subst ht; kernel_rfl
  · intro t ht; simp at ht; subst ht; exact ⟨by kernel_rfl, of_decide_eq_true (by kernel_rfl)⟩
  · intro ds hd
    match ds, hd with
    | [d], _ => rfl
  · intro xs hxs
    match xs, hxs with
    | [x], h =>
      obtain ⟨⟨n, cs, hp, hx⟩, _⟩ := h
      obtain ⟨rows, rfl, h1, h2⟩ := fields_of hp
      rw [show Try.prog.underlying 39 = some (.slice 46) from by kernel_rfl] at hx
      obtain ⟨c, hc, rfl⟩ := hx
      cases hc
      simp [writesC, h1, h2]
    | [], h => exact h.elim
    | _ :: _ :: _, h => exact h.2.elim

end Go.Proofs.Ytacglboiodolkaa.AM
namespace Go.Proofs.Ytacglboiodolkaa
open Go

theorem packWrites_over : Rows.packWritesRow.holds Try.pinned (OpenSpec.ofChange Rows.packWritesSpec) :=
  OpenClaim.holds_of_wide 5 Try.f5 rfl rfl rfl rfl rfl rfl rfl ⟨rfl, rfl, rfl, rfl, rfl⟩ rfl rfl rfl rfl rfl (by kernel_rfl) Try.func5 (by kernel_rfl)
    (of_decide_eq_true (by kernel_rfl)) (by unfold Func.isWrapper; first | (rw [if_pos (by decide +kernel)]; kernel_rfl) | (rw [if_neg (by decide +kernel)]; exact ⟨rfl, rfl⟩))
    (fun os started H enc _ => AM.writes_lifted os started H enc)

/-- The law's row. -/
theorem packWrites_holds : Rows.PackWritesSaid := packWrites_over
#print axioms packWrites_holds
end Go.Proofs.Ytacglboiodolkaa
