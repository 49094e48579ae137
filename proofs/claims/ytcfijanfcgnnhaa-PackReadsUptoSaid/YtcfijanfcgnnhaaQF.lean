/-
  QF: Rd4.
-/
import Derived.Test.YtcfijanfcgnnhaaQE
import Derived.Test.YtcfijanfcgnnhaaQD
import Derived.Test.YtcfijanfcgnnhaaQ4
import Derived.ProofKit
import Derived.SizedLaws
import Derived.JoinedCond
set_option linter.unusedVariables false
set_option linter.unusedSimpArgs false
namespace Go.Proofs.Ytcfijanfcgnnhaa.AM
open Go

variable {Γ : FuncId → Contract}

theorem laid : laidOutB Try.prog = true := by kernel_rfl
theorem ownK : ownKnob Try.prog.godebug = none := by kernel_rfl

set_option maxRecDepth 100000 in
theorem int_cellN {N n : Nat} {c : PC} (h : PTn Try.prog N n 3 [c]) : ∃ v : Int, c = .int .i64 v := by
  have u3 : Try.prog.underlying 3 = some (.int .i64) := by kernel_rfl
  cases n with
  | zero => exact h.elim
  | succ n =>
    simp only [PTn, u3] at h
    obtain ⟨v, hv, _⟩ := h
    cases hv
    exact ⟨v, rfl⟩
set_option maxRecDepth 100000 in
theorem str_cellN {N n : Nat} {c : PC} (h : PTn Try.prog N n 9 [c]) : ∃ s : List UInt8, c = .str s ∧ s.length ≤ N := by
  have u3 : Try.prog.underlying 9 = some .string := by kernel_rfl
  cases n with
  | zero => exact h.elim
  | succ n =>
    simp only [PTn, u3] at h
    obtain ⟨v, hv, hl⟩ := h
    cases hv
    exact ⟨v, rfl, hl⟩
set_option maxRecDepth 100000 in
theorem bytes_ofN {N : Nat} {x : AV} (h : AVTn Try.prog N 27 x) : ∃ b : List UInt8, x = .c (.sl (bytes b)) ∧ b.length ≤ N := by
  obtain ⟨n, cs, hp, hx⟩ := h
  have u3 : Try.prog.underlying 27 = some (.slice 5) := by kernel_rfl
  have u4 : Try.prog.underlying 5 = some (.int .u8) := by kernel_rfl
  rw [u3] at hx
  obtain ⟨c, rfl, rfl⟩ := hx
  cases n with
  | zero => exact hp.elim
  | succ n =>
    simp only [PTn, u3] at hp
    obtain ⟨rows, hv, hl, hr⟩ := hp
    cases hv
    have key : ∀ rows : List (List PC), (∀ r ∈ rows, PTn Try.prog N n 5 r) → ∃ l : List UInt8, rows = bytes l := by
      intro rows
      induction rows with
      | nil => intro _; exact ⟨[], rfl⟩
      | cons r rows ih =>
        intro h
        obtain ⟨l, hl1⟩ := ih fun r hr => h r (by simp [hr])
        have h0 := h r (by simp)
        cases n with
        | zero => exact h0.elim
        | succ n =>
          simp only [PTn, u4] at h0
          obtain ⟨v, rfl, hw⟩ := h0
          simp [Lit.wf, IntKind.min, IntKind.max, IntKind.bits, IntKind.signed] at hw
          refine ⟨UInt8.ofNat v.toNat :: l, ?_⟩
          rw [hl1]
          show _ = [PC.int .u8 ((UInt8.ofNat v.toNat).toNat : Int)] :: bytes l
          rw [UInt8.toNat_ofNat_of_lt' (by show _ < 256; omega), show ((v.toNat : Nat) : Int) = v from by omega]
    obtain ⟨l, rfl⟩ := key rows hr
    exact ⟨l, rfl, by rw [bytes_length] at hl; exact hl⟩
noncomputable def J1 : FuncId → Contract := (ext (ext (ext (ext (ext (ext (ext (ext (ext (ext none0 74 faultC) 75 putC) 50 cloneC) 47 newC) 53 getC) 51 getC) 52 readyC) 55 stopC) 19 errC) 18 numEC)
theorem J1_sound : SoundG Try.prog J1 := (ext_sound (ext_sound (ext_sound (ext_sound (ext_sound (ext_sound (ext_sound (ext_sound (ext_sound (ext_sound none0_sound fault_sound) put_sound) clone_sound) new_sound) get_sound) refGet_sound) ready_sound) stop_sound) err_sound) numE_sound)
noncomputable def J2 : FuncId → Contract := (ext (ext (ext (ext (ext (ext J1 48 numC) 49 doneC) 54 takeC) 20 leftC) 14 gnC) 16 gtC)
theorem J2_sound : SoundG Try.prog J2 := (ext_sound (ext_sound (ext_sound (ext_sound (ext_sound (ext_sound J1_sound (num_sound J1_sound rfl rfl)) (done_sound J1_sound rfl)) (take_sound J1_sound rfl)) (left_sound J1_sound rfl)) (gn_sound J1_sound rfl)) (gt_sound J1_sound rfl))
noncomputable def J3 : FuncId → Contract := (ext (ext (ext J2 15 rdNumC) 17 rdTextC) 12 trueC)
theorem J3_sound : SoundG Try.prog J3 := (ext_sound (ext_sound (ext_sound J2_sound (rdNum_sound J2_sound rfl rfl rfl rfl)) (rdText_sound J2_sound rfl rfl rfl rfl)) (alive_sound J2_sound rfl rfl rfl rfl))
noncomputable def JM : FuncId → Contract := (ext none0 50 cloneMC)
theorem JM_sound : SoundG Try.prog JM := (ext_sound none0_sound cloneM_sound)
noncomputable def J4 : FuncId → Contract := (ext J3 13 (orC openC openMC))
theorem J4_sound : SoundG Try.prog J4 := (ext_sound J3_sound (orC_sound (open_sound J1_sound rfl) (openM_sound JM_sound rfl)))
set_option maxRecDepth 100000 in
theorem fd_cells {N n : Nat} {cs : List PC} (hp : PTn Try.prog N n 34 cs) : ∃ t : Fd, cs = t.pcs := by
  obtain ⟨fs0, f0, h01, h02, h03, h04, h05⟩ := tyField_run fd_34_0
  obtain ⟨fs1, f1, h11, h12, h13, h14, h15⟩ := tyField_run fd_34_1
  obtain ⟨fs2, f2, h21, h22, h23, h24, h25⟩ := tyField_run fd_34_2
  rw [h01] at h11 h21
  cases h11
  cases h21
  have hct : Try.prog.cellsOf 34 = 3 := by kernel_rfl
  have hk0 : Try.prog.cellsOf 3 = 1 := by kernel_rfl
  have hk1 : Try.prog.cellsOf 9 = 1 := by kernel_rfl
  cases n with
  | zero => exact hp.elim
  | succ n =>
    simp only [PTn, h01, hct] at hp
    obtain ⟨hl, hf⟩ := hp
    have q0 := hf f0 (List.mem_of_getElem? (i := 0) (by simpa using h02))
    rw [h03, h04, hk0] at q0
    have q1 := hf f1 (List.mem_of_getElem? (i := 1) (by simpa using h12))
    rw [h13, h14, hk0] at q1
    have q2 := hf f2 (List.mem_of_getElem? (i := 2) (by simpa using h22))
    rw [h23, h24, hk1] at q2
    match cs, hl with
    | [c0, c1, c2], _ =>
      obtain ⟨a, rfl⟩ := int_cellN (c := c0) q0
      obtain ⟨b, rfl⟩ := int_cellN (c := c1) q1
      obtain ⟨s, rfl, hs⟩ := str_cellN (c := c2) q2
      exact ⟨⟨a, b, s⟩, rfl⟩
set_option maxRecDepth 100000 in
theorem frows_ofN {N : Nat} {x : AV} (h : AVTn Try.prog N 28 x) : ∃ l : List Fd, x = .c (.sl (frows l)) ∧ l.length ≤ N := by
  obtain ⟨n, cs, hp, hx⟩ := h
  have u3 : Try.prog.underlying 28 = some (.slice 34) := by kernel_rfl
  rw [u3] at hx
  obtain ⟨c, rfl, rfl⟩ := hx
  cases n with
  | zero => exact hp.elim
  | succ n =>
    simp only [PTn, u3] at hp
    obtain ⟨rows, hv, hl, hr⟩ := hp
    cases hv
    have key : ∀ rows : List (List PC), (∀ r ∈ rows, PTn Try.prog N n 34 r) → ∃ l : List Fd, rows = frows l := by
      intro rows
      induction rows with
      | nil => intro _; exact ⟨[], rfl⟩
      | cons r rows ih =>
        intro h
        obtain ⟨l, hl1⟩ := ih fun r hr => h r (by simp [hr])
        obtain ⟨b, rfl⟩ := fd_cells (h r (by simp))
        exact ⟨b :: l, by rw [hl1]; rfl⟩
    obtain ⟨l, rfl⟩ := key rows hr
    exact ⟨l, rfl, by rw [frows_length] at hl; exact hl⟩
noncomputable def readsC : Contract := orC readsNC readsMC
theorem reads_sound : SoundC Try.prog 4 readsC := orC_sound (readsN_sound J4_sound rfl rfl rfl rfl rfl rfl rfl rfl rfl) (readsM_sound J4_sound rfl rfl rfl rfl rfl rfl rfl rfl rfl)
theorem reads_at (b : List UInt8) (l : List Fd) (hb : b.length ≤ 140737488355328) (hl : l.length ≤ 9223372036854775807) : readsC [.c (.sl (bytes b)), .c (.sl (frows l))] [] = some ⟨[.pv (.c (.bool true))], []⟩ := by
  unfold readsC orC
  rcases Nat.eq_zero_or_pos b.length with h0 | hp
  · have : readsNC [.c (.sl (bytes b)), .c (.sl (frows l))] [] = some ⟨[.pv (.c (.bool true))], []⟩ := mkC_at (α := List UInt8 × List Fd) (b, l) ⟨h0, hl⟩ (fun _ _ _ _ => rfl)
    rw [this]
  · have : readsMC [.c (.sl (bytes b)), .c (.sl (frows l))] [] = some ⟨[.pv (.c (.bool true))], []⟩ := mkC_at (α := List UInt8 × List Fd) (b, l) ⟨⟨hp, hb⟩, hl⟩ (fun _ _ _ _ => rfl)
    cases h : readsNC [.c (.sl (bytes b)), .c (.sl (frows l))] [] with
    | none => exact this
    | some r =>
      obtain ⟨y, hy, _, _, rfl⟩ := mkC_inv h
      rfl

set_option maxRecDepth 100000 in
theorem packReads_lifted (os : Os) (started : os.Started) (H : Type) (enc : TypeId × Value → H) (F : Stop.Interp) :
    ReturnsInHanded {} Try.checked os 4 .any ((Rows.OpenSpec.upto Rows.packReadsSpec).pre6 enc Try.prog Try.f4 Rows.packReadsUptoRow.domain false) (((Rows.OpenSpec.upto Rows.packReadsSpec).at F).post enc Try.prog Try.f4 false true false false) := by
  refine returnsInHanded_of_cond (C := Try.checked) (k := Rows.uptoSmall) rfl ownK started (by kernel_rfl) Try.func4
    (OpenSpec.witness (enc := enc) (C := Try.checked) (k := Rows.uptoSmall) rfl false ⟨#[], #[.slice none 0 0, .slice none 0 0], []⟩ 8 (by kernel_rfl) (by kernel_rfl) (by kernel_rfl) (x := ([.nil, .nil], [], [])) (by kernel_rfl) (by kernel_rfl) (by kernel_rfl)) ?_
  intro W base args ds gs before hval hW hcnd hkk _
  refine law_doneN (N := 1048576) laid (reads_sound) rfl (ts := [27, 28]) (by kernel_rfl) (tb := 4) (by kernel_rfl) (by kernel_rfl) ?_ ?_ ?_ ?_ hval hW (.inr (bulk_le hkk))
  · intro t ht; simp only [List.mem_cons, List.not_mem_nil, or_false] at ht; rcases ht with rfl | rfl <;> kernel_rfl
  · intro t ht; simp only [List.mem_cons, List.not_mem_nil, or_false] at ht; rcases ht with rfl | rfl <;> exact ⟨by kernel_rfl, of_decide_eq_true (by kernel_rfl)⟩
  · intro ds hd
    match ds, hd with
    | [a, b], _ => rfl
  · intro xs hxs
    match xs, hxs with
    | [x, y], h =>
      obtain ⟨h1, h2, _⟩ := h
      obtain ⟨b, rfl, b1⟩ := bytes_ofN h1
      obtain ⟨l, rfl, l1⟩ := frows_ofN h2
      exact reads_at b l (by omega) (by omega)
    | [], h => exact h.elim
    | [_], h => exact h.2.elim
    | _ :: _ :: _ :: _, h => exact h.2.2.elim


end Go.Proofs.Ytcfijanfcgnnhaa.AM

namespace Go.Proofs.Ytcfijanfcgnnhaa
open Go

theorem packReads_over : Rows.packReadsUptoRow.holds Try.pinned (Rows.OpenSpec.upto Rows.packReadsSpec) :=
  OpenClaim.holds_of_cond 4 Try.f4 rfl rfl rfl rfl rfl rfl rfl ⟨rfl, rfl, rfl, rfl, rfl⟩ rfl rfl rfl rfl rfl (by kernel_rfl) Try.func4 (by kernel_rfl)
    (of_decide_eq_true (by kernel_rfl)) (by unfold Func.isWrapper; first | (rw [if_pos (by decide +kernel)]; kernel_rfl) | (rw [if_neg (by decide +kernel)]; exact ⟨rfl, rfl⟩))
    (fun os started H enc _ F => by rw [OpenClaim.pre_of_none' rfl]; exact AM.packReads_lifted os started H enc F)

/-- The row. -/
theorem packReads_holds : Rows.PackReadsUptoSaid := packReads_over
#print axioms packReads_holds
end Go.Proofs.Ytcfijanfcgnnhaa
