/-
  QQ: Dvm.
-/
import Derived.Test.YtcfijanfcgnnhaaDoorQV
import Derived.Test.YtcfijanfcgnnhaaDoorCards
import Derived.Test.YtcfijanfcgnnhaaDoorTie
import Derived.ProofKit
import Derived.OpenShut
import Derived.JoinedCond
import Derived.Deep.DeepHandedRow
import Derived.SevenTiedAt
set_option linter.unusedVariables false
set_option linter.unusedSimpArgs false
namespace Go.Proofs.YtcfijanfcgnnhaaDoor.AM
open Go

variable {Γ : FuncId → Contract}

theorem laid : laidOutB Tryd.prog = true := by kernel_rfl
theorem ownK : ownKnob Tryd.prog.godebug = none := by kernel_rfl
set_option maxRecDepth 100000 in
theorem str_ofN {N : Nat} {x : AV} (h : AVTn Tryd.prog N 9 x) : ∃ s : List UInt8, x = .c (.str s) ∧ s.length ≤ N := by
  obtain ⟨n, cs, hp, hx⟩ := h
  have u3 : Tryd.prog.underlying 9 = some .string := by kernel_rfl
  rw [u3] at hx
  obtain ⟨c, rfl, rfl⟩ := hx
  cases n with
  | zero => exact hp.elim
  | succ n =>
    simp only [PTn, u3] at hp
    obtain ⟨v, hv, hl⟩ := hp
    cases hv
    exact ⟨v, rfl, hl⟩
set_option maxRecDepth 100000 in
theorem int_cellN {N n : Nat} {c : PC} (h : PTn Tryd.prog N n 3 [c]) : ∃ v : Int, c = .int .i64 v := by
  have u3 : Tryd.prog.underlying 3 = some (.int .i64) := by kernel_rfl
  cases n with
  | zero => exact h.elim
  | succ n =>
    simp only [PTn, u3] at h
    obtain ⟨v, hv, _⟩ := h
    cases hv
    exact ⟨v, rfl⟩
set_option maxRecDepth 100000 in
theorem str_cellN {N n : Nat} {c : PC} (h : PTn Tryd.prog N n 9 [c]) : ∃ s : List UInt8, c = .str s ∧ s.length ≤ N := by
  have u3 : Tryd.prog.underlying 9 = some .string := by kernel_rfl
  cases n with
  | zero => exact h.elim
  | succ n =>
    simp only [PTn, u3] at h
    obtain ⟨v, hv, hl⟩ := h
    cases hv
    exact ⟨v, rfl, hl⟩
set_option maxRecDepth 100000 in
theorem tx_cells {N n : Nat} {cs : List PC} (hp : PTn Tryd.prog N n 25 cs) : ∃ t : Txn, cs = t.pcs ∧ t.sig.length ≤ N := by
  obtain ⟨fs0, f0, h01, h02, h03, h04, h05⟩ := tyField_run fd_25_0
  obtain ⟨fs1, f1, h11, h12, h13, h14, h15⟩ := tyField_run fd_25_1
  obtain ⟨fs2, f2, h21, h22, h23, h24, h25⟩ := tyField_run fd_25_2
  obtain ⟨fs3, f3, h31, h32, h33, h34, h35⟩ := tyField_run fd_25_3
  obtain ⟨fs4, f4, h41, h42, h43, h44, h45⟩ := tyField_run fd_25_4
  rw [h01] at h11 h21 h31 h41
  cases h11
  cases h21
  cases h31
  cases h41
  have hct : Tryd.prog.cellsOf 25 = 5 := by kernel_rfl
  have hk0 : Tryd.prog.cellsOf 3 = 1 := by kernel_rfl
  have hk1 : Tryd.prog.cellsOf 9 = 1 := by kernel_rfl
  cases n with
  | zero => exact hp.elim
  | succ n =>
    simp only [PTn, h01, hct] at hp
    obtain ⟨hl, hf⟩ := hp
    have q0 := hf f0 (List.mem_of_getElem? (i := 0) (by simpa using h02))
    rw [h03, h04, hk0] at q0
    have q1 := hf f1 (List.mem_of_getElem? (i := 1) (by simpa using h12))
    rw [h13, h14, hk0] at q1
    have q2 := hf f2 (List.mem_of_getElem? (i := 2) (by simpa using h22))
    rw [h23, h24, hk0] at q2
    have q3 := hf f3 (List.mem_of_getElem? (i := 3) (by simpa using h32))
    rw [h33, h34, hk0] at q3
    have q4 := hf f4 (List.mem_of_getElem? (i := 4) (by simpa using h42))
    rw [h43, h44, hk1] at q4
    match cs, hl with
    | [c0, c1, c2, c3, c4], _ =>
      obtain ⟨a, rfl⟩ := int_cellN (c := c0) q0
      obtain ⟨b, rfl⟩ := int_cellN (c := c1) q1
      obtain ⟨c, rfl⟩ := int_cellN (c := c2) q2
      obtain ⟨d, rfl⟩ := int_cellN (c := c3) q3
      obtain ⟨s, rfl, hs⟩ := str_cellN (c := c4) q4
      exact ⟨⟨a, b, c, d, s⟩, rfl, hs⟩
set_option maxRecDepth 100000 in
theorem vo_cells {N n : Nat} {cs : List PC} (hp : PTn Tryd.prog N n 23 cs) : ∃ t : Vt, cs = t.pcs ∧ t.sig.length ≤ N := by
  obtain ⟨fs0, f0, h01, h02, h03, h04, h05⟩ := tyField_run fd_23_0
  obtain ⟨fs1, f1, h11, h12, h13, h14, h15⟩ := tyField_run fd_23_1
  obtain ⟨fs2, f2, h21, h22, h23, h24, h25⟩ := tyField_run fd_23_2
  obtain ⟨fs3, f3, h31, h32, h33, h34, h35⟩ := tyField_run fd_23_3
  obtain ⟨fs4, f4, h41, h42, h43, h44, h45⟩ := tyField_run fd_23_4
  obtain ⟨fs5, f5, h51, h52, h53, h54, h55⟩ := tyField_run fd_23_5
  obtain ⟨fs6, f6, h61, h62, h63, h64, h65⟩ := tyField_run fd_23_6
  rw [h01] at h11 h21 h31 h41 h51 h61
  cases h11
  cases h21
  cases h31
  cases h41
  cases h51
  cases h61
  have hct : Tryd.prog.cellsOf 23 = 7 := by kernel_rfl
  have hk0 : Tryd.prog.cellsOf 3 = 1 := by kernel_rfl
  have hk1 : Tryd.prog.cellsOf 9 = 1 := by kernel_rfl
  cases n with
  | zero => exact hp.elim
  | succ n =>
    simp only [PTn, h01, hct] at hp
    obtain ⟨hl, hf⟩ := hp
    have q0 := hf f0 (List.mem_of_getElem? (i := 0) (by simpa using h02))
    rw [h03, h04, hk0] at q0
    have q1 := hf f1 (List.mem_of_getElem? (i := 1) (by simpa using h12))
    rw [h13, h14, hk0] at q1
    have q2 := hf f2 (List.mem_of_getElem? (i := 2) (by simpa using h22))
    rw [h23, h24, hk0] at q2
    have q3 := hf f3 (List.mem_of_getElem? (i := 3) (by simpa using h32))
    rw [h33, h34, hk1] at q3
    have q4 := hf f4 (List.mem_of_getElem? (i := 4) (by simpa using h42))
    rw [h43, h44, hk0] at q4
    have q5 := hf f5 (List.mem_of_getElem? (i := 5) (by simpa using h52))
    rw [h53, h54, hk0] at q5
    have q6 := hf f6 (List.mem_of_getElem? (i := 6) (by simpa using h62))
    rw [h63, h64, hk1] at q6
    match cs, hl with
    | [c0, c1, c2, c3, c4, c5, c6], _ =>
      obtain ⟨a, rfl⟩ := int_cellN (c := c0) q0
      obtain ⟨b, rfl⟩ := int_cellN (c := c1) q1
      obtain ⟨c, rfl⟩ := int_cellN (c := c2) q2
      obtain ⟨s, rfl, hs⟩ := str_cellN (c := c3) q3
      obtain ⟨d, rfl⟩ := int_cellN (c := c4) q4
      obtain ⟨e, rfl⟩ := int_cellN (c := c5) q5
      obtain ⟨u, rfl, hu⟩ := str_cellN (c := c6) q6
      exact ⟨⟨a, b, c, s, d, e, u⟩, rfl, hu⟩
set_option maxRecDepth 100000 in
theorem vo_ofN {N : Nat} {x : AV} (h : AVTn Tryd.prog N 23 x) : ∃ t : Vt, x = t.av ∧ t.sig.length ≤ N := by
  obtain ⟨n, cs, hp, hx⟩ := h
  obtain ⟨fs, f0, h1, _⟩ := tyField_run fd_23_0
  rw [h1] at hx
  obtain ⟨t, rfl, ht⟩ := vo_cells hp
  exact ⟨t, hx, ht⟩
set_option maxRecDepth 100000 in
theorem tx_ofN {N : Nat} {x : AV} (h : AVTn Tryd.prog N 25 x) : ∃ t : Txn, x = t.av ∧ t.sig.length ≤ N := by
  obtain ⟨n, cs, hp, hx⟩ := h
  obtain ⟨fs, f0, h1, _⟩ := tyField_run fd_25_0
  rw [h1] at hx
  obtain ⟨t, rfl, ht⟩ := tx_cells hp
  exact ⟨t, hx, ht⟩
set_option maxRecDepth 100000 in
theorem mk_cells {N n : Nat} {cs : List PC} (hp : PTn Tryd.prog N n 27 cs) : ∃ t : Mk, cs = t.pcs ∧ t.bl.length ≤ N := by
  obtain ⟨fs0, f0, h01, h02, h03, h04, h05⟩ := tyField_run fd_27_0
  obtain ⟨fs1, f1, h11, h12, h13, h14, h15⟩ := tyField_run fd_27_1
  obtain ⟨fs2, f2, h21, h22, h23, h24, h25⟩ := tyField_run fd_27_2
  rw [h01] at h11 h21
  cases h11
  cases h21
  have hct : Tryd.prog.cellsOf 27 = 3 := by kernel_rfl
  have hk0 : Tryd.prog.cellsOf 3 = 1 := by kernel_rfl
  have hk1 : Tryd.prog.cellsOf 9 = 1 := by kernel_rfl
  cases n with
  | zero => exact hp.elim
  | succ n =>
    simp only [PTn, h01, hct] at hp
    obtain ⟨hl, hf⟩ := hp
    have q0 := hf f0 (List.mem_of_getElem? (i := 0) (by simpa using h02))
    rw [h03, h04, hk0] at q0
    have q1 := hf f1 (List.mem_of_getElem? (i := 1) (by simpa using h12))
    rw [h13, h14, hk0] at q1
    have q2 := hf f2 (List.mem_of_getElem? (i := 2) (by simpa using h22))
    rw [h23, h24, hk1] at q2
    match cs, hl with
    | [c0, c1, c2], _ =>
      obtain ⟨a, rfl⟩ := int_cellN (c := c0) q0
      obtain ⟨b, rfl⟩ := int_cellN (c := c1) q1
      obtain ⟨s, rfl, hs⟩ := str_cellN (c := c2) q2
      exact ⟨⟨a, b, s⟩, rfl, hs⟩
set_option maxRecDepth 100000 in
theorem mk_ofN {N : Nat} {x : AV} (h : AVTn Tryd.prog N 27 x) : ∃ t : Mk, x = t.av ∧ t.bl.length ≤ N := by
  obtain ⟨n, cs, hp, hx⟩ := h
  obtain ⟨fs, f0, h1, _⟩ := tyField_run fd_27_0
  rw [h1] at hx
  obtain ⟨t, rfl, ht⟩ := mk_cells hp
  exact ⟨t, hx, ht⟩
noncomputable def DB1 : FuncId → Contract := (ext (ext (ext (ext (ext (ext (ext (ext (ext none0 10 hexC) 8 parC) 9 unhexC) 26 dec13C) 28 clientC) 23 abC) 25 replC) 24 tkC) 27 joinC39)
theorem DB1_sound : SoundG Tryd.prog DB1 := (ext_sound (ext_sound (ext_sound (ext_sound (ext_sound (ext_sound (ext_sound (ext_sound (ext_sound none0_sound hex_sound) par_sound) unhex_sound) decP_sound) client_sound) ab_sound) repl_sound) tk_sound) join39_sound)
noncomputable def DB2 : FuncId → Contract := (ext (ext (ext (ext (ext (ext DB1 14 wlC) 12 wnC) 13 wtC) 4 alive39C) 15 txCkC) 11 voCkC)
theorem DB2_sound : SoundG Tryd.prog DB2 := (ext_sound (ext_sound (ext_sound (ext_sound (ext_sound (ext_sound DB1_sound (wl_sound DB1_sound rfl)) (wn_sound DB1_sound rfl)) (wt_sound DB1_sound rfl)) (alive39_sound DB1_sound rfl rfl)) (txCk_sound DB1_sound rfl)) (voCk_sound DB1_sound rfl rfl rfl))
noncomputable def DB3 : FuncId → Contract := (ext (ext (ext DB2 7 dmC) 6 dtC) 5 dvC)
theorem DB3_sound : SoundG Tryd.prog DB3 := (ext_sound (ext_sound (ext_sound DB2_sound (dm_sound DB2_sound rfl rfl rfl)) (dt_sound DB2_sound rfl rfl rfl rfl)) (dv_sound DB2_sound rfl rfl rfl rfl))

def layArr : Obj → Obj
  | .cells _ t frozen => .cells #[.int .u8 128, .int .u8 191, .int .u8 160, .int .u8 191, .int .u8 128, .int .u8 159, .int .u8 144, .int .u8 191, .int .u8 128, .int .u8 143, .int .u8 0, .int .u8 0, .int .u8 0, .int .u8 0, .int .u8 0, .int .u8 0, .int .u8 0, .int .u8 0, .int .u8 0, .int .u8 0, .int .u8 0, .int .u8 0, .int .u8 0, .int .u8 0, .int .u8 0, .int .u8 0, .int .u8 0, .int .u8 0, .int .u8 0, .int .u8 0, .int .u8 0, .int .u8 0] t frozen
  | o => o
def layFirst : Obj → Obj
  | .cells _ t frozen => .cells (Go.Pinned.utf8FirstZ.map fun (n : Nat) => Value.int .u8 (n : Int)).toArray t frozen
  | o => o
noncomputable def laidWorld (os : Os) : World :=
  { World.holding Tryd.prog os ⟨#[], #[], []⟩ with heap := ((World.holding Tryd.prog os ⟨#[], #[], []⟩).heap.modify 2 layArr).modify 1 layFirst }
set_option maxRecDepth 100000 in
theorem laid_met (os : Os) : laidMet Tryd.prog Rows.dumpBackRow.laid ((laidWorld os).forCall (fun _ _ => 0) ⟨#[], #[.agg #[.int .i64 0, .int .i64 0, .int .i64 0, .string ⟨#[]⟩, .int .i64 0, .int .i64 0, .string ⟨#[]⟩], .agg #[.int .i64 0, .int .i64 0, .int .i64 0, .int .i64 0, .string ⟨#[]⟩], .agg #[.int .i64 0, .int .i64 0, .string ⟨#[]⟩], .string ⟨#[]⟩], []⟩).memory :=
  laidMet_of_run' 8 (by kernel_rfl) (by kernel_rfl)
theorem reads (os : Os) {H : Type} (enc : TypeId × Value → H) : ∃ places, DataW.whole enc Tryd.prog ((laidWorld os).forCall (fun _ _ => 0) ⟨#[], #[.agg #[.int .i64 0, .int .i64 0, .int .i64 0, .string ⟨#[]⟩, .int .i64 0, .int .i64 0, .string ⟨#[]⟩], .agg #[.int .i64 0, .int .i64 0, .int .i64 0, .int .i64 0, .string ⟨#[]⟩], .agg #[.int .i64 0, .int .i64 0, .string ⟨#[]⟩], .string ⟨#[]⟩], []⟩).memory Tryd.f3.params.toList Rows.dumpBackSpec.vars false (#[.agg #[.int .i64 0, .int .i64 0, .int .i64 0, .string ⟨#[]⟩, .int .i64 0, .int .i64 0, .string ⟨#[]⟩], .agg #[.int .i64 0, .int .i64 0, .int .i64 0, .int .i64 0, .string ⟨#[]⟩], .agg #[.int .i64 0, .int .i64 0, .string ⟨#[]⟩], .string ⟨#[]⟩] : Array Value).toList 8 = some ([.agg [.lit (.int .i64 0), .lit (.int .i64 0), .lit (.int .i64 0), .lit (.string []), .lit (.int .i64 0), .lit (.int .i64 0), .lit (.string [])], .agg [.lit (.int .i64 0), .lit (.int .i64 0), .lit (.int .i64 0), .lit (.int .i64 0), .lit (.string [])], .agg [.lit (.int .i64 0), .lit (.int .i64 0), .lit (.string [])], .lit (.string [])], [], places) :=
  ⟨[], by kernel_rfl⟩
set_option maxRecDepth 100000 in
theorem dumpBack_lifted (os : Os) (started : os.Started) (H : Type) (enc : TypeId × Value → H) (F : Stop.Interp) :
    ReturnsInHanded {} Tryd.checked os 3 .any ((OpenSpec.ofChange Rows.dumpBackSpec).preRow enc Tryd.prog Tryd.f3 Rows.dumpBackRow.domain false Rows.dumpBackRow.laid) (((OpenSpec.ofChange Rows.dumpBackSpec).at F).post enc Tryd.prog Tryd.f3 false true false false) := by
  obtain ⟨places, hx⟩ := reads os enc
  refine returnsInHanded_of_row (C := Tryd.checked) (s := OpenSpec.ofChange Rows.dumpBackSpec) ownK started (by kernel_rfl) Tryd.func3
    (witness_row_at (enc := enc) (C := Tryd.checked) false (laidWorld os) #[.agg #[.int .i64 0, .int .i64 0, .int .i64 0, .string ⟨#[]⟩, .int .i64 0, .int .i64 0, .string ⟨#[]⟩], .agg #[.int .i64 0, .int .i64 0, .int .i64 0, .int .i64 0, .string ⟨#[]⟩], .agg #[.int .i64 0, .int .i64 0, .string ⟨#[]⟩], .string ⟨#[]⟩] rfl (by kernel_rfl) (by kernel_rfl) (by kernel_rfl)
      (OpenSpec.preRow_of_cond 8 hx (by kernel_rfl) (fun k hk => by cases hk) (by kernel_rfl) (laid_met os))) ?_
  intro W base args ds gs before hval hW _ _ _ hL _ _
  refine law_doneN (N := maxLen) laid (db_sound DB3_sound rfl rfl rfl rfl rfl) rfl (ts := [23, 25, 27, 9]) (by kernel_rfl) (tb := 4) (by kernel_rfl) (by kernel_rfl) ?_ ?_ ?_ ?_ hval hW (.inl (Nat.le_refl _))
  · intro t ht; simp only [List.mem_cons, List.not_mem_nil, or_false] at ht; rcases ht with rfl | rfl | rfl | rfl <;> kernel_rfl
  · intro t ht; simp only [List.mem_cons, List.not_mem_nil, or_false] at ht; rcases ht with rfl | rfl | rfl | rfl <;> exact ⟨by kernel_rfl, of_decide_eq_true (by kernel_rfl)⟩
  · intro ds hd
    match ds, hd with
    | [a, b, c, d], _ => rfl
  · intro xs hxs
    match xs, hxs with
    | [x, y, z, u], h =>
      obtain ⟨h1, h2, h3, h4, _⟩ := h
      obtain ⟨v, rfl, _⟩ := vo_ofN h1
      obtain ⟨t, rfl, _⟩ := tx_ofN h2
      obtain ⟨m, rfl, _⟩ := mk_ofN h3
      obtain ⟨s, rfl, s1⟩ := str_ofN h4
      exact mkC_at (α := Vt × Txn × Mk × List UInt8) (v, t, m, s) trivial (fun _ _ _ _ => rfl)
    | [], h => exact h.elim
    | [_], h => exact h.2.elim
    | [_, _], h => exact h.2.2.elim
    | [_, _, _], h => exact h.2.2.2.elim
    | _ :: _ :: _ :: _ :: _ :: _, h => exact h.2.2.2.2.elim

end Go.Proofs.YtcfijanfcgnnhaaDoor.AM

namespace Go.Proofs.YtcfijanfcgnnhaaDoor
open Go

theorem dumpBack_said : Rows.DumpBackSaid :=
  OpenClaim.holds_of_cond 3 Tryd.f3 rfl rfl rfl rfl rfl rfl rfl ⟨rfl, rfl, rfl, rfl, rfl⟩ rfl rfl rfl rfl rfl (by kernel_rfl) Tryd.func3 (by kernel_rfl)
    (of_decide_eq_true (by kernel_rfl)) (by unfold Func.isWrapper; first | (rw [if_pos (by decide +kernel)]; kernel_rfl) | (rw [if_neg (by decide +kernel)]; exact ⟨rfl, rfl⟩))
    (fun os started H enc _ F => by rw [OpenClaim.pre_eq_preRow]; exact AM.dumpBack_lifted os started H enc F)
theorem dumpBack_plain (f : FuncId) (fn : Func) (hf : Tryd.pinned.checked.prog.funcNamed "moot/mootlaw39.DumpBack" = some f) (hfn : Tryd.pinned.checked.prog.funcs[f]? = some fn) :
    true = Tryd.pinned.checked.prog.looks [] ∧ ∀ (j : Nat) t, fn.params[j]? = some t → Tryd.pinned.checked.prog.wantsStandIn t = false := by
  obtain rfl : f = 3 := Option.some.inj ((show Tryd.prog.funcNamed "moot/mootlaw39.DumpBack" = some 3 by kernel_rfl).symm.trans hf) |>.symm
  obtain rfl : fn = Tryd.f3 := (Option.some.inj (Tryd.func3.symm.trans hfn)).symm
  refine ⟨by kernel_rfl, fun j t ht => ?_⟩
  rw [Tryd.params3] at ht
  have hm := Array.mem_of_getElem? ht
  simp only [List.mem_toArray, List.mem_cons, List.not_mem_nil, or_false] at hm
  rcases hm with rfl | rfl | rfl | rfl
  · exact (show Tryd.prog.wantsStandIn 23 = false by kernel_rfl)
  · exact (show Tryd.prog.wantsStandIn 25 = false by kernel_rfl)
  · exact (show Tryd.prog.wantsStandIn 27 = false by kernel_rfl)
  · exact (show Tryd.prog.wantsStandIn 9 = false by kernel_rfl)
/-- The card. -/
theorem dumpBack_holds : Rows.DumpBackCardSaid :=
  Claim7.holds_tied_plain_at .later [] _ _ _ _ dumpBack_said (fun _ h => by cases h) (by kernel_rfl) (fun _ h => by cases h) dumpBack_row_tie rfl ⟨rfl, rfl⟩ (by kernel_rfl) rfl dumpBack_plain (by kernel_rfl)
#print axioms dumpBack_holds
end Go.Proofs.YtcfijanfcgnnhaaDoor
