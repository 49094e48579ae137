/-
  QO: MgG.
-/
import Derived.Test.YtldehcnaepgamaaQN
set_option linter.unusedVariables false
set_option linter.unusedSimpArgs false
namespace Go.Proofs.Ytldehcnaepgamaa.AM
open Go

variable {Γ : FuncId → Contract}

def genS : List UInt8 := List.replicate 32 0
def genC : Contract := fun args objs => match args, objs with | [], [] => some ⟨[.pv (.c (.str genS))], []⟩ | _, _ => none
set_option maxHeartbeats 1000000 in
theorem refGen_sound : SoundC Try.prog 78 genC := by
  refine sound_fn Try.func78 (by kernel_rfl) rfl rfl ?_
  intro args objs r hr
  unfold genC at hr
  split at hr
  · cases hr
    refine ⟨rfl, by show 0 ≤ _; decide, fun E hN hns hF => ?_⟩
    refine vc_sound none0_sound mixed _ _ _ ?_
    have hN := hN.trans nt_78
    have h32 : ((32 : Int) * ((1 : Nat) : Int) ≤ 140737488355328) = True := eq_true (by decide)
    have hb : bytesOf [[.int .u8 0], [.int .u8 0], [.int .u8 0], [.int .u8 0], [.int .u8 0], [.int .u8 0], [.int .u8 0], [.int .u8 0], [.int .u8 0], [.int .u8 0], [.int .u8 0], [.int .u8 0], [.int .u8 0], [.int .u8 0], [.int .u8 0], [.int .u8 0], [.int .u8 0], [.int .u8 0], [.int .u8 0], [.int .u8 0], [.int .u8 0], [.int .u8 0], [.int .u8 0], [.int .u8 0], [.int .u8 0], [.int .u8 0], [.int .u8 0], [.int .u8 0], [.int .u8 0], [.int .u8 0], [.int .u8 0], [.int .u8 0]] = some genS := bytesOf_bytes genS
    have h32' : ((32 : Nat) * 1 ≤ 140737488355328) = True := eq_true (by decide)
    simp only [runA, runB, runC, runD, runE, runF, fieldE, storeE, binE, ↓reduceIte, Nat.reduceLT, Nat.reduceLeDiff, Nat.reduceEqDiff, Nat.reduceAdd, Nat.reduceMul, Nat.reduceSub, reduceCtorEq, putAt, unE, Nat.reduceBEq, convE, buildE, List.replicate, Int.reduceLT, Int.reduceLE, Int.reduceToNat, mkE, mapSetE, hN, hF, ty_5, ty_9, ty_25, notIf, isEq, h32, h32', hb]
    simp only [runB, finC, finD, Option.isSome_some, Option.isSome_none, ↓reduceIte, Nat.reduceEqDiff, Nat.reduceAdd, Nat.reduceMul, forall_eq_or_imp, forall_eq, implies_true, Nat.reduceBEq, reduceCtorEq, false_implies, List.zip_cons_cons, List.zip_nil_left, List.zip_nil_right, Nat.reduceLeDiff, List.forall_mem_nil, rs_78, ty_5, ty_9, ty_25, genS]
  · cases hr
def aliveM : Msg := ⟨5, zeroBk, zeroV, zeroCt, [], genS, zeroT⟩
theorem zero_ln : lnM zeroMsg := ⟨⟨by simp [zeroMsg, zeroBk], by simp [zeroMsg, zeroBk]⟩, by simp [lnC, zeroMsg, zeroCt], by simp [zeroMsg]⟩
theorem alive_ln : lnM aliveM := ⟨⟨by simp [aliveM, zeroBk], by simp [aliveM, zeroBk]⟩, by simp [lnC, aliveM, zeroCt], by simp [aliveM]⟩
theorem alive_ok : okMsg aliveM := by
  constructor
  · show ((genS.length : Int) == 32) = true
    decide
  · rfl
def alive11C : Contract := fun args objs => match args, objs with | [], [] => some ⟨[.pv (.c (.bool true))], []⟩ | _, _ => none
set_option maxHeartbeats 4000000 in
theorem alive11_sound (hΓ : SoundG Try.prog Γ) (h1 : Γ 78 = genC) (h2 : Γ 38 = msPutC) : SoundC Try.prog 37 alive11C := by
  refine sound_fn Try.func37 (by kernel_rfl) rfl rfl ?_
  intro args objs r hr
  unfold alive11C at hr
  split at hr
  · cases hr
    refine ⟨rfl, by show 0 ≤ _; decide, fun E hN hns hF => ?_⟩
    refine vc_sound hΓ mixed _ _ _ ?_
    have hN := hN.trans nt_37
    have vn : votes [] = [] := rfl
    have tn : trows [] = [] := rfl
    have q0 : genC [] [] = some ⟨[.pv (.c (.str genS))], []⟩ := rfl
    have q1 := msPut_at aliveM alive_ln
    have hp := putM_ok alive_ok
    have hlen : (encM aliveM).length = 40 := by
      show (putB 5 6 ++ (putB (genS.length : Int) 2 ++ genS)).length = 40
      rw [List.length_append, List.length_append, len6, len2]; rfl
    rw [if_pos (by omega)] at hp
    rw [hp] at q1
    generalize encM aliveM = x at q1 hlen
    have hbl := bytes_length x
    rw [hlen] at hbl
    obtain ⟨G, hG⟩ : ∃ G, G = genS := ⟨_, rfl⟩
    simp only [aliveM, zeroMsg, zeroBk, zeroV, zeroCt, zeroT, vn, tn] at q1
    rw [← hG] at q0 q1
    have g0 : ((0 : Int) == 0) = true := rfl
    have g1 : (((40 : Nat) : Int) == 40) = true := rfl
    clear hG hp
    simp only [runA, runB, runC, runD, runE, runF, fieldE, storeE, binE, ↓reduceIte, Nat.reduceLT, Nat.reduceLeDiff, Nat.reduceEqDiff, Nat.reduceAdd, Nat.reduceMul, Nat.reduceSub, reduceCtorEq, putAt, unE, Nat.reduceBEq, convE, buildE, List.replicate, Int.reduceLT, Int.reduceLE, Int.reduceToNat, mkE, mapSetE, hN, hF, ty_3, ty_4, ty_5, ty_9, ty_25, ty_27, ty_54, ty_68, ty_70, ty_72, ty_74, ty_76, notIf, isEq, h1, h2, q0, q1, g0, g1, hbl]
    iterate 5 (try (refine drawnP_intro (by kernel_rfl) (by kernel_rfl) ?_; simp only [runA, runB, runC, runD, runE, runF, fieldE, storeE, binE, ↓reduceIte, Nat.reduceLT, Nat.reduceLeDiff, Nat.reduceEqDiff, Nat.reduceAdd, Nat.reduceMul, Nat.reduceSub, reduceCtorEq, putAt, unE, Nat.reduceBEq, convE, buildE, List.replicate, Int.reduceLT, Int.reduceLE, Int.reduceToNat, mkE, mapSetE, hN, hF, ty_3, ty_4, ty_5, ty_9, ty_25, ty_27, ty_54, ty_68, ty_70, ty_72, ty_74, ty_76, notIf, isEq, h1, h2, q0, q1, g0, g1, hbl]))
    simp only [runB, finC, finD, Option.isSome_some, Option.isSome_none, ↓reduceIte, Nat.reduceEqDiff, Nat.reduceAdd, Nat.reduceMul, forall_eq_or_imp, forall_eq, implies_true, Nat.reduceBEq, reduceCtorEq, false_implies, List.zip_cons_cons, List.zip_nil_left, List.zip_nil_right, Nat.reduceLeDiff, List.forall_mem_nil, rs_37, ty_3, ty_4, ty_5, ty_9, ty_25, ty_27, ty_54, ty_68, ty_70, ty_72, ty_74, ty_76]
  · cases hr
/-- What Put answers: octets that come back, or none. -/
theorem putM_two (m : Msg) : ((putM m).2 = 0 ∧ okMsg m ∧ (putM m).1 = encM m ∧ (encM m).length ≤ 16384) ∨ ((putM m).2 ≠ 0 ∧ (putM m).1 = []) := by
  by_cases h : okMsg m
  · rw [putM_ok h]
    by_cases hl : (encM m).length ≤ 16384
    · rw [if_pos hl]; exact .inl ⟨rfl, h, rfl, hl⟩
    · rw [if_neg hl]; exact .inr ⟨by decide, rfl⟩
  · rw [show putM m = ([], 9) from if_neg h]; exact .inr ⟨by decide, rfl⟩
noncomputable def msBackC : Contract := mkC (α := Msg × List UInt8) (fun p => lnM p.1 ∧ p.2.length ≤ 9223372036854775807) (fun p => [p.1.av, .c (.sl (bytes p.2))]) (fun _ => []) (fun _ => ⟨[.pv (.c (.bool true))], []⟩)

set_option maxRecDepth 100000 in
set_option maxHeartbeats 4000000 in
theorem msBack_sound (hΓ : SoundG Try.prog Γ) (h1 : Γ 37 = alive11C) (h2 : Γ 38 = msPutC) (h3 : Γ 39 = msGetC) (h4 : Γ 40 = smRC) : SoundC Try.prog 8 msBackC := by
  refine sound_fn Try.func8 (by kernel_rfl) rfl rfl ?_
  intro args objs r0 hr
  obtain ⟨⟨m, b⟩, ⟨hm, hb⟩, rfl, rfl, rfl⟩ := mkC_inv hr
  refine ⟨rfl, by show 2 ≤ _; decide, fun E hN hns hF => ?_⟩
  refine vc_sound hΓ mixed _ _ _ ?_
  have hN := hN.trans nt_8
  have hm : lnM m := hm
  have hb : b.length ≤ 9223372036854775807 := hb
  have vn : votes [] = [] := rfl
  have tn : trows [] = [] := rfl
  have nt1 : (!true) = false := rfl
  have g0 : ((0 : Int) == 0) = true := rfl
  have g1 : ((0 : Int) != 0) = false := rfl
  have g2 : ((33 : Int) != 0) = true := rfl
  have g3 : ((33 : Int) == 33) = true := rfl
  have q0 : alive11C [] [] = some ⟨[.pv (.c (.bool true))], []⟩ := rfl
  have q1 := msPut_at m hm
  have q3 := msGet_at b hb
  have q4 := smR_at m m hm hm
  rw [decide_eq_true (rfl : m = m)] at q4
  have q5 := smR_at zeroMsg zeroMsg zero_ln zero_ln
  rw [decide_eq_true (rfl : zeroMsg = zeroMsg)] at q5
  simp only [zeroMsg, zeroBk, zeroV, zeroCt, zeroT, vn, tn] at q5
  have hp := putM_two m
  have hg := getM_two b
  have hgx : (putM m).2 = 0 → getM (putM m).1 = (m, 0) := fun h => by
    rcases hp with ⟨_, h1, h2, h3⟩ | ⟨h1, _⟩
    · rw [h2]; exact getM_enc h1 h3
    · exact absurd h h1
  have hxl : (putM m).2 = 0 → (putM m).1.length ≤ 9223372036854775807 := fun h => by
    rcases hp with ⟨_, h1, h2, h3⟩ | ⟨h1, _⟩
    · rw [h2]; omega
    · exact absurd h h1
  have hpn : ∀ n, okMsg n → b = encM n → b.length ≤ 16384 → putM n = (b, 0) := fun n h1 h2 h3 => by
    rw [putM_ok h1, ← h2, if_pos h3]
  have hlng : ∀ n, getM b = (n, 0) → lnM n := fun n h => by
    have : n = (getM b).1 := by rw [h]
    rw [this]
    unfold getM
    split
    · exact zero_ln
    · split
      · exact zero_ln
      · exact rdM_ln _ _
  clear hp
  generalize putM m = px at q1 hgx hxl
  obtain ⟨x, e⟩ := px
  dsimp only at q1 hgx hxl
  unfold Msg.av
  by_cases he : e = 0
  · subst he
    have q2 := msGet_at x (hxl rfl)
    rw [hgx rfl] at q2
    unfold Msg.av at q2
    clear hgx hxl
    rcases hg with hg | ⟨k1, k2, k3, k4⟩
    · rw [hg] at q3
      simp only [zeroMsg, zeroBk, zeroV, zeroCt, zeroT, Msg.av, vn, tn] at q3
      clear hpn hlng hg
      simp only [runA, runB, runC, runD, runE, runF, fieldE, storeE, binE, ↓reduceIte, Nat.reduceLT, Nat.reduceLeDiff, Nat.reduceEqDiff, Nat.reduceAdd, Nat.reduceMul, Nat.reduceSub, reduceCtorEq, putAt, unE, Nat.reduceBEq, convE, buildE, List.replicate, Int.reduceLT, Int.reduceLE, Int.reduceToNat, mkE, mapSetE, hN, hF, ty_3, ty_4, ty_5, ty_9, ty_25, ty_27, ty_54, ty_68, ty_70, ty_72, ty_74, ty_76, notIf, isEq, nt1, g0, g1, g2, g3, h1, h2, h3, h4, q0, q1, q2, q3, q4, q5]
      iterate 5 (try (refine drawnP_intro (by kernel_rfl) (by kernel_rfl) ?_; simp only [runA, runB, runC, runD, runE, runF, fieldE, storeE, binE, ↓reduceIte, Nat.reduceLT, Nat.reduceLeDiff, Nat.reduceEqDiff, Nat.reduceAdd, Nat.reduceMul, Nat.reduceSub, reduceCtorEq, putAt, unE, Nat.reduceBEq, convE, buildE, List.replicate, Int.reduceLT, Int.reduceLE, Int.reduceToNat, mkE, mapSetE, hN, hF, ty_3, ty_4, ty_5, ty_9, ty_25, ty_27, ty_54, ty_68, ty_70, ty_72, ty_74, ty_76, notIf, isEq, nt1, g0, g1, g2, g3, h1, h2, h3, h4, q0, q1, q2, q3, q4, q5]))
      simp only [runB, finC, finD, Option.isSome_some, Option.isSome_none, ↓reduceIte, Nat.reduceEqDiff, Nat.reduceAdd, Nat.reduceMul, forall_eq_or_imp, forall_eq, implies_true, Nat.reduceBEq, reduceCtorEq, false_implies, List.zip_cons_cons, List.zip_nil_left, List.zip_nil_right, Nat.reduceLeDiff, List.forall_mem_nil, rs_8, ty_3, ty_4, ty_5, ty_9, ty_25, ty_27, ty_54, ty_68, ty_70, ty_72, ty_74, ty_76]
    · generalize hgb : getM b = gb at q3 k1 k2 k3
      obtain ⟨n, f⟩ := gb
      dsimp only at q3 k1 k2 k3
      subst k1
      have q6 := msPut_at n (hlng n hgb)
      rw [hpn n k2 k3 k4] at q6
      have hbb : (b == b) = true := beq_self_eq_true b
      unfold Msg.av at q3
      clear hpn hlng hgb k3
      simp only [runA, runB, runC, runD, runE, runF, fieldE, storeE, binE, ↓reduceIte, Nat.reduceLT, Nat.reduceLeDiff, Nat.reduceEqDiff, Nat.reduceAdd, Nat.reduceMul, Nat.reduceSub, reduceCtorEq, putAt, unE, Nat.reduceBEq, convE, buildE, List.replicate, Int.reduceLT, Int.reduceLE, Int.reduceToNat, mkE, mapSetE, hN, hF, ty_3, ty_4, ty_5, ty_9, ty_25, ty_27, ty_54, ty_68, ty_70, ty_72, ty_74, ty_76, notIf, isEq, nt1, g0, g1, g2, g3, h1, h2, h3, h4, q0, q1, q2, q3, q4, q6, hbb, bytesOf_bytes]
      iterate 5 (try (refine drawnP_intro (by kernel_rfl) (by kernel_rfl) ?_; simp only [runA, runB, runC, runD, runE, runF, fieldE, storeE, binE, ↓reduceIte, Nat.reduceLT, Nat.reduceLeDiff, Nat.reduceEqDiff, Nat.reduceAdd, Nat.reduceMul, Nat.reduceSub, reduceCtorEq, putAt, unE, Nat.reduceBEq, convE, buildE, List.replicate, Int.reduceLT, Int.reduceLE, Int.reduceToNat, mkE, mapSetE, hN, hF, ty_3, ty_4, ty_5, ty_9, ty_25, ty_27, ty_54, ty_68, ty_70, ty_72, ty_74, ty_76, notIf, isEq, nt1, g0, g1, g2, g3, h1, h2, h3, h4, q0, q1, q2, q3, q4, q6, hbb, bytesOf_bytes]))
      simp only [runB, finC, finD, Option.isSome_some, Option.isSome_none, ↓reduceIte, Nat.reduceEqDiff, Nat.reduceAdd, Nat.reduceMul, forall_eq_or_imp, forall_eq, implies_true, Nat.reduceBEq, reduceCtorEq, false_implies, List.zip_cons_cons, List.zip_nil_left, List.zip_nil_right, Nat.reduceLeDiff, List.forall_mem_nil, rs_8, ty_3, ty_4, ty_5, ty_9, ty_25, ty_27, ty_54, ty_68, ty_70, ty_72, ty_74, ty_76]
  · have g9 : (e == 0) = false := by simpa using he
    clear hgx hxl
    rcases hg with hg | ⟨k1, k2, k3, k4⟩
    · rw [hg] at q3
      simp only [zeroMsg, zeroBk, zeroV, zeroCt, zeroT, Msg.av, vn, tn] at q3
      clear hpn hlng hg
      simp only [runA, runB, runC, runD, runE, runF, fieldE, storeE, binE, ↓reduceIte, Nat.reduceLT, Nat.reduceLeDiff, Nat.reduceEqDiff, Nat.reduceAdd, Nat.reduceMul, Nat.reduceSub, reduceCtorEq, putAt, unE, Nat.reduceBEq, convE, buildE, List.replicate, Int.reduceLT, Int.reduceLE, Int.reduceToNat, mkE, mapSetE, hN, hF, ty_3, ty_4, ty_5, ty_9, ty_25, ty_27, ty_54, ty_68, ty_70, ty_72, ty_74, ty_76, notIf, isEq, nt1, g0, g1, g2, g3, g9, h1, h2, h3, h4, q0, q1, q3, q5]
      iterate 5 (try (refine drawnP_intro (by kernel_rfl) (by kernel_rfl) ?_; simp only [runA, runB, runC, runD, runE, runF, fieldE, storeE, binE, ↓reduceIte, Nat.reduceLT, Nat.reduceLeDiff, Nat.reduceEqDiff, Nat.reduceAdd, Nat.reduceMul, Nat.reduceSub, reduceCtorEq, putAt, unE, Nat.reduceBEq, convE, buildE, List.replicate, Int.reduceLT, Int.reduceLE, Int.reduceToNat, mkE, mapSetE, hN, hF, ty_3, ty_4, ty_5, ty_9, ty_25, ty_27, ty_54, ty_68, ty_70, ty_72, ty_74, ty_76, notIf, isEq, nt1, g0, g1, g2, g3, g9, h1, h2, h3, h4, q0, q1, q3, q5]))
      simp only [runB, finC, finD, Option.isSome_some, Option.isSome_none, ↓reduceIte, Nat.reduceEqDiff, Nat.reduceAdd, Nat.reduceMul, forall_eq_or_imp, forall_eq, implies_true, Nat.reduceBEq, reduceCtorEq, false_implies, List.zip_cons_cons, List.zip_nil_left, List.zip_nil_right, Nat.reduceLeDiff, List.forall_mem_nil, rs_8, ty_3, ty_4, ty_5, ty_9, ty_25, ty_27, ty_54, ty_68, ty_70, ty_72, ty_74, ty_76]
    · generalize hgb : getM b = gb at q3 k1 k2 k3
      obtain ⟨n, f⟩ := gb
      dsimp only at q3 k1 k2 k3
      subst k1
      have q6 := msPut_at n (hlng n hgb)
      rw [hpn n k2 k3 k4] at q6
      have hbb : (b == b) = true := beq_self_eq_true b
      unfold Msg.av at q3
      clear hpn hlng hgb k3
      simp only [runA, runB, runC, runD, runE, runF, fieldE, storeE, binE, ↓reduceIte, Nat.reduceLT, Nat.reduceLeDiff, Nat.reduceEqDiff, Nat.reduceAdd, Nat.reduceMul, Nat.reduceSub, reduceCtorEq, putAt, unE, Nat.reduceBEq, convE, buildE, List.replicate, Int.reduceLT, Int.reduceLE, Int.reduceToNat, mkE, mapSetE, hN, hF, ty_3, ty_4, ty_5, ty_9, ty_25, ty_27, ty_54, ty_68, ty_70, ty_72, ty_74, ty_76, notIf, isEq, nt1, g0, g1, g2, g3, g9, h1, h2, h3, h4, q0, q1, q3, q6, hbb, bytesOf_bytes]
      iterate 5 (try (refine drawnP_intro (by kernel_rfl) (by kernel_rfl) ?_; simp only [runA, runB, runC, runD, runE, runF, fieldE, storeE, binE, ↓reduceIte, Nat.reduceLT, Nat.reduceLeDiff, Nat.reduceEqDiff, Nat.reduceAdd, Nat.reduceMul, Nat.reduceSub, reduceCtorEq, putAt, unE, Nat.reduceBEq, convE, buildE, List.replicate, Int.reduceLT, Int.reduceLE, Int.reduceToNat, mkE, mapSetE, hN, hF, ty_3, ty_4, ty_5, ty_9, ty_25, ty_27, ty_54, ty_68, ty_70, ty_72, ty_74, ty_76, notIf, isEq, nt1, g0, g1, g2, g3, g9, h1, h2, h3, h4, q0, q1, q3, q6, hbb, bytesOf_bytes]))
      simp only [runB, finC, finD, Option.isSome_some, Option.isSome_none, ↓reduceIte, Nat.reduceEqDiff, Nat.reduceAdd, Nat.reduceMul, forall_eq_or_imp, forall_eq, implies_true, Nat.reduceBEq, reduceCtorEq, false_implies, List.zip_cons_cons, List.zip_nil_left, List.zip_nil_right, Nat.reduceLeDiff, List.forall_mem_nil, rs_8, ty_3, ty_4, ty_5, ty_9, ty_25, ty_27, ty_54, ty_68, ty_70, ty_72, ty_74, ty_76]
theorem encM_pos (m : Msg) : 0 < (encM m).length := by
  unfold encM
  rw [List.length_append, len6]; omega
theorem cut_at (a : Int) {L : Nat} (h0 : 0 < L) (h1 : L ≤ 16384) : ∃ K : Nat, K < L ∧ IntKind.i64.wrap (a.tmod (L : Int) + (L : Int)) = a.tmod (L : Int) + (L : Int) ∧ (a.tmod (L : Int) + (L : Int)).tmod (L : Int) = (K : Int) := by
  have hb1 : a.tmod (L : Int) < L := by
    rcases Int.le_total 0 a with h | h
    · exact Int.tmod_lt_of_pos a (by omega)
    · have e : (-a).tmod (L : Int) = -(a.tmod (L : Int)) := Int.neg_tmod a L
      have := Int.tmod_nonneg (a := -a) (L : Int) (by omega)
      omega
  have hb2 : -(L : Int) < a.tmod (L : Int) := by
    have e : (-a).tmod (L : Int) = -(a.tmod (L : Int)) := Int.neg_tmod a L
    have := Int.tmod_lt_of_pos (-a) (b := (L : Int)) (by omega)
    omega
  have hc1 : (a.tmod (L : Int) + (L : Int)).tmod (L : Int) < L := Int.tmod_lt_of_pos _ (by omega)
  have hc2 : 0 ≤ (a.tmod (L : Int) + (L : Int)).tmod (L : Int) := Int.tmod_nonneg _ (by omega)
  exact ⟨((a.tmod (L : Int) + (L : Int)).tmod (L : Int)).toNat, by omega, wrapI (by omega), by omega⟩
noncomputable def msCutsC : Contract := mkC (α := Msg × Int × List UInt8) (fun p => lnM p.1 ∧ p.2.2.length ≤ 1099511627776) (fun p => [p.1.av, .c (.int .i64 p.2.1), .c (.sl (bytes p.2.2))]) (fun _ => []) (fun _ => ⟨[.pv (.c (.bool true))], []⟩)

set_option maxRecDepth 100000 in
set_option maxHeartbeats 4000000 in
theorem msCuts_sound (hΓ : SoundG Try.prog Γ) (h1 : Γ 37 = alive11C) (h2 : Γ 38 = msPutC) (h3 : Γ 39 = msGetC) : SoundC Try.prog 9 msCutsC := by
  refine sound_fn Try.func9 (by kernel_rfl) rfl rfl ?_
  intro args objs r0 hr
  obtain ⟨⟨m, a, mo⟩, ⟨hm, hmo⟩, rfl, rfl, rfl⟩ := mkC_inv hr
  refine ⟨rfl, by show 3 ≤ _; decide, fun E hN hns hF => ?_⟩
  refine vc_sound hΓ mixed _ _ _ ?_
  have hN := hN.trans nt_9
  have hm : lnM m := hm
  have hmo : mo.length ≤ 1099511627776 := hmo
  have vn : votes [] = [] := rfl
  have tn : trows [] = [] := rfl
  have nt1 : (!true) = false := rfl
  have g0 : ((0 : Int) == 0) = true := rfl
  have g1 : ((0 : Int) != 0) = false := rfl
  have g2 : ((33 : Int) == 0) = false := rfl
  have g3 : ((33 : Int) == 33) = true := rfl
  have b1 : (true == true) = true := rfl
  have b2 : (false == false) = true := rfl
  have z0 : ((0 : Nat) : Int) = 0 := rfl
  have bn : bytes [] = [] := rfl
  have q0 : alive11C [] [] = some ⟨[.pv (.c (.bool true))], []⟩ := rfl
  have q1 := msPut_at m hm
  have hp := putM_two m
  generalize putM m = px at q1 hp
  obtain ⟨x, e⟩ := px
  dsimp only at q1 hp
  rcases hp with ⟨rfl, hk, hx, hl⟩ | ⟨he, rfl⟩
  case inr =>
    have g9 : (e != 0) = true := by simpa using he
    have gl : (((0 : Nat) : Int) == 0) = true := rfl
    rw [bn] at q1
    unfold Msg.av
    simp only [runA, runB, runC, runD, runE, runF, fieldE, storeE, binE, ↓reduceIte, Nat.reduceLT, Nat.reduceLeDiff, Nat.reduceEqDiff, Nat.reduceAdd, Nat.reduceMul, Nat.reduceSub, reduceCtorEq, putAt, unE, Nat.reduceBEq, convE, buildE, List.replicate, Int.reduceLT, Int.reduceLE, Int.reduceToNat, mkE, mapSetE, hN, hF, ty_3, ty_4, ty_5, ty_9, ty_25, ty_27, ty_54, ty_68, ty_70, ty_72, ty_74, ty_76, notIf, isEq, nt1, h1, h2, q0, q1, g9, gl]
    iterate 5 (try (refine drawnP_intro (by kernel_rfl) (by kernel_rfl) ?_; simp only [runA, runB, runC, runD, runE, runF, fieldE, storeE, binE, ↓reduceIte, Nat.reduceLT, Nat.reduceLeDiff, Nat.reduceEqDiff, Nat.reduceAdd, Nat.reduceMul, Nat.reduceSub, reduceCtorEq, putAt, unE, Nat.reduceBEq, convE, buildE, List.replicate, Int.reduceLT, Int.reduceLE, Int.reduceToNat, mkE, mapSetE, hN, hF, ty_3, ty_4, ty_5, ty_9, ty_25, ty_27, ty_54, ty_68, ty_70, ty_72, ty_74, ty_76, notIf, isEq, nt1, h1, h2, q0, q1, g9, gl]))
    simp only [runB, finC, finD, Option.isSome_some, Option.isSome_none, ↓reduceIte, Nat.reduceEqDiff, Nat.reduceAdd, Nat.reduceMul, forall_eq_or_imp, forall_eq, implies_true, Nat.reduceBEq, reduceCtorEq, false_implies, List.zip_cons_cons, List.zip_nil_left, List.zip_nil_right, Nat.reduceLeDiff, List.forall_mem_nil, rs_9, ty_3, ty_4, ty_5, ty_9, ty_25, ty_27, ty_54, ty_68, ty_70, ty_72, ty_74, ty_76]
  have hpos := encM_pos m
  rw [← hx] at hl hpos
  obtain ⟨K, k1, k2, k3⟩ := cut_at a hpos hl
  have q2 := msGet_at (x.take K) (by rw [List.length_take]; omega)
  rw [show getM (x.take K) = (zeroMsg, 33) from by rw [hx]; exact getM_less hk (by rw [← hx]; exact k1)] at q2
  have q3 := msGet_at (x ++ mo) (by rw [List.length_append]; omega)
  have hz := rowsOK_bytes
  have n0 : ((x.length : Int) = 0) = False := eq_false (by omega)
  have n1 : ((K : Int) ≤ (x.length : Int)) = True := eq_true (by omega)
  have n2 : (x.length ≤ 140737488355328) = True := eq_true (by omega)
  have n3 : (x.length + mo.length ≤ 140737488355328) = True := eq_true (by omega)
  have happ := bytes_app x mo
  simp only [zeroMsg, zeroBk, zeroV, zeroCt, zeroT, Msg.av, vn, tn] at q2
  rcases Nat.eq_zero_or_pos mo.length with hz0 | hzp
  · have hmn : mo = [] := List.length_eq_zero_iff.1 hz0
    have gl : ((mo.length : Int) == 0) = true := by rw [hz0]; rfl
    rw [show getM (x ++ mo) = (m, 0) from by rw [hmn, List.append_nil, hx]; exact getM_enc hk (by rw [← hx]; exact hl)] at q3
    unfold Msg.av at q3 ⊢
    clear hmn hx
    simp only [runA, runB, runC, runD, runE, runF, fieldE, storeE, binE, ↓reduceIte, Nat.reduceLT, Nat.reduceLeDiff, Nat.reduceEqDiff, Nat.reduceAdd, Nat.reduceMul, Nat.reduceSub, reduceCtorEq, putAt, unE, Nat.reduceBEq, convE, buildE, List.replicate, Int.reduceLT, Int.reduceLE, Int.reduceToNat, mkE, mapSetE, hN, hF, ty_3, ty_4, ty_5, ty_9, ty_25, ty_27, ty_54, ty_68, ty_70, ty_72, ty_74, ty_76, notIf, isEq, nt1, h1, h2, h3, q0, q1, g1, n0, k2, k3, bytes_length, sliceE, boundE, hz, n1, bytes_take, List.drop_zero, q2, n2, n3, happ, q3, g0, g3, gl, b1, z0, Option.isSome_some, Int.le_refl, Nat.zero_add, List.nil_append]
    iterate 5 (try (refine drawnP_intro (by kernel_rfl) (by kernel_rfl) ?_; simp only [runA, runB, runC, runD, runE, runF, fieldE, storeE, binE, ↓reduceIte, Nat.reduceLT, Nat.reduceLeDiff, Nat.reduceEqDiff, Nat.reduceAdd, Nat.reduceMul, Nat.reduceSub, reduceCtorEq, putAt, unE, Nat.reduceBEq, convE, buildE, List.replicate, Int.reduceLT, Int.reduceLE, Int.reduceToNat, mkE, mapSetE, hN, hF, ty_3, ty_4, ty_5, ty_9, ty_25, ty_27, ty_54, ty_68, ty_70, ty_72, ty_74, ty_76, notIf, isEq, nt1, h1, h2, h3, q0, q1, g1, n0, k2, k3, bytes_length, sliceE, boundE, hz, n1, bytes_take, List.drop_zero, q2, n2, n3, happ, q3, g0, g3, gl, b1, z0, Option.isSome_some, Int.le_refl, Nat.zero_add, List.nil_append]))
    simp only [runB, finC, finD, Option.isSome_some, Option.isSome_none, ↓reduceIte, Nat.reduceEqDiff, Nat.reduceAdd, Nat.reduceMul, forall_eq_or_imp, forall_eq, implies_true, Nat.reduceBEq, reduceCtorEq, false_implies, List.zip_cons_cons, List.zip_nil_left, List.zip_nil_right, Nat.reduceLeDiff, List.forall_mem_nil, rs_9, ty_3, ty_4, ty_5, ty_9, ty_25, ty_27, ty_54, ty_68, ty_70, ty_72, ty_74, ty_76]
  · have gl : ((mo.length : Int) == 0) = false := by rw [beq_eq_false_iff_ne]; omega
    rw [show getM (x ++ mo) = (zeroMsg, 33) from by rw [hx]; exact getM_more hk hzp] at q3
    simp only [zeroMsg, zeroBk, zeroV, zeroCt, zeroT, Msg.av, vn, tn] at q3
    unfold Msg.av
    clear hx
    simp only [runA, runB, runC, runD, runE, runF, fieldE, storeE, binE, ↓reduceIte, Nat.reduceLT, Nat.reduceLeDiff, Nat.reduceEqDiff, Nat.reduceAdd, Nat.reduceMul, Nat.reduceSub, reduceCtorEq, putAt, unE, Nat.reduceBEq, convE, buildE, List.replicate, Int.reduceLT, Int.reduceLE, Int.reduceToNat, mkE, mapSetE, hN, hF, ty_3, ty_4, ty_5, ty_9, ty_25, ty_27, ty_54, ty_68, ty_70, ty_72, ty_74, ty_76, notIf, isEq, nt1, h1, h2, h3, q0, q1, g1, n0, k2, k3, bytes_length, sliceE, boundE, hz, n1, bytes_take, List.drop_zero, q2, n2, n3, happ, q3, g2, g3, gl, b2, z0, Option.isSome_some, Int.le_refl, Nat.zero_add, List.nil_append]
    iterate 5 (try (refine drawnP_intro (by kernel_rfl) (by kernel_rfl) ?_; simp only [runA, runB, runC, runD, runE, runF, fieldE, storeE, binE, ↓reduceIte, Nat.reduceLT, Nat.reduceLeDiff, Nat.reduceEqDiff, Nat.reduceAdd, Nat.reduceMul, Nat.reduceSub, reduceCtorEq, putAt, unE, Nat.reduceBEq, convE, buildE, List.replicate, Int.reduceLT, Int.reduceLE, Int.reduceToNat, mkE, mapSetE, hN, hF, ty_3, ty_4, ty_5, ty_9, ty_25, ty_27, ty_54, ty_68, ty_70, ty_72, ty_74, ty_76, notIf, isEq, nt1, h1, h2, h3, q0, q1, g1, n0, k2, k3, bytes_length, sliceE, boundE, hz, n1, bytes_take, List.drop_zero, q2, n2, n3, happ, q3, g2, g3, gl, b2, z0, Option.isSome_some, Int.le_refl, Nat.zero_add, List.nil_append]))
    simp only [runB, finC, finD, Option.isSome_some, Option.isSome_none, ↓reduceIte, Nat.reduceEqDiff, Nat.reduceAdd, Nat.reduceMul, forall_eq_or_imp, forall_eq, implies_true, Nat.reduceBEq, reduceCtorEq, false_implies, List.zip_cons_cons, List.zip_nil_left, List.zip_nil_right, Nat.reduceLeDiff, List.forall_mem_nil, rs_9, ty_3, ty_4, ty_5, ty_9, ty_25, ty_27, ty_54, ty_68, ty_70, ty_72, ty_74, ty_76]

end Go.Proofs.Ytldehcnaepgamaa.AM
