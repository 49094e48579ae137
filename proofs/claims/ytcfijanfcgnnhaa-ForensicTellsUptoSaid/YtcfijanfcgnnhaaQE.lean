/-
  QE: Fo6 Fo7.
-/
import Derived.Test.YtcfijanfcgnnhaaQD
set_option linter.unusedVariables false
set_option linter.unusedSimpArgs false
namespace Go.Proofs.Ytcfijanfcgnnhaa.AM
open Go Go.Proofs

variable {Γ : FuncId → Contract}

theorem susp_len (l m : List Vt) : (suspL l m).length ≤ l.length := by
  unfold suspL
  refine Nat.le_trans (compact_len _) ?_
  rw [List.length_mergeSort]
  have := gath_len l m l.length
  rw [List.take_length] at this
  exact this
def blameL (a b : List Vt) : List Int → List Vt
  | [] => []
  | n :: l => fstV a n :: fstV b n :: blameL a b l
theorem blame_app (a b : List Vt) : ∀ l m : List Int, blameL a b (l ++ m) = blameL a b l ++ blameL a b m
  | [], m => rfl
  | x :: l, m => by simp [blameL, blame_app a b l m]
theorem blame_len (a b : List Vt) : ∀ l : List Int, (blameL a b l).length = 2 * l.length
  | [] => rfl
  | x :: l => by simp [blameL, blame_len a b l]; omega
theorem blame_succ (a b : List Vt) (l : List Int) (i : Nat) (h : i < l.length) : blameL a b (l.take (i + 1)) = blameL a b (l.take i) ++ [fstV a (l.getD i 0), fstV b (l.getD i 0)] := by
  rw [List.take_add_one, List.getElem?_eq_getElem h, blame_app, List.getD_eq_getElem?_getD, List.getElem?_eq_getElem h]
  rfl
noncomputable def blmC : Contract := mkC (α := Ct × Ct) (fun p => p.1.vs.length ≤ 1073741824 ∧ p.2.vs.length ≤ 9223372036854775807) (fun p => [forkAV p.1 p.2]) (fun _ => []) (fun p => ⟨[.pv (.c (.sl (votes (blameL p.1.vs p.2.vs (suspL p.1.vs p.2.vs)))))], []⟩)
theorem blm_at (a b : Ct) (ha : a.vs.length ≤ 1073741824) (hb : b.vs.length ≤ 9223372036854775807) : blmC [forkAV a b] [] = some ⟨[.pv (.c (.sl (votes (blameL a.vs b.vs (suspL a.vs b.vs)))))], []⟩ :=
  mkC_at (α := Ct × Ct) (a, b) ⟨ha, hb⟩ (by
    rintro ⟨c, d⟩ _ h _
    have h' : [forkAV c d] = [forkAV a b] := h
    simp only [List.cons.injEq, and_true] at h'
    obtain ⟨rfl, rfl⟩ := forkAV_inj h'
    rfl)

set_option maxRecDepth 100000 in
set_option maxHeartbeats 4000000 in
theorem blm_sound (hΓ : SoundG Try.prog Γ) (h1 : Γ 39 = suspC) (h2 : Γ 69 = firC) : SoundC Try.prog 40 blmC := by
  refine sound_fn Try.func40 (by kernel_rfl) rfl rfl ?_
  intro args objs r0 hr
  obtain ⟨⟨⟨avw, aht, abl, avs⟩, ⟨bvw, bht, bbl, bvs⟩⟩, ⟨ha, hb⟩, rfl, rfl, rfl⟩ := mkC_inv hr
  refine ⟨rfl, by show 1 ≤ _; decide, fun E hN hns hF => ?_⟩
  refine vc_sound hΓ mixed _ _ _ ?_
  have hN := hN.trans nt_40
  have ha : avs.length ≤ 1073741824 := ha
  have hb : bvs.length ≤ 9223372036854775807 := hb
  have q1 := susp_at ⟨avw, aht, abl, avs⟩ ⟨bvw, bht, bbl, bvs⟩ (by show avs.length ≤ _; omega) hb
  have hsl := susp_len avs bvs
  unfold forkAV at q1 ⊢
  dsimp only at q1 ⊢
  generalize suspL avs bvs = S at *
  have hzl := zn_length S
  simp only [runA, runB, runC, runD, runE, runF, fieldE, storeE, binE, ↓reduceIte, Nat.reduceLT, Nat.reduceLeDiff, Nat.reduceEqDiff, Nat.reduceAdd, Nat.reduceMul, Nat.reduceSub, reduceCtorEq, putAt, unE, Nat.reduceBEq, convE, buildE, List.replicate, Int.reduceLT, Int.reduceLE, Int.reduceToNat, mkE, mapSetE, hN, hF, ty_3, ty_9, ty_47, ty_60, ty_79, ty_81, ty_83, notIf, isEq, h1, q1, hzl]
  refine AWP.loop (fun c st => ∃ i : Nat, i ≤ S.length ∧ c = S.length - i ∧ st = ⟨[(1, .ptr 64 0), (2, .nilsl), (3, .own 2241 7 (votes (blameL avs bvs (S.take i)))), (11, .c (.sl (zn S))), (12, .c (.int .i64 (S.length : Int))), (13, .c (.int .i64 (i : Int)))],
    [(64, .obj [.c (.int .i64 avw), .c (.int .i64 aht), .c (.str abl), .c (.sl (votes avs)), .c (.int .i64 bvw), .c (.int .i64 bht), .c (.str bbl), .c (.sl (votes bvs))] false), (2241, .row 7 (2 * i))]⟩) ⟨S.length, _, ?w, 0, Nat.zero_le _, rfl, rfl⟩ ?r
  case w =>
    rw [hns]
    simp only [runB, finC, finD, AS.get, AS.mem, false_implies, implies_true, ↓reduceIte, Nat.reduceEqDiff, Option.isSome_some, Option.isSome_none, forall_eq_or_imp, forall_eq, reduceCtorEq, Nat.reduceAdd, Nat.reduceMul, List.zip_cons_cons, List.zip_nil_left, List.zip_nil_right, List.forall_mem_nil, List.take_zero, blameL, show votes [] = [] from rfl, Nat.mul_zero]
    first | done | simp
  case r =>
    rintro c st ⟨i, hi, rfl, rfl⟩
    refine vc_sound hΓ mixed _ _ _ ?_
    by_cases hlt : i < S.length
    · have k1 : decide ((i : Int) < (S.length : Int)) = true := decide_eq_true (by omega)
      have e1 : IntKind.i64.wrap ((i : Int) + 1) = (i : Int) + 1 := wrapI (by omega)
      have hi2 : ((i : Int) < (S.length : Int)) = True := eq_true (by omega)
      have hg := znD S i hlt
      have hts := blame_succ avs bvs S i hlt
      have hYl : (votes (blameL avs bvs (S.take i))).length = 2 * i := by rw [votes_length, blame_len, List.length_take]; omega
      have qa := fir_at ⟨avw, aht, abl, avs⟩ (S.getD i 0) (by show avs.length ≤ _; omega)
      have qb := fir_at ⟨bvw, bht, bbl, bvs⟩ (S.getD i 0) hb
      generalize S.getD i 0 = n at *
      generalize blameL avs bvs (S.take i) = Y at *
      dsimp only at qa qb
      generalize fstV avs n = y at *
      generalize fstV bvs n = z at *
      unfold Vt.av at qa qb
      have hz : rowsOK 7 [[PC.int .i64 y.kd, .int .i64 y.vw, .int .i64 y.ht, .str y.bl, .int .i64 y.tk, .int .i64 y.sg, .str y.sig], [PC.int .i64 z.kd, .int .i64 z.vw, .int .i64 z.ht, .str z.bl, .int .i64 z.tk, .int .i64 z.sg, .str z.sig]] := by
        intro r hr
        simp only [List.mem_cons, List.not_mem_nil, or_false] at hr
        rcases hr with rfl | rfl <;> rfl
      have hLb : ((2 * i + 2) * 72 ≤ 140737488355328) = True := eq_true (by omega)
      have hvl := hYl
      have happ : votes Y ++ [[PC.int .i64 y.kd, .int .i64 y.vw, .int .i64 y.ht, .str y.bl, .int .i64 y.tk, .int .i64 y.sg, .str y.sig], [PC.int .i64 z.kd, .int .i64 z.vw, .int .i64 z.ht, .str z.bl, .int .i64 z.tk, .int .i64 z.sg, .str z.sig]] = votes (Y ++ [y, z]) := by simp [votes, Vt.pcs]
      simp only [runA, runB, runC, runD, runE, runF, fieldE, storeE, binE, ↓reduceIte, Nat.reduceLT, Nat.reduceLeDiff, Nat.reduceEqDiff, Nat.reduceAdd, Nat.reduceMul, Nat.reduceSub, reduceCtorEq, putAt, unE, Nat.reduceBEq, convE, buildE, List.replicate, Int.reduceLT, Int.reduceLE, Int.reduceToNat, mkE, mapSetE, hN, hF, ty_3, ty_9, ty_47, ty_60, ty_79, ty_81, ty_83, notIf, isEq, k1, e1, hg, hi2, hzl, h2, qa, qb, hz, hLb, hvl, happ]
      iterate 4 (try (refine drawnP_intro (by kernel_rfl) (by kernel_rfl) ?_; simp only [runA, runB, runC, runD, runE, runF, fieldE, storeE, binE, ↓reduceIte, Nat.reduceLT, Nat.reduceLeDiff, Nat.reduceEqDiff, Nat.reduceAdd, Nat.reduceMul, Nat.reduceSub, reduceCtorEq, putAt, unE, Nat.reduceBEq, convE, buildE, List.replicate, Int.reduceLT, Int.reduceLE, Int.reduceToNat, mkE, mapSetE, hN, hF, ty_3, ty_9, ty_47, ty_60, ty_79, ty_81, ty_83, notIf, isEq, k1, e1, hg, hi2, hzl, h2, qa, qb, hz, hLb, hvl, happ]))
      refine ⟨S.length - (i + 1), _, by omega, ?_, i + 1, by omega, rfl, rfl⟩
      rw [hns, hts]
      simp only [runB, finC, finD, AS.get, AS.mem, false_implies, implies_true, ↓reduceIte, Nat.reduceEqDiff, Option.isSome_some, Option.isSome_none, forall_eq_or_imp, forall_eq, reduceCtorEq, Nat.reduceAdd, Nat.reduceMul, List.zip_cons_cons, List.zip_nil_left, List.zip_nil_right, List.forall_mem_nil]
      first | done | (simp; done) | (simp; omega) | omega
    · have k1 : decide ((i : Int) < (S.length : Int)) = false := decide_eq_false (by omega)
      obtain rfl : i = S.length := by omega
      rw [List.take_length]
      simp only [runA, runB, runC, runD, runE, runF, fieldE, storeE, binE, ↓reduceIte, Nat.reduceLT, Nat.reduceLeDiff, Nat.reduceEqDiff, Nat.reduceAdd, Nat.reduceMul, Nat.reduceSub, reduceCtorEq, putAt, unE, Nat.reduceBEq, convE, buildE, List.replicate, Int.reduceLT, Int.reduceLE, Int.reduceToNat, mkE, mapSetE, hN, hF, ty_3, ty_9, ty_47, ty_60, ty_79, ty_81, ty_83, notIf, isEq, k1]
      simp only [runB, finC, finD, Option.isSome_some, Option.isSome_none, ↓reduceIte, Nat.reduceEqDiff, Nat.reduceAdd, Nat.reduceMul, forall_eq_or_imp, forall_eq, implies_true, Nat.reduceBEq, reduceCtorEq, false_implies, List.zip_cons_cons, List.zip_nil_left, List.zip_nil_right, Nat.reduceLeDiff, List.forall_mem_nil, rs_40]

open Go Go.Proofs

variable {Γ : FuncId → Contract}

theorem cup_mem (d : Array Int) : ∀ m x, x ∈ Lib.compactUpTo d m → ∃ j, j < m ∧ x = d[j]!
  | 0, x, h => by simp [Lib.compactUpTo] at h
  | m + 1, x, h => by
    rw [Lib.compactUpTo_succ] at h
    rcases List.mem_append.1 h with h | h
    · obtain ⟨j, h1, h2⟩ := cup_mem d m x h
      exact ⟨j, by omega, h2⟩
    · split at h
      · rw [List.mem_singleton] at h
        exact ⟨m, by omega, h⟩
      · cases h
theorem cup_all (d : Array Int) : ∀ m j, j < m → d[j]! ∈ Lib.compactUpTo d m
  | 0, j, h => by omega
  | m + 1, j, h => by
    rw [Lib.compactUpTo_succ]
    by_cases e : j < m
    · exact List.mem_append.2 (.inl (cup_all d m j e))
    · obtain rfl : j = m := by omega
      by_cases hk : Lib.keeps d j = true
      · rw [if_pos hk]; exact List.mem_append.2 (.inr (by simp))
      · rw [if_neg hk, List.append_nil]
        unfold Lib.keeps at hk
        simp only [decide_eq_true_eq, not_or, Decidable.not_not] at hk
        rw [hk.2]
        exact cup_all d j (j - 1) (by omega)
theorem cup_lt (d : Array Int) (hs : ∀ i j, i ≤ j → j < d.size → d[i]! ≤ d[j]!) : ∀ m, m ≤ d.size → (Lib.compactUpTo d m).Pairwise (· < ·)
  | 0, _ => by simp [Lib.compactUpTo]
  | m + 1, h => by
    rw [Lib.compactUpTo_succ, List.pairwise_append]
    refine ⟨cup_lt d hs m (by omega), ?_, ?_⟩
    · split <;> simp
    · intro x hx y hy
      split at hy
      · rename_i hk
        rw [List.mem_singleton] at hy
        subst hy
        obtain ⟨j, h1, rfl⟩ := cup_mem d m x hx
        unfold Lib.keeps at hk
        simp only [decide_eq_true_eq] at hk
        rcases hk with hk | hk
        · omega
        · have a1 := hs j (m - 1) (by omega) (by omega)
          have a2 := hs (m - 1) m (by omega) (by omega)
          omega
      · cases hy
theorem susp_sorted (zs : List Int) : ∀ i j, i ≤ j → j < ((zs.mergeSort fun x y => decide (x ≤ y)).toArray).size → ((zs.mergeSort fun x y => decide (x ≤ y)).toArray)[i]! ≤ ((zs.mergeSort fun x y => decide (x ≤ y)).toArray)[j]! := by
  have hp : (zs.mergeSort fun x y => decide (x ≤ y)).Pairwise (fun x y => decide (x ≤ y) = true) := List.pairwise_mergeSort (by intro a b c h1 h2; simp at h1 h2 ⊢; omega) (by intro a b; simp; omega) zs
  generalize (zs.mergeSort fun x y => decide (x ≤ y)) = l at *
  intro i j hij hj
  have hj : j < l.length := by simpa using hj
  rw [getElem!_pos l.toArray i (by simp; omega), getElem!_pos l.toArray j (by simpa using hj)]
  rw [List.getElem_toArray, List.getElem_toArray]
  by_cases e : i = j
  · subst e; exact Int.le_refl _
  · have := List.pairwise_iff_getElem.1 hp i j (by omega) hj (by omega)
    simpa using this
theorem susp_lt (l m : List Vt) : (suspL l m).Pairwise (· < ·) := by
  unfold suspL Lib.compact
  exact cup_lt _ (susp_sorted _) _ (by simp)
theorem susp_mem (l m : List Vt) (n : Int) : n ∈ suspL l m ↔ ∃ v ∈ l, v.sg = n ∧ v.kd = 1 ∧ ¬ idxP (isS n) m < 0 := by
  have h1 : n ∈ suspL l m ↔ n ∈ gath l m := by
    unfold suspL Lib.compact
    constructor
    · intro h
      obtain ⟨j, hj, rfl⟩ := cup_mem _ _ _ h
      rw [getElem!_pos _ j (by simpa using hj), List.getElem_toArray]
      exact (List.mergeSort_perm _ _).subset (List.getElem_mem _)
    · intro h
      have h2 := (List.mergeSort_perm (gath l m) fun x y => decide (x ≤ y)).symm.subset h
      obtain ⟨j, hj, rfl⟩ := List.getElem_of_mem h2
      have := cup_all ((gath l m).mergeSort fun x y => decide (x ≤ y)).toArray _ j hj
      rw [getElem!_pos _ j (by simpa using hj), List.getElem_toArray] at this
      exact this
  rw [h1]
  unfold gath
  simp only [List.mem_map, List.mem_filter, Bool.and_eq_true, Bool.not_eq_true', decide_eq_false_iff_not, beq_iff_eq]
  constructor
  · rintro ⟨v, ⟨hv, h2, h3⟩, rfl⟩
    exact ⟨v, hv, rfl, h3, h2⟩
  · rintro ⟨v, hv, rfl, h3, h2⟩
    exact ⟨v, ⟨hv, h2, h3⟩, rfl⟩
/-- One who voted is found. -/
theorem idx_of_mem {l : List Vt} {v : Vt} (hv : v ∈ l) (h : v.kd = 1) : ¬ idxP (isS v.sg) l < 0 := by
  intro hneg
  have hn : idxP (isS v.sg) l = -1 := by
    rcases idxP_cases (isS v.sg) l with e | ⟨i, e, _⟩
    · exact e
    · rw [e] at hneg; omega
  unfold idxP at hn
  cases hf : l.findIdx? (isS v.sg) with
  | none =>
    rw [List.findIdx?_eq_none_iff] at hf
    have := hf v hv
    simp [isS, h] at this
  | some i => rw [hf] at hn; simp at hn
theorem susp_both {l m : List Vt} {n : Int} (h : n ∈ suspL l m) : (∃ i : Nat, idxP (isS n) l = (i : Int) ∧ i < l.length) ∧ ∃ i : Nat, idxP (isS n) m = (i : Int) ∧ i < m.length := by
  obtain ⟨v, hv, rfl, hk, hm⟩ := (susp_mem l m n).1 h
  constructor
  · rcases idxP_cases (isS v.sg) l with e | e
    · exact absurd (by rw [e]; omega) (idx_of_mem hv hk)
    · exact e
  · rcases idxP_cases (isS v.sg) m with e | e
    · exact absurd (by rw [e]; omega) hm
    · exact e
theorem susp_in {l m : List Vt} {v : Vt} (hv : v ∈ l) (hk : v.kd = 1) : (v.sg ∈ suspL l m) ↔ ¬ idxP (isS v.sg) m < 0 := by
  rw [susp_mem]
  exact ⟨fun ⟨_, _, _, _, h⟩ => h, fun h => ⟨v, hv, rfl, hk, h⟩⟩
theorem blame_get (a b : List Vt) : ∀ (l : List Int) (i : Nat), i < l.length → (blameL a b l)[2 * i]? = some (fstV a (l.getD i 0)) ∧ (blameL a b l)[2 * i + 1]? = some (fstV b (l.getD i 0))
  | [], i, h => by simp at h
  | x :: l, 0, h => ⟨rfl, rfl⟩
  | x :: l, i + 1, h => by
    have := blame_get a b l i (by simpa using h)
    rw [show 2 * (i + 1) = 2 * i + 1 + 1 by omega]
    simpa [blameL] using this

end Go.Proofs.Ytcfijanfcgnnhaa.AM
