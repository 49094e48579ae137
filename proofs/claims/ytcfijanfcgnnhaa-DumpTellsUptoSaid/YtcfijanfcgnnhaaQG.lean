/-
  QG: Dt4.
-/
import Derived.Test.YtcfijanfcgnnhaaQF
import Derived.Test.YtcfijanfcgnnhaaQ7
set_option linter.unusedVariables false
set_option linter.unusedSimpArgs false
namespace Go.Proofs.Ytcfijanfcgnnhaa.AM
open Go Go.RowKit

variable {Γ : FuncId → Contract}

theorem texts_inj39 {a b : List (List UInt8)} (h : texts a = texts b) : a = b := (List.map_inj_right (fun x y h => by simpa using h)).1 h
def nums (l : List Int) : List (List PC) := l.map fun n => [PC.int .i64 n]
theorem nums_inj {a b : List Int} (h : nums a = nums b) : a = b := (List.map_inj_right (fun x y h => by simpa using h)).1 h
theorem nums_length (l : List Int) : (nums l).length = l.length := by simp [nums]
theorem numsD (l : List Int) (i : Nat) (h : i < l.length) : (nums l)[i]? = some [.int .i64 (l.getD i 0)] := by simp [nums, List.getD, h]
noncomputable def joinC39 : Contract := mkC (α := List (List UInt8) × List UInt8) (fun p => p.1.length ≤ 140737488355328 ∧ (Lib.join p.1 p.2).length ≤ 140737488355328) (fun p => [.c (.sl (texts p.1)), .c (.str p.2)]) (fun _ => []) (fun p => ⟨[.pv (.c (.str (Lib.join p.1 p.2)))], []⟩)
theorem join39_at (xs : List (List UInt8)) (s : List UInt8) (h1 : xs.length ≤ 140737488355328) (h2 : (Lib.join xs s).length ≤ 140737488355328) : joinC39 [.c (.sl (texts xs)), .c (.str s)] [] = some ⟨[.pv (.c (.str (Lib.join xs s)))], []⟩ :=
  mkC_at (α := List (List UInt8) × List UInt8) (xs, s) ⟨h1, h2⟩ (by
    rintro ⟨xs', s'⟩ _ h _
    simp only [List.cons.injEq, AV.c.injEq, PC.str.injEq, PC.sl.injEq, and_true] at h
    obtain ⟨e, rfl⟩ := h
    rw [texts_inj39 e])
theorem map_data (xs : List (List UInt8)) : (xs.map fun s => (⟨s.toArray⟩ : ByteArray)).map (·.data.toList) = xs := by
  rw [List.map_map]
  have : ((fun x : ByteArray => x.data.toList) ∘ fun s : List UInt8 => (⟨s.toArray⟩ : ByteArray)) = id := by funext s; rfl
  rw [this, List.map_id]
theorem join39_sound : SoundC Try.prog 80 joinC39 := by
  refine ⟨⟨_, Try.func80, rfl, rfl⟩, fun args objs r hr => ?_⟩
  obtain ⟨⟨xs, s⟩, ⟨h1, h2⟩, rfl, rfl, rfl⟩ := mkC_inv hr
  refine ⟨fun x hx => resB_spec (l := [.pv (.c (.str (Lib.join xs s)))]) rfl x hx, fun Ext G w vals M hl hx => ?_⟩
  match vals, hl with
  | [v1, v2], _ =>
  have e2 : v2 = .string ⟨s.toArray⟩ := by
    have := hx 1 _ v2 rfl rfl
    cases this with
    | c _ _ h => cases h; rfl
  subst e2
  have fin : ∀ e W', e = Ending.returned (.string ⟨(Lib.join xs s).toArray⟩) → Below w.heap.size w W' → CallPost (cEnv w Ext G.K) G ⟨[.pv (.c (.str (Lib.join xs s)))], []⟩ e W' := by
    rintro e W' rfl bel
    exact ⟨G, _, rfl, Gh.le_refl _, M.below0 bel rfl, .c _ _ (.str _)⟩
  have hv1 := hx 0 _ v1 rfl rfl
  generalize hX : texts xs = rows at hv1
  cases hv1 with
  | c _ _ h =>
  cases h with
  | nil =>
    have : xs = [] := by cases xs with | nil => rfl | cons a l => cases hX
    subst this
    refine Calls.mono (Try.strings_Join_none none 0 ⟨s.toArray⟩ w) ?_
    rintro e W' ⟨rfl, rfl⟩
    exact fin _ _ rfl (Below.refl _ _)
  | at0 a cap =>
    have : xs = [] := by cases xs with | nil => rfl | cons a l => cases hX
    subst this
    refine Calls.mono (Try.strings_Join_none (some a) cap ⟨s.toArray⟩ w) ?_
    rintro e W' ⟨rfl, rfl⟩
    exact fin _ _ rfl (Below.refl _ _)
  | sl _ z b off cap f hz hc hk hv =>
    subst hX
    rw [texts_length] at *
    cases xs with
    | nil =>
      refine Calls.mono (Try.strings_Join_none (some ⟨b, off, none⟩) cap ⟨s.toArray⟩ w) ?_
      rintro e W' ⟨rfl, rfl⟩
      exact fin _ _ rfl (Below.refl _ _)
    | cons x0 xs0 =>
      have hz1 : z = 1 := by
        have := hz [.str x0] (by simp [texts])
        exact this.symm
      subst hz1
      have hcell : ∀ (j : Nat) x, ((x0 :: xs0).map fun s => (⟨s.toArray⟩ : ByteArray))[j]? = some x → w.cell? ⟨b, off + j, none⟩ = some (.string x) := by
        intro j x hj
        rw [List.getElem?_map] at hj
        obtain ⟨y, hy, rfl⟩ := Option.map_eq_some_iff.1 hj
        have hr : (texts (x0 :: xs0))[j]? = some [.str y] := by
          unfold texts; rw [List.getElem?_map, hy]; rfl
        have k1 := hk j _ 0 _ hr rfl
        have k2 := hv j _ 0 _ hr rfl
        have k3 := M.agree _ _ _ k1
        rw [Nat.mul_one, Nat.add_zero] at k3
        rw [k3]
        generalize f j 0 = v at k2
        cases k2
        rfl
      have hlt : b < w.heap.size := M.k_lt (hk 0 [.str x0] 0 (.str x0) rfl rfl)
      have hlen : ((x0 :: xs0).map fun s => (⟨s.toArray⟩ : ByteArray)).length = (x0 :: xs0).length := by rw [List.length_map]
      have hj := Try.strings_Join b off cap ((x0 :: xs0).map fun s => (⟨s.toArray⟩ : ByteArray)) ⟨s.toArray⟩ w hcell hlt (by rw [hlen]; exact h1) (by rw [hlen]; exact hc) (by rw [map_data]; exact h2)
      rw [hlen, map_data] at hj
      refine Calls.mono hj ?_
      rintro e W' ⟨rfl, bel⟩
      exact fin _ _ rfl bel
noncomputable def wnC : Contract := mkC (α := List (List UInt8) × List Int) (fun p => p.1.length + p.2.length ≤ 1000 ∧ ∀ n ∈ p.2, 0 ≤ n ∧ n ≤ 1099511627776) (fun p => [.ptr 6400000 0, .c (.sl (nums p.2))]) (fun p => [[.own 1 (texts p.1)]]) (fun p => ⟨[.ref 0], [[.own 1 (texts (p.1 ++ p.2.map decS))]]⟩)
theorem wn_at (xs : List (List UInt8)) (l : List Int) (h1 : xs.length + l.length ≤ 1000) (h2 : ∀ n ∈ l, 0 ≤ n ∧ n ≤ 1099511627776) : wnC [.ptr 6400000 0, .c (.sl (nums l))] [[.own 1 (texts xs)]] = some ⟨[.ref 0], [[.own 1 (texts (xs ++ l.map decS))]]⟩ :=
  mkC_at (α := List (List UInt8) × List Int) (xs, l) ⟨h1, h2⟩ (by
    rintro ⟨xs', l'⟩ _ h ho
    simp only [List.cons.injEq, AV.c.injEq, PC.sl.injEq, OV.own.injEq, true_and, and_true] at h ho
    rw [texts_inj39 ho, nums_inj h])
noncomputable def wtC : Contract := mkC (α := List (List UInt8) × List UInt8) (fun p => p.1.length ≤ 1000 ∧ p.2.length ≤ 17592186044416) (fun p => [.ptr 6400000 0, .c (.str p.2)]) (fun p => [[.own 1 (texts p.1)]]) (fun p => ⟨[.ref 0], [[.own 1 (texts (p.1 ++ [hexS p.2]))]]⟩)
theorem wt_at (xs : List (List UInt8)) (s : List UInt8) (h1 : xs.length ≤ 1000) (h2 : s.length ≤ 17592186044416) : wtC [.ptr 6400000 0, .c (.str s)] [[.own 1 (texts xs)]] = some ⟨[.ref 0], [[.own 1 (texts (xs ++ [hexS s]))]]⟩ :=
  mkC_at (α := List (List UInt8) × List UInt8) (xs, s) ⟨h1, h2⟩ (by
    rintro ⟨xs', l'⟩ _ h ho
    simp only [List.cons.injEq, AV.c.injEq, PC.str.injEq, PC.sl.injEq, OV.own.injEq, true_and, and_true] at h ho
    rw [texts_inj39 ho, h])
noncomputable def wlC : Contract := mkC (α := List (List UInt8)) (fun p => p.length ≤ 1000 ∧ (Lib.join p [32]).length ≤ 140737488355328) (fun p => [.ptr 6400000 0]) (fun p => [[.own 1 (texts p)]]) (fun p => ⟨[.pv (.c (.str (Lib.join p [32])))], [[.own 1 (texts p)]]⟩)
theorem wl_at (xs : List (List UInt8)) (h1 : xs.length ≤ 1000) (h2 : (Lib.join xs [32]).length ≤ 140737488355328) : wlC [.ptr 6400000 0] [[.own 1 (texts xs)]] = some ⟨[.pv (.c (.str (Lib.join xs [32])))], [[.own 1 (texts xs)]]⟩ :=
  mkC_at (α := List (List UInt8)) xs ⟨h1, h2⟩ (by
    rintro xs' _ h ho
    simp only [List.cons.injEq, OV.own.injEq, true_and, and_true] at h ho
    rw [texts_inj39 ho])

set_option maxRecDepth 100000 in
set_option maxHeartbeats 4000000 in
theorem wn_sound (hΓ : SoundG Try.prog Γ) (h1 : Γ 79 = dec13C) : SoundC Try.prog 57 wnC := by
  refine sound_fn Try.func57 (by kernel_rfl) rfl rfl ?_
  intro args objs r0 hr
  obtain ⟨⟨xs, l⟩, ⟨hl, hd⟩, rfl, rfl, rfl⟩ := mkC_inv hr
  refine ⟨rfl, by show 2 ≤ _; decide, fun E hN hns hF => ?_⟩
  refine vc_sound hΓ mixed _ _ _ ?_
  have hN := hN.trans nt_57
  have hl : xs.length + l.length ≤ 1000 := hl
  have hd : ∀ n ∈ l, 0 ≤ n ∧ n ≤ 1099511627776 := hd
  simp only [runA, runB, runC, runD, runE, runF, fieldE, storeE, binE, ↓reduceIte, Nat.reduceLT, Nat.reduceLeDiff, Nat.reduceEqDiff, Nat.reduceAdd, Nat.reduceMul, Nat.reduceSub, reduceCtorEq, putAt, unE, Nat.reduceBEq, convE, buildE, List.replicate, Int.reduceLT, Int.reduceLE, Int.reduceToNat, mkE, mapSetE, hN, hF, ty_3, ty_9, ty_60, ty_110, ty_111, notIf, isEq, nums_length]
  refine AWP.loop (fun c st => ∃ i : Nat, i ≤ l.length ∧ c = l.length - i ∧ st = ⟨[(0, .ptr 6400000 0), (4, .nilptr), (7, .c (.sl (nums l))), (8, .c (.int .i64 (l.length : Int))), (9, .c (.int .i64 (i : Int)))],
    [(6400000, .obj [.own 6400001 1 (texts (xs ++ (l.take i).map decS))] false), (6400001, .row 1 (xs.length + i))]⟩) ⟨l.length, _, ?w, 0, Nat.zero_le _, rfl, rfl⟩ ?r
  case w =>
    rw [hns]
    simp only [runB, finC, finD, AS.get, AS.mem, false_implies, implies_true, ↓reduceIte, Nat.reduceEqDiff, Option.isSome_some, Option.isSome_none, forall_eq_or_imp, forall_eq, reduceCtorEq, Nat.reduceAdd, Nat.reduceMul, List.zip_cons_cons, List.zip_nil_left, List.zip_nil_right, List.forall_mem_nil, List.take_zero, List.map_nil, List.append_nil, texts_length]
    first | done | simp
  case r =>
    rintro c st ⟨i, hi, rfl, rfl⟩
    refine vc_sound hΓ mixed _ _ _ ?_
    by_cases hlt : i < l.length
    · have k1 : decide ((i : Int) < (l.length : Int)) = true := decide_eq_true (by omega)
      have e1 : IntKind.i64.wrap ((i : Int) + 1) = (i : Int) + 1 := wrapI (by omega)
      have hg := numsD l i hlt
      have hdi := hd (l.getD i 0) (by rw [List.getD_eq_getElem?_getD, List.getElem?_eq_getElem hlt]; exact List.getElem_mem hlt)
      have q1 := dec13_at (l.getD i 0) hdi.1 hdi.2
      have hts : xs ++ (l.take (i + 1)).map decS = xs ++ (l.take i).map decS ++ [decS (l.getD i 0)] := by
        rw [List.take_add_one, List.getElem?_eq_getElem hlt, List.getD_eq_getElem?_getD, List.getElem?_eq_getElem hlt, List.map_append, List.append_assoc]; rfl
      have hYi : (xs ++ (l.take i).map decS).length = xs.length + i := by simp; omega
      have hYl : (xs ++ (l.take i).map decS).length ≤ 1000 := by simp; omega
      generalize l.getD i 0 = n at *
      generalize xs ++ (l.take i).map decS = Y at *
      generalize decS n = d at *
      have hz : rowsOK 1 [[PC.str d]] := by
        intro r hr
        rw [List.mem_singleton] at hr
        rw [hr]; rfl
      have hLb : ((Y.length + 1) * 16 ≤ 140737488355328) = True := eq_true (by omega)
      have htl : (texts Y).length = xs.length + i := by rw [texts_length]; exact hYi
      rw [hYi] at hLb
      have happ : texts Y ++ [[PC.str d]] = texts (Y ++ [d]) := by simp [texts]
      simp only [runA, runB, runC, runD, runE, runF, fieldE, storeE, binE, ↓reduceIte, Nat.reduceLT, Nat.reduceLeDiff, Nat.reduceEqDiff, Nat.reduceAdd, Nat.reduceMul, Nat.reduceSub, reduceCtorEq, putAt, unE, Nat.reduceBEq, convE, buildE, List.replicate, Int.reduceLT, Int.reduceLE, Int.reduceToNat, mkE, mapSetE, hN, hF, ty_3, ty_9, ty_60, ty_110, ty_111, notIf, isEq, k1, e1, hg, h1, q1, hz, hLb, htl, happ]
      iterate 2 (try (refine drawnP_intro (by kernel_rfl) (by kernel_rfl) ?_; simp only [runA, runB, runC, runD, runE, runF, fieldE, storeE, binE, ↓reduceIte, Nat.reduceLT, Nat.reduceLeDiff, Nat.reduceEqDiff, Nat.reduceAdd, Nat.reduceMul, Nat.reduceSub, reduceCtorEq, putAt, unE, Nat.reduceBEq, convE, buildE, List.replicate, Int.reduceLT, Int.reduceLE, Int.reduceToNat, mkE, mapSetE, hN, hF, ty_3, ty_9, ty_60, ty_110, ty_111, notIf, isEq, k1, e1, hg, h1, q1, hz, hLb, htl, happ]))
      refine ⟨l.length - (i + 1), _, by omega, ?_, i + 1, by omega, rfl, rfl⟩
      rw [hns, hts]
      simp only [runB, finC, finD, AS.get, AS.mem, false_implies, implies_true, ↓reduceIte, Nat.reduceEqDiff, Option.isSome_some, Option.isSome_none, forall_eq_or_imp, forall_eq, reduceCtorEq, Nat.reduceAdd, Nat.reduceMul, List.zip_cons_cons, List.zip_nil_left, List.zip_nil_right, List.forall_mem_nil]
      first | done | (simp; done) | (simp; omega) | omega
    · have k1 : decide ((i : Int) < (l.length : Int)) = false := decide_eq_false (by omega)
      obtain rfl : i = l.length := by omega
      rw [List.take_of_length_le (Nat.le_refl _)]
      simp only [runA, runB, runC, runD, runE, runF, fieldE, storeE, binE, ↓reduceIte, Nat.reduceLT, Nat.reduceLeDiff, Nat.reduceEqDiff, Nat.reduceAdd, Nat.reduceMul, Nat.reduceSub, reduceCtorEq, putAt, unE, Nat.reduceBEq, convE, buildE, List.replicate, Int.reduceLT, Int.reduceLE, Int.reduceToNat, mkE, mapSetE, hN, hF, ty_3, ty_9, ty_60, ty_110, ty_111, notIf, isEq, k1]
      simp only [runB, finC, finD, Option.isSome_some, Option.isSome_none, ↓reduceIte, Nat.reduceEqDiff, Nat.reduceAdd, Nat.reduceMul, forall_eq_or_imp, forall_eq, implies_true, Nat.reduceBEq, reduceCtorEq, false_implies, List.zip_cons_cons, List.zip_nil_left, List.zip_nil_right, Nat.reduceLeDiff, List.forall_mem_nil, rs_57, texts_length, List.length_append, List.length_map]

set_option maxRecDepth 100000 in
set_option maxHeartbeats 4000000 in
theorem wt_sound (hΓ : SoundG Try.prog Γ) (h1 : Γ 11 = hexC) : SoundC Try.prog 58 wtC := by
  refine sound_fn Try.func58 (by kernel_rfl) rfl rfl ?_
  intro args objs r0 hr
  obtain ⟨⟨Y, s⟩, ⟨hl, hs⟩, rfl, rfl, rfl⟩ := mkC_inv hr
  refine ⟨rfl, by show 2 ≤ _; decide, fun E hN hns hF => ?_⟩
  refine vc_sound hΓ mixed _ _ _ ?_
  have hN := hN.trans nt_58
  have hl : Y.length ≤ 1000 := hl
  have q1 := hex_at s hs
  generalize hexS s = d at *
  have hz : rowsOK 1 [[PC.str d]] := by
    intro r hr
    rw [List.mem_singleton] at hr
    rw [hr]; rfl
  have hLb : ((Y.length + 1) * 16 ≤ 140737488355328) = True := eq_true (by omega)
  have htl := texts_length Y
  have happ : texts Y ++ [[PC.str d]] = texts (Y ++ [d]) := by simp [texts]
  simp only [runA, runB, runC, runD, runE, runF, fieldE, storeE, binE, ↓reduceIte, Nat.reduceLT, Nat.reduceLeDiff, Nat.reduceEqDiff, Nat.reduceAdd, Nat.reduceMul, Nat.reduceSub, reduceCtorEq, putAt, unE, Nat.reduceBEq, convE, buildE, List.replicate, Int.reduceLT, Int.reduceLE, Int.reduceToNat, mkE, mapSetE, hN, hF, ty_9, ty_110, ty_111, notIf, isEq, h1, q1, hz, hLb, htl, happ]
  iterate 2 (try (refine drawnP_intro (by kernel_rfl) (by kernel_rfl) ?_; simp only [runA, runB, runC, runD, runE, runF, fieldE, storeE, binE, ↓reduceIte, Nat.reduceLT, Nat.reduceLeDiff, Nat.reduceEqDiff, Nat.reduceAdd, Nat.reduceMul, Nat.reduceSub, reduceCtorEq, putAt, unE, Nat.reduceBEq, convE, buildE, List.replicate, Int.reduceLT, Int.reduceLE, Int.reduceToNat, mkE, mapSetE, hN, hF, ty_9, ty_110, ty_111, notIf, isEq, h1, q1, hz, hLb, htl, happ]))
  simp only [runB, finC, finD, Option.isSome_some, Option.isSome_none, ↓reduceIte, Nat.reduceEqDiff, Nat.reduceAdd, Nat.reduceMul, forall_eq_or_imp, forall_eq, implies_true, Nat.reduceBEq, reduceCtorEq, false_implies, List.zip_cons_cons, List.zip_nil_left, List.zip_nil_right, Nat.reduceLeDiff, List.forall_mem_nil, rs_58, texts_length, List.length_append, List.length_cons, List.length_nil]

set_option maxRecDepth 100000 in
set_option maxHeartbeats 4000000 in
theorem wl_sound (hΓ : SoundG Try.prog Γ) (h1 : Γ 80 = joinC39) : SoundC Try.prog 59 wlC := by
  refine sound_fn Try.func59 (by kernel_rfl) rfl rfl ?_
  intro args objs r0 hr
  obtain ⟨Y, ⟨hl, hs⟩, rfl, rfl, rfl⟩ := mkC_inv hr
  refine ⟨rfl, by show 1 ≤ _; decide, fun E hN hns hF => ?_⟩
  refine vc_sound hΓ mixed _ _ _ ?_
  have hN := hN.trans nt_59
  have hl : Y.length ≤ 1000 := hl
  have q1 := join39_at Y [32] (by omega) hs
  have htl := texts_length Y
  simp only [runA, runB, runC, runD, runE, runF, fieldE, storeE, binE, ↓reduceIte, Nat.reduceLT, Nat.reduceLeDiff, Nat.reduceEqDiff, Nat.reduceAdd, Nat.reduceMul, Nat.reduceSub, reduceCtorEq, putAt, unE, Nat.reduceBEq, convE, buildE, List.replicate, Int.reduceLT, Int.reduceLE, Int.reduceToNat, mkE, mapSetE, hN, hF, ty_9, ty_72, ty_111, notIf, isEq, h1, q1, htl]
  iterate 2 (try (refine drawnP_intro (by kernel_rfl) (by kernel_rfl) ?_; simp only [runA, runB, runC, runD, runE, runF, fieldE, storeE, binE, ↓reduceIte, Nat.reduceLT, Nat.reduceLeDiff, Nat.reduceEqDiff, Nat.reduceAdd, Nat.reduceMul, Nat.reduceSub, reduceCtorEq, putAt, unE, Nat.reduceBEq, convE, buildE, List.replicate, Int.reduceLT, Int.reduceLE, Int.reduceToNat, mkE, mapSetE, hN, hF, ty_9, ty_72, ty_111, notIf, isEq, h1, q1, htl]))
  simp only [runB, finC, finD, Option.isSome_some, Option.isSome_none, ↓reduceIte, Nat.reduceEqDiff, Nat.reduceAdd, Nat.reduceMul, forall_eq_or_imp, forall_eq, implies_true, Nat.reduceBEq, reduceCtorEq, false_implies, List.zip_cons_cons, List.zip_nil_left, List.zip_nil_right, Nat.reduceLeDiff, List.forall_mem_nil, rs_59, texts_length]

end Go.Proofs.Ytcfijanfcgnnhaa.AM
