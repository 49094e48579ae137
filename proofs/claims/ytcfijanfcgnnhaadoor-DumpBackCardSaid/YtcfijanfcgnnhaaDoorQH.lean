/-
  QH: Sh7 Pk3 Sh8 Sh9 ShT Dt4 PkN PkT Au Ta Tx1 Bk0 Vo1 Vo6.
-/
import Derived.Test.YtcfijanfcgnnhaaDoorQF
import Derived.Test.YtcfijanfcgnnhaaDoorQG
import Derived.Test.YtcfijanfcgnnhaaDoorQE
set_option linter.unusedVariables false
set_option linter.unusedSimpArgs false
namespace Go.Proofs.YtcfijanfcgnnhaaDoor.AM
open Go

variable {Γ : FuncId → Contract}

def H0 : S8 := ⟨1779033703, 3144134277, 1013904242, 2773480762, 1359893119, 2600822924, 528734635, 1541459225⟩

variable {Γ : FuncId → Contract}


variable {Γ : FuncId → Contract}


variable {Γ : FuncId → Contract}


/-- Texts, as cells. -/
def texts (l : List (List UInt8)) : List (List PC) := l.map fun s => [PC.str s]
theorem texts_length (l : List (List UInt8)) : (texts l).length = l.length := by simp [texts]
open Go Go.RowKit

variable {Γ : FuncId → Contract}

theorem texts_inj39 {a b : List (List UInt8)} (h : texts a = texts b) : a = b := (List.map_inj_right (fun x y h => by simpa using h)).1 h
def nums (l : List Int) : List (List PC) := l.map fun n => [PC.int .i64 n]
theorem nums_inj {a b : List Int} (h : nums a = nums b) : a = b := (List.map_inj_right (fun x y h => by simpa using h)).1 h
theorem nums_length (l : List Int) : (nums l).length = l.length := by simp [nums]
theorem numsD (l : List Int) (i : Nat) (h : i < l.length) : (nums l)[i]? = some [.int .i64 (l.getD i 0)] := by simp [nums, List.getD, h]
noncomputable def joinC39 : Contract := mkC (α := List (List UInt8) × List UInt8) (fun p => p.1.length ≤ 140737488355328 ∧ (Lib.join p.1 p.2).length ≤ 140737488355328) (fun p => [.c (.sl (texts p.1)), .c (.str p.2)]) (fun _ => []) (fun p => ⟨[.pv (.c (.str (Lib.join p.1 p.2)))], []⟩)
theorem join39_at (xs : List (List UInt8)) (s : List UInt8) (h1 : xs.length ≤ 140737488355328) (h2 : (Lib.join xs s).length ≤ 140737488355328) : joinC39 [.c (.sl (texts xs)), .c (.str s)] [] = some ⟨[.pv (.c (.str (Lib.join xs s)))], []⟩ :=
  mkC_at (α := List (List UInt8) × List UInt8) (xs, s) ⟨h1, h2⟩ (by
    rintro ⟨xs', s'⟩ _ h _
    simp only [List.cons.injEq, AV.c.injEq, PC.str.injEq, PC.sl.injEq, and_true] at h
    obtain ⟨e, rfl⟩ := h
    rw [texts_inj39 e])
theorem map_data (xs : List (List UInt8)) : (xs.map fun s => (⟨s.toArray⟩ : ByteArray)).map (·.data.toList) = xs := by
  rw [List.map_map]
  have : ((fun x : ByteArray => x.data.toList) ∘ fun s : List UInt8 => (⟨s.toArray⟩ : ByteArray)) = id := by funext s; rfl
  rw [this, List.map_id]
theorem join39_sound : SoundC Tryd.prog 27 joinC39 := by
  refine ⟨⟨_, Tryd.func27, rfl, rfl⟩, fun args objs r hr => ?_⟩
  obtain ⟨⟨xs, s⟩, ⟨h1, h2⟩, rfl, rfl, rfl⟩ := mkC_inv hr
  refine ⟨fun x hx => resB_spec (l := [.pv (.c (.str (Lib.join xs s)))]) rfl x hx, fun Ext G w vals M hl hx => ?_⟩
  match vals, hl with
  | [v1, v2], _ =>
  have e2 : v2 = .string ⟨s.toArray⟩ := by
    have := hx 1 _ v2 rfl rfl
    cases this with
    | c _ _ h => cases h; rfl
  subst e2
  have fin : ∀ e W', e = Ending.returned (.string ⟨(Lib.join xs s).toArray⟩) → Below w.heap.size w W' → CallPost (cEnv w Ext G.K) G ⟨[.pv (.c (.str (Lib.join xs s)))], []⟩ e W' := by
    rintro e W' rfl bel
    exact ⟨G, _, rfl, Gh.le_refl _, M.below0 bel rfl, .c _ _ (.str _)⟩
  have hv1 := hx 0 _ v1 rfl rfl
  generalize hX : texts xs = rows at hv1
  cases hv1 with
  | c _ _ h =>
  cases h with
  | nil =>
    have : xs = [] := by cases xs with | nil => rfl | cons a l => cases hX
    subst this
    refine Calls.mono (Tryd.strings_Join_none none 0 ⟨s.toArray⟩ w) ?_
    rintro e W' ⟨rfl, rfl⟩
    exact fin _ _ rfl (Below.refl _ _)
  | at0 a cap =>
    have : xs = [] := by cases xs with | nil => rfl | cons a l => cases hX
    subst this
    refine Calls.mono (Tryd.strings_Join_none (some a) cap ⟨s.toArray⟩ w) ?_
    rintro e W' ⟨rfl, rfl⟩
    exact fin _ _ rfl (Below.refl _ _)
  | sl _ z b off cap f hz hc hk hv =>
    subst hX
    rw [texts_length] at *
    cases xs with
    | nil =>
      refine Calls.mono (Tryd.strings_Join_none (some ⟨b, off, none⟩) cap ⟨s.toArray⟩ w) ?_
      rintro e W' ⟨rfl, rfl⟩
      exact fin _ _ rfl (Below.refl _ _)
    | cons x0 xs0 =>
      have hz1 : z = 1 := by
        have := hz [.str x0] (by simp [texts])
        exact this.symm
      subst hz1
      have hcell : ∀ (j : Nat) x, ((x0 :: xs0).map fun s => (⟨s.toArray⟩ : ByteArray))[j]? = some x → w.cell? ⟨b, off + j, none⟩ = some (.string x) := by
        intro j x hj
        rw [List.getElem?_map] at hj
        obtain ⟨y, hy, rfl⟩ := Option.map_eq_some_iff.1 hj
        have hr : (texts (x0 :: xs0))[j]? = some [.str y] := by
          unfold texts; rw [List.getElem?_map, hy]; rfl
        have k1 := hk j _ 0 _ hr rfl
        have k2 := hv j _ 0 _ hr rfl
        have k3 := M.agree _ _ _ k1
        rw [Nat.mul_one, Nat.add_zero] at k3
        rw [k3]
        generalize f j 0 = v at k2
        cases k2
        rfl
      have hlt : b < w.heap.size := M.k_lt (hk 0 [.str x0] 0 (.str x0) rfl rfl)
      have hlen : ((x0 :: xs0).map fun s => (⟨s.toArray⟩ : ByteArray)).length = (x0 :: xs0).length := by rw [List.length_map]
      have hj := Tryd.strings_Join b off cap ((x0 :: xs0).map fun s => (⟨s.toArray⟩ : ByteArray)) ⟨s.toArray⟩ w hcell hlt (by rw [hlen]; exact h1) (by rw [hlen]; exact hc) (by rw [map_data]; exact h2)
      rw [hlen, map_data] at hj
      refine Calls.mono hj ?_
      rintro e W' ⟨rfl, bel⟩
      exact fin _ _ rfl bel
noncomputable def wnC : Contract := mkC (α := List (List UInt8) × List Int) (fun p => p.1.length + p.2.length ≤ 1000 ∧ ∀ n ∈ p.2, 0 ≤ n ∧ n ≤ 1099511627776) (fun p => [.ptr 6400000 0, .c (.sl (nums p.2))]) (fun p => [[.own 1 (texts p.1)]]) (fun p => ⟨[.ref 0], [[.own 1 (texts (p.1 ++ p.2.map decS))]]⟩)
theorem wn_at (xs : List (List UInt8)) (l : List Int) (h1 : xs.length + l.length ≤ 1000) (h2 : ∀ n ∈ l, 0 ≤ n ∧ n ≤ 1099511627776) : wnC [.ptr 6400000 0, .c (.sl (nums l))] [[.own 1 (texts xs)]] = some ⟨[.ref 0], [[.own 1 (texts (xs ++ l.map decS))]]⟩ :=
  mkC_at (α := List (List UInt8) × List Int) (xs, l) ⟨h1, h2⟩ (by
    rintro ⟨xs', l'⟩ _ h ho
    simp only [List.cons.injEq, AV.c.injEq, PC.sl.injEq, OV.own.injEq, true_and, and_true] at h ho
    rw [texts_inj39 ho, nums_inj h])
noncomputable def wtC : Contract := mkC (α := List (List UInt8) × List UInt8) (fun p => p.1.length ≤ 1000 ∧ p.2.length ≤ 17592186044416) (fun p => [.ptr 6400000 0, .c (.str p.2)]) (fun p => [[.own 1 (texts p.1)]]) (fun p => ⟨[.ref 0], [[.own 1 (texts (p.1 ++ [hexS p.2]))]]⟩)
theorem wt_at (xs : List (List UInt8)) (s : List UInt8) (h1 : xs.length ≤ 1000) (h2 : s.length ≤ 17592186044416) : wtC [.ptr 6400000 0, .c (.str s)] [[.own 1 (texts xs)]] = some ⟨[.ref 0], [[.own 1 (texts (xs ++ [hexS s]))]]⟩ :=
  mkC_at (α := List (List UInt8) × List UInt8) (xs, s) ⟨h1, h2⟩ (by
    rintro ⟨xs', l'⟩ _ h ho
    simp only [List.cons.injEq, AV.c.injEq, PC.str.injEq, PC.sl.injEq, OV.own.injEq, true_and, and_true] at h ho
    rw [texts_inj39 ho, h])
noncomputable def wlC : Contract := mkC (α := List (List UInt8)) (fun p => p.length ≤ 1000 ∧ (Lib.join p [32]).length ≤ 140737488355328) (fun p => [.ptr 6400000 0]) (fun p => [[.own 1 (texts p)]]) (fun p => ⟨[.pv (.c (.str (Lib.join p [32])))], [[.own 1 (texts p)]]⟩)
theorem wl_at (xs : List (List UInt8)) (h1 : xs.length ≤ 1000) (h2 : (Lib.join xs [32]).length ≤ 140737488355328) : wlC [.ptr 6400000 0] [[.own 1 (texts xs)]] = some ⟨[.pv (.c (.str (Lib.join xs [32])))], [[.own 1 (texts xs)]]⟩ :=
  mkC_at (α := List (List UInt8)) xs ⟨h1, h2⟩ (by
    rintro xs' _ h ho
    simp only [List.cons.injEq, OV.own.injEq, true_and, and_true] at h ho
    rw [texts_inj39 ho])

set_option maxRecDepth 100000 in
set_option maxHeartbeats 4000000 in
theorem wn_sound (hΓ : SoundG Tryd.prog Γ) (h1 : Γ 26 = dec13C) : SoundC Tryd.prog 12 wnC := by
  refine sound_fn Tryd.func12 (by kernel_rfl) rfl rfl ?_
  intro args objs r0 hr
  obtain ⟨⟨xs, l⟩, ⟨hl, hd⟩, rfl, rfl, rfl⟩ := mkC_inv hr
  refine ⟨rfl, by show 2 ≤ _; decide, fun E hN hns hF => ?_⟩
  refine vc_sound hΓ mixed _ _ _ ?_
  have hN := hN.trans nt_12
  have hl : xs.length + l.length ≤ 1000 := hl
  have hd : ∀ n ∈ l, 0 ≤ n ∧ n ≤ 1099511627776 := hd
  simp only [runA, runB, runC, runD, runE, runF, fieldE, storeE, binE, ↓reduceIte, Nat.reduceLT, Nat.reduceLeDiff, Nat.reduceEqDiff, Nat.reduceAdd, Nat.reduceMul, Nat.reduceSub, reduceCtorEq, putAt, unE, Nat.reduceBEq, convE, buildE, List.replicate, Int.reduceLT, Int.reduceLE, Int.reduceToNat, mkE, mapSetE, hN, hF, ty_3, ty_9, ty_43, ty_45, ty_68, notIf, isEq, nums_length]
  refine AWP.loop (fun c st => ∃ i : Nat, i ≤ l.length ∧ c = l.length - i ∧ st = ⟨[(0, .ptr 6400000 0), (4, .nilptr), (7, .c (.sl (nums l))), (8, .c (.int .i64 (l.length : Int))), (9, .c (.int .i64 (i : Int)))],
    [(6400000, .obj [.own 6400001 1 (texts (xs ++ (l.take i).map decS))] false), (6400001, .row 1 (xs.length + i))]⟩) ⟨l.length, _, ?w, 0, Nat.zero_le _, rfl, rfl⟩ ?r
  case w =>
    rw [hns]
    simp only [runB, finC, finD, AS.get, AS.mem, false_implies, implies_true, ↓reduceIte, Nat.reduceEqDiff, Option.isSome_some, Option.isSome_none, forall_eq_or_imp, forall_eq, reduceCtorEq, Nat.reduceAdd, Nat.reduceMul, List.zip_cons_cons, List.zip_nil_left, List.zip_nil_right, List.forall_mem_nil, List.take_zero, List.map_nil, List.append_nil, texts_length]
    first | done | simp
  case r =>
    rintro c st ⟨i, hi, rfl, rfl⟩
    refine vc_sound hΓ mixed _ _ _ ?_
    by_cases hlt : i < l.length
    · have k1 : decide ((i : Int) < (l.length : Int)) = true := decide_eq_true (by omega)
      have e1 : IntKind.i64.wrap ((i : Int) + 1) = (i : Int) + 1 := wrapI (by omega)
      have hg := numsD l i hlt
      have hdi := hd (l.getD i 0) (by rw [List.getD_eq_getElem?_getD, List.getElem?_eq_getElem hlt]; exact List.getElem_mem hlt)
      have q1 := dec13_at (l.getD i 0) hdi.1 hdi.2
      have hts : xs ++ (l.take (i + 1)).map decS = xs ++ (l.take i).map decS ++ [decS (l.getD i 0)] := by
        rw [List.take_add_one, List.getElem?_eq_getElem hlt, List.getD_eq_getElem?_getD, List.getElem?_eq_getElem hlt, List.map_append, List.append_assoc]; rfl
      have hYi : (xs ++ (l.take i).map decS).length = xs.length + i := by simp; omega
      have hYl : (xs ++ (l.take i).map decS).length ≤ 1000 := by simp; omega
      generalize l.getD i 0 = n at *
      generalize xs ++ (l.take i).map decS = Y at *
      generalize decS n = d at *
      have hz : rowsOK 1 [[PC.str d]] := by
        intro r hr
        rw [List.mem_singleton] at hr
        rw [hr]; rfl
      have hLb : ((Y.length + 1) * 16 ≤ 140737488355328) = True := eq_true (by omega)
      have htl : (texts Y).length = xs.length + i := by rw [texts_length]; exact hYi
      rw [hYi] at hLb
      have happ : texts Y ++ [[PC.str d]] = texts (Y ++ [d]) := by simp [texts]
      simp only [runA, runB, runC, runD, runE, runF, fieldE, storeE, binE, ↓reduceIte, Nat.reduceLT, Nat.reduceLeDiff, Nat.reduceEqDiff, Nat.reduceAdd, Nat.reduceMul, Nat.reduceSub, reduceCtorEq, putAt, unE, Nat.reduceBEq, convE, buildE, List.replicate, Int.reduceLT, Int.reduceLE, Int.reduceToNat, mkE, mapSetE, hN, hF, ty_3, ty_9, ty_43, ty_45, ty_68, notIf, isEq, k1, e1, hg, h1, q1, hz, hLb, htl, happ]
      iterate 2 (try (refine drawnP_intro (by kernel_rfl) (by kernel_rfl) ?_; simp only [runA, runB, runC, runD, runE, runF, fieldE, storeE, binE, ↓reduceIte, Nat.reduceLT, Nat.reduceLeDiff, Nat.reduceEqDiff, Nat.reduceAdd, Nat.reduceMul, Nat.reduceSub, reduceCtorEq, putAt, unE, Nat.reduceBEq, convE, buildE, List.replicate, Int.reduceLT, Int.reduceLE, Int.reduceToNat, mkE, mapSetE, hN, hF, ty_3, ty_9, ty_43, ty_45, ty_68, notIf, isEq, k1, e1, hg, h1, q1, hz, hLb, htl, happ]))
      refine ⟨l.length - (i + 1), _, by omega, ?_, i + 1, by omega, rfl, rfl⟩
      rw [hns, hts]
      simp only [runB, finC, finD, AS.get, AS.mem, false_implies, implies_true, ↓reduceIte, Nat.reduceEqDiff, Option.isSome_some, Option.isSome_none, forall_eq_or_imp, forall_eq, reduceCtorEq, Nat.reduceAdd, Nat.reduceMul, List.zip_cons_cons, List.zip_nil_left, List.zip_nil_right, List.forall_mem_nil]
      first | done | (simp; done) | (simp; omega) | omega
    · have k1 : decide ((i : Int) < (l.length : Int)) = false := decide_eq_false (by omega)
      obtain rfl : i = l.length := by omega
      rw [List.take_of_length_le (Nat.le_refl _)]
      simp only [runA, runB, runC, runD, runE, runF, fieldE, storeE, binE, ↓reduceIte, Nat.reduceLT, Nat.reduceLeDiff, Nat.reduceEqDiff, Nat.reduceAdd, Nat.reduceMul, Nat.reduceSub, reduceCtorEq, putAt, unE, Nat.reduceBEq, convE, buildE, List.replicate, Int.reduceLT, Int.reduceLE, Int.reduceToNat, mkE, mapSetE, hN, hF, ty_3, ty_9, ty_43, ty_45, ty_68, notIf, isEq, k1]
      simp only [runB, finC, finD, Option.isSome_some, Option.isSome_none, ↓reduceIte, Nat.reduceEqDiff, Nat.reduceAdd, Nat.reduceMul, forall_eq_or_imp, forall_eq, implies_true, Nat.reduceBEq, reduceCtorEq, false_implies, List.zip_cons_cons, List.zip_nil_left, List.zip_nil_right, Nat.reduceLeDiff, List.forall_mem_nil, rs_12, texts_length, List.length_append, List.length_map]

set_option maxRecDepth 100000 in
set_option maxHeartbeats 4000000 in
theorem wt_sound (hΓ : SoundG Tryd.prog Γ) (h1 : Γ 10 = hexC) : SoundC Tryd.prog 13 wtC := by
  refine sound_fn Tryd.func13 (by kernel_rfl) rfl rfl ?_
  intro args objs r0 hr
  obtain ⟨⟨Y, s⟩, ⟨hl, hs⟩, rfl, rfl, rfl⟩ := mkC_inv hr
  refine ⟨rfl, by show 2 ≤ _; decide, fun E hN hns hF => ?_⟩
  refine vc_sound hΓ mixed _ _ _ ?_
  have hN := hN.trans nt_13
  have hl : Y.length ≤ 1000 := hl
  have q1 := hex_at s hs
  generalize hexS s = d at *
  have hz : rowsOK 1 [[PC.str d]] := by
    intro r hr
    rw [List.mem_singleton] at hr
    rw [hr]; rfl
  have hLb : ((Y.length + 1) * 16 ≤ 140737488355328) = True := eq_true (by omega)
  have htl := texts_length Y
  have happ : texts Y ++ [[PC.str d]] = texts (Y ++ [d]) := by simp [texts]
  simp only [runA, runB, runC, runD, runE, runF, fieldE, storeE, binE, ↓reduceIte, Nat.reduceLT, Nat.reduceLeDiff, Nat.reduceEqDiff, Nat.reduceAdd, Nat.reduceMul, Nat.reduceSub, reduceCtorEq, putAt, unE, Nat.reduceBEq, convE, buildE, List.replicate, Int.reduceLT, Int.reduceLE, Int.reduceToNat, mkE, mapSetE, hN, hF, ty_9, ty_43, ty_45, notIf, isEq, h1, q1, hz, hLb, htl, happ]
  iterate 2 (try (refine drawnP_intro (by kernel_rfl) (by kernel_rfl) ?_; simp only [runA, runB, runC, runD, runE, runF, fieldE, storeE, binE, ↓reduceIte, Nat.reduceLT, Nat.reduceLeDiff, Nat.reduceEqDiff, Nat.reduceAdd, Nat.reduceMul, Nat.reduceSub, reduceCtorEq, putAt, unE, Nat.reduceBEq, convE, buildE, List.replicate, Int.reduceLT, Int.reduceLE, Int.reduceToNat, mkE, mapSetE, hN, hF, ty_9, ty_43, ty_45, notIf, isEq, h1, q1, hz, hLb, htl, happ]))
  simp only [runB, finC, finD, Option.isSome_some, Option.isSome_none, ↓reduceIte, Nat.reduceEqDiff, Nat.reduceAdd, Nat.reduceMul, forall_eq_or_imp, forall_eq, implies_true, Nat.reduceBEq, reduceCtorEq, false_implies, List.zip_cons_cons, List.zip_nil_left, List.zip_nil_right, Nat.reduceLeDiff, List.forall_mem_nil, rs_13, texts_length, List.length_append, List.length_cons, List.length_nil]

set_option maxRecDepth 100000 in
set_option maxHeartbeats 4000000 in
theorem wl_sound (hΓ : SoundG Tryd.prog Γ) (h1 : Γ 27 = joinC39) : SoundC Tryd.prog 14 wlC := by
  refine sound_fn Tryd.func14 (by kernel_rfl) rfl rfl ?_
  intro args objs r0 hr
  obtain ⟨Y, ⟨hl, hs⟩, rfl, rfl, rfl⟩ := mkC_inv hr
  refine ⟨rfl, by show 1 ≤ _; decide, fun E hN hns hF => ?_⟩
  refine vc_sound hΓ mixed _ _ _ ?_
  have hN := hN.trans nt_14
  have hl : Y.length ≤ 1000 := hl
  have q1 := join39_at Y [32] (by omega) hs
  have htl := texts_length Y
  simp only [runA, runB, runC, runD, runE, runF, fieldE, storeE, binE, ↓reduceIte, Nat.reduceLT, Nat.reduceLeDiff, Nat.reduceEqDiff, Nat.reduceAdd, Nat.reduceMul, Nat.reduceSub, reduceCtorEq, putAt, unE, Nat.reduceBEq, convE, buildE, List.replicate, Int.reduceLT, Int.reduceLE, Int.reduceToNat, mkE, mapSetE, hN, hF, ty_9, ty_44, ty_45, notIf, isEq, h1, q1, htl]
  iterate 2 (try (refine drawnP_intro (by kernel_rfl) (by kernel_rfl) ?_; simp only [runA, runB, runC, runD, runE, runF, fieldE, storeE, binE, ↓reduceIte, Nat.reduceLT, Nat.reduceLeDiff, Nat.reduceEqDiff, Nat.reduceAdd, Nat.reduceMul, Nat.reduceSub, reduceCtorEq, putAt, unE, Nat.reduceBEq, convE, buildE, List.replicate, Int.reduceLT, Int.reduceLE, Int.reduceToNat, mkE, mapSetE, hN, hF, ty_9, ty_44, ty_45, notIf, isEq, h1, q1, htl]))
  simp only [runB, finC, finD, Option.isSome_some, Option.isSome_none, ↓reduceIte, Nat.reduceEqDiff, Nat.reduceAdd, Nat.reduceMul, forall_eq_or_imp, forall_eq, implies_true, Nat.reduceBEq, reduceCtorEq, false_implies, List.zip_cons_cons, List.zip_nil_left, List.zip_nil_right, Nat.reduceLeDiff, List.forall_mem_nil, rs_14, texts_length]


variable {Γ : FuncId → Contract}


variable {Γ : FuncId → Contract}




variable {Γ : FuncId → Contract}

structure Txn where
  fr : Int
  to : Int
  am : Int
  no : Int
  sig : List UInt8
  deriving DecidableEq
def Txn.pcs (t : Txn) : List PC := [.int .i64 t.fr, .int .i64 t.to, .int .i64 t.am, .int .i64 t.no, .str t.sig]
def Txn.av (t : Txn) : AV := .agg [.c (.int .i64 t.fr), .c (.int .i64 t.to), .c (.int .i64 t.am), .c (.int .i64 t.no), .c (.str t.sig)]
theorem Txn.av_inj {a b : Txn} (h : a.av = b.av) : a = b := by
  obtain ⟨a1, a2, a3, a4, a5⟩ := a
  obtain ⟨b1, b2, b3, b4, b5⟩ := b
  simp only [Txn.av, AV.agg.injEq, List.cons.injEq, AV.c.injEq, PC.str.injEq, PC.int.injEq, true_and, and_true] at h
  obtain ⟨rfl, rfl, rfl, rfl, rfl⟩ := h
  rfl
theorem Txn.av_iff {a b : Txn} : a.av = b.av ↔ a = b := ⟨Txn.av_inj, fun h => by rw [h]⟩
def okT (t : Txn) : Prop := (0 ≤ t.fr ∧ t.fr ≤ 3) ∧ (0 ≤ t.to ∧ t.to ≤ 3) ∧ t.fr ≠ t.to ∧ 1 ≤ t.am ∧ t.am ≤ 1000 ∧ 0 ≤ t.no ∧ t.no ≤ 1099511627776 ∧ t.sig.length ≤ 4096
instance (t : Txn) : Decidable (okT t) := inferInstanceAs (Decidable (_ ∧ _))
def txS (t : Txn) : Int := if okT t then 0 else 9
def zeroT : Txn := ⟨0, 0, 0, 0, []⟩

def clientC : Contract := fun args objs => match args, objs with
  | [.c (.int .i64 n)], [] => some ⟨[.pv (.c (.bool (decide (n ≥ 0) && decide (n < 4))))], []⟩
  | _, _ => none
theorem client_at (n : Int) : clientC [.c (.int .i64 n)] [] = some ⟨[.pv (.c (.bool (decide (n ≥ 0) && decide (n < 4))))], []⟩ := rfl
set_option maxHeartbeats 1000000 in
theorem client_sound : SoundC Tryd.prog 28 clientC := by
  refine sound_fn Tryd.func28 (by kernel_rfl) rfl rfl ?_
  intro args objs r hr
  unfold clientC at hr
  split at hr
  · rename_i n
    cases hr
    refine ⟨rfl, by show 1 ≤ _; decide, fun E hN hns hF => ?_⟩
    refine vc_sound none0_sound mixed _ _ _ ?_
    have hN := hN.trans nt_28
    simp +contextual (maxSteps := 10000000) only [runA, runB, runC, runD, runE, runF, fieldE, storeE, binE, ↓reduceIte, Nat.reduceLT, Nat.reduceLeDiff, Nat.reduceEqDiff, Nat.reduceAdd, Nat.reduceMul, Nat.reduceSub, reduceCtorEq, putAt, unE, Nat.reduceBEq, convE, buildE, List.replicate, Int.reduceLT, Int.reduceLE, Int.reduceToNat, mkE, mapSetE, hN, hF, ty_3, ty_4, notIf, isEq, bytes_length, false_implies, implies_true]
    simp only [runB, finC, finD, Option.isSome_some, Option.isSome_none, ↓reduceIte, Nat.reduceEqDiff, Nat.reduceAdd, Nat.reduceMul, forall_eq_or_imp, forall_eq, implies_true, Nat.reduceBEq, reduceCtorEq, false_implies, List.zip_cons_cons, List.zip_nil_left, List.zip_nil_right, Nat.reduceLeDiff, List.forall_mem_nil, rs_28]
  · cases hr
noncomputable def txCkC : Contract := mkC (α := Txn) (fun _ => True) (fun t => [t.av]) (fun _ => []) (fun t => ⟨[.pv (.c (.int .i64 (txS t)))], []⟩)
theorem txCk_at (t : Txn) : txCkC [.agg [.c (.int .i64 t.fr), .c (.int .i64 t.to), .c (.int .i64 t.am), .c (.int .i64 t.no), .c (.str t.sig)]] [] = some ⟨[.pv (.c (.int .i64 (txS t)))], []⟩ :=
  mkC_at (α := Txn) t trivial (by
    rintro y _ h _
    have h' : [y.av] = [t.av] := h
    have e : y = t := Txn.av_inj (by simpa using h')
    rw [e])

set_option maxRecDepth 100000 in
set_option maxHeartbeats 4000000 in
theorem txCk_sound (hΓ : SoundG Tryd.prog Γ) (h1 : Γ 28 = clientC) : SoundC Tryd.prog 15 txCkC := by
  refine sound_fn Tryd.func15 (by kernel_rfl) rfl rfl ?_
  intro args objs r hr
  obtain ⟨⟨fr, to, am, no, sig⟩, _, rfl, rfl, rfl⟩ := mkC_inv hr
  refine ⟨rfl, by show 1 ≤ _; decide, fun E hN hns hF => ?_⟩
  refine vc_sound hΓ mixed _ _ _ ?_
  have hN := hN.trans nt_15
  unfold Txn.av
  simp +contextual (maxSteps := 10000000) only [runA, runB, runC, runD, runE, runF, fieldE, storeE, binE, ↓reduceIte, Nat.reduceLT, Nat.reduceLeDiff, Nat.reduceEqDiff, Nat.reduceAdd, Nat.reduceMul, Nat.reduceSub, reduceCtorEq, putAt, unE, Nat.reduceBEq, convE, buildE, List.replicate, Int.reduceLT, Int.reduceLE, Int.reduceToNat, mkE, mapSetE, hN, hF, ty_3, ty_4, ty_9, ty_25, ty_29, notIf, isEq, bytes_length, false_implies, implies_true, h1, client_at]
  refine ⟨fun hb => ?_, fun hb => ?_⟩
  · have hS : txS ⟨fr, to, am, no, sig⟩ = 9 := if_neg (by simp at hb; unfold okT; simp only; omega)
    simp only [runB, finC, finD, Option.isSome_some, Option.isSome_none, ↓reduceIte, Nat.reduceEqDiff, Nat.reduceAdd, Nat.reduceMul, forall_eq_or_imp, forall_eq, implies_true, Nat.reduceBEq, reduceCtorEq, false_implies, List.zip_cons_cons, List.zip_nil_left, List.zip_nil_right, Nat.reduceLeDiff, List.forall_mem_nil, rs_15, hS]
  · have hS : txS ⟨fr, to, am, no, sig⟩ = 0 := if_pos (by simp at hb; unfold okT; simp only; omega)
    simp only [runB, finC, finD, Option.isSome_some, Option.isSome_none, ↓reduceIte, Nat.reduceEqDiff, Nat.reduceAdd, Nat.reduceMul, forall_eq_or_imp, forall_eq, implies_true, Nat.reduceBEq, reduceCtorEq, false_implies, List.zip_cons_cons, List.zip_nil_left, List.zip_nil_right, Nat.reduceLeDiff, List.forall_mem_nil, rs_15, hS]


structure Vt where
  kd : Int
  vw : Int
  ht : Int
  bl : List UInt8
  tk : Int
  sg : Int
  sig : List UInt8
  deriving DecidableEq
def Vt.pcs (t : Vt) : List PC := [.int .i64 t.kd, .int .i64 t.vw, .int .i64 t.ht, .str t.bl, .int .i64 t.tk, .int .i64 t.sg, .str t.sig]
def Vt.av (t : Vt) : AV := .agg [.c (.int .i64 t.kd), .c (.int .i64 t.vw), .c (.int .i64 t.ht), .c (.str t.bl), .c (.int .i64 t.tk), .c (.int .i64 t.sg), .c (.str t.sig)]
structure Mk where
  vw : Int
  ht : Int
  bl : List UInt8
  deriving DecidableEq
def Mk.pcs (t : Mk) : List PC := [.int .i64 t.vw, .int .i64 t.ht, .str t.bl]
def Mk.av (t : Mk) : AV := .agg [.c (.int .i64 t.vw), .c (.int .i64 t.ht), .c (.str t.bl)]
theorem Vt.av_inj {a b : Vt} (h : a.av = b.av) : a = b := by
  obtain ⟨a0, a1, a2, a3, a4, a5, a6⟩ := a
  obtain ⟨b0, b1, b2, b3, b4, b5, b6⟩ := b
  simp only [Vt.av, AV.agg.injEq, List.cons.injEq, AV.c.injEq, PC.str.injEq, PC.int.injEq, true_and, and_true] at h
  obtain ⟨rfl, rfl, rfl, rfl, rfl, rfl, rfl⟩ := h
  rfl
theorem Vt.av_iff {a b : Vt} : a.av = b.av ↔ a = b := ⟨Vt.av_inj, fun h => by rw [h]⟩
theorem Vt.pcs_inj {a b : Vt} (h : a.pcs = b.pcs) : a = b := by
  obtain ⟨a0, a1, a2, a3, a4, a5, a6⟩ := a
  obtain ⟨b0, b1, b2, b3, b4, b5, b6⟩ := b
  simp only [Vt.pcs, List.cons.injEq, PC.str.injEq, PC.int.injEq, true_and, and_true] at h
  obtain ⟨rfl, rfl, rfl, rfl, rfl, rfl, rfl⟩ := h
  rfl
theorem Mk.av_inj {a b : Mk} (h : a.av = b.av) : a = b := by
  obtain ⟨a0, a1, a2⟩ := a
  obtain ⟨b0, b1, b2⟩ := b
  simp only [Mk.av, AV.agg.injEq, List.cons.injEq, AV.c.injEq, PC.str.injEq, PC.int.injEq, true_and, and_true] at h
  obtain ⟨rfl, rfl, rfl⟩ := h
  rfl
theorem Mk.av_iff {a b : Mk} : a.av = b.av ↔ a = b := ⟨Mk.av_inj, fun h => by rw [h]⟩
theorem Mk.pcs_inj {a b : Mk} (h : a.pcs = b.pcs) : a = b := by
  obtain ⟨a0, a1, a2⟩ := a
  obtain ⟨b0, b1, b2⟩ := b
  simp only [Mk.pcs, List.cons.injEq, PC.str.injEq, PC.int.injEq, true_and, and_true] at h
  obtain ⟨rfl, rfl, rfl⟩ := h
  rfl
theorem Txn.pcs_inj {a b : Txn} (h : a.pcs = b.pcs) : a = b := by
  obtain ⟨a1, a2, a3, a4, a5⟩ := a
  obtain ⟨b1, b2, b3, b4, b5⟩ := b
  simp only [Txn.pcs, List.cons.injEq, PC.str.injEq, PC.int.injEq, true_and, and_true] at h
  obtain ⟨rfl, rfl, rfl, rfl, rfl⟩ := h
  rfl
def zeroV : Vt := ⟨0, 0, 0, [], 0, 0, []⟩
theorem map_inj' {α β : Type} {f : α → β} (hf : ∀ a b, f a = f b → a = b) : ∀ {l m : List α}, l.map f = m.map f → l = m
  | [], [], _ => rfl
  | [], _ :: _, h => by simp at h
  | _ :: _, [], h => by simp at h
  | a :: l, b :: m, h => by
    simp only [List.map_cons, List.cons.injEq] at h
    rw [hf _ _ h.1, map_inj' hf h.2]
def votes (l : List Vt) : List (List PC) := l.map Vt.pcs
theorem votes_iff {a b : List Vt} : votes a = votes b ↔ a = b := ⟨map_inj' fun _ _ => Vt.pcs_inj, fun h => by rw [h]⟩
def trows (l : List Txn) : List (List PC) := l.map Txn.pcs
theorem trows_iff {a b : List Txn} : trows a = trows b ↔ a = b := ⟨map_inj' fun _ _ => Txn.pcs_inj, fun h => by rw [h]⟩
structure Ct where
  vw : Int
  ht : Int
  bl : List UInt8
  vs : List Vt
  deriving DecidableEq
def Ct.pcs (c : Ct) : List PC := [.int .i64 c.vw, .int .i64 c.ht, .str c.bl, .sl (votes c.vs)]
def Ct.av (c : Ct) : AV := .agg [.c (.int .i64 c.vw), .c (.int .i64 c.ht), .c (.str c.bl), .c (.sl (votes c.vs))]
theorem Ct.av_inj {a b : Ct} (h : a.av = b.av) : a = b := by
  obtain ⟨a1, a2, a3, a4⟩ := a
  obtain ⟨b1, b2, b3, b4⟩ := b
  simp only [Ct.av, AV.agg.injEq, List.cons.injEq, AV.c.injEq, PC.str.injEq, PC.int.injEq, PC.sl.injEq, votes_iff, true_and, and_true] at h
  obtain ⟨rfl, rfl, rfl, rfl⟩ := h
  rfl
theorem Ct.av_iff {a b : Ct} : a.av = b.av ↔ a = b := ⟨Ct.av_inj, fun h => by rw [h]⟩
structure Blk where
  vw : Int
  ht : Int
  pa : List UInt8
  ju : Ct
  txs : List Txn
  sig : List UInt8
  deriving DecidableEq
def Blk.pcs (b : Blk) : List PC := [.int .i64 b.vw, .int .i64 b.ht, .str b.pa, .int .i64 b.ju.vw, .int .i64 b.ju.ht, .str b.ju.bl, .sl (votes b.ju.vs), .sl (trows b.txs), .str b.sig]
def Blk.av (b : Blk) : AV := .agg [.c (.int .i64 b.vw), .c (.int .i64 b.ht), .c (.str b.pa), .c (.int .i64 b.ju.vw), .c (.int .i64 b.ju.ht), .c (.str b.ju.bl), .c (.sl (votes b.ju.vs)), .c (.sl (trows b.txs)), .c (.str b.sig)]
theorem Blk.av_inj {a b : Blk} (h : a.av = b.av) : a = b := by
  obtain ⟨a1, a2, a3, ⟨a4, a5, a6, a7⟩, a8, a9⟩ := a
  obtain ⟨b1, b2, b3, ⟨b4, b5, b6, b7⟩, b8, b9⟩ := b
  simp only [Blk.av, AV.agg.injEq, List.cons.injEq, AV.c.injEq, PC.str.injEq, PC.int.injEq, PC.sl.injEq, votes_iff, trows_iff, true_and, and_true] at h
  obtain ⟨rfl, rfl, rfl, rfl, rfl, rfl, rfl, rfl, rfl⟩ := h
  rfl
theorem Blk.av_iff {a b : Blk} : a.av = b.av ↔ a = b := ⟨Blk.av_inj, fun h => by rw [h]⟩
theorem Blk.pcs_inj {a b : Blk} (h : a.pcs = b.pcs) : a = b := by
  obtain ⟨a1, a2, a3, ⟨a4, a5, a6, a7⟩, a8, a9⟩ := a
  obtain ⟨b1, b2, b3, ⟨b4, b5, b6, b7⟩, b8, b9⟩ := b
  simp only [Blk.pcs, List.cons.injEq, PC.str.injEq, PC.int.injEq, PC.sl.injEq, votes_iff, trows_iff, true_and, and_true] at h
  obtain ⟨rfl, rfl, rfl, rfl, rfl, rfl, rfl, rfl, rfl⟩ := h
  rfl

variable {Γ : FuncId → Contract}

def aboutP (t : Vt) : Prop := if t.kd = 4 then t.ht = 0 ∧ t.bl = [] else (0 ≤ t.ht ∧ t.ht ≤ 1048576) ∧ t.bl.length = 32
def tickP (t : Vt) : Prop := if t.kd = 3 then 1 ≤ t.tk ∧ t.tk ≤ 1048576 else t.tk = 0
instance (t : Vt) : Decidable (aboutP t) := by unfold aboutP; infer_instance
instance (t : Vt) : Decidable (tickP t) := by unfold tickP; infer_instance
def okV (t : Vt) : Prop := 1 ≤ t.kd ∧ t.kd ≤ 4 ∧ 0 ≤ t.vw ∧ t.vw ≤ 1048576 ∧ aboutP t ∧ tickP t ∧ (0 ≤ t.sg ∧ t.sg ≤ 6) ∧ t.sig.length ≤ 4096
instance (t : Vt) : Decidable (okV t) := inferInstanceAs (Decidable (_ ∧ _))
def voS (t : Vt) : Int := if okV t then 0 else 9

def replC : Contract := fun args objs => match args, objs with
  | [.c (.int .i64 n)], [] => some ⟨[.pv (.c (.bool (decide (n ≥ 0) && decide (n < 7))))], []⟩
  | _, _ => none
set_option maxHeartbeats 1000000 in
theorem repl_sound : SoundC Tryd.prog 25 replC := by
  refine sound_fn Tryd.func25 (by kernel_rfl) rfl rfl ?_
  intro args objs r hr
  unfold replC at hr
  split at hr
  · rename_i n
    cases hr
    refine ⟨rfl, by show 1 ≤ _; decide, fun E hN hns hF => ?_⟩
    refine vc_sound none0_sound mixed _ _ _ ?_
    have hN := hN.trans nt_25
    cases g1 : decide (n ≥ 0) <;> cases g2 : decide (n < 7)
    all_goals
      simp only [runA, runB, runC, runD, runE, runF, fieldE, storeE, binE, ↓reduceIte, Nat.reduceLT, Nat.reduceLeDiff, Nat.reduceEqDiff, Nat.reduceAdd, Nat.reduceMul, Nat.reduceSub, reduceCtorEq, putAt, unE, Nat.reduceBEq, convE, buildE, List.replicate, Int.reduceLT, Int.reduceLE, Int.reduceToNat, mkE, mapSetE, hN, hF, ty_3, ty_4, notIf, isEq, g1, g2]
    all_goals
      simp only [runB, finC, finD, Option.isSome_some, Option.isSome_none, ↓reduceIte, Nat.reduceEqDiff, Nat.reduceAdd, Nat.reduceMul, forall_eq_or_imp, forall_eq, implies_true, Nat.reduceBEq, reduceCtorEq, false_implies, List.zip_cons_cons, List.zip_nil_left, List.zip_nil_right, Nat.reduceLeDiff, List.forall_mem_nil, rs_25, Bool.and_true, Bool.and_false, Bool.false_and, Bool.true_and]
  · cases hr
noncomputable def abC : Contract := mkC (α := Vt) (fun _ => True) (fun t => [t.av]) (fun _ => []) (fun t => ⟨[.pv (.c (.bool (decide (aboutP t))))], []⟩)
noncomputable def tkC : Contract := mkC (α := Vt) (fun _ => True) (fun t => [t.av]) (fun _ => []) (fun t => ⟨[.pv (.c (.bool (decide (tickP t))))], []⟩)
noncomputable def voCkC : Contract := mkC (α := Vt) (fun _ => True) (fun t => [t.av]) (fun _ => []) (fun t => ⟨[.pv (.c (.int .i64 (voS t)))], []⟩)
theorem ab_at (t : Vt) : abC [.agg [.c (.int .i64 t.kd), .c (.int .i64 t.vw), .c (.int .i64 t.ht), .c (.str t.bl), .c (.int .i64 t.tk), .c (.int .i64 t.sg), .c (.str t.sig)]] [] = some ⟨[.pv (.c (.bool (decide (aboutP t))))], []⟩ :=
  mkC_at (α := Vt) t trivial (by
    rintro y _ h _
    have h' : [y.av] = [t.av] := h
    have e : y = t := Vt.av_inj (by simpa using h')
    rw [e])
theorem tk_at (t : Vt) : tkC [.agg [.c (.int .i64 t.kd), .c (.int .i64 t.vw), .c (.int .i64 t.ht), .c (.str t.bl), .c (.int .i64 t.tk), .c (.int .i64 t.sg), .c (.str t.sig)]] [] = some ⟨[.pv (.c (.bool (decide (tickP t))))], []⟩ :=
  mkC_at (α := Vt) t trivial (by
    rintro y _ h _
    have h' : [y.av] = [t.av] := h
    have e : y = t := Vt.av_inj (by simpa using h')
    rw [e])
theorem voCk_at (t : Vt) : voCkC [.agg [.c (.int .i64 t.kd), .c (.int .i64 t.vw), .c (.int .i64 t.ht), .c (.str t.bl), .c (.int .i64 t.tk), .c (.int .i64 t.sg), .c (.str t.sig)]] [] = some ⟨[.pv (.c (.int .i64 (voS t)))], []⟩ :=
  mkC_at (α := Vt) t trivial (by
    rintro y _ h _
    have h' : [y.av] = [t.av] := h
    have e : y = t := Vt.av_inj (by simpa using h')
    rw [e])

set_option maxRecDepth 100000 in
set_option maxHeartbeats 4000000 in
theorem ab_sound : SoundC Tryd.prog 23 abC := by
  refine sound_fn Tryd.func23 (by kernel_rfl) rfl rfl ?_
  intro args objs r hr
  obtain ⟨⟨kd, vw, ht, bl, tk, sg, sig⟩, _, rfl, rfl, rfl⟩ := mkC_inv hr
  refine ⟨rfl, by show 1 ≤ _; decide, fun E hN hns hF => ?_⟩
  refine vc_sound none0_sound mixed _ _ _ ?_
  have hN := hN.trans nt_23
  unfold Vt.av
  by_cases c4 : kd = 4
  · have g4 : (kd == 4) = true := by simpa using c4
    have hA : aboutP ⟨kd, vw, ht, bl, tk, sg, sig⟩ ↔ (ht = 0 ∧ bl = []) := by unfold aboutP; rw [if_pos c4]
    by_cases c5 : ht = 0
    · have g5 : (ht == 0) = true := by simpa using c5
      by_cases c6 : bl = []
      · have g6 : (bl == []) = true := by simpa using c6
        have hS : decide (aboutP ⟨kd, vw, ht, bl, tk, sg, sig⟩) = true := decide_eq_true (hA.2 ⟨c5, c6⟩)
        simp only [runA, runB, runC, runD, runE, runF, fieldE, storeE, binE, ↓reduceIte, Nat.reduceLT, Nat.reduceLeDiff, Nat.reduceEqDiff, Nat.reduceAdd, Nat.reduceMul, Nat.reduceSub, reduceCtorEq, putAt, unE, Nat.reduceBEq, convE, buildE, List.replicate, Int.reduceLT, Int.reduceLE, Int.reduceToNat, mkE, mapSetE, hN, hF, ty_3, ty_4, ty_9, ty_23, notIf, isEq, g4, g5, g6]
        simp only [runB, finC, finD, Option.isSome_some, Option.isSome_none, ↓reduceIte, Nat.reduceEqDiff, Nat.reduceAdd, Nat.reduceMul, forall_eq_or_imp, forall_eq, implies_true, Nat.reduceBEq, reduceCtorEq, false_implies, List.zip_cons_cons, List.zip_nil_left, List.zip_nil_right, Nat.reduceLeDiff, List.forall_mem_nil, rs_23, hS]
      · have g6 : (bl == []) = false := by simpa using c6
        have hS : decide (aboutP ⟨kd, vw, ht, bl, tk, sg, sig⟩) = false := decide_eq_false (fun h => c6 (hA.1 h).2)
        simp only [runA, runB, runC, runD, runE, runF, fieldE, storeE, binE, ↓reduceIte, Nat.reduceLT, Nat.reduceLeDiff, Nat.reduceEqDiff, Nat.reduceAdd, Nat.reduceMul, Nat.reduceSub, reduceCtorEq, putAt, unE, Nat.reduceBEq, convE, buildE, List.replicate, Int.reduceLT, Int.reduceLE, Int.reduceToNat, mkE, mapSetE, hN, hF, ty_3, ty_4, ty_9, ty_23, notIf, isEq, g4, g5, g6]
        simp only [runB, finC, finD, Option.isSome_some, Option.isSome_none, ↓reduceIte, Nat.reduceEqDiff, Nat.reduceAdd, Nat.reduceMul, forall_eq_or_imp, forall_eq, implies_true, Nat.reduceBEq, reduceCtorEq, false_implies, List.zip_cons_cons, List.zip_nil_left, List.zip_nil_right, Nat.reduceLeDiff, List.forall_mem_nil, rs_23, hS]
    · have g5 : (ht == 0) = false := by simpa using c5
      have hS : decide (aboutP ⟨kd, vw, ht, bl, tk, sg, sig⟩) = false := decide_eq_false (fun h => c5 (hA.1 h).1)
      simp only [runA, runB, runC, runD, runE, runF, fieldE, storeE, binE, ↓reduceIte, Nat.reduceLT, Nat.reduceLeDiff, Nat.reduceEqDiff, Nat.reduceAdd, Nat.reduceMul, Nat.reduceSub, reduceCtorEq, putAt, unE, Nat.reduceBEq, convE, buildE, List.replicate, Int.reduceLT, Int.reduceLE, Int.reduceToNat, mkE, mapSetE, hN, hF, ty_3, ty_4, ty_9, ty_23, notIf, isEq, g4, g5]
      simp only [runB, finC, finD, Option.isSome_some, Option.isSome_none, ↓reduceIte, Nat.reduceEqDiff, Nat.reduceAdd, Nat.reduceMul, forall_eq_or_imp, forall_eq, implies_true, Nat.reduceBEq, reduceCtorEq, false_implies, List.zip_cons_cons, List.zip_nil_left, List.zip_nil_right, Nat.reduceLeDiff, List.forall_mem_nil, rs_23, hS]
  · have g4 : (kd == 4) = false := by simpa using c4
    have hA : aboutP ⟨kd, vw, ht, bl, tk, sg, sig⟩ ↔ ((0 ≤ ht ∧ ht ≤ 1048576) ∧ bl.length = 32) := by unfold aboutP; rw [if_neg c4]
    by_cases c5 : 0 ≤ ht
    · have g5 : decide (ht ≥ 0) = true := by simpa using c5
      by_cases c6 : ht ≤ 1048576
      · have g6 : decide (ht ≤ 1048576) = true := by simpa using c6
        by_cases c7 : bl.length = 32
        · have g7 : ((bl.length : Int) == 32) = true := by rw [c7]; rfl
          have hS : decide (aboutP ⟨kd, vw, ht, bl, tk, sg, sig⟩) = true := decide_eq_true (hA.2 ⟨⟨c5, c6⟩, c7⟩)
          simp only [runA, runB, runC, runD, runE, runF, fieldE, storeE, binE, ↓reduceIte, Nat.reduceLT, Nat.reduceLeDiff, Nat.reduceEqDiff, Nat.reduceAdd, Nat.reduceMul, Nat.reduceSub, reduceCtorEq, putAt, unE, Nat.reduceBEq, convE, buildE, List.replicate, Int.reduceLT, Int.reduceLE, Int.reduceToNat, mkE, mapSetE, hN, hF, ty_3, ty_4, ty_9, ty_23, notIf, isEq, g4, g5, g6, g7]
          simp only [runB, finC, finD, Option.isSome_some, Option.isSome_none, ↓reduceIte, Nat.reduceEqDiff, Nat.reduceAdd, Nat.reduceMul, forall_eq_or_imp, forall_eq, implies_true, Nat.reduceBEq, reduceCtorEq, false_implies, List.zip_cons_cons, List.zip_nil_left, List.zip_nil_right, Nat.reduceLeDiff, List.forall_mem_nil, rs_23, hS]
        · have g7 : ((bl.length : Int) == 32) = false := by rw [beq_eq_false_iff_ne]; omega
          have hS : decide (aboutP ⟨kd, vw, ht, bl, tk, sg, sig⟩) = false := decide_eq_false (fun h => c7 (hA.1 h).2)
          simp only [runA, runB, runC, runD, runE, runF, fieldE, storeE, binE, ↓reduceIte, Nat.reduceLT, Nat.reduceLeDiff, Nat.reduceEqDiff, Nat.reduceAdd, Nat.reduceMul, Nat.reduceSub, reduceCtorEq, putAt, unE, Nat.reduceBEq, convE, buildE, List.replicate, Int.reduceLT, Int.reduceLE, Int.reduceToNat, mkE, mapSetE, hN, hF, ty_3, ty_4, ty_9, ty_23, notIf, isEq, g4, g5, g6, g7]
          simp only [runB, finC, finD, Option.isSome_some, Option.isSome_none, ↓reduceIte, Nat.reduceEqDiff, Nat.reduceAdd, Nat.reduceMul, forall_eq_or_imp, forall_eq, implies_true, Nat.reduceBEq, reduceCtorEq, false_implies, List.zip_cons_cons, List.zip_nil_left, List.zip_nil_right, Nat.reduceLeDiff, List.forall_mem_nil, rs_23, hS]
      · have g6 : decide (ht ≤ 1048576) = false := by simpa using c6
        have hS : decide (aboutP ⟨kd, vw, ht, bl, tk, sg, sig⟩) = false := decide_eq_false (fun h => c6 (hA.1 h).1.2)
        simp only [runA, runB, runC, runD, runE, runF, fieldE, storeE, binE, ↓reduceIte, Nat.reduceLT, Nat.reduceLeDiff, Nat.reduceEqDiff, Nat.reduceAdd, Nat.reduceMul, Nat.reduceSub, reduceCtorEq, putAt, unE, Nat.reduceBEq, convE, buildE, List.replicate, Int.reduceLT, Int.reduceLE, Int.reduceToNat, mkE, mapSetE, hN, hF, ty_3, ty_4, ty_9, ty_23, notIf, isEq, g4, g5, g6]
        simp only [runB, finC, finD, Option.isSome_some, Option.isSome_none, ↓reduceIte, Nat.reduceEqDiff, Nat.reduceAdd, Nat.reduceMul, forall_eq_or_imp, forall_eq, implies_true, Nat.reduceBEq, reduceCtorEq, false_implies, List.zip_cons_cons, List.zip_nil_left, List.zip_nil_right, Nat.reduceLeDiff, List.forall_mem_nil, rs_23, hS]
    · have g5 : decide (ht ≥ 0) = false := by simpa using c5
      have hS : decide (aboutP ⟨kd, vw, ht, bl, tk, sg, sig⟩) = false := decide_eq_false (fun h => c5 (hA.1 h).1.1)
      simp only [runA, runB, runC, runD, runE, runF, fieldE, storeE, binE, ↓reduceIte, Nat.reduceLT, Nat.reduceLeDiff, Nat.reduceEqDiff, Nat.reduceAdd, Nat.reduceMul, Nat.reduceSub, reduceCtorEq, putAt, unE, Nat.reduceBEq, convE, buildE, List.replicate, Int.reduceLT, Int.reduceLE, Int.reduceToNat, mkE, mapSetE, hN, hF, ty_3, ty_4, ty_9, ty_23, notIf, isEq, g4, g5]
      simp only [runB, finC, finD, Option.isSome_some, Option.isSome_none, ↓reduceIte, Nat.reduceEqDiff, Nat.reduceAdd, Nat.reduceMul, forall_eq_or_imp, forall_eq, implies_true, Nat.reduceBEq, reduceCtorEq, false_implies, List.zip_cons_cons, List.zip_nil_left, List.zip_nil_right, Nat.reduceLeDiff, List.forall_mem_nil, rs_23, hS]

set_option maxRecDepth 100000 in
set_option maxHeartbeats 4000000 in
theorem tk_sound : SoundC Tryd.prog 24 tkC := by
  refine sound_fn Tryd.func24 (by kernel_rfl) rfl rfl ?_
  intro args objs r hr
  obtain ⟨⟨kd, vw, ht, bl, tk, sg, sig⟩, _, rfl, rfl, rfl⟩ := mkC_inv hr
  refine ⟨rfl, by show 1 ≤ _; decide, fun E hN hns hF => ?_⟩
  refine vc_sound none0_sound mixed _ _ _ ?_
  have hN := hN.trans nt_24
  unfold Vt.av
  by_cases c4 : kd = 3
  · have g4 : (kd == 3) = true := by simpa using c4
    have hA : tickP ⟨kd, vw, ht, bl, tk, sg, sig⟩ ↔ (1 ≤ tk ∧ tk ≤ 1048576) := by unfold tickP; rw [if_pos c4]
    by_cases c5 : 1 ≤ tk
    · have g5 : decide (tk ≥ 1) = true := by simpa using c5
      by_cases c6 : tk ≤ 1048576
      · have g6 : decide (tk ≤ 1048576) = true := by simpa using c6
        have hS : decide (tickP ⟨kd, vw, ht, bl, tk, sg, sig⟩) = true := decide_eq_true (hA.2 ⟨c5, c6⟩)
        simp only [runA, runB, runC, runD, runE, runF, fieldE, storeE, binE, ↓reduceIte, Nat.reduceLT, Nat.reduceLeDiff, Nat.reduceEqDiff, Nat.reduceAdd, Nat.reduceMul, Nat.reduceSub, reduceCtorEq, putAt, unE, Nat.reduceBEq, convE, buildE, List.replicate, Int.reduceLT, Int.reduceLE, Int.reduceToNat, mkE, mapSetE, hN, hF, ty_3, ty_4, ty_9, ty_23, notIf, isEq, g4, g5, g6]
        simp only [runB, finC, finD, Option.isSome_some, Option.isSome_none, ↓reduceIte, Nat.reduceEqDiff, Nat.reduceAdd, Nat.reduceMul, forall_eq_or_imp, forall_eq, implies_true, Nat.reduceBEq, reduceCtorEq, false_implies, List.zip_cons_cons, List.zip_nil_left, List.zip_nil_right, Nat.reduceLeDiff, List.forall_mem_nil, rs_24, hS]
      · have g6 : decide (tk ≤ 1048576) = false := by simpa using c6
        have hS : decide (tickP ⟨kd, vw, ht, bl, tk, sg, sig⟩) = false := decide_eq_false (fun h => c6 (hA.1 h).2)
        simp only [runA, runB, runC, runD, runE, runF, fieldE, storeE, binE, ↓reduceIte, Nat.reduceLT, Nat.reduceLeDiff, Nat.reduceEqDiff, Nat.reduceAdd, Nat.reduceMul, Nat.reduceSub, reduceCtorEq, putAt, unE, Nat.reduceBEq, convE, buildE, List.replicate, Int.reduceLT, Int.reduceLE, Int.reduceToNat, mkE, mapSetE, hN, hF, ty_3, ty_4, ty_9, ty_23, notIf, isEq, g4, g5, g6]
        simp only [runB, finC, finD, Option.isSome_some, Option.isSome_none, ↓reduceIte, Nat.reduceEqDiff, Nat.reduceAdd, Nat.reduceMul, forall_eq_or_imp, forall_eq, implies_true, Nat.reduceBEq, reduceCtorEq, false_implies, List.zip_cons_cons, List.zip_nil_left, List.zip_nil_right, Nat.reduceLeDiff, List.forall_mem_nil, rs_24, hS]
    · have g5 : decide (tk ≥ 1) = false := by simpa using c5
      have hS : decide (tickP ⟨kd, vw, ht, bl, tk, sg, sig⟩) = false := decide_eq_false (fun h => c5 (hA.1 h).1)
      simp only [runA, runB, runC, runD, runE, runF, fieldE, storeE, binE, ↓reduceIte, Nat.reduceLT, Nat.reduceLeDiff, Nat.reduceEqDiff, Nat.reduceAdd, Nat.reduceMul, Nat.reduceSub, reduceCtorEq, putAt, unE, Nat.reduceBEq, convE, buildE, List.replicate, Int.reduceLT, Int.reduceLE, Int.reduceToNat, mkE, mapSetE, hN, hF, ty_3, ty_4, ty_9, ty_23, notIf, isEq, g4, g5]
      simp only [runB, finC, finD, Option.isSome_some, Option.isSome_none, ↓reduceIte, Nat.reduceEqDiff, Nat.reduceAdd, Nat.reduceMul, forall_eq_or_imp, forall_eq, implies_true, Nat.reduceBEq, reduceCtorEq, false_implies, List.zip_cons_cons, List.zip_nil_left, List.zip_nil_right, Nat.reduceLeDiff, List.forall_mem_nil, rs_24, hS]
  · have g4 : (kd == 3) = false := by simpa using c4
    have hA : tickP ⟨kd, vw, ht, bl, tk, sg, sig⟩ ↔ tk = 0 := by unfold tickP; rw [if_neg c4]
    have hS : decide (tickP ⟨kd, vw, ht, bl, tk, sg, sig⟩) = (tk == 0) := by
      by_cases c5 : tk = 0
      · rw [decide_eq_true (hA.2 c5)]; simp [c5]
      · rw [decide_eq_false (fun h => c5 (hA.1 h))]; simp [c5]
    simp only [runA, runB, runC, runD, runE, runF, fieldE, storeE, binE, ↓reduceIte, Nat.reduceLT, Nat.reduceLeDiff, Nat.reduceEqDiff, Nat.reduceAdd, Nat.reduceMul, Nat.reduceSub, reduceCtorEq, putAt, unE, Nat.reduceBEq, convE, buildE, List.replicate, Int.reduceLT, Int.reduceLE, Int.reduceToNat, mkE, mapSetE, hN, hF, ty_3, ty_4, ty_9, ty_23, notIf, isEq, g4]
    simp only [runB, finC, finD, Option.isSome_some, Option.isSome_none, ↓reduceIte, Nat.reduceEqDiff, Nat.reduceAdd, Nat.reduceMul, forall_eq_or_imp, forall_eq, implies_true, Nat.reduceBEq, reduceCtorEq, false_implies, List.zip_cons_cons, List.zip_nil_left, List.zip_nil_right, Nat.reduceLeDiff, List.forall_mem_nil, rs_24, hS]
theorem replA_at (n : Int) : replC [.c (.int .i64 n)] [] = some ⟨[.pv (.c (.bool (decide (n ≥ 0) && decide (n < 7))))], []⟩ := rfl

set_option maxRecDepth 100000 in
set_option maxHeartbeats 4000000 in
theorem voCk_sound (hΓ : SoundG Tryd.prog Γ) (h1 : Γ 23 = abC) (h2 : Γ 24 = tkC) (h3 : Γ 25 = replC) : SoundC Tryd.prog 11 voCkC := by
  refine sound_fn Tryd.func11 (by kernel_rfl) rfl rfl ?_
  intro args objs r hr
  obtain ⟨⟨kd, vw, ht, bl, tk, sg, sig⟩, _, rfl, rfl, rfl⟩ := mkC_inv hr
  refine ⟨rfl, by show 1 ≤ _; decide, fun E hN hns hF => ?_⟩
  refine vc_sound hΓ mixed _ _ _ ?_
  have hN := hN.trans nt_11
  unfold Vt.av
  have q1 := ab_at ⟨kd, vw, ht, bl, tk, sg, sig⟩
  have q2 := tk_at ⟨kd, vw, ht, bl, tk, sg, sig⟩
  dsimp only at q1 q2
  simp +contextual (maxSteps := 10000000) only [runA, runB, runC, runD, runE, runF, fieldE, storeE, binE, ↓reduceIte, Nat.reduceLT, Nat.reduceLeDiff, Nat.reduceEqDiff, Nat.reduceAdd, Nat.reduceMul, Nat.reduceSub, reduceCtorEq, putAt, unE, Nat.reduceBEq, convE, buildE, List.replicate, Int.reduceLT, Int.reduceLE, Int.reduceToNat, mkE, mapSetE, hN, hF, ty_3, ty_4, ty_9, ty_23, ty_29, notIf, isEq, bytes_length, false_implies, implies_true, h1, h2, h3, q1, q2, replA_at]
  refine ⟨fun b1 => ?_, fun b1 => ?_⟩
  · have hS : voS ⟨kd, vw, ht, bl, tk, sg, sig⟩ = 9 := if_neg (fun ⟨a1, a2, a3, a4, a5, a6, ⟨a7, a7'⟩, a8⟩ => by
      simp only at a1 a2 a3 a4 a7 a7' a8
      rw [decide_eq_true a5, decide_eq_true a6] at b1
      revert b1; simp; omega)
    simp only [runB, finC, finD, Option.isSome_some, Option.isSome_none, ↓reduceIte, Nat.reduceEqDiff, Nat.reduceAdd, Nat.reduceMul, forall_eq_or_imp, forall_eq, implies_true, Nat.reduceBEq, reduceCtorEq, false_implies, List.zip_cons_cons, List.zip_nil_left, List.zip_nil_right, Nat.reduceLeDiff, List.forall_mem_nil, rs_11, ty_3, ty_4, ty_9, ty_23, ty_29, hS]
  · have hS : voS ⟨kd, vw, ht, bl, tk, sg, sig⟩ = 0 := if_pos (by
      simp only [Bool.or_eq_false_iff, decide_eq_false_iff_not, Bool.not_eq_false', Bool.and_eq_true, decide_eq_true_eq] at b1
      obtain ⟨⟨⟨⟨⟨⟨⟨x1, x2⟩, x3⟩, x4⟩, x5⟩, x6⟩, x7⟩, x8⟩ := b1
      exact ⟨by simp only; omega, by simp only; omega, by simp only; omega, by simp only; omega, x5, x6, ⟨by simp only; omega, by simp only; omega⟩, by simp only; omega⟩)
    simp only [runB, finC, finD, Option.isSome_some, Option.isSome_none, ↓reduceIte, Nat.reduceEqDiff, Nat.reduceAdd, Nat.reduceMul, forall_eq_or_imp, forall_eq, implies_true, Nat.reduceBEq, reduceCtorEq, false_implies, List.zip_cons_cons, List.zip_nil_left, List.zip_nil_right, Nat.reduceLeDiff, List.forall_mem_nil, rs_11, ty_3, ty_4, ty_9, ty_23, ty_29, hS]


variable {Γ : FuncId → Contract}

end Go.Proofs.YtcfijanfcgnnhaaDoor.AM
