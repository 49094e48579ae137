/-
  QC: Sn7 Sn8.
-/
import Derived.Test.YtldehcnaepgamaaQB
set_option linter.unusedVariables false
set_option linter.unusedSimpArgs false
namespace Go.Proofs.Ytldehcnaepgamaa.AM
open Go

variable {Γ : FuncId → Contract}

theorem upS_all8 : ∀ (l : List (List UInt8)), all8 l → all8 (upS l)
  | [], h => by rw [upS_nil]; exact h
  | [x], h => by rw [upS_one]; exact h
  | a :: b :: l, h => by
    intro s hs
    rw [upS] at hs
    rcases List.mem_cons.1 hs with rfl | hs
    · exact shortS_length _
    · exact upS_all8 l (fun x hx => h x (by simp [hx])) s hs
theorem pathP_facts : ∀ (n : Nat) (l : List (List UInt8)) (a : Nat), l.length ≤ n → a < l.length → powN l.length = true → all8 l → all8 (pathP l a) ∧ (pathP l a).length = l.length.log2
  | 0, l, a, hn, ha, _, _ => by omega
  | n + 1, l, a, hn, ha, hp, h8 => by
    by_cases h1 : l.length ≤ 1
    · rw [pathP_le h1]
      have : l.length = 1 := by omega
      rw [this]
      exact ⟨fun p hp => (List.not_mem_nil hp).elim, by decide⟩
    · rw [pathP_gt h1]
      obtain ⟨hp1, hp2⟩ := powN_half hp (by omega)
      have hl := upS_length l
      have hu : (upS l).length = l.length / 2 := by omega
      obtain ⟨i1, i2⟩ := pathP_facts n (upS l) (a / 2) (by omega) (by omega) (by rw [hu]; exact hp2) (upS_all8 l h8)
      have hnb : nb a < l.length := by unfold nb; split <;> omega
      refine ⟨fun p hp => ?_, ?_⟩
      · rcases List.mem_cons.1 hp with rfl | hp
        · refine h8 _ ?_
          rw [List.getD, List.getElem?_eq_getElem hnb]
          exact List.getElem_mem _
        · exact i1 p hp
      · rw [List.length_cons, i2, hu, Nat.log2_def l.length, if_pos (by omega)]
theorem okN16_pow {n : Nat} (h : okN16 n) : powN n = true := by
  rcases h with rfl | rfl | rfl | rfl | rfl <;> rfl
theorem okN16_log {n : Nat} (h : okN16 n) : n.log2 ≤ 4 ∧ 2 ^ n.log2 = n := by
  rcases h with rfl | rfl | rfl | rfl | rfl <;> decide
theorem sgnT_all8 (seed : List UInt8) (leaf : Int) (text : List UInt8) (n : Nat) : all8 (sgnT seed leaf text n) := by
  intro p hp
  simp only [sgnT, List.mem_map] at hp
  obtain ⟨i, _, rfl⟩ := hp
  exact chain8 _ _ (secS_length _ _ _)
theorem all8_flat : ∀ (l : List (List UInt8)), all8 l → l.flatten.length = 8 * l.length
  | [], _ => rfl
  | x :: l, h => by
    rw [List.flatten_cons, List.length_append, List.length_cons, h x (by simp), all8_flat l fun p hp => h p (by simp [hp])]
    omega
theorem all8_app {a b : List (List UInt8)} (ha : all8 a) (hb : all8 b) : all8 (a ++ b) := fun p hp => by
  rcases List.mem_append.1 hp with h | h
  · exact ha p h
  · exact hb p h
theorem all8_take {l : List (List UInt8)} (h : all8 l) (n : Nat) : all8 (l.take n) := fun p hp => h p (List.mem_of_mem_take hp)
theorem all8_getD {l : List (List UInt8)} (h : all8 l) {i : Nat} (hi : i < l.length) : (l.getD i []).length = 8 := by
  refine h _ ?_
  rw [List.getD, List.getElem?_eq_getElem hi]
  exact List.getElem_mem _
theorem flatD_take (l : List (List UInt8)) (i : Nat) (h : i < l.length) : (l.take i).flatten ++ l.getD i [] = (l.take (i + 1)).flatten := by
  rw [List.take_add_one, List.flatten_append, List.getD, List.getElem?_eq_getElem h]
  simp

/-- The next key's parts, and the path. -/
noncomputable def sigL (k : Ky) (text : List UInt8) : List (List UInt8) := sgnS k.seed k.next text ++ (pathS k.leaves k.next).1
noncomputable def sigB (k : Ky) (text : List UInt8) : List UInt8 := putB k.next 2 ++ (sigL k text).flatten
def Ky.step (k : Ky) : Ky := ⟨k.seed, k.leaves, k.next + 1⟩
def zeroK : Ky := ⟨[], [], 0⟩
noncomputable def signS (k : Ky) (text : List UInt8) : List UInt8 × Ky × Int :=
  if goodK k then (if k.next = (k.leaves.length : Int) then ([], zeroK, 17) else (sigB k text, k.step, 0)) else ([], zeroK, 9)
theorem path_good {k : Ky} (h : goodK k) (hn : k.next ≠ (k.leaves.length : Int)) : pathS k.leaves k.next = (pathP k.leaves k.next.toNat, 0) ∧ all8 (pathS k.leaves k.next).1 ∧ (pathS k.leaves k.next).1.length = k.leaves.length.log2 := by
  obtain ⟨_, h2, h3, h4, h5⟩ := h
  have e : pathS k.leaves k.next = (pathP k.leaves k.next.toNat, 0) := by
    unfold pathS
    rw [if_neg (by omega), if_pos (okN16_pow h2)]
  rw [e]
  obtain ⟨p1, p2⟩ := pathP_facts _ k.leaves k.next.toNat (Nat.le_refl _) (by omega) (okN16_pow h2) h3
  exact ⟨rfl, p1, p2⟩

noncomputable def cloneTC : Contract := mkC (α := List (List UInt8)) (fun l => l ≠ [] ∧ l.length ≤ 1000000) (fun l => [.c (.sl (texts l))]) (fun _ => []) (fun l => ⟨[.fresh 1 (texts l)], []⟩)
theorem cloneT_at (l : List (List UInt8)) (h1 : l ≠ []) (h2 : l.length ≤ 1000000) : cloneTC [.c (.sl (texts l))] [] = some ⟨[.fresh 1 (texts l)], []⟩ :=
  mkC_at (α := List (List UInt8)) l ⟨h1, h2⟩ (by
    rintro y _ h _
    simp only [List.cons.injEq, AV.c.injEq, PC.sl.injEq, and_true] at h
    rw [h])
set_option maxHeartbeats 1000000 in
theorem cloneT_sound : SoundC Try.prog 59 cloneTC := by
  refine sound_fn Try.func59 (by kernel_rfl) rfl rfl ?_
  intro args objs r hr
  obtain ⟨l, ⟨h1, h2⟩, rfl, rfl, rfl⟩ := mkC_inv hr
  refine ⟨rfl, by show 1 ≤ _; decide, fun E hN hns hF => ?_⟩
  refine vc_sound none0_sound mixed _ _ _ ?_
  have hN := hN.trans nt_59
  have hz := rowsOK_texts l
  have hL : (0 + l.length) * 16 ≤ 140737488355328 := by omega
  have hL2 : l.length * 16 ≤ 140737488355328 := by omega
  cases l with
  | nil => exact absurd rfl h1
  | cons x l =>
    have hx : texts (x :: l) = [.str x] :: texts l := rfl
    have hxl : (texts l).length = l.length := texts_length l
    rw [List.length_cons] at hL hL2
    rw [hx] at hz ⊢
    simp only [runA, runB, runC, runD, runE, runF, fieldE, storeE, binE, ↓reduceIte, Nat.reduceLT, Nat.reduceLeDiff, Nat.reduceEqDiff, Nat.reduceAdd, Nat.reduceMul, Nat.reduceSub, reduceCtorEq, putAt, unE, Nat.reduceBEq, convE, buildE, List.replicate, Int.reduceLT, Int.reduceLE, Int.reduceToNat, mkE, mapSetE, hN, hF, ty_9, ty_22, notIf, isEq, hz, hL, hL2, hxl]
    simp only [runB, finC, finD, Option.isSome_some, Option.isSome_none, ↓reduceIte, Nat.reduceEqDiff, Nat.reduceAdd, Nat.reduceMul, forall_eq_or_imp, forall_eq, implies_true, Nat.reduceBEq, reduceCtorEq, false_implies, List.zip_cons_cons, List.zip_nil_left, List.zip_nil_right, Nat.reduceLeDiff, List.forall_mem_nil, rs_59, hxl]

structure Sk where
  k : Ky
  text : List UInt8
def skOK (p : Sk) : Prop := p.k.leaves.length ≤ 9223372036854775807 ∧ p.text.length ≤ 1099511627776
noncomputable def signC : Contract := mkC (α := Sk) skOK (fun p => [p.k.av, .c (.sl (bytes p.text))]) (fun _ => []) (fun p => ⟨[.pv (.c (.str (signS p.k p.text).1)), .pv (signS p.k p.text).2.1.av, .pv (.c (.int .i64 (signS p.k p.text).2.2))], []⟩)
theorem sign_at (k : Ky) (text : List UInt8) (h1 : k.leaves.length ≤ 9223372036854775807) (h2 : text.length ≤ 1099511627776) :
    signC [.agg [.c (.str k.seed), .c (.sl (texts k.leaves)), .c (.int .i64 k.next)], .c (.sl (bytes text))] [] = some ⟨[.pv (.c (.str (signS k text).1)), .pv (signS k text).2.1.av, .pv (.c (.int .i64 (signS k text).2.2))], []⟩ :=
  mkC_at (α := Sk) ⟨k, text⟩ ⟨h1, h2⟩ (by
    rintro ⟨k', t'⟩ _ h _
    simp only [List.cons.injEq, AV.c.injEq, PC.sl.injEq, and_true] at h
    have e : k' = k := Ky.av_inj (show k'.av = k.av from h.1)
    have e2 := bytes_inj h.2
    rw [e, e2])

set_option maxRecDepth 100000 in
set_option maxHeartbeats 4000000 in
theorem sign_sound (hΓ : SoundG Try.prog Γ) (h1 : Γ 19 = keyC) (h2 : Γ 56 = pathC) (h3 : Γ 57 = putC) (h4 : Γ 58 = sgnC) (h5 : Γ 59 = cloneTC) : SoundC Try.prog 13 signC := by
  refine sound_fn Try.func13 (by kernel_rfl) rfl rfl ?_
  intro args objs r hr
  obtain ⟨⟨⟨seed, leaves, next⟩, text⟩, ⟨hl1, hl2⟩, rfl, rfl, rfl⟩ := mkC_inv hr
  have hl1 : leaves.length ≤ 9223372036854775807 := hl1
  have hl2 : text.length ≤ 1099511627776 := hl2
  refine ⟨rfl, by show 2 ≤ _; decide, fun E hN hns hF => ?_⟩
  refine vc_sound hΓ mixed _ _ _ ?_
  have hN := hN.trans nt_13
  have q1 := key_at ⟨seed, leaves, next⟩ hl1
  unfold Ky.av
  dsimp only at q1 ⊢
  by_cases hg : goodK ⟨seed, leaves, next⟩
  case neg =>
    have hK : keyS ⟨seed, leaves, next⟩ = 9 := if_neg hg
    have hS : signS ⟨seed, leaves, next⟩ text = ([], zeroK, 9) := if_neg hg
    rw [hK] at q1
    rw [hS]
    have b0 : ((9 : Int) != 0) = true := rfl
    simp only [runA, runB, runC, runD, runE, runF, fieldE, storeE, binE, ↓reduceIte, Nat.reduceLT, Nat.reduceLeDiff, Nat.reduceEqDiff, Nat.reduceAdd, Nat.reduceMul, Nat.reduceSub, reduceCtorEq, putAt, unE, Nat.reduceBEq, convE, buildE, List.replicate, Int.reduceLT, Int.reduceLE, Int.reduceToNat, mkE, mapSetE, hN, hF, ty_3, ty_5, ty_9, ty_22, ty_24, ty_25, ty_27, notIf, isEq, h1, q1, b0]
    simp only [runB, finC, finD, Option.isSome_some, Option.isSome_none, ↓reduceIte, Nat.reduceEqDiff, Nat.reduceAdd, Nat.reduceMul, forall_eq_or_imp, forall_eq, implies_true, Nat.reduceBEq, reduceCtorEq, false_implies, List.zip_cons_cons, List.zip_nil_left, List.zip_nil_right, Nat.reduceLeDiff, List.forall_mem_nil, rs_13, agg_24, sz_24, zeroK, texts, List.map_nil]
  have hK : keyS ⟨seed, leaves, next⟩ = 0 := if_pos hg
  rw [hK] at q1
  have b0 : ((0 : Int) != 0) = false := rfl
  by_cases hn : next = (leaves.length : Int)
  case pos =>
    have hS : signS ⟨seed, leaves, next⟩ text = ([], zeroK, 17) := by unfold signS; rw [if_pos hg, if_pos hn]
    rw [hS]
    have g1 : (next == (leaves.length : Int)) = true := by simpa using hn
    simp only [runA, runB, runC, runD, runE, runF, fieldE, storeE, binE, ↓reduceIte, Nat.reduceLT, Nat.reduceLeDiff, Nat.reduceEqDiff, Nat.reduceAdd, Nat.reduceMul, Nat.reduceSub, reduceCtorEq, putAt, unE, Nat.reduceBEq, convE, buildE, List.replicate, Int.reduceLT, Int.reduceLE, Int.reduceToNat, mkE, mapSetE, hN, hF, ty_3, ty_5, ty_9, ty_22, ty_24, ty_25, ty_27, notIf, isEq, texts_length, h1, q1, b0, g1]
    simp only [runB, finC, finD, Option.isSome_some, Option.isSome_none, ↓reduceIte, Nat.reduceEqDiff, Nat.reduceAdd, Nat.reduceMul, forall_eq_or_imp, forall_eq, implies_true, Nat.reduceBEq, reduceCtorEq, false_implies, List.zip_cons_cons, List.zip_nil_left, List.zip_nil_right, Nat.reduceLeDiff, List.forall_mem_nil, rs_13, agg_24, sz_24, zeroK, texts, List.map_nil]
  have g1 : (next == (leaves.length : Int)) = false := by simpa using hn
  have hS : signS ⟨seed, leaves, next⟩ text = (sigB ⟨seed, leaves, next⟩ text, ⟨seed, leaves, next + 1⟩, 0) := by unfold signS; rw [if_pos hg, if_neg hn]; rfl
  rw [hS]
  obtain ⟨_, p8, pl⟩ := path_good hg hn
  have hg0 := hg
  obtain ⟨a1, a2, a3, a4, a5⟩ := hg
  dsimp only at a1 a2 a3 a4 a5 p8 pl
  have q2 := path_at leaves next hg0.okl
  have q3 := sgn_at seed next text (by omega) hl2
  have hlg := (okN16_log a2).1
  have hle : leaves.length ≤ 16 := by unfold okN16 at a2; omega
  have hne : leaves ≠ [] := fun e => by rw [e] at a2; exact absurd a2 (by decide)
  have q4 := cloneT_at leaves hne (by omega)
  have hsl : (texts (sgnS seed next text)).length = 11 := by rw [texts_length]; exact sgnT_length _ _ _ _
  have hL8 : all8 (sigL ⟨seed, leaves, next⟩ text) := all8_app (sgnT_all8 _ _ _ _) p8
  have hLl : (sigL ⟨seed, leaves, next⟩ text).length = 11 + leaves.length.log2 := by
    show (sgnS seed next text ++ (pathS leaves next).1).length = _
    rw [List.length_append, pl, show (sgnS seed next text).length = 11 from sgnT_length _ _ _ _]
  have hap : texts (sgnS seed next text) ++ texts (pathS leaves next).1 = texts (sigL ⟨seed, leaves, next⟩ text) := texts_app _ _
  have hsb : sigB ⟨seed, leaves, next⟩ text = putB next 2 ++ (sigL ⟨seed, leaves, next⟩ text).flatten := rfl
  have hpl : (texts (pathS leaves next).1).length = leaves.length.log2 := by rw [texts_length, pl]
  rw [hsb]
  generalize sigL ⟨seed, leaves, next⟩ text = L at hL8 hLl hap ⊢
  generalize (pathS leaves next).1 = pth at q2 hap hpl
  generalize (pathS leaves next).2 = pe at q2
  generalize leaves.length.log2 = h at hLl hpl hlg
  have hz := rowsOK_texts
  have hc1 : ((11 + h) * 16 ≤ 140737488355328) = True := eq_true (by omega)
  have e9 : IntKind.i64.wrap (next + 1) = next + 1 := wrapI (by omega)
  have hpb := putB2 next
  have q5 : putC [.c (.int .i64 next), .c (.int .i64 2)] [] = some ⟨[.fresh 1 (bytes (putB next 2))], []⟩ := by simp [putC]
  generalize putB next 2 = pb at hpb q5 ⊢
  simp only [runA, runB, runC, runD, runE, runF, fieldE, storeE, binE, ↓reduceIte, Nat.reduceLT, Nat.reduceLeDiff, Nat.reduceEqDiff, Nat.reduceAdd, Nat.reduceMul, Nat.reduceSub, reduceCtorEq, putAt, unE, Nat.reduceBEq, convE, buildE, List.replicate, Int.reduceLT, Int.reduceLE, Int.reduceToNat, mkE, mapSetE, hN, hF, ty_3, ty_5, ty_9, ty_22, ty_24, ty_25, ty_27, notIf, isEq, texts_length, h1, q1, b0, g1, h2, q2, h3, q5, h4, q3, hsl, hz, hpl, hc1, hap, bytes_length, hpb]
  refine AWP.loop (fun k st => ∃ i : Nat, i ≤ 11 + h ∧ k = 11 + h - i ∧ st = ⟨[(2, .ptr 128 0), (5, .ptr 320 0), (10, .own 2434 1 (bytes (pb ++ (L.take i).flatten))), (46, .own 2818 1 (texts L)), (47, .c (.int .i64 ((11 + h : Nat) : Int))), (48, .c (.int .i64 (i : Int)))],
    [(128, .obj [.c (.str seed), .c (.sl (texts leaves)), .c (.int .i64 next)] false), (320, .obj [.c (.str []), .nilsl, .c (.int .i64 0)] false), (2434, .row 1 (2 + 8 * i)), (2818, .row 1 (11 + h))]⟩) ⟨11 + h, _, ?w, 0, Nat.zero_le _, rfl, rfl⟩ ?r
  case w =>
    rw [hns]
    simp only [runB, finC, finD, AS.get, AS.mem, false_implies, implies_true, ↓reduceIte, Nat.reduceEqDiff, Option.isSome_some, Option.isSome_none, forall_eq_or_imp, forall_eq, reduceCtorEq, Nat.reduceAdd, Nat.reduceMul, List.zip_cons_cons, List.zip_nil_left, List.zip_nil_right, List.forall_mem_nil]
    first | exact ⟨by simp, by rw [hLl], rfl⟩ | simp [hLl]
  case r =>
    rintro k st ⟨i, hi, rfl, rfl⟩
    refine vc_sound hΓ mixed _ _ _ ?_
    by_cases hlt : i < 11 + h
    · have k1 : decide ((i : Int) < ((11 + h : Nat) : Int)) = true := by simp; omega
      have e1 : IntKind.i64.wrap ((i : Int) + 1) = (i : Int) + 1 := wrapI (by omega)
      have hgx := textsD L i (by omega)
      have h8 := all8_getD hL8 (i := i) (by omega)
      have hft := flatD_take L i (by omega)
      have hfl : (pb ++ (L.take i).flatten).length = 2 + 8 * i := by rw [List.length_append, hpb, all8_flat _ (all8_take hL8 i), List.length_take]; omega
      have hap2 : (pb ++ (L.take i).flatten) ++ L.getD i [] = pb ++ (L.take (i + 1)).flatten := by rw [List.append_assoc, hft]
      generalize L.getD i [] = s at hgx h8 hap2
      have hzb := rowsOK_bytes
      have hc2 : (2 + 8 * i + 8 ≤ 140737488355328) = True := eq_true (by omega)
      generalize pb ++ (L.take i).flatten = bi at hfl hap2 ⊢
      simp only [runA, runB, runC, runD, runE, runF, fieldE, storeE, binE, ↓reduceIte, Nat.reduceLT, Nat.reduceLeDiff, Nat.reduceEqDiff, Nat.reduceAdd, Nat.reduceMul, Nat.reduceSub, reduceCtorEq, putAt, unE, Nat.reduceBEq, convE, buildE, List.replicate, Int.reduceLT, Int.reduceLE, Int.reduceToNat, mkE, mapSetE, hN, hF, ty_3, ty_5, ty_9, ty_22, ty_24, ty_25, ty_27, notIf, isEq, k1, e1, hgx, h8, hzb, hc2, hfl, bytes_length, bytes_app, hap2]
      refine ⟨11 + h - (i + 1), _, by omega, ?_, i + 1, by omega, rfl, rfl⟩
      rw [hns]
      simp only [runB, finC, finD, AS.get, AS.mem, false_implies, implies_true, ↓reduceIte, Nat.reduceEqDiff, Option.isSome_some, Option.isSome_none, forall_eq_or_imp, forall_eq, reduceCtorEq, Nat.reduceAdd, Nat.reduceMul, List.zip_cons_cons, List.zip_nil_left, List.zip_nil_right, List.forall_mem_nil]
      first | done | (simp; omega)
    · have k1 : decide ((i : Int) < ((11 + h : Nat) : Int)) = false := by simp; omega
      obtain rfl : i = 11 + h := by omega
      have htk : L.take (11 + h) = L := List.take_of_length_le (by omega)
      rw [htk]
      have hfl : (pb ++ L.flatten).length = 2 + 8 * (11 + h) := by rw [List.length_append, hpb, all8_flat _ hL8, hLl]
      generalize pb ++ L.flatten = bi at hfl ⊢
      simp only [runA, runB, runC, runD, runE, runF, fieldE, storeE, binE, ↓reduceIte, Nat.reduceLT, Nat.reduceLeDiff, Nat.reduceEqDiff, Nat.reduceAdd, Nat.reduceMul, Nat.reduceSub, reduceCtorEq, putAt, unE, Nat.reduceBEq, convE, buildE, List.replicate, Int.reduceLT, Int.reduceLE, Int.reduceToNat, mkE, mapSetE, hN, hF, ty_3, ty_5, ty_9, ty_22, ty_24, ty_25, ty_27, notIf, isEq, k1, h5, q4, e9, bytesOf_bytes]
      refine drawnP_intro (by kernel_rfl) (by kernel_rfl) ?_
      simp only [runA, runB, runC, runD, runE, runF, fieldE, storeE, binE, ↓reduceIte, Nat.reduceLT, Nat.reduceLeDiff, Nat.reduceEqDiff, Nat.reduceAdd, Nat.reduceMul, Nat.reduceSub, reduceCtorEq, putAt, unE, Nat.reduceBEq, convE, buildE, List.replicate, Int.reduceLT, Int.reduceLE, Int.reduceToNat, mkE, mapSetE, hN, hF, ty_3, ty_5, ty_9, ty_22, ty_24, ty_25, ty_27, notIf, isEq, bytesOf_bytes]
      simp only [runB, finC, finD, Option.isSome_some, Option.isSome_none, ↓reduceIte, Nat.reduceEqDiff, Nat.reduceAdd, Nat.reduceMul, forall_eq_or_imp, forall_eq, implies_true, Nat.reduceBEq, reduceCtorEq, false_implies, List.zip_cons_cons, List.zip_nil_left, List.zip_nil_right, Nat.reduceLeDiff, List.forall_mem_nil, rs_13, agg_24, sz_24, keyAV]


variable {Γ : FuncId → Contract}

noncomputable def refSigC : Contract := mkC (α := Sk) skOK (fun p => [p.k.av, .c (.sl (bytes p.text))]) (fun _ => []) (fun p => ⟨[.pv (.c (.str (signS p.k p.text).1)), .pv (.c (.int .i64 (signS p.k p.text).2.2))], []⟩)
theorem refSig_at (k : Ky) (text : List UInt8) (h1 : k.leaves.length ≤ 9223372036854775807) (h2 : text.length ≤ 1099511627776) :
    refSigC [.agg [.c (.str k.seed), .c (.sl (texts k.leaves)), .c (.int .i64 k.next)], .c (.sl (bytes text))] [] = some ⟨[.pv (.c (.str (signS k text).1)), .pv (.c (.int .i64 (signS k text).2.2))], []⟩ :=
  mkC_at (α := Sk) ⟨k, text⟩ ⟨h1, h2⟩ (by
    rintro ⟨k', t'⟩ _ h _
    simp only [List.cons.injEq, AV.c.injEq, PC.sl.injEq, and_true] at h
    have e : k' = k := Ky.av_inj (show k'.av = k.av from h.1)
    have e2 := bytes_inj h.2
    rw [e, e2])

set_option maxRecDepth 100000 in
set_option maxHeartbeats 4000000 in
theorem refSig_sound (hΓ : SoundG Try.prog Γ) (h1 : Γ 20 = keyC) (h2 : Γ 60 = pathC) (h3 : Γ 61 = putC) (h4 : Γ 62 = sgnC) : SoundC Try.prog 15 refSigC := by
  refine sound_fn Try.func15 (by kernel_rfl) rfl rfl ?_
  intro args objs r hr
  obtain ⟨⟨⟨seed, leaves, next⟩, text⟩, ⟨hl1, hl2⟩, rfl, rfl, rfl⟩ := mkC_inv hr
  have hl1 : leaves.length ≤ 9223372036854775807 := hl1
  have hl2 : text.length ≤ 1099511627776 := hl2
  refine ⟨rfl, by show 2 ≤ _; decide, fun E hN hns hF => ?_⟩
  refine vc_sound hΓ mixed _ _ _ ?_
  have hN := hN.trans nt_15
  have q1 := key_at ⟨seed, leaves, next⟩ hl1
  unfold Ky.av
  dsimp only at q1 ⊢
  by_cases hg : goodK ⟨seed, leaves, next⟩
  case neg =>
    have hK : keyS ⟨seed, leaves, next⟩ = 9 := if_neg hg
    have hS : signS ⟨seed, leaves, next⟩ text = ([], zeroK, 9) := if_neg hg
    rw [hK] at q1
    rw [hS]
    have b0 : ((9 : Int) != 0) = true := rfl
    simp only [runA, runB, runC, runD, runE, runF, fieldE, storeE, binE, ↓reduceIte, Nat.reduceLT, Nat.reduceLeDiff, Nat.reduceEqDiff, Nat.reduceAdd, Nat.reduceMul, Nat.reduceSub, reduceCtorEq, putAt, unE, Nat.reduceBEq, convE, buildE, List.replicate, Int.reduceLT, Int.reduceLE, Int.reduceToNat, mkE, mapSetE, hN, hF, ty_3, ty_5, ty_9, ty_22, ty_24, ty_25, notIf, isEq, h1, q1, b0]
    simp only [runB, finC, finD, Option.isSome_some, Option.isSome_none, ↓reduceIte, Nat.reduceEqDiff, Nat.reduceAdd, Nat.reduceMul, forall_eq_or_imp, forall_eq, implies_true, Nat.reduceBEq, reduceCtorEq, false_implies, List.zip_cons_cons, List.zip_nil_left, List.zip_nil_right, Nat.reduceLeDiff, List.forall_mem_nil, rs_15]
  have hK : keyS ⟨seed, leaves, next⟩ = 0 := if_pos hg
  rw [hK] at q1
  have b0 : ((0 : Int) != 0) = false := rfl
  by_cases hn : next = (leaves.length : Int)
  case pos =>
    have hS : signS ⟨seed, leaves, next⟩ text = ([], zeroK, 17) := by unfold signS; rw [if_pos hg, if_pos hn]
    rw [hS]
    have g1 : (next == (leaves.length : Int)) = true := by simpa using hn
    simp only [runA, runB, runC, runD, runE, runF, fieldE, storeE, binE, ↓reduceIte, Nat.reduceLT, Nat.reduceLeDiff, Nat.reduceEqDiff, Nat.reduceAdd, Nat.reduceMul, Nat.reduceSub, reduceCtorEq, putAt, unE, Nat.reduceBEq, convE, buildE, List.replicate, Int.reduceLT, Int.reduceLE, Int.reduceToNat, mkE, mapSetE, hN, hF, ty_3, ty_5, ty_9, ty_22, ty_24, ty_25, notIf, isEq, texts_length, h1, q1, b0, g1]
    simp only [runB, finC, finD, Option.isSome_some, Option.isSome_none, ↓reduceIte, Nat.reduceEqDiff, Nat.reduceAdd, Nat.reduceMul, forall_eq_or_imp, forall_eq, implies_true, Nat.reduceBEq, reduceCtorEq, false_implies, List.zip_cons_cons, List.zip_nil_left, List.zip_nil_right, Nat.reduceLeDiff, List.forall_mem_nil, rs_15]
  have g1 : (next == (leaves.length : Int)) = false := by simpa using hn
  have hS : signS ⟨seed, leaves, next⟩ text = (sigB ⟨seed, leaves, next⟩ text, ⟨seed, leaves, next + 1⟩, 0) := by unfold signS; rw [if_pos hg, if_neg hn]; rfl
  rw [hS]
  obtain ⟨_, p8, pl⟩ := path_good hg hn
  have hg0 := hg
  obtain ⟨a1, a2, a3, a4, a5⟩ := hg
  dsimp only at a1 a2 a3 a4 a5 p8 pl
  have q2 := path_at leaves next hg0.okl
  have q3 := sgn_at seed next text (by omega) hl2
  have hlg := (okN16_log a2).1
  have hsl : (sgnS seed next text).length = 11 := sgnT_length _ _ _ _
  have hs8 : all8 (sgnS seed next text) := sgnT_all8 _ _ _ _
  have hsb : sigB ⟨seed, leaves, next⟩ text = putB next 2 ++ (sgnS seed next text ++ (pathS leaves next).1).flatten := rfl
  rw [List.flatten_append] at hsb
  rw [hsb]
  generalize sgnS seed next text = L at hsl hs8 q3 ⊢
  generalize (pathS leaves next).1 = pth at q2 p8 pl ⊢
  generalize (pathS leaves next).2 = pe at q2
  generalize leaves.length.log2 = h at pl hlg
  have hpb := putB2 next
  have q5 : putC [.c (.int .i64 next), .c (.int .i64 2)] [] = some ⟨[.fresh 1 (bytes (putB next 2))], []⟩ := by simp [putC]
  generalize putB next 2 = pb at hpb q5 ⊢
  simp only [runA, runB, runC, runD, runE, runF, fieldE, storeE, binE, ↓reduceIte, Nat.reduceLT, Nat.reduceLeDiff, Nat.reduceEqDiff, Nat.reduceAdd, Nat.reduceMul, Nat.reduceSub, reduceCtorEq, putAt, unE, Nat.reduceBEq, convE, buildE, List.replicate, Int.reduceLT, Int.reduceLE, Int.reduceToNat, mkE, mapSetE, hN, hF, ty_3, ty_5, ty_9, ty_22, ty_24, ty_25, notIf, isEq, texts_length, h1, q1, b0, g1, h2, q2, h3, q5, h4, q3, bytesOf_bytes]
  refine AWP.loop (fun k st => ∃ i : Nat, i ≤ 11 ∧ k = 11 - i ∧ st = ⟨[(6, .c (.sl (texts pth))), (8, .c (.str (pb ++ (L.take i).flatten))), (9, .own 2434 1 (texts L)), (10, .c (.int .i64 (i : Int)))], [(2434, .row 1 11)]⟩) ⟨11, _, ?w, 0, Nat.zero_le _, rfl, rfl⟩ ?r
  case w =>
    rw [hns]
    simp only [runB, finC, finD, AS.get, AS.mem, false_implies, implies_true, ↓reduceIte, Nat.reduceEqDiff, Option.isSome_some, Option.isSome_none, forall_eq_or_imp, forall_eq, reduceCtorEq, Nat.reduceAdd, Nat.reduceMul, List.zip_cons_cons, List.zip_nil_left, List.zip_nil_right, List.forall_mem_nil, texts_length, hsl]
    first | done | simp
  case r =>
    rintro k st ⟨i, hi, rfl, rfl⟩
    refine vc_sound hΓ mixed _ _ _ ?_
    by_cases hlt : i < 11
    · have k1 : decide ((i : Int) < ((11 : Nat) : Int)) = true := by simp; omega
      have e1 : IntKind.i64.wrap ((i : Int) + 1) = (i : Int) + 1 := wrapI (by omega)
      have hgx := textsD L i (by omega)
      have h8 := all8_getD hs8 (i := i) (by omega)
      have hft := flatD_take L i (by omega)
      have hfl : (pb ++ (L.take i).flatten).length = 2 + 8 * i := by rw [List.length_append, hpb, all8_flat _ (all8_take hs8 i), List.length_take]; omega
      have hap2 : (pb ++ (L.take i).flatten) ++ L.getD i [] = pb ++ (L.take (i + 1)).flatten := by rw [List.append_assoc, hft]
      generalize L.getD i [] = s at hgx h8 hap2
      have hc2 : ((pb ++ (L.take i).flatten).length + s.length ≤ 9223372036854775807) = True := eq_true (by omega)
      generalize pb ++ (L.take i).flatten = bi at hfl hap2 hc2 ⊢
      simp only [runA, runB, runC, runD, runE, runF, fieldE, storeE, binE, ↓reduceIte, Nat.reduceLT, Nat.reduceLeDiff, Nat.reduceEqDiff, Nat.reduceAdd, Nat.reduceMul, Nat.reduceSub, reduceCtorEq, putAt, unE, Nat.reduceBEq, convE, buildE, List.replicate, Int.reduceLT, Int.reduceLE, Int.reduceToNat, mkE, mapSetE, hN, hF, ty_3, ty_5, ty_9, ty_22, ty_24, ty_25, notIf, isEq, texts_length, hsl, k1, e1, hgx, hc2, hap2]
      refine ⟨11 - (i + 1), _, by omega, ?_, i + 1, by omega, rfl, rfl⟩
      rw [hns]
      simp only [runB, finC, finD, AS.get, AS.mem, false_implies, implies_true, ↓reduceIte, Nat.reduceEqDiff, Option.isSome_some, Option.isSome_none, forall_eq_or_imp, forall_eq, reduceCtorEq, Nat.reduceAdd, Nat.reduceMul, List.zip_cons_cons, List.zip_nil_left, List.zip_nil_right, List.forall_mem_nil]
      first | done | simp
    · have k1 : decide ((i : Int) < ((11 : Nat) : Int)) = false := by simp; omega
      obtain rfl : i = 11 := by omega
      have htk : L.take 11 = L := List.take_of_length_le (by omega)
      rw [htk, ← List.append_assoc]
      have hfl : (pb ++ L.flatten).length = 90 := by rw [List.length_append, hpb, all8_flat _ hs8, hsl]
      generalize pb ++ L.flatten = b1 at hfl ⊢
      simp only [runA, runB, runC, runD, runE, runF, fieldE, storeE, binE, ↓reduceIte, Nat.reduceLT, Nat.reduceLeDiff, Nat.reduceEqDiff, Nat.reduceAdd, Nat.reduceMul, Nat.reduceSub, reduceCtorEq, putAt, unE, Nat.reduceBEq, convE, buildE, List.replicate, Int.reduceLT, Int.reduceLE, Int.reduceToNat, mkE, mapSetE, hN, hF, ty_3, ty_5, ty_9, ty_22, ty_24, ty_25, notIf, isEq, texts_length, hsl, k1]
      refine AWP.loop (fun k st => ∃ i : Nat, i ≤ h ∧ k = h - i ∧ st = ⟨[(6, .c (.sl (texts pth))), (8, .c (.str (b1 ++ (pth.take i).flatten))), (11, .c (.int .i64 (i : Int)))], []⟩) ⟨h, _, ?w2, 0, Nat.zero_le _, rfl, rfl⟩ ?r2
      case w2 =>
        rw [hns]
        simp only [runB, finC, finD, AS.get, AS.mem, false_implies, implies_true, ↓reduceIte, Nat.reduceEqDiff, Option.isSome_some, Option.isSome_none, forall_eq_or_imp, forall_eq, reduceCtorEq, Nat.reduceAdd, Nat.reduceMul, List.zip_cons_cons, List.zip_nil_left, List.zip_nil_right, List.forall_mem_nil]
        first | done | simp
      case r2 =>
        rintro k st ⟨i, hi, rfl, rfl⟩
        refine vc_sound hΓ mixed _ _ _ ?_
        by_cases hlt : i < h
        · have k1 : decide ((i : Int) < (h : Int)) = true := by simp; omega
          have e1 : IntKind.i64.wrap ((i : Int) + 1) = (i : Int) + 1 := wrapI (by omega)
          have hgx := textsD pth i (by omega)
          have h8 := all8_getD p8 (i := i) (by omega)
          have hft := flatD_take pth i (by omega)
          have hfl2 : (b1 ++ (pth.take i).flatten).length = 90 + 8 * i := by rw [List.length_append, hfl, all8_flat _ (all8_take p8 i), List.length_take]; omega
          have hap2 : (b1 ++ (pth.take i).flatten) ++ pth.getD i [] = b1 ++ (pth.take (i + 1)).flatten := by rw [List.append_assoc, hft]
          generalize pth.getD i [] = s at hgx h8 hap2
          have hc2 : ((b1 ++ (pth.take i).flatten).length + s.length ≤ 9223372036854775807) = True := eq_true (by omega)
          generalize b1 ++ (pth.take i).flatten = bi at hfl2 hap2 hc2 ⊢
          simp only [runA, runB, runC, runD, runE, runF, fieldE, storeE, binE, ↓reduceIte, Nat.reduceLT, Nat.reduceLeDiff, Nat.reduceEqDiff, Nat.reduceAdd, Nat.reduceMul, Nat.reduceSub, reduceCtorEq, putAt, unE, Nat.reduceBEq, convE, buildE, List.replicate, Int.reduceLT, Int.reduceLE, Int.reduceToNat, mkE, mapSetE, hN, hF, ty_3, ty_5, ty_9, ty_22, ty_24, ty_25, notIf, isEq, texts_length, pl, k1, e1, hgx, hc2, hap2]
          refine ⟨h - (i + 1), _, by omega, ?_, i + 1, by omega, rfl, rfl⟩
          rw [hns]
          simp only [runB, finC, finD, AS.get, AS.mem, false_implies, implies_true, ↓reduceIte, Nat.reduceEqDiff, Option.isSome_some, Option.isSome_none, forall_eq_or_imp, forall_eq, reduceCtorEq, Nat.reduceAdd, Nat.reduceMul, List.zip_cons_cons, List.zip_nil_left, List.zip_nil_right, List.forall_mem_nil]
          first | done | simp
        · have k1 : decide ((i : Int) < (h : Int)) = false := by simp; omega
          obtain rfl : i = h := by omega
          have htk : pth.take i = pth := List.take_of_length_le (by omega)
          rw [htk]
          simp only [runA, runB, runC, runD, runE, runF, fieldE, storeE, binE, ↓reduceIte, Nat.reduceLT, Nat.reduceLeDiff, Nat.reduceEqDiff, Nat.reduceAdd, Nat.reduceMul, Nat.reduceSub, reduceCtorEq, putAt, unE, Nat.reduceBEq, convE, buildE, List.replicate, Int.reduceLT, Int.reduceLE, Int.reduceToNat, mkE, mapSetE, hN, hF, ty_3, ty_5, ty_9, ty_22, ty_24, ty_25, notIf, isEq, texts_length, pl, k1]
          simp only [runB, finC, finD, Option.isSome_some, Option.isSome_none, ↓reduceIte, Nat.reduceEqDiff, Nat.reduceAdd, Nat.reduceMul, forall_eq_or_imp, forall_eq, implies_true, Nat.reduceBEq, reduceCtorEq, false_implies, List.zip_cons_cons, List.zip_nil_left, List.zip_nil_right, Nat.reduceLeDiff, List.forall_mem_nil, rs_15]

noncomputable def sameKC : Contract := mkC (α := Ky × Ky) (fun p => p.1.leaves.length ≤ 1099511627776) (fun p => [p.1.av, p.2.av]) (fun _ => []) (fun p => ⟨[.pv (.c (.bool (decide (p.1 = p.2))))], []⟩)
theorem getD_ext {a b : List (List UInt8)} (hl : a.length = b.length) (h : ∀ k, k < a.length → a.getD k [] = b.getD k []) : a = b := by
  refine List.ext_getElem hl fun i h1 h2 => ?_
  have := h i h1
  rw [List.getD, List.getD, List.getElem?_eq_getElem h1, List.getElem?_eq_getElem h2] at this
  exact this
set_option maxRecDepth 100000 in
set_option maxHeartbeats 4000000 in
theorem sameK_sound : SoundC Try.prog 14 sameKC := by
  refine sound_fn Try.func14 (by kernel_rfl) rfl rfl ?_
  intro args objs r hr
  obtain ⟨⟨⟨s1, l1, n1⟩, ⟨s2, l2, n2⟩⟩, hl, rfl, rfl, rfl⟩ := mkC_inv hr
  have hl : l1.length ≤ 1099511627776 := hl
  refine ⟨rfl, by show 2 ≤ _; decide, fun E hN hns hF => ?_⟩
  refine vc_sound none0_sound mixed _ _ _ ?_
  have hN := hN.trans nt_14
  unfold Ky.av
  dsimp only
  by_cases c1 : s1 = s2
  case neg =>
    have g1 : (s1 == s2) = false := by simpa using c1
    have hS : decide ((⟨s1, l1, n1⟩ : Ky) = ⟨s2, l2, n2⟩) = false := by simp [c1]
    simp only [runA, runB, runC, runD, runE, runF, fieldE, storeE, binE, ↓reduceIte, Nat.reduceLT, Nat.reduceLeDiff, Nat.reduceEqDiff, Nat.reduceAdd, Nat.reduceMul, Nat.reduceSub, reduceCtorEq, putAt, unE, Nat.reduceBEq, convE, buildE, List.replicate, Int.reduceLT, Int.reduceLE, Int.reduceToNat, mkE, mapSetE, hN, hF, ty_3, ty_4, ty_9, ty_22, ty_24, notIf, isEq, g1]
    simp only [runB, finC, finD, Option.isSome_some, Option.isSome_none, ↓reduceIte, Nat.reduceEqDiff, Nat.reduceAdd, Nat.reduceMul, forall_eq_or_imp, forall_eq, implies_true, Nat.reduceBEq, reduceCtorEq, false_implies, List.zip_cons_cons, List.zip_nil_left, List.zip_nil_right, Nat.reduceLeDiff, List.forall_mem_nil, rs_14, hS]
  have g1 : (s1 == s2) = true := by simpa using c1
  by_cases c2 : n1 = n2
  case neg =>
    have g2 : (n1 != n2) = true := by simpa using c2
    have hS : decide ((⟨s1, l1, n1⟩ : Ky) = ⟨s2, l2, n2⟩) = false := by simp [c2]
    simp only [runA, runB, runC, runD, runE, runF, fieldE, storeE, binE, ↓reduceIte, Nat.reduceLT, Nat.reduceLeDiff, Nat.reduceEqDiff, Nat.reduceAdd, Nat.reduceMul, Nat.reduceSub, reduceCtorEq, putAt, unE, Nat.reduceBEq, convE, buildE, List.replicate, Int.reduceLT, Int.reduceLE, Int.reduceToNat, mkE, mapSetE, hN, hF, ty_3, ty_4, ty_9, ty_22, ty_24, notIf, isEq, g1, g2]
    simp only [runB, finC, finD, Option.isSome_some, Option.isSome_none, ↓reduceIte, Nat.reduceEqDiff, Nat.reduceAdd, Nat.reduceMul, forall_eq_or_imp, forall_eq, implies_true, Nat.reduceBEq, reduceCtorEq, false_implies, List.zip_cons_cons, List.zip_nil_left, List.zip_nil_right, Nat.reduceLeDiff, List.forall_mem_nil, rs_14, hS]
  have g2 : (n1 != n2) = false := by simpa using c2
  by_cases c3 : l1.length = l2.length
  case neg =>
    have g3 : ((l1.length : Int) != (l2.length : Int)) = true := by rw [bne_iff_ne]; omega
    have hS : decide ((⟨s1, l1, n1⟩ : Ky) = ⟨s2, l2, n2⟩) = false := by
      rw [decide_eq_false_iff_not]
      intro e
      rw [Ky.mk.injEq] at e
      exact c3 (by rw [e.2.1])
    simp only [runA, runB, runC, runD, runE, runF, fieldE, storeE, binE, ↓reduceIte, Nat.reduceLT, Nat.reduceLeDiff, Nat.reduceEqDiff, Nat.reduceAdd, Nat.reduceMul, Nat.reduceSub, reduceCtorEq, putAt, unE, Nat.reduceBEq, convE, buildE, List.replicate, Int.reduceLT, Int.reduceLE, Int.reduceToNat, mkE, mapSetE, hN, hF, ty_3, ty_4, ty_9, ty_22, ty_24, notIf, isEq, texts_length, g1, g2, g3]
    simp only [runB, finC, finD, Option.isSome_some, Option.isSome_none, ↓reduceIte, Nat.reduceEqDiff, Nat.reduceAdd, Nat.reduceMul, forall_eq_or_imp, forall_eq, implies_true, Nat.reduceBEq, reduceCtorEq, false_implies, List.zip_cons_cons, List.zip_nil_left, List.zip_nil_right, Nat.reduceLeDiff, List.forall_mem_nil, rs_14, hS]
  have g3 : ((l1.length : Int) != (l2.length : Int)) = false := by rw [c3, bne_self_eq_false]
  simp only [runA, runB, runC, runD, runE, runF, fieldE, storeE, binE, ↓reduceIte, Nat.reduceLT, Nat.reduceLeDiff, Nat.reduceEqDiff, Nat.reduceAdd, Nat.reduceMul, Nat.reduceSub, reduceCtorEq, putAt, unE, Nat.reduceBEq, convE, buildE, List.replicate, Int.reduceLT, Int.reduceLE, Int.reduceToNat, mkE, mapSetE, hN, hF, ty_3, ty_4, ty_9, ty_22, ty_24, notIf, isEq, texts_length, g1, g2, g3]
  refine AWP.loop (fun k st => ∃ i : Nat, (i ≤ l1.length ∧ ∀ k, k < i → l1.getD k [] = l2.getD k []) ∧ k = l1.length - i ∧ st = ⟨[(2, .ptr 128 0), (3, .ptr 192 0), (5, .c (.int .i64 (i : Int)))], [(128, .obj [.c (.str s1), .c (.sl (texts l1)), .c (.int .i64 n1)] false), (192, .obj [.c (.str s2), .c (.sl (texts l2)), .c (.int .i64 n2)] false)]⟩) ⟨l1.length, _, ?w, 0, ⟨Nat.zero_le _, fun k hk => absurd hk (Nat.not_lt_zero k)⟩, rfl, rfl⟩ ?r
  case w =>
    rw [hns]
    simp only [runB, finC, finD, AS.get, AS.mem, false_implies, implies_true, ↓reduceIte, Nat.reduceEqDiff, Option.isSome_some, Option.isSome_none, forall_eq_or_imp, forall_eq, reduceCtorEq, Nat.reduceAdd, Nat.reduceMul, List.zip_cons_cons, List.zip_nil_left, List.zip_nil_right, List.forall_mem_nil]
    first | done | simp
  case r =>
    rintro k st ⟨i, ⟨hi, h8⟩, rfl, rfl⟩
    refine vc_sound none0_sound mixed _ _ _ ?_
    by_cases hlt : i < l1.length
    · have k1 : decide ((i : Int) < (l1.length : Int)) = true := by simpa using hlt
      have e1 : IntKind.i64.wrap ((i : Int) + 1) = (i : Int) + 1 := wrapI (by omega)
      have hg1 := textsD l1 i hlt
      have hg2 := textsD l2 i (by omega)
      by_cases he : l1.getD i [] = l2.getD i []
      · have k2 : (l1.getD i [] == l2.getD i []) = true := by simpa using he
        have h8' : ∀ k, k < i + 1 → l1.getD k [] = l2.getD k [] := fun k hk => by
          by_cases e : k = i
          · rw [e]; exact he
          · exact h8 k (by omega)
        generalize l1.getD i [] = x1 at hg1 k2
        generalize l2.getD i [] = x2 at hg2 k2
        simp only [runA, runB, runC, runD, runE, runF, fieldE, storeE, binE, ↓reduceIte, Nat.reduceLT, Nat.reduceLeDiff, Nat.reduceEqDiff, Nat.reduceAdd, Nat.reduceMul, Nat.reduceSub, reduceCtorEq, putAt, unE, Nat.reduceBEq, convE, buildE, List.replicate, Int.reduceLT, Int.reduceLE, Int.reduceToNat, mkE, mapSetE, hN, hF, ty_3, ty_4, ty_9, ty_22, ty_24, notIf, isEq, texts_length, k1, k2, e1, hg1, hg2]
        refine drawnP_intro (by kernel_rfl) (by kernel_rfl) ?_
        simp only [runA, runB, runC, runD, runE, runF, fieldE, storeE, binE, ↓reduceIte, Nat.reduceLT, Nat.reduceLeDiff, Nat.reduceEqDiff, Nat.reduceAdd, Nat.reduceMul, Nat.reduceSub, reduceCtorEq, putAt, unE, Nat.reduceBEq, convE, buildE, List.replicate, Int.reduceLT, Int.reduceLE, Int.reduceToNat, mkE, mapSetE, hN, hF, ty_3, ty_4, ty_9, ty_22, ty_24, notIf, isEq, texts_length, k2, e1]
        refine ⟨l1.length - (i + 1), _, by omega, ?_, i + 1, ⟨by omega, h8'⟩, rfl, rfl⟩
        rw [hns]
        simp only [runB, finC, finD, AS.get, AS.mem, false_implies, implies_true, ↓reduceIte, Nat.reduceEqDiff, Option.isSome_some, Option.isSome_none, forall_eq_or_imp, forall_eq, reduceCtorEq, Nat.reduceAdd, Nat.reduceMul, List.zip_cons_cons, List.zip_nil_left, List.zip_nil_right, List.forall_mem_nil]
        first | done | simp
      · have k2 : (l1.getD i [] == l2.getD i []) = false := by simpa using he
        have hS : decide ((⟨s1, l1, n1⟩ : Ky) = ⟨s2, l2, n2⟩) = false := by
          rw [decide_eq_false_iff_not]
          intro e
          rw [Ky.mk.injEq] at e
          exact he (by rw [e.2.1])
        generalize l1.getD i [] = x1 at hg1 k2
        generalize l2.getD i [] = x2 at hg2 k2
        simp only [runA, runB, runC, runD, runE, runF, fieldE, storeE, binE, ↓reduceIte, Nat.reduceLT, Nat.reduceLeDiff, Nat.reduceEqDiff, Nat.reduceAdd, Nat.reduceMul, Nat.reduceSub, reduceCtorEq, putAt, unE, Nat.reduceBEq, convE, buildE, List.replicate, Int.reduceLT, Int.reduceLE, Int.reduceToNat, mkE, mapSetE, hN, hF, ty_3, ty_4, ty_9, ty_22, ty_24, notIf, isEq, texts_length, k1, k2, e1, hg1, hg2]
        refine drawnP_intro (by kernel_rfl) (by kernel_rfl) ?_
        simp only [runA, runB, runC, runD, runE, runF, fieldE, storeE, binE, ↓reduceIte, Nat.reduceLT, Nat.reduceLeDiff, Nat.reduceEqDiff, Nat.reduceAdd, Nat.reduceMul, Nat.reduceSub, reduceCtorEq, putAt, unE, Nat.reduceBEq, convE, buildE, List.replicate, Int.reduceLT, Int.reduceLE, Int.reduceToNat, mkE, mapSetE, hN, hF, ty_3, ty_4, ty_9, ty_22, ty_24, notIf, isEq, texts_length, k2, e1]
        simp only [runB, finC, finD, Option.isSome_some, Option.isSome_none, ↓reduceIte, Nat.reduceEqDiff, Nat.reduceAdd, Nat.reduceMul, forall_eq_or_imp, forall_eq, implies_true, Nat.reduceBEq, reduceCtorEq, false_implies, List.zip_cons_cons, List.zip_nil_left, List.zip_nil_right, Nat.reduceLeDiff, List.forall_mem_nil, rs_14, hS]
    · have k1 : decide ((i : Int) < (l1.length : Int)) = false := by simpa using hlt
      have hll : l1 = l2 := getD_ext c3 (fun k hk => h8 k (by omega))
      have hS : decide ((⟨s1, l1, n1⟩ : Ky) = ⟨s2, l2, n2⟩) = true := by rw [c1, c2, hll]; simp
      simp only [runA, runB, runC, runD, runE, runF, fieldE, storeE, binE, ↓reduceIte, Nat.reduceLT, Nat.reduceLeDiff, Nat.reduceEqDiff, Nat.reduceAdd, Nat.reduceMul, Nat.reduceSub, reduceCtorEq, putAt, unE, Nat.reduceBEq, convE, buildE, List.replicate, Int.reduceLT, Int.reduceLE, Int.reduceToNat, mkE, mapSetE, hN, hF, ty_3, ty_4, ty_9, ty_22, ty_24, notIf, isEq, texts_length, k1]
      simp only [runB, finC, finD, Option.isSome_some, Option.isSome_none, ↓reduceIte, Nat.reduceEqDiff, Nat.reduceAdd, Nat.reduceMul, forall_eq_or_imp, forall_eq, implies_true, Nat.reduceBEq, reduceCtorEq, false_implies, List.zip_cons_cons, List.zip_nil_left, List.zip_nil_right, Nat.reduceLeDiff, List.forall_mem_nil, rs_14, hS]

end Go.Proofs.Ytldehcnaepgamaa.AM
