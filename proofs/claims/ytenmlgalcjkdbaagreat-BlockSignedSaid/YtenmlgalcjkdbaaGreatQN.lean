/-
  QN: Bs3.
-/
import Derived.Test.YtenmlgalcjkdbaaGreatQM
import Derived.Test.YtenmlgalcjkdbaaGreatQJ
import Derived.Test.YtenmlgalcjkdbaaGreatQG
import Derived.Test.YtenmlgalcjkdbaaGreatQB
set_option linter.unusedVariables false
set_option linter.unusedSimpArgs false
namespace Go.Proofs.YtenmlgalcjkdbaaGreat.AM
open Go

variable {Γ : FuncId → Contract}

def goods (l : List Txn) : List Txn := l.filter fun t => decide (okT t)
theorem goods_ok {l : List Txn} : ∀ t ∈ goods l, okT t := fun t h => by
  have := (List.mem_filter.1 h).2
  simpa using this
theorem goods_len (l : List Txn) (i : Nat) : (goods (l.take i)).length ≤ i := Nat.le_trans (List.length_filter_le _ _) (by simp; omega)
theorem goods_succ (l : List Txn) (i : Nat) (h : i < l.length) : goods (l.take (i + 1)) = goods (l.take i) ++ (if okT (l.getD i zeroT) then [l.getD i zeroT] else []) := by
  have : l.take (i + 1) = l.take i ++ [l.getD i zeroT] := by
    rw [List.take_add_one, List.getElem?_eq_getElem h]; simp [List.getD, h]
  rw [this]
  unfold goods
  rw [List.filter_append]
  congr 1
  by_cases hk : okT (l.getD i zeroT)
  · rw [if_pos hk, List.filter_cons_of_pos (by simpa using hk)]; rfl
  · rw [if_neg hk, List.filter_cons_of_neg (by simpa using hk)]; rfl
theorem txE_len {t : Txn} (h : okT t) : (txE t).length ≤ 4126 := by
  obtain ⟨_, _, _, _, _, _, _, h8⟩ := h
  unfold txE
  rw [List.length_append, List.length_append, txB_length, len2]
  omega
theorem txEs_len : ∀ {l : List Txn}, (∀ t ∈ l, okT t) → ((l.map txE).flatten).length ≤ 4126 * l.length
  | [], _ => by simp
  | t :: l, h => by
    have h1 := txE_len (h t (by simp))
    have h2 := txEs_len (l := l) (fun x hx => h x (by simp [hx]))
    simp only [List.map_cons, List.flatten_cons, List.length_append, List.length_cons]
    omega
def blkS (m : Nat) (l : List Txn) (sg : List UInt8) : Blk := ⟨(m : Int), 1, genS, ⟨0, 0, genS, []⟩, l, sg⟩
theorem blkS_ok {m : Nat} (hm : m < 8) {l : List Txn} (h4 : l.length ≤ 4) (hl : ∀ t ∈ l, okT t) {sg : List UInt8} (hs : sg.length ≤ 4096) : okB (blkS m l sg) :=
  ⟨⟨by show (0 : Int) ≤ (m : Int); omega, by show (m : Int) ≤ 1048576; omega⟩, ⟨by show (1 : Int) ≤ 1; omega, by show (1 : Int) ≤ 1048576; omega⟩, by show genS.length = 32; decide, rfl, rfl, ⟨by show (0 : Int) ≤ 0; omega, by show (0 : Int) ≤ (m : Int); omega⟩, h4, hl, hs⟩
theorem blkS_okBk {m : Nat} (hm : m < 8) {l : List Txn} (h4 : l.length ≤ 4) (hl : ∀ t ∈ l, okT t) {sg : List UInt8} (hs : sg.length ≤ 4096) : okBk (blkS m l sg) :=
  ⟨blkS_ok hm h4 hl hs, by show ([] : List Vt).length ≤ 7; decide, fun v hv => by cases hv⟩
theorem nameS_sig {m : Nat} (hm : m < 8) {l : List Txn} (h4 : l.length ≤ 4) (hl : ∀ t ∈ l, okT t) {sg : List UInt8} (hs : sg.length ≤ 4096) : nameS (blkS m l sg) = nameS (blkS m l []) := by
  have e1 := blkS_ok hm h4 hl hs
  have e2 := blkS_ok hm h4 hl (sg := []) (by simp)
  unfold nameS bkT
  rw [if_pos e1, if_pos e2, if_pos e1, if_pos e2]
  rfl
theorem blkE_len {m : Nat} {l : List Txn} (hl : ∀ t ∈ l, okT t) {sg : List UInt8} (hs : sg.length = 122) (h2 : l.length ≤ 2) : (bkE (blkS m l sg)).length ≤ 16384 := by
  have h := txEs_len hl
  have hg : genS.length = 32 := by decide
  simp only [bkE, blkS, ctE, List.length_append, len2, len6, List.length_cons, List.length_nil, List.map_nil, List.flatten_nil, hs, hg]
  omega
theorem ldS_mod (m : Nat) : ldS (m : Int) 4 = ((m % 4 : Nat) : Int) := by
  unfold ldS
  rw [if_neg (by omega), Int.tmod_eq_emod_of_nonneg (by omega)]
  rfl
theorem va_first {m : Nat} (hm : m < 8) {l : List Txn} (h4 : l.length ≤ 4) (hl : ∀ t ∈ l, okT t) {sg : List UInt8} (hs : sg.length ≤ 4096) {ro : List (List UInt8)} {rt : List UInt8} {q : Int} (hr : ro.length = 4) (hg : ro.getD (m % 4) [] = rt) (hv : (verS rt 4 (nameS (blkS m l [])) sg).2 = true) : vaS (blkS m l sg) ⟨ro, [], q, 0, 0⟩ = decide (l = []) := by
  have e1 := blkS_ok hm h4 hl hs
  have e2 : sgS (blkS m l sg) ro = true := by
    unfold sgS
    rw [if_neg (by intro e; rw [e] at hr; cases hr), hr, nameS_sig hm h4 hl hs]
    show (verS (ro.getD (ldS (m : Int) ((4 : Nat) : Int)).toNat []) 4 _ sg).2 = true
    rw [show ldS (m : Int) ((4 : Nat) : Int) = ((m % 4 : Nat) : Int) from ldS_mod m, Int.toNat_natCast, hg]
    exact hv
  have e3 : ctS (blkS m l sg).ju ro q = 0 := if_pos ⟨rfl, rfl⟩
  unfold vaS
  rw [decide_eq_true e1, Bool.true_and]
  show (sgS (blkS m l sg) ro && (decide (ctS (blkS m l sg).ju ro q = 0) && _)) = _
  rw [e2, e3, decide_eq_true (rfl : (0 : Int) = 0), Bool.true_and, Bool.true_and]
  show (l.all fun t => validT t []) = _
  cases l with
  | nil => rfl
  | cons t l =>
    have ht := (hl t (by simp)).1.1
    have hf : validT t [] = false := by
      unfold validT
      have : decide (t.fr < ((([] : List (List UInt8)).length : Nat) : Int)) = false := decide_eq_false (by show ¬ t.fr < ((0 : Nat) : Int); omega)
      rw [this]
      simp
    rw [List.all_cons, hf]
    rfl
noncomputable def bsC : Contract := mkC (α := Int × List Txn × Int) (fun p => p.2.1.length ≤ 9223372036854775807) (fun p => [.c (.int .i64 p.1), .c (.sl (trows p.2.1)), .c (.int .i64 p.2.2)]) (fun _ => []) (fun _ => ⟨[.pv (.c (.bool true))], []⟩)

set_option maxRecDepth 100000 in
set_option maxHeartbeats 8000000 in
theorem bs_sound (hΓ : SoundG Tryz.prog Γ) (h1 : Γ 7 = alive10C) (h2 : Γ 8 = voKeyC) (h3 : Γ 9 = genC) (h4 : Γ 10 = txCkC) (h5 : Γ 11 = bkSnC) (h6 : Γ 12 = rootKC) (h7 : Γ 13 = newC) (h8 : Γ 14 = bkPutC) (h9 : Γ 15 = doneC) (h10 : Γ 16 = bkNC) (h11 : Γ 17 = bkNC) (h12 : Γ 20 = openC) (h13 : Γ 19 = bkRdC) (h14 : Γ 18 = sbRC) (h15 : Γ 21 = bVaC) : SoundC Tryz.prog 3 bsC := by
  refine sound_fnA ⟨[70], [(14, .frzAt 15 0 1)]⟩ Tryz.func3 (by kernel_rfl) rfl rfl ?_
  intro args objs r0 hr
  obtain ⟨⟨view, txs, quorum⟩, hl, rfl, rfl, rfl⟩ := mkC_inv hr
  refine ⟨rfl, by show 3 ≤ _; decide, fun E hN hns hF => ?_⟩
  refine vc_sound hΓ mixed _ _ _ ?_
  have hN := hN.trans nt_3
  have hl : txs.length ≤ 9223372036854775807 := hl
  have qa : alive10C [] [] = some ⟨[.pv (.c (.bool true))], []⟩ := rfl
  have q0 : genC [] [] = some ⟨[.pv (.c (.str genS))], []⟩ := rfl
  obtain ⟨q, hq⟩ : ∃ q, q = view.tmod 8 := ⟨_, rfl⟩
  have hq3 : -8 < q ∧ q < 8 := by rw [hq]; exact ⟨Int.lt_tmod_of_pos view (by decide), Int.tmod_lt_of_pos view (by decide)⟩
  have e1 : IntKind.i64.wrap (q + 8) = q + 8 := wrapI (by omega)
  obtain ⟨m, hm⟩ : ∃ m : Nat, (q + 8).tmod 8 = (m : Int) := ⟨((q + 8).tmod 8).toNat, by rw [Int.tmod_eq_emod_of_nonneg (by omega)]; omega⟩
  have hm8 : m < 8 := by rw [Int.tmod_eq_emod_of_nonneg (by omega)] at hm; omega
  have e8 : ((8 : Int) = 0) = False := by simp
  have e4 : ((4 : Int) = 0) = False := by simp
  obtain ⟨k, hk⟩ : ∃ k : Nat, k = m % 4 := ⟨_, rfl⟩
  have hk4 : k < 4 := by omega
  have hmk : ((m : Int)).tmod 4 = (k : Int) := by rw [Int.tmod_eq_emod_of_nonneg (by omega), hk]; rfl
  have q1 := voKey_at (k : Int)
  rw [show voKeyK (k : Int) = ⟨rsd k, leavesS (rsd k) 16, 0⟩ from if_pos (by omega)] at q1
  have hcl : (rsd k).length ≤ 64 := by simp [rsd]
  have hgd : goodK ⟨rsd k, leavesS (rsd k) 16, 0⟩ := good_new (rsd k) 4 0 hcl (by decide) (by omega)
  have hll := leavesS_length (rsd k) 16
  generalize rsd k = sd at *
  unfold Ky.av at q1
  dsimp only at q1
  obtain ⟨L, hL⟩ : ∃ L, L = leavesS sd 16 := ⟨_, rfl⟩
  rw [← hL] at q1
  obtain ⟨G, hG⟩ : ∃ G, G = genS := ⟨_, rfl⟩
  rw [← hG] at q0
  simp only [runA, runB, runC, runD, runE, runF, fieldE, storeE, binE, ↓reduceIte, Nat.reduceLT, Nat.reduceLeDiff, Nat.reduceEqDiff, Nat.reduceAdd, Nat.reduceMul, Nat.reduceSub, reduceCtorEq, putAt, unE, Nat.reduceBEq, convE, buildE, List.replicate, Int.reduceLT, Int.reduceLE, Int.reduceToNat, mkE, mapSetE, hN, hF, ty_3, ty_4, ty_5, ty_9, ty_22, ty_24, ty_26, ty_29, ty_31, ty_33, ty_36, ty_37, ty_43, ty_44, ty_47, ty_53, notIf, isEq, h1, qa, h2, q1, h3, q0, ← hq, e1, hm, e8, e4, hmk]
  iterate 3 (try (refine drawnP_intro (by kernel_rfl) (by kernel_rfl) ?_; simp only [runA, runB, runC, runD, runE, runF, fieldE, storeE, binE, ↓reduceIte, Nat.reduceLT, Nat.reduceLeDiff, Nat.reduceEqDiff, Nat.reduceAdd, Nat.reduceMul, Nat.reduceSub, reduceCtorEq, putAt, unE, Nat.reduceBEq, convE, buildE, List.replicate, Int.reduceLT, Int.reduceLE, Int.reduceToNat, mkE, mapSetE, hN, hF, ty_3, ty_4, ty_5, ty_9, ty_22, ty_24, ty_26, ty_29, ty_31, ty_33, ty_36, ty_37, ty_43, ty_44, ty_47, ty_53, notIf, isEq, h1, qa, h2, q1, h3, q0, ← hq, e1, hm, e8, e4, hmk]))
  refine AWP.loop (fun c st => ∃ i : Nat, i ≤ 4 ∧ c = 4 - i ∧ st = ⟨[(0, .c (.int .i64 (m : Int))), (1, .c (.sl (trows txs))), (2, .c (.int .i64 quorum)), (6, .c (.bool false)), (7, .ptr 448 0), (8, .ptr 512 0), (9, .c (.int .i64 (i : Int)))],
    [(448, .obj [.c (.str sd), .c (.sl (texts L)), .c (.int .i64 0)] false), (512, .obj [.c (.int .i64 (m : Int)), .c (.int .i64 1), .c (.str G), .c (.int .i64 0), .c (.int .i64 0), .c (.str G), .nilsl, .own 3585 5 (trows (goods (txs.take i))), .c (.str [])] false), (3585, .row 5 (goods (txs.take i)).length)]⟩) ⟨4, _, ?w, 0, Nat.zero_le _, rfl, rfl⟩ ?r
  case w =>
    rw [hns]
    simp only [runB, finC, finD, AS.get, AS.mem, false_implies, implies_true, ↓reduceIte, Nat.reduceEqDiff, Option.isSome_some, Option.isSome_none, forall_eq_or_imp, forall_eq, reduceCtorEq, Nat.reduceAdd, Nat.reduceMul, List.zip_cons_cons, List.zip_nil_left, List.zip_nil_right, List.forall_mem_nil, goods, List.take_zero, List.filter_nil, show trows [] = [] from rfl, Int.ofNat_zero]
    first | done | simp
  case r =>
    rintro c st ⟨i, hi, rfl, rfl⟩
    refine vc_sound hΓ mixed _ _ _ ?_
    have hgl := goods_len txs i
    have hgo : ∀ t ∈ goods (txs.take i), okT t := goods_ok
    by_cases hlt : i < txs.length ∧ i < 4
    · obtain ⟨hlt, hl4⟩ := hlt
      have k1 : decide ((i : Int) < (txs.length : Int)) = true := by simpa using hlt
      have k2 : decide ((i : Int) < 4) = true := decide_eq_true (by omega)
      have e2 : IntKind.i64.wrap ((i : Int) + 1) = (i : Int) + 1 := wrapI (by omega)
      have hi2 : ((i : Int) < (txs.length : Int)) = True := eq_true (by omega)
      have htl := trows_length txs
      have hty : (trows txs)[i]? = some [.int .i64 (txs.getD i zeroT).fr, .int .i64 (txs.getD i zeroT).to, .int .i64 (txs.getD i zeroT).am, .int .i64 (txs.getD i zeroT).no, .str (txs.getD i zeroT).sig] := trowsD txs i hlt
      have q4 := txCk_at (txs.getD i zeroT)
      have hgs := goods_succ txs i hlt
      generalize txs.getD i zeroT = y at hty q4 hgs
      obtain ⟨y1, y2, y3, y4, y5⟩ := y
      dsimp only at hty q4
      by_cases hk : okT ⟨y1, y2, y3, y4, y5⟩
      · rw [if_pos hk] at hgs
        rw [show txS ⟨y1, y2, y3, y4, y5⟩ = 0 from if_pos hk] at q4
        generalize goods (txs.take i) = Q at *
        have happ : trows Q ++ [[PC.int .i64 y1, .int .i64 y2, .int .i64 y3, .int .i64 y4, .str y5]] = trows (Q ++ [⟨y1, y2, y3, y4, y5⟩]) := by simp [trows, Txn.pcs]
        have hz : rowsOK 5 [[PC.int .i64 y1, .int .i64 y2, .int .i64 y3, .int .i64 y4, .str y5]] := by
          intro r hr
          rw [List.mem_singleton] at hr
          rw [hr]; rfl
        have hL2 : ((Q.length + 1) * 48 ≤ 140737488355328) = True := eq_true (by omega)
        have hql := trows_length Q
        have b0 : ((0 : Int) == 0) = true := rfl
        simp only [runA, runB, runC, runD, runE, runF, fieldE, storeE, binE, ↓reduceIte, Nat.reduceLT, Nat.reduceLeDiff, Nat.reduceEqDiff, Nat.reduceAdd, Nat.reduceMul, Nat.reduceSub, reduceCtorEq, putAt, unE, Nat.reduceBEq, convE, buildE, List.replicate, Int.reduceLT, Int.reduceLE, Int.reduceToNat, mkE, mapSetE, hN, hF, ty_3, ty_4, ty_5, ty_9, ty_22, ty_24, ty_26, ty_29, ty_31, ty_33, ty_36, ty_37, ty_43, ty_44, ty_47, ty_53, notIf, isEq, k1, k2, hi2, htl, hty, h4, q4, b0, e2, hz, hL2, hql, happ]
        iterate 3 (try (refine drawnP_intro (by kernel_rfl) (by kernel_rfl) ?_; simp only [runA, runB, runC, runD, runE, runF, fieldE, storeE, binE, ↓reduceIte, Nat.reduceLT, Nat.reduceLeDiff, Nat.reduceEqDiff, Nat.reduceAdd, Nat.reduceMul, Nat.reduceSub, reduceCtorEq, putAt, unE, Nat.reduceBEq, convE, buildE, List.replicate, Int.reduceLT, Int.reduceLE, Int.reduceToNat, mkE, mapSetE, hN, hF, ty_3, ty_4, ty_5, ty_9, ty_22, ty_24, ty_26, ty_29, ty_31, ty_33, ty_36, ty_37, ty_43, ty_44, ty_47, ty_53, notIf, isEq, k1, k2, hi2, htl, hty, h4, q4, b0, e2, hz, hL2, hql, happ]))
        refine ⟨4 - (i + 1), _, by omega, ?_, i + 1, by omega, rfl, rfl⟩
        rw [hns, hgs]
        simp only [runB, finC, finD, AS.get, AS.mem, false_implies, implies_true, ↓reduceIte, Nat.reduceEqDiff, Option.isSome_some, Option.isSome_none, forall_eq_or_imp, forall_eq, reduceCtorEq, Nat.reduceAdd, Nat.reduceMul, List.zip_cons_cons, List.zip_nil_left, List.zip_nil_right, List.forall_mem_nil, List.length_append, List.length_cons, List.length_nil]
        first | done | simp
      · rw [if_neg hk, List.append_nil] at hgs
        rw [show txS ⟨y1, y2, y3, y4, y5⟩ = 9 from if_neg hk] at q4
        obtain ⟨Q, hQ⟩ : ∃ Q, Q = goods (txs.take (i + 1)) := ⟨_, rfl⟩
        rw [← hgs, ← hQ]
        have b0 : ((9 : Int) == 0) = false := rfl
        simp only [runA, runB, runC, runD, runE, runF, fieldE, storeE, binE, ↓reduceIte, Nat.reduceLT, Nat.reduceLeDiff, Nat.reduceEqDiff, Nat.reduceAdd, Nat.reduceMul, Nat.reduceSub, reduceCtorEq, putAt, unE, Nat.reduceBEq, convE, buildE, List.replicate, Int.reduceLT, Int.reduceLE, Int.reduceToNat, mkE, mapSetE, hN, hF, ty_3, ty_4, ty_5, ty_9, ty_22, ty_24, ty_26, ty_29, ty_31, ty_33, ty_36, ty_37, ty_43, ty_44, ty_47, ty_53, notIf, isEq, k1, k2, hi2, htl, hty, h4, q4, b0, e2]
        iterate 3 (try (refine drawnP_intro (by kernel_rfl) (by kernel_rfl) ?_; simp only [runA, runB, runC, runD, runE, runF, fieldE, storeE, binE, ↓reduceIte, Nat.reduceLT, Nat.reduceLeDiff, Nat.reduceEqDiff, Nat.reduceAdd, Nat.reduceMul, Nat.reduceSub, reduceCtorEq, putAt, unE, Nat.reduceBEq, convE, buildE, List.replicate, Int.reduceLT, Int.reduceLE, Int.reduceToNat, mkE, mapSetE, hN, hF, ty_3, ty_4, ty_5, ty_9, ty_22, ty_24, ty_26, ty_29, ty_31, ty_33, ty_36, ty_37, ty_43, ty_44, ty_47, ty_53, notIf, isEq, k1, k2, hi2, htl, hty, h4, q4, b0, e2]))
        refine ⟨4 - (i + 1), _, by omega, ?_, i + 1, by omega, rfl, rfl⟩
        rw [hns, ← hQ]
        simp only [runB, finC, finD, AS.get, AS.mem, false_implies, implies_true, ↓reduceIte, Nat.reduceEqDiff, Option.isSome_some, Option.isSome_none, forall_eq_or_imp, forall_eq, reduceCtorEq, Nat.reduceAdd, Nat.reduceMul, List.zip_cons_cons, List.zip_nil_left, List.zip_nil_right, List.forall_mem_nil]
        first | done | simp
    · generalize goods (txs.take i) = Q at *
      have hQ4 : Q.length ≤ 4 := by omega
      have hok := blkS_ok hm8 hQ4 hgo (sg := []) (by simp)
      have hN0 : ∀ N, signS ⟨sd, L, 0⟩ N = (sigB ⟨sd, L, 0⟩ N, ⟨sd, L, 1⟩, 0) := by
        intro N
        rw [hL]
        unfold signS
        rw [if_pos hgd, if_neg (by show ¬ ((0 : Int) = ((leavesS sd 16).length : Int)); rw [hll]; omega)]
        rfl
      have hlen : ∀ N, (sigB ⟨sd, L, 0⟩ N).length = 122 := by
        intro N; rw [hL]; exact sigB_len sd 4 0 N hcl (by decide) (by decide)
      have hvs : (verS (rootS L) 4 (nameS (blkS m Q [])) (sigB ⟨sd, L, 0⟩ (nameS (blkS m Q [])))).2 = true := by
        rw [hL]
        have h := ver_sig sd 4 0 (nameS (blkS m Q [])) hcl (by decide) (by decide) hgd
        exact congrArg Prod.snd h
      have hsB : signB ⟨sd, L, 0⟩ (blkS m Q []) = (blkS m Q (sigB ⟨sd, L, 0⟩ (nameS (blkS m Q []))), ⟨sd, L, 1⟩, 0) := by
        unfold signB
        rw [if_pos hok, hN0, if_pos rfl]
        rfl
      have hL16 : L.length = 16 := by rw [hL]; exact hll
      have q5 := bkSn_at ⟨sd, L, 0⟩ (blkS m Q []) (by show L.length ≤ _; omega) (by show Q.length ≤ _; omega) (by show ([] : List Vt).length ≤ _; simp)
      rw [hsB] at q5
      have q6 := rootK_at ⟨sd, L, 0⟩ (by show L.length ≤ _; omega)
      rw [show rootK ⟨sd, L, 0⟩ = (rootS L, 0) from by rw [hL]; exact if_pos hgd] at q6
      have hs122 := hlen (nameS (blkS m Q []))
      generalize sigB ⟨sd, L, 0⟩ (nameS (blkS m Q [])) = sg at *
      generalize rootS L = rt at *
      have hXb := blkS_okBk hm8 hQ4 hgo (sg := sg) (by omega)
      have q8 := bkPut_at ⟨[], 0⟩ (m : Int) 1 genS 0 0 genS [] Q sg (by simp) (by decide) (by omega) (fun t ht => by have := (hgo t ht).2.2.2.2.2.2.2; omega) (by decide) (by simp) (by intro t ht; cases ht) (by omega)
      have hwr := Wr.bk Wr.start hXb
      rw [List.nil_append] at hwr
      rw [show (⟨(m : Int), 1, genS, ⟨0, 0, genS, []⟩, Q, sg⟩ : Blk) = blkS m Q sg from rfl] at q8
      have hdn := hwr.done
      have q9 := done_atw (bkP ⟨[], 0⟩ (blkS m Q sg))
      rw [hdn] at q9
      have q10 := bkN_at (m : Int) 1 genS 0 0 genS [] Q sg (by omega)
      rw [show (⟨(m : Int), 1, genS, ⟨0, 0, genS, []⟩, Q, sg⟩ : Blk) = blkS m Q sg from rfl, nameS_sig hm8 hQ4 hgo (by omega)] at q10
      have q11 := bkN_at (m : Int) 1 genS 0 0 genS [] Q [] (by omega)
      rw [show (⟨(m : Int), 1, genS, ⟨0, 0, genS, []⟩, Q, []⟩ : Blk) = blkS m Q [] from rfl] at q11
      have hrd := readB_put hXb []
      rw [List.append_nil] at hrd
      have hel : Q.length ≤ 2 → (bkE (blkS m Q sg)).length ≤ 16384 := blkE_len hgo hs122
      have q14 := sbR_at (blkS m Q sg) (blkS m Q sg) ⟨by show Q.length ≤ _; omega, by show ([] : List Vt).length ≤ _; simp⟩ ⟨by show Q.length ≤ _; omega, by show ([] : List Vt).length ≤ _; simp⟩
      rw [decide_eq_true (rfl : blkS m Q sg = blkS m Q sg)] at q14
      have hva : ∀ ro : List (List UInt8), ro.length = 4 → ro.getD (m % 4) [] = rt → vaS (blkS m Q sg) ⟨ro, [], quorum, 0, 0⟩ = decide (Q = []) := fun ro r1 r2 => va_first hm8 hQ4 hgo (by omega) r1 r2 hvs
      have q13 := bkRd_at ⟨bkE (blkS m Q sg), 0⟩
      rw [hrd] at q13
      have q12 := open_atr (bkE (blkS m Q sg))
      generalize bkE (blkS m Q sg) = O at *
      generalize nameS (blkS m Q []) = NM at *
      generalize bkP ⟨[], 0⟩ (blkS m Q sg) = WW at *
      obtain ⟨WB, WE⟩ := WW
      unfold blkS at q5 q13 q14
      unfold Blk.av Ky.av at q5
      unfold Blk.av at q13
      have vn : votes [] = [] := rfl
      dsimp only at q5 q6 q8 q9 q13 q14
      simp only [vn, ← hG] at q5 q8 q10 q11 q13 q14
      have hbs : ∀ x : List UInt8, (x != x) = false := fun x => by simp
      have bb : ∀ x : Bool, (x == x) = true := fun x => by simp
      have b0 : ((0 : Int) != 0) = false := rfl
      have b5 : ((5 : Int) != 0) = true := rfl
      have hz : ((Q.length : Int) == 0) = decide (Q = []) := by cases Q <;> simp <;> omega
      have hql := trows_length Q
      have cc0 : ((0 : Int) < ((4 : Nat) : Int)) = True := eq_true (by decide)
      have cc1 : ((1 : Int) < ((4 : Nat) : Int)) = True := eq_true (by decide)
      have cc2 : ((2 : Int) < ((4 : Nat) : Int)) = True := eq_true (by decide)
      have cc3 : ((3 : Int) < ((4 : Nat) : Int)) = True := eq_true (by decide)
      by_cases hlt2 : i < txs.length
      · have k1 : decide ((i : Int) < (txs.length : Int)) = true := by simpa using hlt2
        have k2 : decide ((i : Int) < 4) = false := decide_eq_false (by have : ¬ i < 4 := fun h => hlt ⟨hlt2, h⟩; omega)
        have htl := trows_length txs
        rcases (show k = 0 ∨ k = 1 ∨ k = 2 ∨ k = 3 by omega) with hk0 | hk0 | hk0 | hk0
        · have hmk2 : ((m : Int)).tmod 4 = 0 := by rw [hmk, hk0]; rfl
          have q15 := bVa_at (m : Int) 1 genS 0 0 genS [] Q sg [rt, [], [], []] [] quorum 0 0 (by omega) (by simp) (by simp) (by simp)
          rw [show (⟨(m : Int), 1, genS, ⟨0, 0, genS, []⟩, Q, sg⟩ : Blk) = blkS m Q sg from rfl, hva _ rfl (by rw [← hk, hk0]; rfl)] at q15
          simp only [vn, ← hG, texts, List.map_cons, List.map_nil] at q15
          by_cases hO : O.length ≤ 16384
          · rw [if_pos hO] at q9
            replace q12 := q12 (by omega)
            replace q13 := q13 (by show O.length ≤ _; omega)
            dsimp only at q9
            simp only [runA, runB, runC, runD, runE, runF, fieldE, storeE, binE, ↓reduceIte, Nat.reduceLT, Nat.reduceLeDiff, Nat.reduceEqDiff, Nat.reduceAdd, Nat.reduceMul, Nat.reduceSub, reduceCtorEq, putAt, unE, Nat.reduceBEq, convE, buildE, List.replicate, Int.reduceLT, Int.reduceLE, Int.reduceToNat, mkE, mapSetE, hN, hF, ty_3, ty_4, ty_5, ty_9, ty_22, ty_24, ty_26, ty_29, ty_31, ty_33, ty_36, ty_37, ty_43, ty_44, ty_47, ty_53, notIf, isEq, k1, k2, htl, h5, q5, h6, q6, h7, newC, h8, q8, h9, q9, h10, q10, h11, q11, b0, b5, hbs, hql, doHint, cc0, cc1, cc2, cc3, Nat.zero_lt_one, hmk2, e4, List.set_cons_zero, List.set_cons_succ, ne_eq, not_false_eq_true]
            iterate 6 (try (refine drawnP_intro (by kernel_rfl) (by kernel_rfl) ?_; simp only [runA, runB, runC, runD, runE, runF, fieldE, storeE, binE, ↓reduceIte, Nat.reduceLT, Nat.reduceLeDiff, Nat.reduceEqDiff, Nat.reduceAdd, Nat.reduceMul, Nat.reduceSub, reduceCtorEq, putAt, unE, Nat.reduceBEq, convE, buildE, List.replicate, Int.reduceLT, Int.reduceLE, Int.reduceToNat, mkE, mapSetE, hN, hF, ty_3, ty_4, ty_5, ty_9, ty_22, ty_24, ty_26, ty_29, ty_31, ty_33, ty_36, ty_37, ty_43, ty_44, ty_47, ty_53, notIf, isEq, k1, k2, htl, h5, q5, h6, q6, h7, newC, h8, q8, h9, q9, h10, q10, h11, q11, b0, b5, hbs, hql, doHint, cc0, cc1, cc2, cc3, Nat.zero_lt_one, hmk2, e4, List.set_cons_zero, List.set_cons_succ, ne_eq, not_false_eq_true, h12, q12, h13, q13, h14, q14, h15, q15, hz, bb]))
            simp only [runB, finC, finD, Option.isSome_some, Option.isSome_none, ↓reduceIte, Nat.reduceEqDiff, Nat.reduceAdd, Nat.reduceMul, forall_eq_or_imp, forall_eq, implies_true, Nat.reduceBEq, reduceCtorEq, false_implies, List.zip_cons_cons, List.zip_nil_left, List.zip_nil_right, Nat.reduceLeDiff, List.forall_mem_nil, rs_3]
          · rw [if_neg hO] at q9
            have h3 : decide ((Q.length : Int) > 2) = true := decide_eq_true (by
              have : ¬ Q.length ≤ 2 := fun h => hO (hel h)
              omega)
            dsimp only at q9
            simp only [runA, runB, runC, runD, runE, runF, fieldE, storeE, binE, ↓reduceIte, Nat.reduceLT, Nat.reduceLeDiff, Nat.reduceEqDiff, Nat.reduceAdd, Nat.reduceMul, Nat.reduceSub, reduceCtorEq, putAt, unE, Nat.reduceBEq, convE, buildE, List.replicate, Int.reduceLT, Int.reduceLE, Int.reduceToNat, mkE, mapSetE, hN, hF, ty_3, ty_4, ty_5, ty_9, ty_22, ty_24, ty_26, ty_29, ty_31, ty_33, ty_36, ty_37, ty_43, ty_44, ty_47, ty_53, notIf, isEq, k1, k2, htl, h5, q5, h6, q6, h7, newC, h8, q8, h9, q9, h10, q10, h11, q11, b0, b5, hbs, hql, doHint, cc0, cc1, cc2, cc3, Nat.zero_lt_one, hmk2, e4, List.set_cons_zero, List.set_cons_succ, ne_eq, not_false_eq_true, h3]
            iterate 6 (try (refine drawnP_intro (by kernel_rfl) (by kernel_rfl) ?_; simp only [runA, runB, runC, runD, runE, runF, fieldE, storeE, binE, ↓reduceIte, Nat.reduceLT, Nat.reduceLeDiff, Nat.reduceEqDiff, Nat.reduceAdd, Nat.reduceMul, Nat.reduceSub, reduceCtorEq, putAt, unE, Nat.reduceBEq, convE, buildE, List.replicate, Int.reduceLT, Int.reduceLE, Int.reduceToNat, mkE, mapSetE, hN, hF, ty_3, ty_4, ty_5, ty_9, ty_22, ty_24, ty_26, ty_29, ty_31, ty_33, ty_36, ty_37, ty_43, ty_44, ty_47, ty_53, notIf, isEq, k1, k2, htl, h5, q5, h6, q6, h7, newC, h8, q8, h9, q9, h10, q10, h11, q11, b0, b5, hbs, hql, doHint, cc0, cc1, cc2, cc3, Nat.zero_lt_one, hmk2, e4, List.set_cons_zero, List.set_cons_succ, ne_eq, not_false_eq_true, h3]))
            simp only [runB, finC, finD, Option.isSome_some, Option.isSome_none, ↓reduceIte, Nat.reduceEqDiff, Nat.reduceAdd, Nat.reduceMul, forall_eq_or_imp, forall_eq, implies_true, Nat.reduceBEq, reduceCtorEq, false_implies, List.zip_cons_cons, List.zip_nil_left, List.zip_nil_right, Nat.reduceLeDiff, List.forall_mem_nil, rs_3]
        · have hmk2 : ((m : Int)).tmod 4 = 1 := by rw [hmk, hk0]; rfl
          have q15 := bVa_at (m : Int) 1 genS 0 0 genS [] Q sg [[], rt, [], []] [] quorum 0 0 (by omega) (by simp) (by simp) (by simp)
          rw [show (⟨(m : Int), 1, genS, ⟨0, 0, genS, []⟩, Q, sg⟩ : Blk) = blkS m Q sg from rfl, hva _ rfl (by rw [← hk, hk0]; rfl)] at q15
          simp only [vn, ← hG, texts, List.map_cons, List.map_nil] at q15
          by_cases hO : O.length ≤ 16384
          · rw [if_pos hO] at q9
            replace q12 := q12 (by omega)
            replace q13 := q13 (by show O.length ≤ _; omega)
            dsimp only at q9
            simp only [runA, runB, runC, runD, runE, runF, fieldE, storeE, binE, ↓reduceIte, Nat.reduceLT, Nat.reduceLeDiff, Nat.reduceEqDiff, Nat.reduceAdd, Nat.reduceMul, Nat.reduceSub, reduceCtorEq, putAt, unE, Nat.reduceBEq, convE, buildE, List.replicate, Int.reduceLT, Int.reduceLE, Int.reduceToNat, mkE, mapSetE, hN, hF, ty_3, ty_4, ty_5, ty_9, ty_22, ty_24, ty_26, ty_29, ty_31, ty_33, ty_36, ty_37, ty_43, ty_44, ty_47, ty_53, notIf, isEq, k1, k2, htl, h5, q5, h6, q6, h7, newC, h8, q8, h9, q9, h10, q10, h11, q11, b0, b5, hbs, hql, doHint, cc0, cc1, cc2, cc3, Nat.zero_lt_one, hmk2, e4, List.set_cons_zero, List.set_cons_succ, ne_eq, not_false_eq_true]
            iterate 6 (try (refine drawnP_intro (by kernel_rfl) (by kernel_rfl) ?_; simp only [runA, runB, runC, runD, runE, runF, fieldE, storeE, binE, ↓reduceIte, Nat.reduceLT, Nat.reduceLeDiff, Nat.reduceEqDiff, Nat.reduceAdd, Nat.reduceMul, Nat.reduceSub, reduceCtorEq, putAt, unE, Nat.reduceBEq, convE, buildE, List.replicate, Int.reduceLT, Int.reduceLE, Int.reduceToNat, mkE, mapSetE, hN, hF, ty_3, ty_4, ty_5, ty_9, ty_22, ty_24, ty_26, ty_29, ty_31, ty_33, ty_36, ty_37, ty_43, ty_44, ty_47, ty_53, notIf, isEq, k1, k2, htl, h5, q5, h6, q6, h7, newC, h8, q8, h9, q9, h10, q10, h11, q11, b0, b5, hbs, hql, doHint, cc0, cc1, cc2, cc3, Nat.zero_lt_one, hmk2, e4, List.set_cons_zero, List.set_cons_succ, ne_eq, not_false_eq_true, h12, q12, h13, q13, h14, q14, h15, q15, hz, bb]))
            simp only [runB, finC, finD, Option.isSome_some, Option.isSome_none, ↓reduceIte, Nat.reduceEqDiff, Nat.reduceAdd, Nat.reduceMul, forall_eq_or_imp, forall_eq, implies_true, Nat.reduceBEq, reduceCtorEq, false_implies, List.zip_cons_cons, List.zip_nil_left, List.zip_nil_right, Nat.reduceLeDiff, List.forall_mem_nil, rs_3]
          · rw [if_neg hO] at q9
            have h3 : decide ((Q.length : Int) > 2) = true := decide_eq_true (by
              have : ¬ Q.length ≤ 2 := fun h => hO (hel h)
              omega)
            dsimp only at q9
            simp only [runA, runB, runC, runD, runE, runF, fieldE, storeE, binE, ↓reduceIte, Nat.reduceLT, Nat.reduceLeDiff, Nat.reduceEqDiff, Nat.reduceAdd, Nat.reduceMul, Nat.reduceSub, reduceCtorEq, putAt, unE, Nat.reduceBEq, convE, buildE, List.replicate, Int.reduceLT, Int.reduceLE, Int.reduceToNat, mkE, mapSetE, hN, hF, ty_3, ty_4, ty_5, ty_9, ty_22, ty_24, ty_26, ty_29, ty_31, ty_33, ty_36, ty_37, ty_43, ty_44, ty_47, ty_53, notIf, isEq, k1, k2, htl, h5, q5, h6, q6, h7, newC, h8, q8, h9, q9, h10, q10, h11, q11, b0, b5, hbs, hql, doHint, cc0, cc1, cc2, cc3, Nat.zero_lt_one, hmk2, e4, List.set_cons_zero, List.set_cons_succ, ne_eq, not_false_eq_true, h3]
            iterate 6 (try (refine drawnP_intro (by kernel_rfl) (by kernel_rfl) ?_; simp only [runA, runB, runC, runD, runE, runF, fieldE, storeE, binE, ↓reduceIte, Nat.reduceLT, Nat.reduceLeDiff, Nat.reduceEqDiff, Nat.reduceAdd, Nat.reduceMul, Nat.reduceSub, reduceCtorEq, putAt, unE, Nat.reduceBEq, convE, buildE, List.replicate, Int.reduceLT, Int.reduceLE, Int.reduceToNat, mkE, mapSetE, hN, hF, ty_3, ty_4, ty_5, ty_9, ty_22, ty_24, ty_26, ty_29, ty_31, ty_33, ty_36, ty_37, ty_43, ty_44, ty_47, ty_53, notIf, isEq, k1, k2, htl, h5, q5, h6, q6, h7, newC, h8, q8, h9, q9, h10, q10, h11, q11, b0, b5, hbs, hql, doHint, cc0, cc1, cc2, cc3, Nat.zero_lt_one, hmk2, e4, List.set_cons_zero, List.set_cons_succ, ne_eq, not_false_eq_true, h3]))
            simp only [runB, finC, finD, Option.isSome_some, Option.isSome_none, ↓reduceIte, Nat.reduceEqDiff, Nat.reduceAdd, Nat.reduceMul, forall_eq_or_imp, forall_eq, implies_true, Nat.reduceBEq, reduceCtorEq, false_implies, List.zip_cons_cons, List.zip_nil_left, List.zip_nil_right, Nat.reduceLeDiff, List.forall_mem_nil, rs_3]
        · have hmk2 : ((m : Int)).tmod 4 = 2 := by rw [hmk, hk0]; rfl
          have q15 := bVa_at (m : Int) 1 genS 0 0 genS [] Q sg [[], [], rt, []] [] quorum 0 0 (by omega) (by simp) (by simp) (by simp)
          rw [show (⟨(m : Int), 1, genS, ⟨0, 0, genS, []⟩, Q, sg⟩ : Blk) = blkS m Q sg from rfl, hva _ rfl (by rw [← hk, hk0]; rfl)] at q15
          simp only [vn, ← hG, texts, List.map_cons, List.map_nil] at q15
          by_cases hO : O.length ≤ 16384
          · rw [if_pos hO] at q9
            replace q12 := q12 (by omega)
            replace q13 := q13 (by show O.length ≤ _; omega)
            dsimp only at q9
            simp only [runA, runB, runC, runD, runE, runF, fieldE, storeE, binE, ↓reduceIte, Nat.reduceLT, Nat.reduceLeDiff, Nat.reduceEqDiff, Nat.reduceAdd, Nat.reduceMul, Nat.reduceSub, reduceCtorEq, putAt, unE, Nat.reduceBEq, convE, buildE, List.replicate, Int.reduceLT, Int.reduceLE, Int.reduceToNat, mkE, mapSetE, hN, hF, ty_3, ty_4, ty_5, ty_9, ty_22, ty_24, ty_26, ty_29, ty_31, ty_33, ty_36, ty_37, ty_43, ty_44, ty_47, ty_53, notIf, isEq, k1, k2, htl, h5, q5, h6, q6, h7, newC, h8, q8, h9, q9, h10, q10, h11, q11, b0, b5, hbs, hql, doHint, cc0, cc1, cc2, cc3, Nat.zero_lt_one, hmk2, e4, List.set_cons_zero, List.set_cons_succ, ne_eq, not_false_eq_true]
            iterate 6 (try (refine drawnP_intro (by kernel_rfl) (by kernel_rfl) ?_; simp only [runA, runB, runC, runD, runE, runF, fieldE, storeE, binE, ↓reduceIte, Nat.reduceLT, Nat.reduceLeDiff, Nat.reduceEqDiff, Nat.reduceAdd, Nat.reduceMul, Nat.reduceSub, reduceCtorEq, putAt, unE, Nat.reduceBEq, convE, buildE, List.replicate, Int.reduceLT, Int.reduceLE, Int.reduceToNat, mkE, mapSetE, hN, hF, ty_3, ty_4, ty_5, ty_9, ty_22, ty_24, ty_26, ty_29, ty_31, ty_33, ty_36, ty_37, ty_43, ty_44, ty_47, ty_53, notIf, isEq, k1, k2, htl, h5, q5, h6, q6, h7, newC, h8, q8, h9, q9, h10, q10, h11, q11, b0, b5, hbs, hql, doHint, cc0, cc1, cc2, cc3, Nat.zero_lt_one, hmk2, e4, List.set_cons_zero, List.set_cons_succ, ne_eq, not_false_eq_true, h12, q12, h13, q13, h14, q14, h15, q15, hz, bb]))
            simp only [runB, finC, finD, Option.isSome_some, Option.isSome_none, ↓reduceIte, Nat.reduceEqDiff, Nat.reduceAdd, Nat.reduceMul, forall_eq_or_imp, forall_eq, implies_true, Nat.reduceBEq, reduceCtorEq, false_implies, List.zip_cons_cons, List.zip_nil_left, List.zip_nil_right, Nat.reduceLeDiff, List.forall_mem_nil, rs_3]
          · rw [if_neg hO] at q9
            have h3 : decide ((Q.length : Int) > 2) = true := decide_eq_true (by
              have : ¬ Q.length ≤ 2 := fun h => hO (hel h)
              omega)
            dsimp only at q9
            simp only [runA, runB, runC, runD, runE, runF, fieldE, storeE, binE, ↓reduceIte, Nat.reduceLT, Nat.reduceLeDiff, Nat.reduceEqDiff, Nat.reduceAdd, Nat.reduceMul, Nat.reduceSub, reduceCtorEq, putAt, unE, Nat.reduceBEq, convE, buildE, List.replicate, Int.reduceLT, Int.reduceLE, Int.reduceToNat, mkE, mapSetE, hN, hF, ty_3, ty_4, ty_5, ty_9, ty_22, ty_24, ty_26, ty_29, ty_31, ty_33, ty_36, ty_37, ty_43, ty_44, ty_47, ty_53, notIf, isEq, k1, k2, htl, h5, q5, h6, q6, h7, newC, h8, q8, h9, q9, h10, q10, h11, q11, b0, b5, hbs, hql, doHint, cc0, cc1, cc2, cc3, Nat.zero_lt_one, hmk2, e4, List.set_cons_zero, List.set_cons_succ, ne_eq, not_false_eq_true, h3]
            iterate 6 (try (refine drawnP_intro (by kernel_rfl) (by kernel_rfl) ?_; simp only [runA, runB, runC, runD, runE, runF, fieldE, storeE, binE, ↓reduceIte, Nat.reduceLT, Nat.reduceLeDiff, Nat.reduceEqDiff, Nat.reduceAdd, Nat.reduceMul, Nat.reduceSub, reduceCtorEq, putAt, unE, Nat.reduceBEq, convE, buildE, List.replicate, Int.reduceLT, Int.reduceLE, Int.reduceToNat, mkE, mapSetE, hN, hF, ty_3, ty_4, ty_5, ty_9, ty_22, ty_24, ty_26, ty_29, ty_31, ty_33, ty_36, ty_37, ty_43, ty_44, ty_47, ty_53, notIf, isEq, k1, k2, htl, h5, q5, h6, q6, h7, newC, h8, q8, h9, q9, h10, q10, h11, q11, b0, b5, hbs, hql, doHint, cc0, cc1, cc2, cc3, Nat.zero_lt_one, hmk2, e4, List.set_cons_zero, List.set_cons_succ, ne_eq, not_false_eq_true, h3]))
            simp only [runB, finC, finD, Option.isSome_some, Option.isSome_none, ↓reduceIte, Nat.reduceEqDiff, Nat.reduceAdd, Nat.reduceMul, forall_eq_or_imp, forall_eq, implies_true, Nat.reduceBEq, reduceCtorEq, false_implies, List.zip_cons_cons, List.zip_nil_left, List.zip_nil_right, Nat.reduceLeDiff, List.forall_mem_nil, rs_3]
        · have hmk2 : ((m : Int)).tmod 4 = 3 := by rw [hmk, hk0]; rfl
          have q15 := bVa_at (m : Int) 1 genS 0 0 genS [] Q sg [[], [], [], rt] [] quorum 0 0 (by omega) (by simp) (by simp) (by simp)
          rw [show (⟨(m : Int), 1, genS, ⟨0, 0, genS, []⟩, Q, sg⟩ : Blk) = blkS m Q sg from rfl, hva _ rfl (by rw [← hk, hk0]; rfl)] at q15
          simp only [vn, ← hG, texts, List.map_cons, List.map_nil] at q15
          by_cases hO : O.length ≤ 16384
          · rw [if_pos hO] at q9
            replace q12 := q12 (by omega)
            replace q13 := q13 (by show O.length ≤ _; omega)
            dsimp only at q9
            simp only [runA, runB, runC, runD, runE, runF, fieldE, storeE, binE, ↓reduceIte, Nat.reduceLT, Nat.reduceLeDiff, Nat.reduceEqDiff, Nat.reduceAdd, Nat.reduceMul, Nat.reduceSub, reduceCtorEq, putAt, unE, Nat.reduceBEq, convE, buildE, List.replicate, Int.reduceLT, Int.reduceLE, Int.reduceToNat, mkE, mapSetE, hN, hF, ty_3, ty_4, ty_5, ty_9, ty_22, ty_24, ty_26, ty_29, ty_31, ty_33, ty_36, ty_37, ty_43, ty_44, ty_47, ty_53, notIf, isEq, k1, k2, htl, h5, q5, h6, q6, h7, newC, h8, q8, h9, q9, h10, q10, h11, q11, b0, b5, hbs, hql, doHint, cc0, cc1, cc2, cc3, Nat.zero_lt_one, hmk2, e4, List.set_cons_zero, List.set_cons_succ, ne_eq, not_false_eq_true]
            iterate 6 (try (refine drawnP_intro (by kernel_rfl) (by kernel_rfl) ?_; simp only [runA, runB, runC, runD, runE, runF, fieldE, storeE, binE, ↓reduceIte, Nat.reduceLT, Nat.reduceLeDiff, Nat.reduceEqDiff, Nat.reduceAdd, Nat.reduceMul, Nat.reduceSub, reduceCtorEq, putAt, unE, Nat.reduceBEq, convE, buildE, List.replicate, Int.reduceLT, Int.reduceLE, Int.reduceToNat, mkE, mapSetE, hN, hF, ty_3, ty_4, ty_5, ty_9, ty_22, ty_24, ty_26, ty_29, ty_31, ty_33, ty_36, ty_37, ty_43, ty_44, ty_47, ty_53, notIf, isEq, k1, k2, htl, h5, q5, h6, q6, h7, newC, h8, q8, h9, q9, h10, q10, h11, q11, b0, b5, hbs, hql, doHint, cc0, cc1, cc2, cc3, Nat.zero_lt_one, hmk2, e4, List.set_cons_zero, List.set_cons_succ, ne_eq, not_false_eq_true, h12, q12, h13, q13, h14, q14, h15, q15, hz, bb]))
            simp only [runB, finC, finD, Option.isSome_some, Option.isSome_none, ↓reduceIte, Nat.reduceEqDiff, Nat.reduceAdd, Nat.reduceMul, forall_eq_or_imp, forall_eq, implies_true, Nat.reduceBEq, reduceCtorEq, false_implies, List.zip_cons_cons, List.zip_nil_left, List.zip_nil_right, Nat.reduceLeDiff, List.forall_mem_nil, rs_3]
          · rw [if_neg hO] at q9
            have h3 : decide ((Q.length : Int) > 2) = true := decide_eq_true (by
              have : ¬ Q.length ≤ 2 := fun h => hO (hel h)
              omega)
            dsimp only at q9
            simp only [runA, runB, runC, runD, runE, runF, fieldE, storeE, binE, ↓reduceIte, Nat.reduceLT, Nat.reduceLeDiff, Nat.reduceEqDiff, Nat.reduceAdd, Nat.reduceMul, Nat.reduceSub, reduceCtorEq, putAt, unE, Nat.reduceBEq, convE, buildE, List.replicate, Int.reduceLT, Int.reduceLE, Int.reduceToNat, mkE, mapSetE, hN, hF, ty_3, ty_4, ty_5, ty_9, ty_22, ty_24, ty_26, ty_29, ty_31, ty_33, ty_36, ty_37, ty_43, ty_44, ty_47, ty_53, notIf, isEq, k1, k2, htl, h5, q5, h6, q6, h7, newC, h8, q8, h9, q9, h10, q10, h11, q11, b0, b5, hbs, hql, doHint, cc0, cc1, cc2, cc3, Nat.zero_lt_one, hmk2, e4, List.set_cons_zero, List.set_cons_succ, ne_eq, not_false_eq_true, h3]
            iterate 6 (try (refine drawnP_intro (by kernel_rfl) (by kernel_rfl) ?_; simp only [runA, runB, runC, runD, runE, runF, fieldE, storeE, binE, ↓reduceIte, Nat.reduceLT, Nat.reduceLeDiff, Nat.reduceEqDiff, Nat.reduceAdd, Nat.reduceMul, Nat.reduceSub, reduceCtorEq, putAt, unE, Nat.reduceBEq, convE, buildE, List.replicate, Int.reduceLT, Int.reduceLE, Int.reduceToNat, mkE, mapSetE, hN, hF, ty_3, ty_4, ty_5, ty_9, ty_22, ty_24, ty_26, ty_29, ty_31, ty_33, ty_36, ty_37, ty_43, ty_44, ty_47, ty_53, notIf, isEq, k1, k2, htl, h5, q5, h6, q6, h7, newC, h8, q8, h9, q9, h10, q10, h11, q11, b0, b5, hbs, hql, doHint, cc0, cc1, cc2, cc3, Nat.zero_lt_one, hmk2, e4, List.set_cons_zero, List.set_cons_succ, ne_eq, not_false_eq_true, h3]))
            simp only [runB, finC, finD, Option.isSome_some, Option.isSome_none, ↓reduceIte, Nat.reduceEqDiff, Nat.reduceAdd, Nat.reduceMul, forall_eq_or_imp, forall_eq, implies_true, Nat.reduceBEq, reduceCtorEq, false_implies, List.zip_cons_cons, List.zip_nil_left, List.zip_nil_right, Nat.reduceLeDiff, List.forall_mem_nil, rs_3]
      · have k1 : decide ((i : Int) < (txs.length : Int)) = false := by simpa using hlt2
        have htl := trows_length txs
        rcases (show k = 0 ∨ k = 1 ∨ k = 2 ∨ k = 3 by omega) with hk0 | hk0 | hk0 | hk0
        · have hmk2 : ((m : Int)).tmod 4 = 0 := by rw [hmk, hk0]; rfl
          have q15 := bVa_at (m : Int) 1 genS 0 0 genS [] Q sg [rt, [], [], []] [] quorum 0 0 (by omega) (by simp) (by simp) (by simp)
          rw [show (⟨(m : Int), 1, genS, ⟨0, 0, genS, []⟩, Q, sg⟩ : Blk) = blkS m Q sg from rfl, hva _ rfl (by rw [← hk, hk0]; rfl)] at q15
          simp only [vn, ← hG, texts, List.map_cons, List.map_nil] at q15
          by_cases hO : O.length ≤ 16384
          · rw [if_pos hO] at q9
            replace q12 := q12 (by omega)
            replace q13 := q13 (by show O.length ≤ _; omega)
            dsimp only at q9
            simp only [runA, runB, runC, runD, runE, runF, fieldE, storeE, binE, ↓reduceIte, Nat.reduceLT, Nat.reduceLeDiff, Nat.reduceEqDiff, Nat.reduceAdd, Nat.reduceMul, Nat.reduceSub, reduceCtorEq, putAt, unE, Nat.reduceBEq, convE, buildE, List.replicate, Int.reduceLT, Int.reduceLE, Int.reduceToNat, mkE, mapSetE, hN, hF, ty_3, ty_4, ty_5, ty_9, ty_22, ty_24, ty_26, ty_29, ty_31, ty_33, ty_36, ty_37, ty_43, ty_44, ty_47, ty_53, notIf, isEq, k1, htl, h5, q5, h6, q6, h7, newC, h8, q8, h9, q9, h10, q10, h11, q11, b0, b5, hbs, hql, doHint, cc0, cc1, cc2, cc3, Nat.zero_lt_one, hmk2, e4, List.set_cons_zero, List.set_cons_succ, ne_eq, not_false_eq_true]
            iterate 6 (try (refine drawnP_intro (by kernel_rfl) (by kernel_rfl) ?_; simp only [runA, runB, runC, runD, runE, runF, fieldE, storeE, binE, ↓reduceIte, Nat.reduceLT, Nat.reduceLeDiff, Nat.reduceEqDiff, Nat.reduceAdd, Nat.reduceMul, Nat.reduceSub, reduceCtorEq, putAt, unE, Nat.reduceBEq, convE, buildE, List.replicate, Int.reduceLT, Int.reduceLE, Int.reduceToNat, mkE, mapSetE, hN, hF, ty_3, ty_4, ty_5, ty_9, ty_22, ty_24, ty_26, ty_29, ty_31, ty_33, ty_36, ty_37, ty_43, ty_44, ty_47, ty_53, notIf, isEq, k1, htl, h5, q5, h6, q6, h7, newC, h8, q8, h9, q9, h10, q10, h11, q11, b0, b5, hbs, hql, doHint, cc0, cc1, cc2, cc3, Nat.zero_lt_one, hmk2, e4, List.set_cons_zero, List.set_cons_succ, ne_eq, not_false_eq_true, h12, q12, h13, q13, h14, q14, h15, q15, hz, bb]))
            simp only [runB, finC, finD, Option.isSome_some, Option.isSome_none, ↓reduceIte, Nat.reduceEqDiff, Nat.reduceAdd, Nat.reduceMul, forall_eq_or_imp, forall_eq, implies_true, Nat.reduceBEq, reduceCtorEq, false_implies, List.zip_cons_cons, List.zip_nil_left, List.zip_nil_right, Nat.reduceLeDiff, List.forall_mem_nil, rs_3]
          · rw [if_neg hO] at q9
            have h3 : decide ((Q.length : Int) > 2) = true := decide_eq_true (by
              have : ¬ Q.length ≤ 2 := fun h => hO (hel h)
              omega)
            dsimp only at q9
            simp only [runA, runB, runC, runD, runE, runF, fieldE, storeE, binE, ↓reduceIte, Nat.reduceLT, Nat.reduceLeDiff, Nat.reduceEqDiff, Nat.reduceAdd, Nat.reduceMul, Nat.reduceSub, reduceCtorEq, putAt, unE, Nat.reduceBEq, convE, buildE, List.replicate, Int.reduceLT, Int.reduceLE, Int.reduceToNat, mkE, mapSetE, hN, hF, ty_3, ty_4, ty_5, ty_9, ty_22, ty_24, ty_26, ty_29, ty_31, ty_33, ty_36, ty_37, ty_43, ty_44, ty_47, ty_53, notIf, isEq, k1, htl, h5, q5, h6, q6, h7, newC, h8, q8, h9, q9, h10, q10, h11, q11, b0, b5, hbs, hql, doHint, cc0, cc1, cc2, cc3, Nat.zero_lt_one, hmk2, e4, List.set_cons_zero, List.set_cons_succ, ne_eq, not_false_eq_true, h3]
            iterate 6 (try (refine drawnP_intro (by kernel_rfl) (by kernel_rfl) ?_; simp only [runA, runB, runC, runD, runE, runF, fieldE, storeE, binE, ↓reduceIte, Nat.reduceLT, Nat.reduceLeDiff, Nat.reduceEqDiff, Nat.reduceAdd, Nat.reduceMul, Nat.reduceSub, reduceCtorEq, putAt, unE, Nat.reduceBEq, convE, buildE, List.replicate, Int.reduceLT, Int.reduceLE, Int.reduceToNat, mkE, mapSetE, hN, hF, ty_3, ty_4, ty_5, ty_9, ty_22, ty_24, ty_26, ty_29, ty_31, ty_33, ty_36, ty_37, ty_43, ty_44, ty_47, ty_53, notIf, isEq, k1, htl, h5, q5, h6, q6, h7, newC, h8, q8, h9, q9, h10, q10, h11, q11, b0, b5, hbs, hql, doHint, cc0, cc1, cc2, cc3, Nat.zero_lt_one, hmk2, e4, List.set_cons_zero, List.set_cons_succ, ne_eq, not_false_eq_true, h3]))
            simp only [runB, finC, finD, Option.isSome_some, Option.isSome_none, ↓reduceIte, Nat.reduceEqDiff, Nat.reduceAdd, Nat.reduceMul, forall_eq_or_imp, forall_eq, implies_true, Nat.reduceBEq, reduceCtorEq, false_implies, List.zip_cons_cons, List.zip_nil_left, List.zip_nil_right, Nat.reduceLeDiff, List.forall_mem_nil, rs_3]
        · have hmk2 : ((m : Int)).tmod 4 = 1 := by rw [hmk, hk0]; rfl
          have q15 := bVa_at (m : Int) 1 genS 0 0 genS [] Q sg [[], rt, [], []] [] quorum 0 0 (by omega) (by simp) (by simp) (by simp)
          rw [show (⟨(m : Int), 1, genS, ⟨0, 0, genS, []⟩, Q, sg⟩ : Blk) = blkS m Q sg from rfl, hva _ rfl (by rw [← hk, hk0]; rfl)] at q15
          simp only [vn, ← hG, texts, List.map_cons, List.map_nil] at q15
          by_cases hO : O.length ≤ 16384
          · rw [if_pos hO] at q9
            replace q12 := q12 (by omega)
            replace q13 := q13 (by show O.length ≤ _; omega)
            dsimp only at q9
            simp only [runA, runB, runC, runD, runE, runF, fieldE, storeE, binE, ↓reduceIte, Nat.reduceLT, Nat.reduceLeDiff, Nat.reduceEqDiff, Nat.reduceAdd, Nat.reduceMul, Nat.reduceSub, reduceCtorEq, putAt, unE, Nat.reduceBEq, convE, buildE, List.replicate, Int.reduceLT, Int.reduceLE, Int.reduceToNat, mkE, mapSetE, hN, hF, ty_3, ty_4, ty_5, ty_9, ty_22, ty_24, ty_26, ty_29, ty_31, ty_33, ty_36, ty_37, ty_43, ty_44, ty_47, ty_53, notIf, isEq, k1, htl, h5, q5, h6, q6, h7, newC, h8, q8, h9, q9, h10, q10, h11, q11, b0, b5, hbs, hql, doHint, cc0, cc1, cc2, cc3, Nat.zero_lt_one, hmk2, e4, List.set_cons_zero, List.set_cons_succ, ne_eq, not_false_eq_true]
            iterate 6 (try (refine drawnP_intro (by kernel_rfl) (by kernel_rfl) ?_; simp only [runA, runB, runC, runD, runE, runF, fieldE, storeE, binE, ↓reduceIte, Nat.reduceLT, Nat.reduceLeDiff, Nat.reduceEqDiff, Nat.reduceAdd, Nat.reduceMul, Nat.reduceSub, reduceCtorEq, putAt, unE, Nat.reduceBEq, convE, buildE, List.replicate, Int.reduceLT, Int.reduceLE, Int.reduceToNat, mkE, mapSetE, hN, hF, ty_3, ty_4, ty_5, ty_9, ty_22, ty_24, ty_26, ty_29, ty_31, ty_33, ty_36, ty_37, ty_43, ty_44, ty_47, ty_53, notIf, isEq, k1, htl, h5, q5, h6, q6, h7, newC, h8, q8, h9, q9, h10, q10, h11, q11, b0, b5, hbs, hql, doHint, cc0, cc1, cc2, cc3, Nat.zero_lt_one, hmk2, e4, List.set_cons_zero, List.set_cons_succ, ne_eq, not_false_eq_true, h12, q12, h13, q13, h14, q14, h15, q15, hz, bb]))
            simp only [runB, finC, finD, Option.isSome_some, Option.isSome_none, ↓reduceIte, Nat.reduceEqDiff, Nat.reduceAdd, Nat.reduceMul, forall_eq_or_imp, forall_eq, implies_true, Nat.reduceBEq, reduceCtorEq, false_implies, List.zip_cons_cons, List.zip_nil_left, List.zip_nil_right, Nat.reduceLeDiff, List.forall_mem_nil, rs_3]
          · rw [if_neg hO] at q9
            have h3 : decide ((Q.length : Int) > 2) = true := decide_eq_true (by
              have : ¬ Q.length ≤ 2 := fun h => hO (hel h)
              omega)
            dsimp only at q9
            simp only [runA, runB, runC, runD, runE, runF, fieldE, storeE, binE, ↓reduceIte, Nat.reduceLT, Nat.reduceLeDiff, Nat.reduceEqDiff, Nat.reduceAdd, Nat.reduceMul, Nat.reduceSub, reduceCtorEq, putAt, unE, Nat.reduceBEq, convE, buildE, List.replicate, Int.reduceLT, Int.reduceLE, Int.reduceToNat, mkE, mapSetE, hN, hF, ty_3, ty_4, ty_5, ty_9, ty_22, ty_24, ty_26, ty_29, ty_31, ty_33, ty_36, ty_37, ty_43, ty_44, ty_47, ty_53, notIf, isEq, k1, htl, h5, q5, h6, q6, h7, newC, h8, q8, h9, q9, h10, q10, h11, q11, b0, b5, hbs, hql, doHint, cc0, cc1, cc2, cc3, Nat.zero_lt_one, hmk2, e4, List.set_cons_zero, List.set_cons_succ, ne_eq, not_false_eq_true, h3]
            iterate 6 (try (refine drawnP_intro (by kernel_rfl) (by kernel_rfl) ?_; simp only [runA, runB, runC, runD, runE, runF, fieldE, storeE, binE, ↓reduceIte, Nat.reduceLT, Nat.reduceLeDiff, Nat.reduceEqDiff, Nat.reduceAdd, Nat.reduceMul, Nat.reduceSub, reduceCtorEq, putAt, unE, Nat.reduceBEq, convE, buildE, List.replicate, Int.reduceLT, Int.reduceLE, Int.reduceToNat, mkE, mapSetE, hN, hF, ty_3, ty_4, ty_5, ty_9, ty_22, ty_24, ty_26, ty_29, ty_31, ty_33, ty_36, ty_37, ty_43, ty_44, ty_47, ty_53, notIf, isEq, k1, htl, h5, q5, h6, q6, h7, newC, h8, q8, h9, q9, h10, q10, h11, q11, b0, b5, hbs, hql, doHint, cc0, cc1, cc2, cc3, Nat.zero_lt_one, hmk2, e4, List.set_cons_zero, List.set_cons_succ, ne_eq, not_false_eq_true, h3]))
            simp only [runB, finC, finD, Option.isSome_some, Option.isSome_none, ↓reduceIte, Nat.reduceEqDiff, Nat.reduceAdd, Nat.reduceMul, forall_eq_or_imp, forall_eq, implies_true, Nat.reduceBEq, reduceCtorEq, false_implies, List.zip_cons_cons, List.zip_nil_left, List.zip_nil_right, Nat.reduceLeDiff, List.forall_mem_nil, rs_3]
        · have hmk2 : ((m : Int)).tmod 4 = 2 := by rw [hmk, hk0]; rfl
          have q15 := bVa_at (m : Int) 1 genS 0 0 genS [] Q sg [[], [], rt, []] [] quorum 0 0 (by omega) (by simp) (by simp) (by simp)
          rw [show (⟨(m : Int), 1, genS, ⟨0, 0, genS, []⟩, Q, sg⟩ : Blk) = blkS m Q sg from rfl, hva _ rfl (by rw [← hk, hk0]; rfl)] at q15
          simp only [vn, ← hG, texts, List.map_cons, List.map_nil] at q15
          by_cases hO : O.length ≤ 16384
          · rw [if_pos hO] at q9
            replace q12 := q12 (by omega)
            replace q13 := q13 (by show O.length ≤ _; omega)
            dsimp only at q9
            simp only [runA, runB, runC, runD, runE, runF, fieldE, storeE, binE, ↓reduceIte, Nat.reduceLT, Nat.reduceLeDiff, Nat.reduceEqDiff, Nat.reduceAdd, Nat.reduceMul, Nat.reduceSub, reduceCtorEq, putAt, unE, Nat.reduceBEq, convE, buildE, List.replicate, Int.reduceLT, Int.reduceLE, Int.reduceToNat, mkE, mapSetE, hN, hF, ty_3, ty_4, ty_5, ty_9, ty_22, ty_24, ty_26, ty_29, ty_31, ty_33, ty_36, ty_37, ty_43, ty_44, ty_47, ty_53, notIf, isEq, k1, htl, h5, q5, h6, q6, h7, newC, h8, q8, h9, q9, h10, q10, h11, q11, b0, b5, hbs, hql, doHint, cc0, cc1, cc2, cc3, Nat.zero_lt_one, hmk2, e4, List.set_cons_zero, List.set_cons_succ, ne_eq, not_false_eq_true]
            iterate 6 (try (refine drawnP_intro (by kernel_rfl) (by kernel_rfl) ?_; simp only [runA, runB, runC, runD, runE, runF, fieldE, storeE, binE, ↓reduceIte, Nat.reduceLT, Nat.reduceLeDiff, Nat.reduceEqDiff, Nat.reduceAdd, Nat.reduceMul, Nat.reduceSub, reduceCtorEq, putAt, unE, Nat.reduceBEq, convE, buildE, List.replicate, Int.reduceLT, Int.reduceLE, Int.reduceToNat, mkE, mapSetE, hN, hF, ty_3, ty_4, ty_5, ty_9, ty_22, ty_24, ty_26, ty_29, ty_31, ty_33, ty_36, ty_37, ty_43, ty_44, ty_47, ty_53, notIf, isEq, k1, htl, h5, q5, h6, q6, h7, newC, h8, q8, h9, q9, h10, q10, h11, q11, b0, b5, hbs, hql, doHint, cc0, cc1, cc2, cc3, Nat.zero_lt_one, hmk2, e4, List.set_cons_zero, List.set_cons_succ, ne_eq, not_false_eq_true, h12, q12, h13, q13, h14, q14, h15, q15, hz, bb]))
            simp only [runB, finC, finD, Option.isSome_some, Option.isSome_none, ↓reduceIte, Nat.reduceEqDiff, Nat.reduceAdd, Nat.reduceMul, forall_eq_or_imp, forall_eq, implies_true, Nat.reduceBEq, reduceCtorEq, false_implies, List.zip_cons_cons, List.zip_nil_left, List.zip_nil_right, Nat.reduceLeDiff, List.forall_mem_nil, rs_3]
          · rw [if_neg hO] at q9
            have h3 : decide ((Q.length : Int) > 2) = true := decide_eq_true (by
              have : ¬ Q.length ≤ 2 := fun h => hO (hel h)
              omega)
            dsimp only at q9
            simp only [runA, runB, runC, runD, runE, runF, fieldE, storeE, binE, ↓reduceIte, Nat.reduceLT, Nat.reduceLeDiff, Nat.reduceEqDiff, Nat.reduceAdd, Nat.reduceMul, Nat.reduceSub, reduceCtorEq, putAt, unE, Nat.reduceBEq, convE, buildE, List.replicate, Int.reduceLT, Int.reduceLE, Int.reduceToNat, mkE, mapSetE, hN, hF, ty_3, ty_4, ty_5, ty_9, ty_22, ty_24, ty_26, ty_29, ty_31, ty_33, ty_36, ty_37, ty_43, ty_44, ty_47, ty_53, notIf, isEq, k1, htl, h5, q5, h6, q6, h7, newC, h8, q8, h9, q9, h10, q10, h11, q11, b0, b5, hbs, hql, doHint, cc0, cc1, cc2, cc3, Nat.zero_lt_one, hmk2, e4, List.set_cons_zero, List.set_cons_succ, ne_eq, not_false_eq_true, h3]
            iterate 6 (try (refine drawnP_intro (by kernel_rfl) (by kernel_rfl) ?_; simp only [runA, runB, runC, runD, runE, runF, fieldE, storeE, binE, ↓reduceIte, Nat.reduceLT, Nat.reduceLeDiff, Nat.reduceEqDiff, Nat.reduceAdd, Nat.reduceMul, Nat.reduceSub, reduceCtorEq, putAt, unE, Nat.reduceBEq, convE, buildE, List.replicate, Int.reduceLT, Int.reduceLE, Int.reduceToNat, mkE, mapSetE, hN, hF, ty_3, ty_4, ty_5, ty_9, ty_22, ty_24, ty_26, ty_29, ty_31, ty_33, ty_36, ty_37, ty_43, ty_44, ty_47, ty_53, notIf, isEq, k1, htl, h5, q5, h6, q6, h7, newC, h8, q8, h9, q9, h10, q10, h11, q11, b0, b5, hbs, hql, doHint, cc0, cc1, cc2, cc3, Nat.zero_lt_one, hmk2, e4, List.set_cons_zero, List.set_cons_succ, ne_eq, not_false_eq_true, h3]))
            simp only [runB, finC, finD, Option.isSome_some, Option.isSome_none, ↓reduceIte, Nat.reduceEqDiff, Nat.reduceAdd, Nat.reduceMul, forall_eq_or_imp, forall_eq, implies_true, Nat.reduceBEq, reduceCtorEq, false_implies, List.zip_cons_cons, List.zip_nil_left, List.zip_nil_right, Nat.reduceLeDiff, List.forall_mem_nil, rs_3]
        · have hmk2 : ((m : Int)).tmod 4 = 3 := by rw [hmk, hk0]; rfl
          have q15 := bVa_at (m : Int) 1 genS 0 0 genS [] Q sg [[], [], [], rt] [] quorum 0 0 (by omega) (by simp) (by simp) (by simp)
          rw [show (⟨(m : Int), 1, genS, ⟨0, 0, genS, []⟩, Q, sg⟩ : Blk) = blkS m Q sg from rfl, hva _ rfl (by rw [← hk, hk0]; rfl)] at q15
          simp only [vn, ← hG, texts, List.map_cons, List.map_nil] at q15
          by_cases hO : O.length ≤ 16384
          · rw [if_pos hO] at q9
            replace q12 := q12 (by omega)
            replace q13 := q13 (by show O.length ≤ _; omega)
            dsimp only at q9
            simp only [runA, runB, runC, runD, runE, runF, fieldE, storeE, binE, ↓reduceIte, Nat.reduceLT, Nat.reduceLeDiff, Nat.reduceEqDiff, Nat.reduceAdd, Nat.reduceMul, Nat.reduceSub, reduceCtorEq, putAt, unE, Nat.reduceBEq, convE, buildE, List.replicate, Int.reduceLT, Int.reduceLE, Int.reduceToNat, mkE, mapSetE, hN, hF, ty_3, ty_4, ty_5, ty_9, ty_22, ty_24, ty_26, ty_29, ty_31, ty_33, ty_36, ty_37, ty_43, ty_44, ty_47, ty_53, notIf, isEq, k1, htl, h5, q5, h6, q6, h7, newC, h8, q8, h9, q9, h10, q10, h11, q11, b0, b5, hbs, hql, doHint, cc0, cc1, cc2, cc3, Nat.zero_lt_one, hmk2, e4, List.set_cons_zero, List.set_cons_succ, ne_eq, not_false_eq_true]
            iterate 6 (try (refine drawnP_intro (by kernel_rfl) (by kernel_rfl) ?_; simp only [runA, runB, runC, runD, runE, runF, fieldE, storeE, binE, ↓reduceIte, Nat.reduceLT, Nat.reduceLeDiff, Nat.reduceEqDiff, Nat.reduceAdd, Nat.reduceMul, Nat.reduceSub, reduceCtorEq, putAt, unE, Nat.reduceBEq, convE, buildE, List.replicate, Int.reduceLT, Int.reduceLE, Int.reduceToNat, mkE, mapSetE, hN, hF, ty_3, ty_4, ty_5, ty_9, ty_22, ty_24, ty_26, ty_29, ty_31, ty_33, ty_36, ty_37, ty_43, ty_44, ty_47, ty_53, notIf, isEq, k1, htl, h5, q5, h6, q6, h7, newC, h8, q8, h9, q9, h10, q10, h11, q11, b0, b5, hbs, hql, doHint, cc0, cc1, cc2, cc3, Nat.zero_lt_one, hmk2, e4, List.set_cons_zero, List.set_cons_succ, ne_eq, not_false_eq_true, h12, q12, h13, q13, h14, q14, h15, q15, hz, bb]))
            simp only [runB, finC, finD, Option.isSome_some, Option.isSome_none, ↓reduceIte, Nat.reduceEqDiff, Nat.reduceAdd, Nat.reduceMul, forall_eq_or_imp, forall_eq, implies_true, Nat.reduceBEq, reduceCtorEq, false_implies, List.zip_cons_cons, List.zip_nil_left, List.zip_nil_right, Nat.reduceLeDiff, List.forall_mem_nil, rs_3]
          · rw [if_neg hO] at q9
            have h3 : decide ((Q.length : Int) > 2) = true := decide_eq_true (by
              have : ¬ Q.length ≤ 2 := fun h => hO (hel h)
              omega)
            dsimp only at q9
            simp only [runA, runB, runC, runD, runE, runF, fieldE, storeE, binE, ↓reduceIte, Nat.reduceLT, Nat.reduceLeDiff, Nat.reduceEqDiff, Nat.reduceAdd, Nat.reduceMul, Nat.reduceSub, reduceCtorEq, putAt, unE, Nat.reduceBEq, convE, buildE, List.replicate, Int.reduceLT, Int.reduceLE, Int.reduceToNat, mkE, mapSetE, hN, hF, ty_3, ty_4, ty_5, ty_9, ty_22, ty_24, ty_26, ty_29, ty_31, ty_33, ty_36, ty_37, ty_43, ty_44, ty_47, ty_53, notIf, isEq, k1, htl, h5, q5, h6, q6, h7, newC, h8, q8, h9, q9, h10, q10, h11, q11, b0, b5, hbs, hql, doHint, cc0, cc1, cc2, cc3, Nat.zero_lt_one, hmk2, e4, List.set_cons_zero, List.set_cons_succ, ne_eq, not_false_eq_true, h3]
            iterate 6 (try (refine drawnP_intro (by kernel_rfl) (by kernel_rfl) ?_; simp only [runA, runB, runC, runD, runE, runF, fieldE, storeE, binE, ↓reduceIte, Nat.reduceLT, Nat.reduceLeDiff, Nat.reduceEqDiff, Nat.reduceAdd, Nat.reduceMul, Nat.reduceSub, reduceCtorEq, putAt, unE, Nat.reduceBEq, convE, buildE, List.replicate, Int.reduceLT, Int.reduceLE, Int.reduceToNat, mkE, mapSetE, hN, hF, ty_3, ty_4, ty_5, ty_9, ty_22, ty_24, ty_26, ty_29, ty_31, ty_33, ty_36, ty_37, ty_43, ty_44, ty_47, ty_53, notIf, isEq, k1, htl, h5, q5, h6, q6, h7, newC, h8, q8, h9, q9, h10, q10, h11, q11, b0, b5, hbs, hql, doHint, cc0, cc1, cc2, cc3, Nat.zero_lt_one, hmk2, e4, List.set_cons_zero, List.set_cons_succ, ne_eq, not_false_eq_true, h3]))
            simp only [runB, finC, finD, Option.isSome_some, Option.isSome_none, ↓reduceIte, Nat.reduceEqDiff, Nat.reduceAdd, Nat.reduceMul, forall_eq_or_imp, forall_eq, implies_true, Nat.reduceBEq, reduceCtorEq, false_implies, List.zip_cons_cons, List.zip_nil_left, List.zip_nil_right, Nat.reduceLeDiff, List.forall_mem_nil, rs_3]

end Go.Proofs.YtenmlgalcjkdbaaGreat.AM
