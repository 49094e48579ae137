/-
  QC: Rp Rq Tr1 Tr2 Lo Ln Tw1 Tw2 Tr3 Tr4.
-/
import Derived.Shelf.Strings.Builder1
import Derived.Shelf.Strings.Builder2
import Derived.Shelf.Strings.BuilderF
import Derived.Shelf.Strings.Prefix
import Derived.Shelf.Bits.Mul64
import Derived.Shelf.Strings.Repeat
import Derived.Test.YtenmlgalcjkdbaaChecked
import Derived.Test.YtenmlgalcjkdbaaQ9
import Derived.Test.YtenmlgalcjkdbaaQA
import Derived.Test.YtenmlgalcjkdbaaQ6
import Derived.Test.YtenmlgalcjkdbaaQ8
set_option linter.unusedVariables false
set_option linter.unusedSimpArgs false
namespace Go.Proofs
open Go.Shelf
def Try.lays105_ren : Go.Shelf.Ren := ⟨fun | 105 => 94 | 212 => 112 | 99 => 113 | 165 => 114 | 166 => 115 | 170 => 116 | 169 => 117 | 263 => 125 | 264 => 126 | 206 => 127 | 240 => 128 | 241 => 129 | 276 => 133 | 277 => 134 | n => n, fun | 9 => 9 | 3 => 3 | 4 => 4 | 20 => 20 | 0 => 0 | 46 => 128 | 109 => 157 | 5 => 5 | 72 => 161 | 76 => 164 | 51 => 124 | 146 => 171 | 53 => 170 | 148 => 173 | 70 => 159 | 37 => 88 | 75 => 163 | 127 => 175 | 164 => 181 | 80 => 55 | n => n, fun | n => n⟩
theorem Try.lays105 : Go.Proofs.Lays.n105 Try.prog Try.lays105_ren := {
  mixed := by kernel_rfl
  f99 := Try.func113.trans (congrArg some (by kernel_rfl))
  f105 := Try.func94.trans (congrArg some (by kernel_rfl))
  f165 := Try.func114.trans (congrArg some (by kernel_rfl))
  f166 := Try.func115.trans (congrArg some (by kernel_rfl))
  f169 := Try.func117.trans (congrArg some (by kernel_rfl))
  f170 := Try.func116.trans (congrArg some (by kernel_rfl))
  f206 := Try.func127.trans (congrArg some (by kernel_rfl))
  f212 := Try.func112.trans (congrArg some (by kernel_rfl))
  f240 := Try.func128.trans (congrArg some (by kernel_rfl))
  f241 := Try.func129.trans (congrArg some (by kernel_rfl))
  f263 := Try.func125.trans (congrArg some (by kernel_rfl))
  f264 := Try.func126.trans (congrArg some (by kernel_rfl))
  f276 := Try.func133.trans (congrArg some (by kernel_rfl))
  f277 := Try.func134.trans (congrArg some (by kernel_rfl))
  t0 := Try.underlying0
  a0 := Try.isAgg0
  z0 := Try.sizeOf0
  v0 := Try.zeroValue0
  t3 := Try.underlying3
  a3 := Try.isAgg3
  z3 := Try.sizeOf3
  v3 := Try.zeroValue3
  t4 := Try.underlying4
  a4 := Try.isAgg4
  z4 := Try.sizeOf4
  v4 := Try.zeroValue4
  t5 := Try.underlying5
  a5 := Try.isAgg5
  z5 := Try.sizeOf5
  v5 := Try.zeroValue5
  t9 := Try.underlying9
  a9 := Try.isAgg9
  z9 := Try.sizeOf9
  v9 := Try.zeroValue9
  t20 := Try.underlying20
  a20 := Try.isAgg20
  z20 := Try.sizeOf20
  v20 := Try.zeroValue20
  t37 := Try.underlying88
  a37 := Try.isAgg88
  z37 := Try.sizeOf88
  v37 := Try.zeroValue88
  t46 := Try.underlying128
  a46 := Try.isAgg128
  z46 := Try.sizeOf128
  v46 := Try.zeroValue128
  t51 := Try.underlying124
  a51 := Try.isAgg124
  z51 := Try.sizeOf124
  v51 := Try.zeroValue124
  t53 := Try.underlying170
  a53 := Try.isAgg170
  z53 := Try.sizeOf170
  v53 := Try.zeroValue170
  t70 := Try.underlying159
  a70 := Try.isAgg159
  z70 := Try.sizeOf159
  v70 := Try.zeroValue159
  t72 := Try.underlying161
  a72 := Try.isAgg161
  z72 := Try.sizeOf161
  v72 := Try.zeroValue161
  t75 := Try.underlying163
  a75 := Try.isAgg163
  z75 := Try.sizeOf163
  v75 := Try.zeroValue163
  t76 := Try.underlying164
  a76 := Try.isAgg164
  z76 := Try.sizeOf164
  v76 := Try.zeroValue164
  t109 := Try.underlying157
  a109 := Try.isAgg157
  z109 := Try.sizeOf157
  v109 := Try.zeroValue157
  t127 := Try.underlying175
  a127 := Try.isAgg175
  z127 := Try.sizeOf175
  v127 := Try.zeroValue175
  t146 := Try.underlying171
  a146 := Try.isAgg171
  z146 := Try.sizeOf171
  v146 := Try.zeroValue171
  t148 := Try.underlying173
  a148 := Try.isAgg173
  z148 := Try.sizeOf173
  v148 := Try.zeroValue173
  t164 := Try.underlying181
  a164 := Try.isAgg181
  z164 := Try.sizeOf181
  v164 := Try.zeroValue181 }
theorem Try.Builder_Extra_105 : Builder.Extra Try.prog Try.lays105_ren := {
  sizeBuilder := by kernel_rfl
  liesBuilder := by kernel_rfl
  t5 := Try.underlying5
  a5 := Try.isAgg5
  z5 := Try.sizeOf5
  v5 := Try.zeroValue5
  infoByte := by kernel_rfl
  cellsByte := by kernel_rfl
  sizeByte := by kernel_rfl
  neB5 := by decide }
open Go.RowKit Go.Lib in
theorem Try.strings_Repeat (s : ByteArray) (c : Nat) (w : World) (hc : c ≤ 9223372036854775807) (hlen : s.size * c ≤ 140737488355328) :
    Calls Try.prog 94 #[.string s, .int .i64 c] w fun e w' => e = .returned (.string ⟨(Lib.repeatL s.data.toList c).toArray⟩) ∧ Below w.heap.size w w' := Any.strings_Repeat Try.lays105 Try.Builder_Extra_105 s c w hc hlen
end Go.Proofs
namespace Go.Proofs.Ytenmlgalcjkdbaa.AM
open Go Go.RowKit

variable {Γ : FuncId → Contract}

theorem MRel.below0 {w w' : World} {Ext : Nat → Prop} {G : Gh} {res : List RV} (M : MRel (cEnv w Ext G.K) G (look (entryMem 0 [])) w) (b : Below w.heap.size w w') (he : exitMem ⟨res, []⟩ = []) : MRel (cEnv w Ext G.K) G (look (exitMem ⟨res, []⟩)) w' := by
  have hG : ∀ i, G.h i = none := fun i => (M.home i).none_of
  refine ⟨fun k o v h => ?_, fun n => ?_, fun n n' h h' k e => ?_, b.os.trans M.os, b.tape.trans M.tape, b.output.trans M.output, Nat.le_trans M.size0 b.size, Nat.le_trans M.sizeB b.size, fun k hk hE => b.block k hk, M.k0, M.kfr⟩
  · rw [cell_same (b.block k (M.k_lt h))]
    exact M.agree k o v h
  · rw [he, hG n]
    trivial
  · rw [hG n] at e
    cases e

noncomputable def repC : Contract := mkC (α := List UInt8 × Nat) (fun p => p.2 ≤ 9223372036854775807 ∧ p.1.length * p.2 ≤ 140737488355328) (fun p => [.c (.str p.1), .c (.int .i64 (p.2 : Int))]) (fun _ => []) (fun p => ⟨[.pv (.c (.str (Lib.repeatL p.1 p.2)))], []⟩)
theorem rep_at (s : List UInt8) (c : Nat) (g0 : c ≤ 9223372036854775807) (g1 : s.length * c ≤ 140737488355328) : repC [.c (.str s), .c (.int .i64 (c : Int))] [] = some ⟨[.pv (.c (.str (Lib.repeatL s c)))], []⟩ :=
  mkC_at (α := List UInt8 × Nat) (s, c) ⟨g0, g1⟩ (by
    rintro ⟨s', c'⟩ _ h _
    simp only [List.cons.injEq, AV.c.injEq, PC.str.injEq, PC.int.injEq, true_and, and_true, Int.natCast_inj] at h
    obtain ⟨rfl, rfl⟩ := h
    rfl)
theorem rep_sound : SoundC Try.prog 94 repC := by
  refine ⟨⟨_, Try.func94, rfl, rfl⟩, fun args objs r hr => ?_⟩
  obtain ⟨⟨s, c⟩, ⟨h1, h2⟩, rfl, rfl, rfl⟩ := mkC_inv hr
  refine ⟨fun x hx => resB_spec (l := [.pv (.c (.str (Lib.repeatL s c)))]) rfl x hx, fun Ext G w vals M hl hx => ?_⟩
  match vals, hl with
  | [v1, v2], _ =>
  have e1 : v1 = .string ⟨s.toArray⟩ := by
    have := hx 0 _ v1 rfl rfl
    cases this with
    | c _ _ h => cases h; rfl
  have e2 : v2 = .int .i64 (c : Int) := by
    have := hx 1 _ v2 rfl rfl
    cases this with
    | c _ _ h => cases h; rfl
  subst e1 e2
  refine Calls.mono (Try.strings_Repeat ⟨s.toArray⟩ c w h1 (by show s.toArray.size * c ≤ _; simpa using h2)) ?_
  rintro e W' ⟨rfl, bel⟩
  refine ⟨G, _, rfl, Gh.le_refl _, M.below0 bel rfl, ?_⟩
  exact .c _ _ (.str _)

def genS : List UInt8 := List.replicate 32 0
theorem repeat_zero : ∀ n, Lib.repeatL [0] n = List.replicate n (0 : UInt8) := by
  intro n
  induction n with
  | zero => rfl
  | succ n ih =>
    show [0] ++ Lib.repeatL [0] n = _
    rw [ih]; rfl

def cfirstC : Contract := fun args objs => match args, objs with | [], [] => some ⟨[.pv (.agg [.c (.int .i64 0), .c (.int .i64 0), .c (.str genS), .c (.sl [])])], []⟩ | _, _ => none
def genC : Contract := fun args objs => match args, objs with | [], [] => some ⟨[.pv (.c (.str genS))], []⟩ | _, _ => none
set_option maxHeartbeats 1000000 in
theorem cfirst_sound (hΓ : SoundG Try.prog Γ) (h1 : Γ 94 = repC) : SoundC Try.prog 71 cfirstC := by
  refine sound_fn Try.func71 (by kernel_rfl) rfl rfl ?_
  intro args objs r hr
  unfold cfirstC at hr
  split at hr
  · cases hr
    refine ⟨rfl, by show 0 ≤ _; decide, fun E hN hns hF => ?_⟩
    refine vc_sound hΓ mixed _ _ _ ?_
    have hN := hN.trans nt_71
    have q1 : repC [.c (.str [0]), .c (.int .i64 32)] [] = some ⟨[.pv (.c (.str genS))], []⟩ := by
      have h := rep_at [0] 32 (by decide) (by decide)
      rw [repeat_zero] at h
      exact h
    generalize genS = g at q1
    simp only [runA, runB, runC, runD, runE, runF, fieldE, storeE, binE, ↓reduceIte, Nat.reduceLT, Nat.reduceLeDiff, Nat.reduceEqDiff, Nat.reduceAdd, Nat.reduceMul, Nat.reduceSub, reduceCtorEq, putAt, unE, Nat.reduceBEq, convE, buildE, List.replicate, Int.reduceLT, Int.reduceLE, Int.reduceToNat, mkE, mapSetE, hN, hF, ty_3, ty_9, ty_22, ty_24, notIf, isEq, h1, q1]
    simp only [runB, finC, finD, Option.isSome_some, Option.isSome_none, ↓reduceIte, Nat.reduceEqDiff, Nat.reduceAdd, Nat.reduceMul, forall_eq_or_imp, forall_eq, implies_true, Nat.reduceBEq, reduceCtorEq, false_implies, List.zip_cons_cons, List.zip_nil_left, List.zip_nil_right, Nat.reduceLeDiff, List.forall_mem_nil, rs_71, ty_3, ty_9, ty_22, ty_24]
  · cases hr
set_option maxHeartbeats 1000000 in
theorem gen_sound (hΓ : SoundG Try.prog Γ) (h1 : Γ 71 = cfirstC) : SoundC Try.prog 47 genC := by
  refine sound_fn Try.func47 (by kernel_rfl) rfl rfl ?_
  intro args objs r hr
  unfold genC at hr
  split at hr
  · cases hr
    refine ⟨rfl, by show 0 ≤ _; decide, fun E hN hns hF => ?_⟩
    refine vc_sound hΓ mixed _ _ _ ?_
    have hN := hN.trans nt_47
    have q1 : cfirstC [] [] = some ⟨[.pv (.agg [.c (.int .i64 0), .c (.int .i64 0), .c (.str genS), .c (.sl [])])], []⟩ := rfl
    generalize genS = g at q1
    simp only [runA, runB, runC, runD, runE, runF, fieldE, storeE, binE, ↓reduceIte, Nat.reduceLT, Nat.reduceLeDiff, Nat.reduceEqDiff, Nat.reduceAdd, Nat.reduceMul, Nat.reduceSub, reduceCtorEq, putAt, unE, Nat.reduceBEq, convE, buildE, List.replicate, Int.reduceLT, Int.reduceLE, Int.reduceToNat, mkE, mapSetE, hN, hF, ty_3, ty_9, ty_22, ty_24, notIf, isEq, h1, q1]
    simp only [runB, finC, finD, Option.isSome_some, Option.isSome_none, ↓reduceIte, Nat.reduceEqDiff, Nat.reduceAdd, Nat.reduceMul, forall_eq_or_imp, forall_eq, implies_true, Nat.reduceBEq, reduceCtorEq, false_implies, List.zip_cons_cons, List.zip_nil_left, List.zip_nil_right, Nat.reduceLeDiff, List.forall_mem_nil, rs_47, ty_3, ty_9, ty_22, ty_24]
  · cases hr
set_option maxRecDepth 100000 in
set_option maxHeartbeats 1000000 in
theorem refGen_sound : SoundC Try.prog 27 genC := by
  refine sound_fn Try.func27 (by kernel_rfl) rfl rfl ?_
  intro args objs r hr
  unfold genC at hr
  split at hr
  · cases hr
    refine ⟨rfl, by show 0 ≤ _; decide, fun E hN hns hF => ?_⟩
    refine vc_sound none0_sound mixed _ _ _ ?_
    have hN := hN.trans nt_27
    have h32 : ((32 : Int) * ((1 : Nat) : Int) ≤ 140737488355328) = True := eq_true (by decide)
    have hb : bytesOf [[.int .u8 0], [.int .u8 0], [.int .u8 0], [.int .u8 0], [.int .u8 0], [.int .u8 0], [.int .u8 0], [.int .u8 0], [.int .u8 0], [.int .u8 0], [.int .u8 0], [.int .u8 0], [.int .u8 0], [.int .u8 0], [.int .u8 0], [.int .u8 0], [.int .u8 0], [.int .u8 0], [.int .u8 0], [.int .u8 0], [.int .u8 0], [.int .u8 0], [.int .u8 0], [.int .u8 0], [.int .u8 0], [.int .u8 0], [.int .u8 0], [.int .u8 0], [.int .u8 0], [.int .u8 0], [.int .u8 0], [.int .u8 0]] = some genS := bytesOf_bytes genS
    have h32' : ((32 : Nat) * 1 ≤ 140737488355328) = True := eq_true (by decide)
    simp only [runA, runB, runC, runD, runE, runF, fieldE, storeE, binE, ↓reduceIte, Nat.reduceLT, Nat.reduceLeDiff, Nat.reduceEqDiff, Nat.reduceAdd, Nat.reduceMul, Nat.reduceSub, reduceCtorEq, putAt, unE, Nat.reduceBEq, convE, buildE, List.replicate, Int.reduceLT, Int.reduceLE, Int.reduceToNat, mkE, mapSetE, hN, hF, ty_5, ty_9, ty_88, notIf, isEq, h32, h32', hb]
    simp only [runB, finC, finD, Option.isSome_some, Option.isSome_none, ↓reduceIte, Nat.reduceEqDiff, Nat.reduceAdd, Nat.reduceMul, forall_eq_or_imp, forall_eq, implies_true, Nat.reduceBEq, reduceCtorEq, false_implies, List.zip_cons_cons, List.zip_nil_left, List.zip_nil_right, Nat.reduceLeDiff, List.forall_mem_nil, rs_27, ty_5, ty_9, ty_88, genS]
  · cases hr

variable {Γ : FuncId → Contract}

noncomputable def clnTC : Contract := mkC (α := List Txn) (fun l => l.length ≤ 1099511627776) (fun l => [.c (.sl (trows l))]) (fun _ => []) (fun l => ⟨[.pv (.c (.sl (trows l)))], []⟩)
theorem clnT_at (l : List Txn) (h : l.length ≤ 1099511627776) : clnTC [.c (.sl (trows l))] [] = some ⟨[.pv (.c (.sl (trows l)))], []⟩ :=
  mkC_at (α := List Txn) l h (by
    rintro y _ h _
    simp only [List.cons.injEq, AV.c.injEq, PC.sl.injEq, trows_iff, and_true] at h
    rw [h])
set_option maxRecDepth 100000 in
set_option maxHeartbeats 4000000 in
theorem clnT_sound  : SoundC Try.prog 82 clnTC := by
  refine sound_fn Try.func82 (by kernel_rfl) rfl rfl ?_
  intro args objs r0 hr
  obtain ⟨l, hl, rfl, rfl, rfl⟩ := mkC_inv hr
  refine ⟨rfl, by show 1 ≤ _; decide, fun E hN hns hF => ?_⟩
  refine vc_sound none0_sound mixed _ _ _ ?_
  have hN := hN.trans nt_82
  have hl : l.length ≤ 1099511627776 := hl
  have hz := rowsOK_trows l
  have hz0 : rowsOK 5 [] := fun _ h => by cases h
  cases l with
  | nil =>
    simp only [trows_nil, runA, runB, runC, runD, runE, runF, fieldE, storeE, binE, ↓reduceIte, Nat.reduceLT, Nat.reduceLeDiff, Nat.reduceEqDiff, Nat.reduceAdd, Nat.reduceMul, Nat.reduceSub, reduceCtorEq, putAt, unE, Nat.reduceBEq, convE, buildE, List.replicate, Int.reduceLT, Int.reduceLE, Int.reduceToNat, mkE, mapSetE, hN, hF, ty_25, ty_47, notIf, isEq, hz0]
    constructor
    all_goals simp only [runB, finC, finD, Option.isSome_some, Option.isSome_none, ↓reduceIte, Nat.reduceEqDiff, Nat.reduceAdd, Nat.reduceMul, forall_eq_or_imp, forall_eq, implies_true, Nat.reduceBEq, reduceCtorEq, false_implies, List.zip_cons_cons, List.zip_nil_left, List.zip_nil_right, Nat.reduceLeDiff, List.forall_mem_nil, rs_82]
  | cons x l =>
    have hx : trows (x :: l) = x.pcs :: trows l := rfl
    have hxl : (trows l).length = l.length := trows_length l
    rw [List.length_cons] at hl
    have hL : (0 + (l.length + 1)) * 48 ≤ 140737488355328 := by omega
    have hL2 : (l.length + 1) * 48 ≤ 140737488355328 := by omega
    rw [hx] at hz ⊢
    simp only [runA, runB, runC, runD, runE, runF, fieldE, storeE, binE, ↓reduceIte, Nat.reduceLT, Nat.reduceLeDiff, Nat.reduceEqDiff, Nat.reduceAdd, Nat.reduceMul, Nat.reduceSub, reduceCtorEq, putAt, unE, Nat.reduceBEq, convE, buildE, List.replicate, Int.reduceLT, Int.reduceLE, Int.reduceToNat, mkE, mapSetE, hN, hF, ty_25, ty_47, notIf, isEq, hz, hL, hL2, hxl]
    simp only [runB, finC, finD, Option.isSome_some, Option.isSome_none, ↓reduceIte, Nat.reduceEqDiff, Nat.reduceAdd, Nat.reduceMul, forall_eq_or_imp, forall_eq, implies_true, Nat.reduceBEq, reduceCtorEq, false_implies, List.zip_cons_cons, List.zip_nil_left, List.zip_nil_right, Nat.reduceLeDiff, List.forall_mem_nil, rs_82, hxl]
noncomputable def clnVC : Contract := mkC (α := List Vt) (fun l => l.length ≤ 1099511627776) (fun l => [.c (.sl (votes l))]) (fun _ => []) (fun l => ⟨[.pv (.c (.sl (votes l)))], []⟩)
theorem clnV_at (l : List Vt) (h : l.length ≤ 1099511627776) : clnVC [.c (.sl (votes l))] [] = some ⟨[.pv (.c (.sl (votes l)))], []⟩ :=
  mkC_at (α := List Vt) l h (by
    rintro y _ h _
    simp only [List.cons.injEq, AV.c.injEq, PC.sl.injEq, votes_iff, and_true] at h
    rw [h])
set_option maxRecDepth 100000 in
set_option maxHeartbeats 4000000 in
theorem clnV_sound  : SoundC Try.prog 83 clnVC := by
  refine sound_fn Try.func83 (by kernel_rfl) rfl rfl ?_
  intro args objs r0 hr
  obtain ⟨l, hl, rfl, rfl, rfl⟩ := mkC_inv hr
  refine ⟨rfl, by show 1 ≤ _; decide, fun E hN hns hF => ?_⟩
  refine vc_sound none0_sound mixed _ _ _ ?_
  have hN := hN.trans nt_83
  have hl : l.length ≤ 1099511627776 := hl
  have hz := rowsOK_votes l
  have hz0 : rowsOK 7 [] := fun _ h => by cases h
  cases l with
  | nil =>
    simp only [votes_nil, runA, runB, runC, runD, runE, runF, fieldE, storeE, binE, ↓reduceIte, Nat.reduceLT, Nat.reduceLeDiff, Nat.reduceEqDiff, Nat.reduceAdd, Nat.reduceMul, Nat.reduceSub, reduceCtorEq, putAt, unE, Nat.reduceBEq, convE, buildE, List.replicate, Int.reduceLT, Int.reduceLE, Int.reduceToNat, mkE, mapSetE, hN, hF, ty_22, ty_122, notIf, isEq, hz0]
    constructor
    all_goals simp only [runB, finC, finD, Option.isSome_some, Option.isSome_none, ↓reduceIte, Nat.reduceEqDiff, Nat.reduceAdd, Nat.reduceMul, forall_eq_or_imp, forall_eq, implies_true, Nat.reduceBEq, reduceCtorEq, false_implies, List.zip_cons_cons, List.zip_nil_left, List.zip_nil_right, Nat.reduceLeDiff, List.forall_mem_nil, rs_83]
  | cons x l =>
    have hx : votes (x :: l) = x.pcs :: votes l := rfl
    have hxl : (votes l).length = l.length := votes_length l
    rw [List.length_cons] at hl
    have hL : (0 + (l.length + 1)) * 72 ≤ 140737488355328 := by omega
    have hL2 : (l.length + 1) * 72 ≤ 140737488355328 := by omega
    rw [hx] at hz ⊢
    simp only [runA, runB, runC, runD, runE, runF, fieldE, storeE, binE, ↓reduceIte, Nat.reduceLT, Nat.reduceLeDiff, Nat.reduceEqDiff, Nat.reduceAdd, Nat.reduceMul, Nat.reduceSub, reduceCtorEq, putAt, unE, Nat.reduceBEq, convE, buildE, List.replicate, Int.reduceLT, Int.reduceLE, Int.reduceToNat, mkE, mapSetE, hN, hF, ty_22, ty_122, notIf, isEq, hz, hL, hL2, hxl]
    simp only [runB, finC, finD, Option.isSome_some, Option.isSome_none, ↓reduceIte, Nat.reduceEqDiff, Nat.reduceAdd, Nat.reduceMul, forall_eq_or_imp, forall_eq, implies_true, Nat.reduceBEq, reduceCtorEq, false_implies, List.zip_cons_cons, List.zip_nil_left, List.zip_nil_right, Nat.reduceLeDiff, List.forall_mem_nil, rs_83, hxl]
def smB (b : Blk) : Prop := b.txs.length ≤ 1099511627776 ∧ b.ju.vs.length ≤ 1099511627776
noncomputable def cpyC : Contract := mkC (α := Blk) (fun p => smB p) (fun p => [p.av]) (fun p => []) (fun p => ⟨[.pv p.av], []⟩)
theorem cpy_at (bvw : Int) (bht : Int) (bpa : List UInt8) (bjvw : Int) (bjht : Int) (bjbl : List UInt8) (bjvs : List Vt) (btxs : List Txn) (bsig : List UInt8) (g0 : smB (⟨bvw, bht, bpa, ⟨bjvw, bjht, bjbl, bjvs⟩, btxs, bsig⟩ : Blk)) : cpyC [(.agg [.c (.int .i64 bvw), .c (.int .i64 bht), .c (.str bpa), .c (.int .i64 bjvw), .c (.int .i64 bjht), .c (.str bjbl), .c (.sl (votes bjvs)), .c (.sl (trows btxs)), .c (.str bsig)])] [] = some ⟨[.pv (.agg [.c (.int .i64 bvw), .c (.int .i64 bht), .c (.str bpa), .c (.int .i64 bjvw), .c (.int .i64 bjht), .c (.str bjbl), .c (.sl (votes bjvs)), .c (.sl (trows btxs)), .c (.str bsig)])], []⟩ := by
  exact mkC_at (α := Blk) ⟨bvw, bht, bpa, ⟨bjvw, bjht, bjbl, bjvs⟩, btxs, bsig⟩ g0 (by
    rintro b' _ h ho
    have hh := And.intro h ho
    clear h ho
    simp only [List.cons.injEq, AV.c.injEq, AV.agg.injEq, PC.int.injEq, PC.str.injEq, PC.bool.injEq, PC.sl.injEq, OV.c.injEq, OV.own.injEq, OV.mp.injEq, bytes_iff, texts_iff, true_and, and_true, and_self, beq_self_eq_true, Blk.av_iff] at hh
    simp only [hh])

set_option maxRecDepth 100000 in
set_option maxHeartbeats 4000000 in
theorem cpy_sound (hΓ : SoundG Try.prog Γ) (h1 : Γ 82 = clnTC) (h2 : Γ 83 = clnVC) : SoundC Try.prog 55 cpyC := by
  refine sound_fn Try.func55 (by kernel_rfl) rfl rfl ?_
  intro args objs r0 hr
  obtain ⟨⟨vw, ht, pa, ⟨jv, jh, jb, js⟩, txs, sig⟩, hl, rfl, rfl, rfl⟩ := mkC_inv hr
  refine ⟨rfl, by show 1 ≤ _; decide, fun E hN hns hF => ?_⟩
  refine vc_sound hΓ mixed _ _ _ ?_
  have hN := hN.trans nt_55
  obtain ⟨hl1, hl2⟩ := hl
  have q1 := clnT_at txs hl1
  have q2 := clnV_at js hl2
  unfold Blk.av
  dsimp only
  simp only [runA, runB, runC, runD, runE, runF, fieldE, storeE, binE, ↓reduceIte, Nat.reduceLT, Nat.reduceLeDiff, Nat.reduceEqDiff, Nat.reduceAdd, Nat.reduceMul, Nat.reduceSub, reduceCtorEq, putAt, unE, Nat.reduceBEq, convE, buildE, List.replicate, Int.reduceLT, Int.reduceLE, Int.reduceToNat, mkE, mapSetE, hN, hF, ty_3, ty_9, ty_22, ty_24, ty_25, ty_27, ty_47, ty_122, notIf, isEq, h1, h2, q1, q2]
  refine drawnP_intro (by kernel_rfl) (by kernel_rfl) ?_
  simp only [runA, runB, runC, runD, runE, runF, fieldE, storeE, binE, ↓reduceIte, Nat.reduceLT, Nat.reduceLeDiff, Nat.reduceEqDiff, Nat.reduceAdd, Nat.reduceMul, Nat.reduceSub, reduceCtorEq, putAt, unE, Nat.reduceBEq, convE, buildE, List.replicate, Int.reduceLT, Int.reduceLE, Int.reduceToNat, mkE, mapSetE, hN, hF, ty_3, ty_9, ty_22, ty_24, ty_25, ty_27, ty_47, ty_122, notIf, isEq]
  simp only [runB, finC, finD, Option.isSome_some, Option.isSome_none, ↓reduceIte, Nat.reduceEqDiff, Nat.reduceAdd, Nat.reduceMul, forall_eq_or_imp, forall_eq, implies_true, Nat.reduceBEq, reduceCtorEq, false_implies, List.zip_cons_cons, List.zip_nil_left, List.zip_nil_right, Nat.reduceLeDiff, List.forall_mem_nil, rs_55, ty_3, ty_9, ty_22, ty_24, ty_25, ty_27, ty_47, ty_122]

def fitsB (b p : Blk) : Bool := (p.ht == IntKind.i64.wrap (b.ht - 1)) && (p.vw == b.ju.vw)
noncomputable def fitsC : Contract := mkC (α := Blk × Blk) (fun p => True) (fun p => [p.1.av, p.2.av]) (fun p => []) (fun p => ⟨[.pv (.c (.bool (fitsB p.1 p.2)))], []⟩)
theorem fits_at (bvw : Int) (bht : Int) (bpa : List UInt8) (bjvw : Int) (bjht : Int) (bjbl : List UInt8) (bjvs : List Vt) (btxs : List Txn) (bsig : List UInt8) (qvw : Int) (qht : Int) (qpa : List UInt8) (qjvw : Int) (qjht : Int) (qjbl : List UInt8) (qjvs : List Vt) (qtxs : List Txn) (qsig : List UInt8) : fitsC [(.agg [.c (.int .i64 bvw), .c (.int .i64 bht), .c (.str bpa), .c (.int .i64 bjvw), .c (.int .i64 bjht), .c (.str bjbl), .c (.sl (votes bjvs)), .c (.sl (trows btxs)), .c (.str bsig)]), (.agg [.c (.int .i64 qvw), .c (.int .i64 qht), .c (.str qpa), .c (.int .i64 qjvw), .c (.int .i64 qjht), .c (.str qjbl), .c (.sl (votes qjvs)), .c (.sl (trows qtxs)), .c (.str qsig)])] [] = some ⟨[.pv (.c (.bool (fitsB (⟨bvw, bht, bpa, ⟨bjvw, bjht, bjbl, bjvs⟩, btxs, bsig⟩ : Blk) (⟨qvw, qht, qpa, ⟨qjvw, qjht, qjbl, qjvs⟩, qtxs, qsig⟩ : Blk))))], []⟩ := by
  exact mkC_at (α := Blk × Blk) (⟨bvw, bht, bpa, ⟨bjvw, bjht, bjbl, bjvs⟩, btxs, bsig⟩, ⟨qvw, qht, qpa, ⟨qjvw, qjht, qjbl, qjvs⟩, qtxs, qsig⟩) trivial (by
    rintro ⟨b', q'⟩ _ h ho
    have hh := And.intro h ho
    clear h ho
    simp only [List.cons.injEq, AV.c.injEq, AV.agg.injEq, PC.int.injEq, PC.str.injEq, PC.bool.injEq, PC.sl.injEq, OV.c.injEq, OV.own.injEq, OV.mp.injEq, bytes_iff, texts_iff, true_and, and_true, and_self, beq_self_eq_true, Blk.av_iff] at hh
    simp only [hh])

set_option maxRecDepth 100000 in
set_option maxHeartbeats 4000000 in
theorem fits_sound  : SoundC Try.prog 80 fitsC := by
  refine sound_fn Try.func80 (by kernel_rfl) rfl rfl ?_
  intro args objs r0 hr
  obtain ⟨⟨⟨vw, ht, pa, ⟨jv, jh, jb, js⟩, txs, sig⟩, ⟨vw2, ht2, pa2, ⟨jv2, jh2, jb2, js2⟩, txs2, sig2⟩⟩, _, rfl, rfl, rfl⟩ := mkC_inv hr
  refine ⟨rfl, by show 2 ≤ _; decide, fun E hN hns hF => ?_⟩
  refine vc_sound none0_sound mixed _ _ _ ?_
  have hN := hN.trans nt_80
  unfold Blk.av fitsB
  dsimp only
  simp +contextual (maxSteps := 10000000) only [runA, runB, runC, runD, runE, runF, fieldE, storeE, binE, ↓reduceIte, Nat.reduceLT, Nat.reduceLeDiff, Nat.reduceEqDiff, Nat.reduceAdd, Nat.reduceMul, Nat.reduceSub, reduceCtorEq, putAt, unE, Nat.reduceBEq, convE, buildE, List.replicate, Int.reduceLT, Int.reduceLE, Int.reduceToNat, mkE, mapSetE, hN, hF, ty_3, ty_4, ty_9, ty_22, ty_24, ty_25, ty_27, notIf, isEq, bytes_length, false_implies, implies_true]
  simp only [runB, finC, finD, Option.isSome_some, Option.isSome_none, ↓reduceIte, Nat.reduceEqDiff, Nat.reduceAdd, Nat.reduceMul, forall_eq_or_imp, forall_eq, implies_true, Nat.reduceBEq, reduceCtorEq, false_implies, List.zip_cons_cons, List.zip_nil_left, List.zip_nil_right, Nat.reduceLeDiff, List.forall_mem_nil, rs_80, ty_3, ty_4, ty_9, ty_22, ty_24, ty_25, ty_27]

noncomputable def esOf (own : List Blk) : List (List UInt8 × List PC) := own.map fun b => (nameS b, b.pcs)
theorem esOf_iff {a b : List Blk} : esOf a = esOf b ↔ a = b := ⟨map_inj' fun x y h => Blk.pcs_inj (Prod.mk.inj h).2, fun h => by rw [h]⟩
theorem esOf_length (own : List Blk) : (esOf own).length = own.length := by simp [esOf]
noncomputable def atB (own : List Blk) (name : List UInt8) : Option Blk := own.find? fun b => nameS b == name
theorem find_es (own : List Blk) (name : List UInt8) : findE name (esOf own) = (atB own name).map Blk.pcs := by
  induction own with
  | nil => rfl
  | cons b own ih =>
    show findE name ((nameS b, b.pcs) :: esOf own) = _
    unfold atB
    rw [List.find?_cons]
    unfold findE
    cases h : nameS b == name with
    | true => rw [if_pos rfl]; rfl
    | false => rw [if_neg (by simp)]; exact ih
theorem set_es {own : List Blk} {b : Blk} (h : atB own (nameS b) = none) : setE (nameS b) b.pcs (esOf own) = esOf (own ++ [b]) := by
  induction own with
  | nil => rfl
  | cons x own ih =>
    unfold atB at h ih
    rw [List.find?_cons] at h
    show setE (nameS b) b.pcs ((nameS x, x.pcs) :: esOf own) = (nameS x, x.pcs) :: esOf (own ++ [b])
    unfold setE
    cases hx : nameS x == nameS b with
    | true => rw [hx] at h; cases h
    | false =>
      rw [hx] at h
      rw [if_neg (by simp), ih h]
def treeOK (own : List Blk) : Prop := own.length ≤ 4294967296 ∧ ∀ b ∈ own, okB b ∧ smB b
noncomputable def gotB (own : List Blk) (name : List UInt8) : Blk := (atB own name).getD zeroBk
theorem atB_mem {own : List Blk} {name : List UInt8} {b : Blk} (h : atB own name = some b) : b ∈ own := List.mem_of_find?_eq_some h
theorem got_sm {own : List Blk} (h : treeOK own) (name : List UInt8) : smB (gotB own name) := by
  unfold gotB
  cases ha : atB own name with
  | none => exact ⟨by simp [zeroBk], by simp [zeroBk]⟩
  | some b => exact (h.2 b (atB_mem ha)).2
noncomputable def newTC : Contract := fun args objs => match args, objs with | [], [] => some ⟨[.newobj [.mp true []]], []⟩ | _, _ => none
noncomputable def atTC : Contract := mkC (α := List Blk × List UInt8) (fun p => True) (fun p => [.ptr 6400000 0, .c (.str p.2)]) (fun p => [[.mp true (esOf p.1)]]) (fun p => ⟨[.pv (gotB p.1 p.2).av, .pv (.c (.bool (atB p.1 p.2).isSome))], [[.mp true (esOf p.1)]]⟩)
theorem atT_at (o : List Blk) (s : List UInt8) : atTC [.ptr 6400000 0, .c (.str s)] [[.mp true (esOf o)]] = some ⟨[.pv (gotB o s).av, .pv (.c (.bool (atB o s).isSome))], [[.mp true (esOf o)]]⟩ := by
  exact mkC_at (α := List Blk × List UInt8) (o, s) trivial (by
    rintro ⟨o', s'⟩ _ h ho
    have hh := And.intro h ho
    clear h ho
    simp only [List.cons.injEq, AV.c.injEq, AV.agg.injEq, PC.int.injEq, PC.str.injEq, PC.bool.injEq, PC.sl.injEq, OV.c.injEq, OV.own.injEq, OV.mp.injEq, bytes_iff, texts_iff, true_and, and_true, and_self, beq_self_eq_true, esOf_iff] at hh
    simp only [hh])
noncomputable def getTC : Contract := mkC (α := List Blk × List UInt8) (fun p => treeOK p.1) (fun p => [.ptr 6400000 0, .c (.str p.2)]) (fun p => [[.mp true (esOf p.1)]]) (fun p => ⟨[.pv (gotB p.1 p.2).av, .pv (.c (.bool (atB p.1 p.2).isSome))], [[.mp true (esOf p.1)]]⟩)
theorem getT_at (o : List Blk) (s : List UInt8) (g0 : treeOK o) : getTC [.ptr 6400000 0, .c (.str s)] [[.mp true (esOf o)]] = some ⟨[.pv (gotB o s).av, .pv (.c (.bool (atB o s).isSome))], [[.mp true (esOf o)]]⟩ := by
  exact mkC_at (α := List Blk × List UInt8) (o, s) g0 (by
    rintro ⟨o', s'⟩ _ h ho
    have hh := And.intro h ho
    clear h ho
    simp only [List.cons.injEq, AV.c.injEq, AV.agg.injEq, PC.int.injEq, PC.str.injEq, PC.bool.injEq, PC.sl.injEq, OV.c.injEq, OV.own.injEq, OV.mp.injEq, bytes_iff, texts_iff, true_and, and_true, and_self, beq_self_eq_true, esOf_iff] at hh
    simp only [hh])
noncomputable def lenTC : Contract := mkC (α := List Blk) (fun p => True) (fun p => [.ptr 6400000 0]) (fun p => [[.mp true (esOf p)]]) (fun p => ⟨[.pv (.c (.int .i64 (p.length : Int)))], [[.mp true (esOf p)]]⟩)
theorem lenT_at (o : List Blk) : lenTC [.ptr 6400000 0] [[.mp true (esOf o)]] = some ⟨[.pv (.c (.int .i64 (o.length : Int)))], [[.mp true (esOf o)]]⟩ := by
  exact mkC_at (α := List Blk) o trivial (by
    rintro o' _ h ho
    have hh := And.intro h ho
    clear h ho
    simp only [List.cons.injEq, AV.c.injEq, AV.agg.injEq, PC.int.injEq, PC.str.injEq, PC.bool.injEq, PC.sl.injEq, OV.c.injEq, OV.own.injEq, OV.mp.injEq, bytes_iff, texts_iff, true_and, and_true, and_self, beq_self_eq_true, esOf_iff] at hh
    simp only [hh])
noncomputable def putB' (o : List Blk) (b : Blk) : Bool := decide (okB b) && (atB o (nameS b)).isNone
noncomputable def putO (o : List Blk) (b : Blk) : List Blk := if putB' o b then o ++ [b] else o
noncomputable def putTC : Contract := mkC (α := List Blk × Blk) (fun p => smB p.2) (fun p => [.ptr 6400000 0, p.2.av]) (fun p => [[.mp true (esOf p.1)]]) (fun p => ⟨[.pv (.c (.bool (putB' p.1 p.2)))], [[.mp true (esOf (putO p.1 p.2))]]⟩)
theorem putT_at (o : List Blk) (bvw : Int) (bht : Int) (bpa : List UInt8) (bjvw : Int) (bjht : Int) (bjbl : List UInt8) (bjvs : List Vt) (btxs : List Txn) (bsig : List UInt8) (g0 : smB (⟨bvw, bht, bpa, ⟨bjvw, bjht, bjbl, bjvs⟩, btxs, bsig⟩ : Blk)) : putTC [.ptr 6400000 0, (.agg [.c (.int .i64 bvw), .c (.int .i64 bht), .c (.str bpa), .c (.int .i64 bjvw), .c (.int .i64 bjht), .c (.str bjbl), .c (.sl (votes bjvs)), .c (.sl (trows btxs)), .c (.str bsig)])] [[.mp true (esOf o)]] = some ⟨[.pv (.c (.bool (putB' o (⟨bvw, bht, bpa, ⟨bjvw, bjht, bjbl, bjvs⟩, btxs, bsig⟩ : Blk))))], [[.mp true (esOf (putO o (⟨bvw, bht, bpa, ⟨bjvw, bjht, bjbl, bjvs⟩, btxs, bsig⟩ : Blk)))]]⟩ := by
  exact mkC_at (α := List Blk × Blk) (o, ⟨bvw, bht, bpa, ⟨bjvw, bjht, bjbl, bjvs⟩, btxs, bsig⟩) g0 (by
    rintro ⟨o', b'⟩ _ h ho
    have hh := And.intro h ho
    clear h ho
    simp only [List.cons.injEq, AV.c.injEq, AV.agg.injEq, PC.int.injEq, PC.str.injEq, PC.bool.injEq, PC.sl.injEq, OV.c.injEq, OV.own.injEq, OV.mp.injEq, bytes_iff, texts_iff, true_and, and_true, and_self, beq_self_eq_true, esOf_iff, Blk.av_iff] at hh
    simp only [hh])


variable {Γ : FuncId → Contract}


theorem op_makeMap {Γ : FuncId → Contract} {P : Program} {M : List Nat} {dd : Tmp} {ty : TypeId} {pos : String} {af : Array Edge} {g : Option (Nat × Bool)} {ρ : Operand → AV} (t : TypeId) : opE Γ P M ⟨some dd, .makeMap t none, ty, pos, af, g⟩ ρ = (match (tyMap P t).bind fun x => tyAgg P x.2 with
    | some ag => .ask (objName dd) fun | none => .ret ⟨.mp (objName dd), [(objName dd, .mp ag [])]⟩ | some _ => .fail
    | none => .fail) := rfl
set_option maxHeartbeats 4000000 in
theorem newT_sound : SoundC Try.prog 19 newTC := by
  refine sound_fn Try.func19 (by kernel_rfl) rfl rfl ?_
  intro args objs r0 hr
  unfold newTC at hr
  split at hr
  · cases hr
    refine ⟨rfl, by show 0 ≤ _; decide, fun E hN hns hF => ?_⟩
    refine vc_sound none0_sound mixed _ _ _ ?_
    have hN := hN.trans nt_19
    simp only [runA, runB, runC, runD, runE, runF, fieldE, storeE, binE, ↓reduceIte, Nat.reduceLT, Nat.reduceLeDiff, Nat.reduceEqDiff, Nat.reduceAdd, Nat.reduceMul, Nat.reduceSub, reduceCtorEq, putAt, unE, Nat.reduceBEq, convE, buildE, List.replicate, Int.reduceLT, Int.reduceLE, Int.reduceToNat, mkE, mapSetE, hN, hF, ty_9, ty_27, ty_33, ty_51, ty_53, notIf, isEq, Option.isSome_some, op_makeMap, Option.bind_some]
    simp only [runB, finC, finD, Option.isSome_some, Option.isSome_none, ↓reduceIte, Nat.reduceEqDiff, Nat.reduceAdd, Nat.reduceMul, forall_eq_or_imp, forall_eq, implies_true, Nat.reduceBEq, reduceCtorEq, false_implies, List.zip_cons_cons, List.zip_nil_left, List.zip_nil_right, Nat.reduceLeDiff, List.forall_mem_nil, rs_19, ty_9, ty_27, ty_33, ty_51, ty_53]
  · cases hr

set_option maxRecDepth 100000 in
set_option maxHeartbeats 4000000 in
theorem lenT_sound  : SoundC Try.prog 23 lenTC := by
  refine sound_fn Try.func23 (by kernel_rfl) rfl rfl ?_
  intro args objs r0 hr
  obtain ⟨o, _, rfl, rfl, rfl⟩ := mkC_inv hr
  refine ⟨rfl, by show 1 ≤ _; decide, fun E hN hns hF => ?_⟩
  refine vc_sound none0_sound mixed _ _ _ ?_
  have hN := hN.trans nt_23
  have hl := esOf_length o
  generalize esOf o = es at hl ⊢
  simp only [runA, runB, runC, runD, runE, runF, fieldE, storeE, binE, ↓reduceIte, Nat.reduceLT, Nat.reduceLeDiff, Nat.reduceEqDiff, Nat.reduceAdd, Nat.reduceMul, Nat.reduceSub, reduceCtorEq, putAt, unE, Nat.reduceBEq, convE, buildE, List.replicate, Int.reduceLT, Int.reduceLE, Int.reduceToNat, mkE, mapSetE, hN, hF, ty_3, ty_9, ty_27, ty_33, ty_51, ty_53, notIf, isEq, Option.isSome_some, op_makeMap, Option.bind_some, hl]
  simp only [runB, finC, finD, Option.isSome_some, Option.isSome_none, ↓reduceIte, Nat.reduceEqDiff, Nat.reduceAdd, Nat.reduceMul, forall_eq_or_imp, forall_eq, implies_true, Nat.reduceBEq, reduceCtorEq, false_implies, List.zip_cons_cons, List.zip_nil_left, List.zip_nil_right, Nat.reduceLeDiff, List.forall_mem_nil, rs_23, ty_3, ty_9, ty_27, ty_33, ty_51, ty_53, hl]

set_option maxRecDepth 100000 in
set_option maxHeartbeats 4000000 in
theorem atT_sound  : SoundC Try.prog 57 atTC := by
  refine sound_fn Try.func57 (by kernel_rfl) rfl rfl ?_
  intro args objs r0 hr
  obtain ⟨⟨o, s⟩, _, rfl, rfl, rfl⟩ := mkC_inv hr
  refine ⟨rfl, by show 2 ≤ _; decide, fun E hN hns hF => ?_⟩
  refine vc_sound none0_sound mixed _ _ _ ?_
  have hN := hN.trans nt_57
  have hf := find_es o s
  unfold gotB
  dsimp only
  cases ha : atB o s with
  | none =>
    rw [ha] at hf
    simp only [Option.map_none] at hf
    generalize esOf o = es at hf ⊢
    simp only [runA, runB, runC, runD, runE, runF, fieldE, storeE, binE, ↓reduceIte, Nat.reduceLT, Nat.reduceLeDiff, Nat.reduceEqDiff, Nat.reduceAdd, Nat.reduceMul, Nat.reduceSub, reduceCtorEq, putAt, unE, Nat.reduceBEq, convE, buildE, List.replicate, Int.reduceLT, Int.reduceLE, Int.reduceToNat, mkE, mapSetE, hN, hF, ty_3, ty_4, ty_9, ty_24, ty_25, ty_27, ty_33, ty_51, ty_53, notIf, isEq, Option.isSome_some, op_makeMap, Option.bind_some, hf]
    simp only [runB, finC, finD, Option.isSome_some, Option.isSome_none, ↓reduceIte, Nat.reduceEqDiff, Nat.reduceAdd, Nat.reduceMul, forall_eq_or_imp, forall_eq, implies_true, Nat.reduceBEq, reduceCtorEq, false_implies, List.zip_cons_cons, List.zip_nil_left, List.zip_nil_right, Nat.reduceLeDiff, List.forall_mem_nil, rs_57, ty_3, ty_4, ty_9, ty_24, ty_25, ty_27, ty_33, ty_51, ty_53, Option.getD_none, zeroBk, Blk.av, Option.isSome_none, votes_nil, trows_nil]
  | some b =>
    rw [ha] at hf
    simp only [Option.map_some] at hf
    obtain ⟨vw, ht, pa, ⟨jv, jh, jb, js⟩, txs, sig⟩ := b
    unfold Blk.pcs at hf
    generalize esOf o = es at hf ⊢
    simp only [runA, runB, runC, runD, runE, runF, fieldE, storeE, binE, ↓reduceIte, Nat.reduceLT, Nat.reduceLeDiff, Nat.reduceEqDiff, Nat.reduceAdd, Nat.reduceMul, Nat.reduceSub, reduceCtorEq, putAt, unE, Nat.reduceBEq, convE, buildE, List.replicate, Int.reduceLT, Int.reduceLE, Int.reduceToNat, mkE, mapSetE, hN, hF, ty_3, ty_4, ty_9, ty_24, ty_25, ty_27, ty_33, ty_51, ty_53, notIf, isEq, Option.isSome_some, op_makeMap, Option.bind_some, hf]
    simp only [runB, finC, finD, Option.isSome_some, Option.isSome_none, ↓reduceIte, Nat.reduceEqDiff, Nat.reduceAdd, Nat.reduceMul, forall_eq_or_imp, forall_eq, implies_true, Nat.reduceBEq, reduceCtorEq, false_implies, List.zip_cons_cons, List.zip_nil_left, List.zip_nil_right, Nat.reduceLeDiff, List.forall_mem_nil, rs_57, ty_3, ty_4, ty_9, ty_24, ty_25, ty_27, ty_33, ty_51, ty_53, Option.getD_some, Blk.av, Option.isSome_some]

set_option maxRecDepth 100000 in
set_option maxHeartbeats 4000000 in
theorem getT_sound (hΓ : SoundG Try.prog Γ) (h1 : Γ 57 = atTC) (h2 : Γ 55 = cpyC) : SoundC Try.prog 24 getTC := by
  refine sound_fn Try.func24 (by kernel_rfl) rfl rfl ?_
  intro args objs r0 hr
  obtain ⟨⟨o, s⟩, ho, rfl, rfl, rfl⟩ := mkC_inv hr
  refine ⟨rfl, by show 2 ≤ _; decide, fun E hN hns hF => ?_⟩
  refine vc_sound hΓ mixed _ _ _ ?_
  have hN := hN.trans nt_24
  have ho : treeOK o := ho
  have q1 := atT_at o s
  have hsm := got_sm ho s
  dsimp only
  generalize gotB o s = b at q1 hsm ⊢
  generalize (atB o s).isSome = k at q1 ⊢
  generalize esOf o = es at q1 ⊢
  obtain ⟨vw, ht, pa, ⟨jv, jh, jb, js⟩, txs, sig⟩ := b
  have q2 := cpy_at vw ht pa jv jh jb js txs sig hsm
  unfold Blk.av at q1 q2 ⊢
  dsimp only at q1 q2 ⊢
  simp only [runA, runB, runC, runD, runE, runF, fieldE, storeE, binE, ↓reduceIte, Nat.reduceLT, Nat.reduceLeDiff, Nat.reduceEqDiff, Nat.reduceAdd, Nat.reduceMul, Nat.reduceSub, reduceCtorEq, putAt, unE, Nat.reduceBEq, convE, buildE, List.replicate, Int.reduceLT, Int.reduceLE, Int.reduceToNat, mkE, mapSetE, hN, hF, ty_3, ty_4, ty_9, ty_24, ty_25, ty_27, ty_33, notIf, isEq, Option.isSome_some, op_makeMap, Option.bind_some, h1, h2, q1, q2]
  simp only [runB, finC, finD, Option.isSome_some, Option.isSome_none, ↓reduceIte, Nat.reduceEqDiff, Nat.reduceAdd, Nat.reduceMul, forall_eq_or_imp, forall_eq, implies_true, Nat.reduceBEq, reduceCtorEq, false_implies, List.zip_cons_cons, List.zip_nil_left, List.zip_nil_right, Nat.reduceLeDiff, List.forall_mem_nil, rs_24, ty_3, ty_4, ty_9, ty_24, ty_25, ty_27, ty_33]

set_option maxRecDepth 100000 in
set_option maxHeartbeats 4000000 in
theorem putT_sound (hΓ : SoundG Try.prog Γ) (h1 : Γ 13 = bkNC) (h2 : Γ 55 = cpyC) : SoundC Try.prog 20 putTC := by
  refine sound_fn Try.func20 (by kernel_rfl) rfl rfl ?_
  intro args objs r0 hr
  obtain ⟨⟨o, ⟨vw, ht, pa, ⟨jv, jh, jb, js⟩, txs, sig⟩⟩, hl, rfl, rfl, rfl⟩ := mkC_inv hr
  refine ⟨rfl, by show 2 ≤ _; decide, fun E hN hns hF => ?_⟩
  refine vc_sound hΓ mixed _ _ _ ?_
  have hN := hN.trans nt_20
  have hl : smB ⟨vw, ht, pa, ⟨jv, jh, jb, js⟩, txs, sig⟩ := hl
  have q1 := bkN_at vw ht pa jv jh jb js txs sig (by have := hl.1; dsimp only at this; omega)
  have q2 := cpy_at vw ht pa jv jh jb js txs sig hl
  have hf := find_es o (nameS ⟨vw, ht, pa, ⟨jv, jh, jb, js⟩, txs, sig⟩)
  have hset : atB o (nameS ⟨vw, ht, pa, ⟨jv, jh, jb, js⟩, txs, sig⟩) = none → setE (nameS ⟨vw, ht, pa, ⟨jv, jh, jb, js⟩, txs, sig⟩) [.int .i64 vw, .int .i64 ht, .str pa, .int .i64 jv, .int .i64 jh, .str jb, .sl (votes js), .sl (trows txs), .str sig] (esOf o) = esOf (o ++ [⟨vw, ht, pa, ⟨jv, jh, jb, js⟩, txs, sig⟩]) := set_es
  unfold Blk.av at q2 ⊢
  dsimp only at q2 ⊢
  have bs : (([] : List UInt8) == []) = true := rfl
  by_cases hk : okB ⟨vw, ht, pa, ⟨jv, jh, jb, js⟩, txs, sig⟩
  case neg =>
    have hS : nameS ⟨vw, ht, pa, ⟨jv, jh, jb, js⟩, txs, sig⟩ = [] := if_neg hk
    have hP : putB' o ⟨vw, ht, pa, ⟨jv, jh, jb, js⟩, txs, sig⟩ = false := by unfold putB'; rw [decide_eq_false hk]; rfl
    have hO : putO o ⟨vw, ht, pa, ⟨jv, jh, jb, js⟩, txs, sig⟩ = o := by unfold putO; rw [hP]; rfl
    rw [hP, hO]
    rw [hS] at q1
    generalize esOf o = es
    simp only [runA, runB, runC, runD, runE, runF, fieldE, storeE, binE, ↓reduceIte, Nat.reduceLT, Nat.reduceLeDiff, Nat.reduceEqDiff, Nat.reduceAdd, Nat.reduceMul, Nat.reduceSub, reduceCtorEq, putAt, unE, Nat.reduceBEq, convE, buildE, List.replicate, Int.reduceLT, Int.reduceLE, Int.reduceToNat, mkE, mapSetE, hN, hF, ty_3, ty_4, ty_9, ty_24, ty_25, ty_27, ty_33, ty_51, ty_53, notIf, isEq, Option.isSome_some, op_makeMap, Option.bind_some, h1, q1, bs]
    simp only [runB, finC, finD, Option.isSome_some, Option.isSome_none, ↓reduceIte, Nat.reduceEqDiff, Nat.reduceAdd, Nat.reduceMul, forall_eq_or_imp, forall_eq, implies_true, Nat.reduceBEq, reduceCtorEq, false_implies, List.zip_cons_cons, List.zip_nil_left, List.zip_nil_right, Nat.reduceLeDiff, List.forall_mem_nil, rs_20, ty_3, ty_4, ty_9, ty_24, ty_25, ty_27, ty_33, ty_51, ty_53]
  have hne : (nameS ⟨vw, ht, pa, ⟨jv, jh, jb, js⟩, txs, sig⟩ == []) = false := by
    have := nameS_len hk
    cases hs : nameS ⟨vw, ht, pa, ⟨jv, jh, jb, js⟩, txs, sig⟩ with
    | nil => rw [hs] at this; cases this
    | cons => rfl
  cases ha : atB o (nameS ⟨vw, ht, pa, ⟨jv, jh, jb, js⟩, txs, sig⟩) with
  | some b =>
    have hP : putB' o ⟨vw, ht, pa, ⟨jv, jh, jb, js⟩, txs, sig⟩ = false := by unfold putB'; rw [ha]; simp
    have hO : putO o ⟨vw, ht, pa, ⟨jv, jh, jb, js⟩, txs, sig⟩ = o := by unfold putO; rw [hP]; rfl
    rw [ha] at hf
    simp only [Option.map_some] at hf
    unfold Blk.pcs at hf
    rw [hP, hO]
    generalize nameS ⟨vw, ht, pa, ⟨jv, jh, jb, js⟩, txs, sig⟩ = nm at q1 hf hne
    generalize esOf o = es at hf ⊢
    simp only [runA, runB, runC, runD, runE, runF, fieldE, storeE, binE, ↓reduceIte, Nat.reduceLT, Nat.reduceLeDiff, Nat.reduceEqDiff, Nat.reduceAdd, Nat.reduceMul, Nat.reduceSub, reduceCtorEq, putAt, unE, Nat.reduceBEq, convE, buildE, List.replicate, Int.reduceLT, Int.reduceLE, Int.reduceToNat, mkE, mapSetE, hN, hF, ty_3, ty_4, ty_9, ty_24, ty_25, ty_27, ty_33, ty_51, ty_53, notIf, isEq, Option.isSome_some, op_makeMap, Option.bind_some, h1, q1, hne, hf]
    simp only [runB, finC, finD, Option.isSome_some, Option.isSome_none, ↓reduceIte, Nat.reduceEqDiff, Nat.reduceAdd, Nat.reduceMul, forall_eq_or_imp, forall_eq, implies_true, Nat.reduceBEq, reduceCtorEq, false_implies, List.zip_cons_cons, List.zip_nil_left, List.zip_nil_right, Nat.reduceLeDiff, List.forall_mem_nil, rs_20, ty_3, ty_4, ty_9, ty_24, ty_25, ty_27, ty_33, ty_51, ty_53]
  | none =>
    have hP : putB' o ⟨vw, ht, pa, ⟨jv, jh, jb, js⟩, txs, sig⟩ = true := by unfold putB'; rw [ha, decide_eq_true hk]; rfl
    have hO : putO o ⟨vw, ht, pa, ⟨jv, jh, jb, js⟩, txs, sig⟩ = o ++ [⟨vw, ht, pa, ⟨jv, jh, jb, js⟩, txs, sig⟩] := by unfold putO; rw [hP]; rfl
    have hset := hset ha
    rw [ha] at hf
    simp only [Option.map_none] at hf
    rw [hP, hO, ← hset]
    generalize nameS ⟨vw, ht, pa, ⟨jv, jh, jb, js⟩, txs, sig⟩ = nm at q1 hf hne ⊢
    generalize esOf o = es at hf ⊢
    simp only [runA, runB, runC, runD, runE, runF, fieldE, storeE, binE, ↓reduceIte, Nat.reduceLT, Nat.reduceLeDiff, Nat.reduceEqDiff, Nat.reduceAdd, Nat.reduceMul, Nat.reduceSub, reduceCtorEq, putAt, unE, Nat.reduceBEq, convE, buildE, List.replicate, Int.reduceLT, Int.reduceLE, Int.reduceToNat, mkE, mapSetE, hN, hF, ty_3, ty_4, ty_9, ty_24, ty_25, ty_27, ty_33, ty_51, ty_53, notIf, isEq, Option.isSome_some, op_makeMap, Option.bind_some, h1, q1, hne, hf, h2, q2]
    refine drawnP_intro (by kernel_rfl) (by kernel_rfl) ?_
    simp only [runA, runB, runC, runD, runE, runF, fieldE, storeE, binE, ↓reduceIte, Nat.reduceLT, Nat.reduceLeDiff, Nat.reduceEqDiff, Nat.reduceAdd, Nat.reduceMul, Nat.reduceSub, reduceCtorEq, putAt, unE, Nat.reduceBEq, convE, buildE, List.replicate, Int.reduceLT, Int.reduceLE, Int.reduceToNat, mkE, mapSetE, hN, hF, ty_3, ty_4, ty_9, ty_24, ty_25, ty_27, ty_33, ty_51, ty_53, notIf, isEq, Option.isSome_some, op_makeMap, Option.bind_some, h1, q1, hne, hf, h2, q2]
    simp only [runB, finC, finD, Option.isSome_some, Option.isSome_none, ↓reduceIte, Nat.reduceEqDiff, Nat.reduceAdd, Nat.reduceMul, forall_eq_or_imp, forall_eq, implies_true, Nat.reduceBEq, reduceCtorEq, false_implies, List.zip_cons_cons, List.zip_nil_left, List.zip_nil_right, Nat.reduceLeDiff, List.forall_mem_nil, rs_20, ty_3, ty_4, ty_9, ty_24, ty_25, ty_27, ty_33, ty_51, ty_53]


variable {Γ : FuncId → Contract}


theorem toPCs_c (l : List PC) : toPCs (l.map .c) = some l := by
  induction l with
  | nil => rfl
  | cons x l ih => simp [toPCs, AV.toPC, ih]
theorem chunks_flat {z : Nat} : ∀ {rows : List (List PC)}, rowsOK z rows → chunks z rows.length rows.flatten = rows
  | [], _ => rfl
  | r :: rows, h => by
    have hr : r.length = z := h r (by simp)
    rw [List.length_cons, chunks, List.flatten_cons]
    rw [List.take_left' hr, List.drop_left' hr, chunks_flat (fun x hx => h x (by simp [hx]))]
theorem flat_len {z : Nat} {rows : List (List PC)} (h : rowsOK z rows) : (rows.flatten.map AV.c).length = rows.length * z := by
  rw [List.length_map, flatten_len h]
theorem flat_put {z : Nat} (h0 : 0 < z) : ∀ {rows : List (List PC)} {i : Nat} {r : List PC}, rowsOK z rows → r.length = z → i < rows.length → putAt (rows.flatten.map AV.c) (i * z) (r.map .c) = (rows.set i r).flatten.map AV.c
  | [], i, r, _, _, hi => by simp at hi
  | x :: rows, 0, r, h, hr, hi => by
    have hx : x.length = z := h x (by simp)
    simp only [putAt, Nat.zero_mul, List.take_zero, List.nil_append, Nat.zero_add, List.length_map, List.flatten_cons, List.map_append, List.set_cons_zero, hr]
    rw [List.drop_left' (by rw [List.length_map, hx])]
  | x :: rows, i + 1, r, h, hr, hi => by
    have hx : x.length = z := h x (by simp)
    have ih := flat_put h0 (rows := rows) (i := i) (r := r) (fun y hy => h y (by simp [hy])) hr (by simpa using hi)
    have e : (i + 1) * z = (x.map AV.c).length + i * z := by rw [List.length_map, hx, Nat.succ_mul]; omega
    simp only [putAt, List.flatten_cons, List.map_append, List.set_cons_succ] at ih ⊢
    rw [e, List.take_length_add_append, Nat.add_assoc, List.drop_length_add_append, List.append_assoc, List.append_assoc, ← ih]
    simp


theorem c_amds (ρ : Ren) (l : List PC) : AMds ρ (l.map .c) (l.map .c) := by
  induction l with
  | nil => trivial
  | cons x l ih => exact ⟨rfl, ih⟩
theorem c_E (me : Nat) (l : List PC) : cellsE me (l.map .c) = .ret (l.map .c, []) := by
  induction l with
  | nil => rfl
  | cons x l ih =>
    show cellsE me (.c x :: l.map .c) = _
    simp only [cellsE, AV.toPC, ih, EP.bind]
    rfl
theorem c_back (me : Nat) (l : List PC) (rs : List Nat) : backCells me (l.map .c) rs = (l.map .c, []) := by
  induction l with
  | nil => rfl
  | cons x l ih =>
    show backCells me (.c x :: l.map .c) rs = _
    simp only [backCells, ih]
    rfl
theorem c_At (nm : Nat → Nat) (me : Nat) (l : List PC) : ∀ j, cellsAt nm me j (l.map .c) = (l.map .c, []) := by
  induction l with
  | nil => intro j; rfl
  | cons x l ih =>
    intro j
    show cellsAt nm me j (.c x :: l.map .c) = _
    simp only [cellsAt, ih]
    rfl
theorem c_pairs (nm : Nat → Nat) (l : List PC) : ∀ (j : Nat) (cs : List AV), cellPairs nm j cs (l.map .c) = ([], []) := by
  induction l with
  | nil => intro j cs; cases cs <;> rfl
  | cons x l ih =>
    intro j cs
    cases cs with
    | nil => rfl
    | cons y cs =>
      show cellPairs nm j (y :: cs) (.c x :: l.map .c) = _
      unfold cellPairs
      split <;> first | (rename_i h1 h2; cases h2; done) | exact ih _ _
theorem ovc_inj {l l' : List PC} (h : l.map OV.c = l'.map OV.c) : l = l' := (List.map_inj_right (fun _ _ h => OV.c.inj h)).1 h
theorem flat_rows_inj {z : Nat} (hz : 0 < z) : ∀ {a b : List (List PC)}, rowsOK z a → rowsOK z b → a.flatten = b.flatten → a = b
  | [], [], _, _, _ => rfl
  | [], y :: b, _, hb, h => by
    have hy : y.length = z := hb y (by simp)
    have := congrArg List.length h
    rw [List.flatten_cons, List.length_append, List.flatten_nil, List.length_nil] at this
    omega
  | x :: a, [], ha, _, h => by
    have hx : x.length = z := ha x (by simp)
    have := congrArg List.length h
    rw [List.flatten_cons, List.length_append, List.flatten_nil, List.length_nil] at this
    omega
  | x :: a, y :: b, ha, hb, h => by
    have hx : x.length = z := ha x (by simp)
    have hy : y.length = z := hb y (by simp)
    simp only [List.flatten_cons] at h
    obtain ⟨e1, e2⟩ := List.append_inj h (by omega)
    rw [e1, flat_rows_inj hz (fun r hr => ha r (by simp [hr])) (fun r hr => hb r (by simp [hr])) e2]

/-- A contract that takes no objects answers nothing where there are some. -/
theorem mkC_noobj {α : Type} {ok : α → Prop} {A : α → List AV} {R : α → CRes} (xs : List AV) (o : List OV) (os : List (List OV)) : mkC ok A (fun _ => []) R xs (o :: os) = none := by
  cases h : mkC ok A (fun _ => []) R xs (o :: os) with
  | none => rfl
  | some r =>
    obtain ⟨a, _, _, h2, _⟩ := mkC_inv h
    cases h2

/-- Rows that are lent. -/
theorem lendR_rows {z : Nat} (hz : 0 < z) {rows : List (List PC)} (h : rowsOK z rows) : lendR rows.flatten rows.length = some rows := by
  have hl : rows.flatten.length = rows.length * z := flatten_len h
  unfold lendR
  rw [hl]
  rcases Nat.eq_zero_or_pos rows.length with h0 | h0
  · have : rows = [] := List.length_eq_zero_iff.1 h0
    subst this
    simp [chunks]
  · rw [Nat.mul_div_cancel_left _ h0, if_pos ⟨rfl, .inr (Nat.mul_pos h0 hz)⟩, chunks_flat h]

variable {Γ : FuncId → Contract}


theorem trows_flat_inj {a b : List Txn} (h : (trows a).flatten = (trows b).flatten) : a = b := (trows_iff).1 (flat_rows_inj (z := 5) (by decide) (rowsOK_trows a) (rowsOK_trows b) h)
theorem trows_fl (l : List Txn) : (trows l).flatten.length = l.length * 5 := by rw [flatten_len (rowsOK_trows l), trows_length]
theorem lendT (l : List Txn) : lendR (trows l).flatten l.length = some (trows l) := by
  have := lendR_rows (z := 5) (by decide) (rowsOK_trows l)
  rwa [trows_length] at this
/-- A block whose transactions lie in an object. -/
def Blk.mv (b : Blk) (n : Nat) : AV := .agg [.c (.int .i64 b.vw), .c (.int .i64 b.ht), .c (.str b.pa), .c (.int .i64 b.ju.vw), .c (.int .i64 b.ju.ht), .c (.str b.ju.bl), .c (.sl (votes b.ju.vs)), .msl n 0 b.txs.length false, .c (.str b.sig)]
noncomputable def clnTM : Contract := mkC (α := List Txn) (fun l => 0 < l.length ∧ l.length ≤ 1099511627776) (fun l => [.msl (inObj 0) 0 l.length false]) (fun l => [(trows l).flatten.map .c]) (fun l => ⟨[.pv (.c (.sl (trows l)))], [(trows l).flatten.map .c]⟩)
theorem clnTM_at (l : List Txn) (h : 0 < l.length ∧ l.length ≤ 1099511627776) : clnTM [.msl 6400000 0 l.length false] [(trows l).flatten.map .c] = some ⟨[.pv (.c (.sl (trows l)))], [(trows l).flatten.map .c]⟩ :=
  mkC_at (α := List Txn) l h (by
    intro y _ _ h
    simp only [List.cons.injEq, and_true] at h
    rw [trows_flat_inj (ovc_inj h)])
set_option maxRecDepth 100000 in
set_option maxHeartbeats 4000000 in
theorem clnTM_sound : SoundC Try.prog 82 clnTM := by
  refine sound_fnA ⟨[5], [(3, .frz 2 5)]⟩ Try.func82 (by kernel_rfl) rfl rfl ?_
  intro args objs r0 hr
  obtain ⟨l, ⟨hb0, hb1⟩, rfl, rfl, rfl⟩ := mkC_inv hr
  refine ⟨rfl, by show 1 ≤ _; decide, fun E hN hns hF => ?_⟩
  refine vc_sound none0_sound mixed _ _ _ ?_
  have hN := hN.trans nt_82
  have hfl := trows_fl l
  have hT := toPCs_c (trows l).flatten
  have hch : chunks 5 l.length (trows l).flatten = trows l := by
    have := chunks_flat (rowsOK_trows l)
    rwa [trows_length] at this
  have htk : (trows l).flatten.take (l.length * 5) = (trows l).flatten := by rw [← hfl, List.take_length]
  have hp : decide (0 < l.length) = true := decide_eq_true hb0
  have k1 : (l.length * 5 ≤ l.length * 5) = True := eq_true (Nat.le_refl _)
  have k2 : (l.length * 48 ≤ 140737488355328) = True := eq_true (by omega)
  simp only [runA, runB, runC, runD, runE, runF, fieldE, storeE, binE, ↓reduceIte, Nat.reduceLT, Nat.reduceLeDiff, Nat.reduceEqDiff, Nat.reduceAdd, Nat.reduceMul, Nat.reduceSub, reduceCtorEq, putAt, unE, Nat.reduceBEq, convE, buildE, List.replicate, Int.reduceLT, Int.reduceLE, Int.reduceToNat, mkE, mapSetE, hN, hF, ty_25, ty_47, notIf, isEq, appendX, appendM, newLooseE, doHint, List.length_map, hfl, ← List.map_take, htk, hT, hch, hp, k1, k2, c_At, trows_length, Nat.zero_lt_succ, Option.isSome_some]
  simp only [runB, finC, finD, Option.isSome_some, Option.isSome_none, ↓reduceIte, Nat.reduceEqDiff, Nat.reduceAdd, Nat.reduceMul, forall_eq_or_imp, forall_eq, implies_true, Nat.reduceBEq, reduceCtorEq, false_implies, List.zip_cons_cons, List.zip_nil_left, List.zip_nil_right, Nat.reduceLeDiff, List.forall_mem_nil, rs_82, c_At, c_pairs, c_amds, trows_length]

noncomputable def cpyM : Contract := mkC (α := Blk) (fun b => smB b ∧ 0 < b.txs.length) (fun b => [b.mv (inObj 0)]) (fun b => [(trows b.txs).flatten.map .c]) (fun b => ⟨[.pv b.av], [(trows b.txs).flatten.map .c]⟩)
theorem mv_inj {a b : Blk} {n : Nat} (h : a.mv n = b.mv n) (ht : a.txs = b.txs) : a = b := by
  obtain ⟨vw, ht0, pa, ⟨jv, jh, jb, js⟩, txs, sig⟩ := a
  obtain ⟨vw2, ht2, pa2, ⟨jv2, jh2, jb2, js2⟩, txs2, sig2⟩ := b
  simp only [Blk.mv, AV.agg.injEq, List.cons.injEq, AV.c.injEq, PC.int.injEq, PC.str.injEq, PC.sl.injEq, votes_iff, true_and, and_true] at h
  obtain ⟨rfl, rfl, rfl, rfl, rfl, rfl, rfl, _, rfl⟩ := h
  have ht : txs = txs2 := ht
  rw [ht]
theorem cpyM_at (b : Blk) (h : smB b ∧ 0 < b.txs.length) : cpyM [.agg [.c (.int .i64 b.vw), .c (.int .i64 b.ht), .c (.str b.pa), .c (.int .i64 b.ju.vw), .c (.int .i64 b.ju.ht), .c (.str b.ju.bl), .c (.sl (votes b.ju.vs)), .msl 6400000 0 b.txs.length false, .c (.str b.sig)]] [(trows b.txs).flatten.map .c] = some ⟨[.pv b.av], [(trows b.txs).flatten.map .c]⟩ :=
  mkC_at (α := Blk) b h (by
    intro y _ h1 h2
    simp only [List.cons.injEq, and_true] at h1 h2
    have e := trows_flat_inj (ovc_inj h2)
    rw [mv_inj h1 e])

set_option maxRecDepth 100000 in
set_option maxHeartbeats 4000000 in
theorem cpyM_sound (hΓ : SoundG Try.prog Γ) (h1 : Γ 82 = clnTM) (h2 : Γ 83 = clnVC) : SoundC Try.prog 55 cpyM := by
  refine sound_fn Try.func55 (by kernel_rfl) rfl rfl ?_
  intro args objs r0 hr
  obtain ⟨⟨vw, ht, pa, ⟨jv, jh, jb, js⟩, txs, sig⟩, ⟨hl, h0⟩, rfl, rfl, rfl⟩ := mkC_inv hr
  refine ⟨rfl, by show 1 ≤ _; decide, fun E hN hns hF => ?_⟩
  refine vc_sound hΓ mixed _ _ _ ?_
  have hN := hN.trans nt_55
  obtain ⟨hl1, hl2⟩ := hl
  have hl1 : txs.length ≤ 1099511627776 := hl1
  have hl2 : js.length ≤ 1099511627776 := hl2
  have h0 : 0 < txs.length := h0
  have q1 := clnTM_at txs ⟨h0, hl1⟩
  have q2 := clnV_at js hl2
  unfold Blk.av Blk.mv
  dsimp only
  simp only [runA, runB, runC, runD, runE, runF, fieldE, storeE, binE, ↓reduceIte, Nat.reduceLT, Nat.reduceLeDiff, Nat.reduceEqDiff, Nat.reduceAdd, Nat.reduceMul, Nat.reduceSub, reduceCtorEq, putAt, unE, Nat.reduceBEq, convE, buildE, List.replicate, Int.reduceLT, Int.reduceLE, Int.reduceToNat, mkE, mapSetE, hN, hF, ty_3, ty_9, ty_22, ty_24, ty_25, ty_27, ty_47, ty_122, notIf, isEq, h1, h2, q1, q2, c_At, c_E, c_back]
  refine drawnP_intro (by kernel_rfl) (by kernel_rfl) ?_
  simp only [runA, runB, runC, runD, runE, runF, fieldE, storeE, binE, ↓reduceIte, Nat.reduceLT, Nat.reduceLeDiff, Nat.reduceEqDiff, Nat.reduceAdd, Nat.reduceMul, Nat.reduceSub, reduceCtorEq, putAt, unE, Nat.reduceBEq, convE, buildE, List.replicate, Int.reduceLT, Int.reduceLE, Int.reduceToNat, mkE, mapSetE, hN, hF, ty_3, ty_9, ty_22, ty_24, ty_25, ty_27, ty_47, ty_122, notIf, isEq, h1, h2, q1, q2, c_At, c_E, c_back]
  simp only [runB, finC, finD, Option.isSome_some, Option.isSome_none, ↓reduceIte, Nat.reduceEqDiff, Nat.reduceAdd, Nat.reduceMul, forall_eq_or_imp, forall_eq, implies_true, Nat.reduceBEq, reduceCtorEq, false_implies, List.zip_cons_cons, List.zip_nil_left, List.zip_nil_right, Nat.reduceLeDiff, List.forall_mem_nil, rs_55, ty_3, ty_9, ty_22, ty_24, ty_25, ty_27, ty_47, ty_122, c_At, c_pairs, c_amds]


variable {Γ : FuncId → Contract}


noncomputable def putTM : Contract := mkC (α := List Blk × Blk) (fun p => smB p.2 ∧ 0 < p.2.txs.length) (fun p => [.ptr (inObj 0) 0, p.2.mv (inObj 1)]) (fun p => [[.mp true (esOf p.1)], (trows p.2.txs).flatten.map .c]) (fun p => ⟨[.pv (.c (.bool (putB' p.1 p.2)))], [[.mp true (esOf (putO p.1 p.2))], (trows p.2.txs).flatten.map .c]⟩)
theorem putTM_at (o : List Blk) (b : Blk) (h : smB b ∧ 0 < b.txs.length) : putTM [.ptr 6400000 0, .agg [.c (.int .i64 b.vw), .c (.int .i64 b.ht), .c (.str b.pa), .c (.int .i64 b.ju.vw), .c (.int .i64 b.ju.ht), .c (.str b.ju.bl), .c (.sl (votes b.ju.vs)), .msl 6400064 0 b.txs.length false, .c (.str b.sig)]] [[.mp true (esOf o)], (trows b.txs).flatten.map .c] = some ⟨[.pv (.c (.bool (putB' o b)))], [[.mp true (esOf (putO o b))], (trows b.txs).flatten.map .c]⟩ :=
  mkC_at (α := List Blk × Blk) (o, b) h (by
    rintro ⟨o', y⟩ _ h1 h2
    simp only [List.cons.injEq, OV.mp.injEq, true_and, and_true] at h1 h2
    obtain ⟨e1, e2⟩ := h2
    have e := trows_flat_inj (ovc_inj e2)
    rw [mv_inj h1 e, (esOf_iff).1 e1])
theorem bkN_no (xs : List AV) (o : List OV) (os : List (List OV)) : bkNC xs (o :: os) = none := mkC_noobj xs o os

set_option maxRecDepth 100000 in
set_option maxHeartbeats 4000000 in
theorem putTM_sound (hΓ : SoundG Try.prog Γ) (h1 : Γ 13 = bkNC) (h2 : Γ 55 = cpyM) : SoundC Try.prog 20 putTM := by
  refine sound_fn Try.func20 (by kernel_rfl) rfl rfl ?_
  intro args objs r0 hr
  obtain ⟨⟨o, ⟨vw, ht, pa, ⟨jv, jh, jb, js⟩, txs, sig⟩⟩, ⟨hl, h0⟩, rfl, rfl, rfl⟩ := mkC_inv hr
  refine ⟨rfl, by show 2 ≤ _; decide, fun E hN hns hF => ?_⟩
  refine vc_sound hΓ mixed _ _ _ ?_
  have hN := hN.trans nt_20
  have hl : smB ⟨vw, ht, pa, ⟨jv, jh, jb, js⟩, txs, sig⟩ := hl
  have q1 := bkN_at vw ht pa jv jh jb js txs sig (by have := hl.1; dsimp only at this; omega)
  have h0 : 0 < txs.length := h0
  have q2 := cpyM_at ⟨vw, ht, pa, ⟨jv, jh, jb, js⟩, txs, sig⟩ ⟨hl, h0⟩
  have hT := toPCs_c (trows txs).flatten
  have hLd := lendT txs
  have hf := find_es o (nameS ⟨vw, ht, pa, ⟨jv, jh, jb, js⟩, txs, sig⟩)
  have hset : atB o (nameS ⟨vw, ht, pa, ⟨jv, jh, jb, js⟩, txs, sig⟩) = none → setE (nameS ⟨vw, ht, pa, ⟨jv, jh, jb, js⟩, txs, sig⟩) [.int .i64 vw, .int .i64 ht, .str pa, .int .i64 jv, .int .i64 jh, .str jb, .sl (votes js), .sl (trows txs), .str sig] (esOf o) = esOf (o ++ [⟨vw, ht, pa, ⟨jv, jh, jb, js⟩, txs, sig⟩]) := set_es
  unfold Blk.av at q2
  unfold Blk.mv
  dsimp only at q2 ⊢
  generalize (trows txs).flatten = fl at *
  have bs : (([] : List UInt8) == []) = true := rfl
  by_cases hk : okB ⟨vw, ht, pa, ⟨jv, jh, jb, js⟩, txs, sig⟩
  case neg =>
    have hS : nameS ⟨vw, ht, pa, ⟨jv, jh, jb, js⟩, txs, sig⟩ = [] := if_neg hk
    have hP : putB' o ⟨vw, ht, pa, ⟨jv, jh, jb, js⟩, txs, sig⟩ = false := by unfold putB'; rw [decide_eq_false hk]; rfl
    have hO : putO o ⟨vw, ht, pa, ⟨jv, jh, jb, js⟩, txs, sig⟩ = o := by unfold putO; rw [hP]; rfl
    rw [hP, hO]
    rw [hS] at q1
    generalize esOf o = es
    simp only [runA, runB, runC, runD, runE, runF, fieldE, storeE, binE, ↓reduceIte, Nat.reduceLT, Nat.reduceLeDiff, Nat.reduceEqDiff, Nat.reduceAdd, Nat.reduceMul, Nat.reduceSub, reduceCtorEq, putAt, unE, Nat.reduceBEq, convE, buildE, List.replicate, Int.reduceLT, Int.reduceLE, Int.reduceToNat, mkE, mapSetE, hN, hF, ty_3, ty_4, ty_9, ty_24, ty_25, ty_27, ty_33, ty_51, ty_53, notIf, isEq, Option.isSome_some, op_makeMap, Option.bind_some, callA, argsA, cellsA, c_At, c_E, c_back, callB, lendE, lendC, lendM, bkN_no, hT, hLd, scRes, scAV, scPC, h1, q1, bs]
    simp only [runB, finC, finD, Option.isSome_some, Option.isSome_none, ↓reduceIte, Nat.reduceEqDiff, Nat.reduceAdd, Nat.reduceMul, forall_eq_or_imp, forall_eq, implies_true, Nat.reduceBEq, reduceCtorEq, false_implies, List.zip_cons_cons, List.zip_nil_left, List.zip_nil_right, Nat.reduceLeDiff, List.forall_mem_nil, rs_20, ty_3, ty_4, ty_9, ty_24, ty_25, ty_27, ty_33, ty_51, ty_53, c_At, c_pairs, c_amds]
  have hne : (nameS ⟨vw, ht, pa, ⟨jv, jh, jb, js⟩, txs, sig⟩ == []) = false := by
    have := nameS_len hk
    cases hs : nameS ⟨vw, ht, pa, ⟨jv, jh, jb, js⟩, txs, sig⟩ with
    | nil => rw [hs] at this; cases this
    | cons => rfl
  cases ha : atB o (nameS ⟨vw, ht, pa, ⟨jv, jh, jb, js⟩, txs, sig⟩) with
  | some b =>
    have hP : putB' o ⟨vw, ht, pa, ⟨jv, jh, jb, js⟩, txs, sig⟩ = false := by unfold putB'; rw [ha]; simp
    have hO : putO o ⟨vw, ht, pa, ⟨jv, jh, jb, js⟩, txs, sig⟩ = o := by unfold putO; rw [hP]; rfl
    rw [ha] at hf
    simp only [Option.map_some] at hf
    unfold Blk.pcs at hf
    rw [hP, hO]
    generalize nameS ⟨vw, ht, pa, ⟨jv, jh, jb, js⟩, txs, sig⟩ = nm at q1 hf hne
    generalize esOf o = es at hf ⊢
    simp only [runA, runB, runC, runD, runE, runF, fieldE, storeE, binE, ↓reduceIte, Nat.reduceLT, Nat.reduceLeDiff, Nat.reduceEqDiff, Nat.reduceAdd, Nat.reduceMul, Nat.reduceSub, reduceCtorEq, putAt, unE, Nat.reduceBEq, convE, buildE, List.replicate, Int.reduceLT, Int.reduceLE, Int.reduceToNat, mkE, mapSetE, hN, hF, ty_3, ty_4, ty_9, ty_24, ty_25, ty_27, ty_33, ty_51, ty_53, notIf, isEq, Option.isSome_some, op_makeMap, Option.bind_some, callA, argsA, cellsA, c_At, c_E, c_back, callB, lendE, lendC, lendM, bkN_no, hT, hLd, scRes, scAV, scPC, h1, q1, hne, hf]
    simp only [runB, finC, finD, Option.isSome_some, Option.isSome_none, ↓reduceIte, Nat.reduceEqDiff, Nat.reduceAdd, Nat.reduceMul, forall_eq_or_imp, forall_eq, implies_true, Nat.reduceBEq, reduceCtorEq, false_implies, List.zip_cons_cons, List.zip_nil_left, List.zip_nil_right, Nat.reduceLeDiff, List.forall_mem_nil, rs_20, ty_3, ty_4, ty_9, ty_24, ty_25, ty_27, ty_33, ty_51, ty_53, c_At, c_pairs, c_amds]
  | none =>
    have hP : putB' o ⟨vw, ht, pa, ⟨jv, jh, jb, js⟩, txs, sig⟩ = true := by unfold putB'; rw [ha, decide_eq_true hk]; rfl
    have hO : putO o ⟨vw, ht, pa, ⟨jv, jh, jb, js⟩, txs, sig⟩ = o ++ [⟨vw, ht, pa, ⟨jv, jh, jb, js⟩, txs, sig⟩] := by unfold putO; rw [hP]; rfl
    have hset := hset ha
    rw [ha] at hf
    simp only [Option.map_none] at hf
    rw [hP, hO, ← hset]
    generalize nameS ⟨vw, ht, pa, ⟨jv, jh, jb, js⟩, txs, sig⟩ = nm at q1 hf hne ⊢
    generalize esOf o = es at hf ⊢
    simp only [runA, runB, runC, runD, runE, runF, fieldE, storeE, binE, ↓reduceIte, Nat.reduceLT, Nat.reduceLeDiff, Nat.reduceEqDiff, Nat.reduceAdd, Nat.reduceMul, Nat.reduceSub, reduceCtorEq, putAt, unE, Nat.reduceBEq, convE, buildE, List.replicate, Int.reduceLT, Int.reduceLE, Int.reduceToNat, mkE, mapSetE, hN, hF, ty_3, ty_4, ty_9, ty_24, ty_25, ty_27, ty_33, ty_51, ty_53, notIf, isEq, Option.isSome_some, op_makeMap, Option.bind_some, callA, argsA, cellsA, c_At, c_E, c_back, callB, lendE, lendC, lendM, bkN_no, hT, hLd, scRes, scAV, scPC, h1, q1, hne, hf, h2, q2]
    refine drawnP_intro (by kernel_rfl) (by kernel_rfl) ?_
    simp only [runA, runB, runC, runD, runE, runF, fieldE, storeE, binE, ↓reduceIte, Nat.reduceLT, Nat.reduceLeDiff, Nat.reduceEqDiff, Nat.reduceAdd, Nat.reduceMul, Nat.reduceSub, reduceCtorEq, putAt, unE, Nat.reduceBEq, convE, buildE, List.replicate, Int.reduceLT, Int.reduceLE, Int.reduceToNat, mkE, mapSetE, hN, hF, ty_3, ty_4, ty_9, ty_24, ty_25, ty_27, ty_33, ty_51, ty_53, notIf, isEq, Option.isSome_some, op_makeMap, Option.bind_some, callA, argsA, cellsA, c_At, c_E, c_back, callB, lendE, lendC, lendM, bkN_no, hT, hLd, scRes, scAV, scPC, h1, q1, hne, hf, h2, q2]
    simp only [runB, finC, finD, Option.isSome_some, Option.isSome_none, ↓reduceIte, Nat.reduceEqDiff, Nat.reduceAdd, Nat.reduceMul, forall_eq_or_imp, forall_eq, implies_true, Nat.reduceBEq, reduceCtorEq, false_implies, List.zip_cons_cons, List.zip_nil_left, List.zip_nil_right, Nat.reduceLeDiff, List.forall_mem_nil, rs_20, ty_3, ty_4, ty_9, ty_24, ty_25, ty_27, ty_33, ty_51, ty_53, c_At, c_pairs, c_amds]


variable {Γ : FuncId → Contract}


def brows (l : List Blk) : List (List PC) := l.map Blk.pcs
theorem brows_iff {a b : List Blk} : brows a = brows b ↔ a = b := ⟨map_inj' fun _ _ => Blk.pcs_inj, fun h => by rw [h]⟩
theorem brows_length (l : List Blk) : (brows l).length = l.length := by simp [brows]
theorem brows_nil : brows [] = [] := rfl
theorem brows_snoc (a : List Blk) (b : Blk) : brows a ++ [[.int .i64 b.vw, .int .i64 b.ht, .str b.pa, .int .i64 b.ju.vw, .int .i64 b.ju.ht, .str b.ju.bl, .sl (votes b.ju.vs), .sl (trows b.txs), .str b.sig]] = brows (a ++ [b]) := by simp [brows, Blk.pcs]
theorem brows_one (b : Blk) : [[.int .i64 b.vw, .int .i64 b.ht, .str b.pa, .int .i64 b.ju.vw, .int .i64 b.ju.ht, .str b.ju.bl, .sl (votes b.ju.vs), .sl (trows b.txs), .str b.sig]] = brows [b] := rfl
theorem browsD (l : List Blk) (i : Nat) (h : i < l.length) : (brows l)[i]? = some (Blk.pcs (l.getD i zeroBk)) := by
  simp [brows, List.getD, h]
theorem brows_last (a : List Blk) (p : Blk) : (brows (a ++ [p]))[a.length]? = some (Blk.pcs p) := by
  simp [brows]
theorem rowsOK_brows (l : List Blk) : rowsOK 9 (brows l) := by
  intro r hr
  obtain ⟨t, _, rfl⟩ := List.mem_map.1 hr
  rfl

/-- From a block down to the first one. -/
noncomputable def walkL (own : List Blk) : Nat → List Blk → List UInt8 → Option (List Blk)
  | 0, acc, nm => match atB own nm with | none => some acc | some _ => none
  | f + 1, acc, nm => match atB own nm with
    | none => some acc
    | some b => match acc.getLast? with
      | some p => if fitsB p b then walkL own f (acc ++ [b]) b.pa else none
      | none => walkL own f (acc ++ [b]) b.pa
theorem walkL_none {own : List Blk} {nm : List UInt8} (h : atB own nm = none) (f : Nat) (acc : List Blk) : walkL own f acc nm = some acc := by
  cases f <;> simp [walkL, h]
theorem walkL_zero {own : List Blk} {nm : List UInt8} {b : Blk} (h : atB own nm = some b) (acc : List Blk) : walkL own 0 acc nm = none := by
  simp [walkL, h]
theorem walkL_first {own : List Blk} {nm : List UInt8} {b : Blk} (h : atB own nm = some b) (f : Nat) : walkL own (f + 1) [] nm = walkL own f [b] b.pa := by
  simp [walkL, h]
theorem walkL_step {own : List Blk} {nm : List UInt8} {b : Blk} (h : atB own nm = some b) (f : Nat) (i : List Blk) (p : Blk) : walkL own (f + 1) (i ++ [p]) nm = if fitsB p b then walkL own f (i ++ [p] ++ [b]) b.pa else none := by
  simp [walkL, h]
noncomputable def walkE (W : Option (List Blk)) (nm : List UInt8) : List Blk × Bool :=
  match W with
  | none => ([], false)
  | some l => match l.getLast? with
    | none => ([], nm == genS)
    | some p => if (p.pa == genS) && fitsB p zeroBk then (l, true) else ([], false)
noncomputable def walkS (own : List Blk) (nm : List UInt8) : List Blk × Bool := walkE (walkL own (own.length + 1) [] nm) nm
theorem walkE_nil (nm : List UInt8) : walkE (some []) nm = ([], nm == genS) := rfl
theorem walkE_snoc (i : List Blk) (p : Blk) (nm : List UInt8) : walkE (some (i ++ [p])) nm = if (p.pa == genS) && fitsB p zeroBk then (i ++ [p], true) else ([], false) := by
  simp [walkE]
theorem got_some {o : List Blk} {nm : List UInt8} {b : Blk} (h : atB o nm = some b) : gotB o nm = b := by unfold gotB; rw [h]; rfl
theorem fits_p (p b : Blk) : fitsC [.agg [.c (.int .i64 p.vw), .c (.int .i64 p.ht), .c (.str p.pa), .c (.int .i64 p.ju.vw), .c (.int .i64 p.ju.ht), .c (.str p.ju.bl), .c (.sl (votes p.ju.vs)), .c (.sl (trows p.txs)), .c (.str p.sig)], .agg [.c (.int .i64 b.vw), .c (.int .i64 b.ht), .c (.str b.pa), .c (.int .i64 b.ju.vw), .c (.int .i64 b.ju.ht), .c (.str b.ju.bl), .c (.sl (votes b.ju.vs)), .c (.sl (trows b.txs)), .c (.str b.sig)]] [] = some ⟨[.pv (.c (.bool (fitsB p b)))], []⟩ := fits_at p.vw p.ht p.pa p.ju.vw p.ju.ht p.ju.bl p.ju.vs p.txs p.sig b.vw b.ht b.pa b.ju.vw b.ju.ht b.ju.bl b.ju.vs b.txs b.sig
theorem atT_p (o : List Blk) (s : List UInt8) : atTC [.ptr 6400000 0, .c (.str s)] [[.mp true (esOf o)]] = some ⟨[.pv (.agg [.c (.int .i64 (gotB o s).vw), .c (.int .i64 (gotB o s).ht), .c (.str (gotB o s).pa), .c (.int .i64 (gotB o s).ju.vw), .c (.int .i64 (gotB o s).ju.ht), .c (.str (gotB o s).ju.bl), .c (.sl (votes (gotB o s).ju.vs)), .c (.sl (trows (gotB o s).txs)), .c (.str (gotB o s).sig)]), .pv (.c (.bool (atB o s).isSome))], [[.mp true (esOf o)]]⟩ := atT_at o s
noncomputable def walkC : Contract := mkC (α := List Blk × List UInt8) (fun p => treeOK p.1) (fun p => [.ptr 6400000 0, .c (.str p.2)]) (fun p => [[.mp true (esOf p.1)]]) (fun p => ⟨[.pv (.c (.sl (brows (walkS p.1 p.2).1))), .pv (.c (.bool (walkS p.1 p.2).2))], [[.mp true (esOf p.1)]]⟩)
theorem walk_at (o : List Blk) (s : List UInt8) (g0 : treeOK o) : walkC [.ptr 6400000 0, .c (.str s)] [[.mp true (esOf o)]] = some ⟨[.pv (.c (.sl (brows (walkS o s).1))), .pv (.c (.bool (walkS o s).2))], [[.mp true (esOf o)]]⟩ := by
  exact mkC_at (α := List Blk × List UInt8) (o, s) g0 (by
    rintro ⟨o', s'⟩ _ h ho
    have hh := And.intro h ho
    clear h ho
    simp only [List.cons.injEq, AV.c.injEq, AV.agg.injEq, PC.int.injEq, PC.str.injEq, PC.bool.injEq, PC.sl.injEq, OV.c.injEq, OV.own.injEq, OV.mp.injEq, bytes_iff, texts_iff, true_and, and_true, and_self, beq_self_eq_true, esOf_iff] at hh
    simp only [hh])

set_option maxRecDepth 100000 in
set_option maxHeartbeats 4000000 in
theorem walk_sound (hΓ : SoundG Try.prog Γ) (h1 : Γ 57 = atTC) (h2 : Γ 23 = lenTC) (h3 : Γ 80 = fitsC) (h4 : Γ 47 = genC) : SoundC Try.prog 52 walkC := by
  refine sound_fn Try.func52 (by kernel_rfl) rfl rfl ?_
  intro args objs r0 hr
  obtain ⟨⟨o, s⟩, ho, rfl, rfl, rfl⟩ := mkC_inv hr
  refine ⟨rfl, by show 2 ≤ _; decide, fun E hN hns hF => ?_⟩
  refine vc_sound hΓ mixed _ _ _ ?_
  have hN := hN.trans nt_52
  have ho : treeOK o := ho
  obtain ⟨hol, _⟩ := ho
  have q1 := atT_p o s
  have q2 := lenT_at o
  have q4 : genC [] [] = some ⟨[.pv (.c (.str genS))], []⟩ := rfl
  dsimp only
  obtain ⟨W, hW⟩ : ∃ W, W = walkL o (o.length + 1) [] s := ⟨_, rfl⟩
  have hS : walkS o s = walkE W s := by rw [hW]; rfl
  rw [hS]
  simp only [runA, runB, runC, runD, runE, runF, fieldE, storeE, binE, ↓reduceIte, Nat.reduceLT, Nat.reduceLeDiff, Nat.reduceEqDiff, Nat.reduceAdd, Nat.reduceMul, Nat.reduceSub, reduceCtorEq, putAt, unE, Nat.reduceBEq, convE, buildE, List.replicate, Int.reduceLT, Int.reduceLE, Int.reduceToNat, mkE, mapSetE, hN, hF, ty_3, ty_4, ty_9, ty_24, ty_25, ty_27, ty_32, ty_33, ty_51, ty_53, notIf, isEq, h1, q1]
  refine AWP.loop (fun k st => ∃ acc cur, acc.length ≤ o.length + 1 ∧ k = o.length + 1 - acc.length ∧ walkL o k acc cur = W ∧ ((acc = [] ∧ cur = s ∧ st = ⟨[(0, .ptr 6400000 0), (1, .c (.str s)), (6, .nilsl), (7, .ptr 448 0), (8, .c (.bool (atB o cur).isSome))], [(448, .obj [.c (.int .i64 (gotB o cur).vw), .c (.int .i64 (gotB o cur).ht), .c (.str (gotB o cur).pa), .c (.int .i64 (gotB o cur).ju.vw), .c (.int .i64 (gotB o cur).ju.ht), .c (.str (gotB o cur).ju.bl), .c (.sl (votes (gotB o cur).ju.vs)), .c (.sl (trows (gotB o cur).txs)), .c (.str (gotB o cur).sig)] false), (6400000, .obj [.mp 6400001] false), (6400001, .mp true (esOf o))]⟩) ∨ (∃ ini p, acc = ini ++ [p] ∧ st = ⟨[(0, .ptr 6400000 0), (1, .c (.str s)), (6, .own 3073 9 (brows acc)), (7, .ptr 448 0), (8, .c (.bool (atB o cur).isSome))], [(448, .obj [.c (.int .i64 (gotB o cur).vw), .c (.int .i64 (gotB o cur).ht), .c (.str (gotB o cur).pa), .c (.int .i64 (gotB o cur).ju.vw), .c (.int .i64 (gotB o cur).ju.ht), .c (.str (gotB o cur).ju.bl), .c (.sl (votes (gotB o cur).ju.vs)), .c (.sl (trows (gotB o cur).txs)), .c (.str (gotB o cur).sig)] false), (6400000, .obj [.mp 6400001] false), (6400001, .mp true (esOf o)), (3073, .row 9 acc.length)]⟩))) ⟨o.length + 1, _, ?w, [], s, Nat.zero_le _, rfl, hW.symm, .inl ⟨rfl, rfl, rfl⟩⟩ ?r
  case w =>
    rw [hns]
    simp only [runB, finC, finD, AS.get, AS.mem, false_implies, implies_true, ↓reduceIte, Nat.reduceEqDiff, Option.isSome_some, Option.isSome_none, forall_eq_or_imp, forall_eq, reduceCtorEq, Nat.reduceAdd, Nat.reduceMul, List.zip_cons_cons, List.zip_nil_left, List.zip_nil_right, List.forall_mem_nil]
    first | done | simp
  case r =>
    rintro k st ⟨acc, cur, hle, rfl, hWk, h⟩
    refine vc_sound hΓ mixed _ _ _ ?_
    have hZ : o.length + 1 - ([] : List Blk).length = o.length + 1 := rfl
    rcases h with ⟨rfl, rfl, rfl⟩ | ⟨ini, p, rfl, rfl⟩
    · have bn : (((0 : Nat) : Int) == 0) = true := rfl
      have bn2 : (decide ((((0 : Nat) : Int)) > 0)) = false := rfl
      have bn3 : decide (((0 : Nat) : Int) > (o.length : Int)) = false := by simp
      cases ha : atB o cur with
      | none =>
        rw [walkL_none ha] at hWk
        subst hWk
        rw [walkE_nil]
        simp only [Option.isSome_none]
        simp only [runA, runB, runC, runD, runE, runF, fieldE, storeE, binE, ↓reduceIte, Nat.reduceLT, Nat.reduceLeDiff, Nat.reduceEqDiff, Nat.reduceAdd, Nat.reduceMul, Nat.reduceSub, reduceCtorEq, putAt, unE, Nat.reduceBEq, convE, buildE, List.replicate, Int.reduceLT, Int.reduceLE, Int.reduceToNat, mkE, mapSetE, hN, hF, ty_3, ty_4, ty_9, ty_24, ty_25, ty_27, ty_32, ty_33, ty_51, ty_53, notIf, isEq, h1, h4, q4, bn, Option.isSome_some, brows_nil]
        simp only [runB, finC, finD, Option.isSome_some, Option.isSome_none, ↓reduceIte, Nat.reduceEqDiff, Nat.reduceAdd, Nat.reduceMul, forall_eq_or_imp, forall_eq, implies_true, Nat.reduceBEq, reduceCtorEq, false_implies, List.zip_cons_cons, List.zip_nil_left, List.zip_nil_right, Nat.reduceLeDiff, List.forall_mem_nil, rs_52, ty_3, ty_4, ty_9, ty_24, ty_25, ty_27, ty_32, ty_33, ty_51, ty_53, brows_nil]
      | some b =>
        have hb := got_some ha
        rw [hZ, walkL_first ha] at hWk
        have hrow := rowsOK_brows [b]
        have hone := brows_one b
        have h1l : (brows [b]).length = 1 := rfl
        simp only [Option.isSome_some, hb]
        have q5 := atT_p o b.pa
        simp only [runA, runB, runC, runD, runE, runF, fieldE, storeE, binE, ↓reduceIte, Nat.reduceLT, Nat.reduceLeDiff, Nat.reduceEqDiff, Nat.reduceAdd, Nat.reduceMul, Nat.reduceSub, reduceCtorEq, putAt, unE, Nat.reduceBEq, convE, buildE, List.replicate, Int.reduceLT, Int.reduceLE, Int.reduceToNat, mkE, mapSetE, hN, hF, ty_3, ty_4, ty_9, ty_24, ty_25, ty_27, ty_32, ty_33, ty_51, ty_53, notIf, isEq, h1, h2, q2, bn2, bn3, q5]
        refine drawnP_intro (by kernel_rfl) (by kernel_rfl) ?_
        simp only [runA, runB, runC, runD, runE, runF, fieldE, storeE, binE, ↓reduceIte, Nat.reduceLT, Nat.reduceLeDiff, Nat.reduceEqDiff, Nat.reduceAdd, Nat.reduceMul, Nat.reduceSub, reduceCtorEq, putAt, unE, Nat.reduceBEq, convE, buildE, List.replicate, Int.reduceLT, Int.reduceLE, Int.reduceToNat, mkE, mapSetE, hN, hF, ty_3, ty_4, ty_9, ty_24, ty_25, ty_27, ty_32, ty_33, ty_51, ty_53, notIf, isEq, h1, h2, q2, bn2, bn3, q5, hrow, hone, h1l]
        refine ⟨o.length, _, by simp, ?_, [b], b.pa, by simp, by simp, ?_, .inr ⟨[], b, rfl, rfl⟩⟩
        · rw [hns]
          simp only [runB, finC, finD, AS.get, AS.mem, false_implies, implies_true, ↓reduceIte, Nat.reduceEqDiff, Option.isSome_some, Option.isSome_none, forall_eq_or_imp, forall_eq, reduceCtorEq, Nat.reduceAdd, Nat.reduceMul, List.zip_cons_cons, List.zip_nil_left, List.zip_nil_right, List.forall_mem_nil, List.length_append, List.length_cons, List.length_nil, List.nil_append, Nat.zero_add]
          first | done | simp
        · simpa using hWk
    · have hlen : ((ini ++ [p]).length : Int) = (ini.length : Int) + 1 := by simp
      have hlenN : (ini ++ [p]).length = ini.length + 1 := by simp
      have hbr : (brows (ini ++ [p])).length = ini.length + 1 := by rw [brows_length, hlenN]
      have bn : ((((ini.length + 1 : Nat) : Int)) == 0) = false := by simp <;> omega
      have bn2 : decide ((((ini.length + 1 : Nat) : Int)) > 0) = true := by simp <;> omega
      have e1 : IntKind.i64.wrap (((ini.length + 1 : Nat) : Int) - 1) = (ini.length : Int) := by rw [wrapI (by omega)]; omega
      have hg := brows_last ini p
      unfold Blk.pcs at hg
      rw [hlenN] at hle hWk
      cases ha : atB o cur with
      | none =>
        rw [walkL_none ha] at hWk
        subst hWk
        rw [walkE_snoc]
        simp only [Option.isSome_none]
        have q7 : fitsC [.agg [.c (.int .i64 p.vw), .c (.int .i64 p.ht), .c (.str p.pa), .c (.int .i64 p.ju.vw), .c (.int .i64 p.ju.ht), .c (.str p.ju.bl), .c (.sl (votes p.ju.vs)), .c (.sl (trows p.txs)), .c (.str p.sig)], .agg [.c (.int .i64 0), .c (.int .i64 0), .c (.str []), .c (.int .i64 0), .c (.int .i64 0), .c (.str []), .c (.sl []), .c (.sl []), .c (.str [])]] [] = some ⟨[.pv (.c (.bool (fitsB p zeroBk)))], []⟩ := fits_p p zeroBk
        cases hp : p.pa == genS with
        | false =>
          have hp1 : (!false) = true := rfl
          simp only [runA, runB, runC, runD, runE, runF, fieldE, storeE, binE, ↓reduceIte, Nat.reduceLT, Nat.reduceLeDiff, Nat.reduceEqDiff, Nat.reduceAdd, Nat.reduceMul, Nat.reduceSub, reduceCtorEq, putAt, unE, Nat.reduceBEq, convE, buildE, List.replicate, Int.reduceLT, Int.reduceLE, Int.reduceToNat, mkE, mapSetE, hN, hF, ty_3, ty_4, ty_9, ty_24, ty_25, ty_27, ty_32, ty_33, ty_51, ty_53, notIf, isEq, h4, q4, bn, hbr, e1, hg, hp, hp1]
          refine drawnP_intro (by kernel_rfl) (by kernel_rfl) ?_
          simp only [runA, runB, runC, runD, runE, runF, fieldE, storeE, binE, ↓reduceIte, Nat.reduceLT, Nat.reduceLeDiff, Nat.reduceEqDiff, Nat.reduceAdd, Nat.reduceMul, Nat.reduceSub, reduceCtorEq, putAt, unE, Nat.reduceBEq, convE, buildE, List.replicate, Int.reduceLT, Int.reduceLE, Int.reduceToNat, mkE, mapSetE, hN, hF, ty_3, ty_4, ty_9, ty_24, ty_25, ty_27, ty_32, ty_33, ty_51, ty_53, notIf, isEq, h4, q4, bn, hbr, e1, hg, hp, hp1]
          simp only [runB, finC, finD, Option.isSome_some, Option.isSome_none, ↓reduceIte, Nat.reduceEqDiff, Nat.reduceAdd, Nat.reduceMul, forall_eq_or_imp, forall_eq, implies_true, Nat.reduceBEq, reduceCtorEq, false_implies, List.zip_cons_cons, List.zip_nil_left, List.zip_nil_right, Nat.reduceLeDiff, List.forall_mem_nil, rs_52, ty_3, ty_4, ty_9, ty_24, ty_25, ty_27, ty_32, ty_33, ty_51, ty_53, brows_nil, Bool.false_and]
        | true =>
          have hp1 : (!true) = false := rfl
          cases hz : fitsB p zeroBk with
          | false =>
            rw [hz] at q7
            simp only [runA, runB, runC, runD, runE, runF, fieldE, storeE, binE, ↓reduceIte, Nat.reduceLT, Nat.reduceLeDiff, Nat.reduceEqDiff, Nat.reduceAdd, Nat.reduceMul, Nat.reduceSub, reduceCtorEq, putAt, unE, Nat.reduceBEq, convE, buildE, List.replicate, Int.reduceLT, Int.reduceLE, Int.reduceToNat, mkE, mapSetE, hN, hF, ty_3, ty_4, ty_9, ty_24, ty_25, ty_27, ty_32, ty_33, ty_51, ty_53, notIf, isEq, h4, q4, bn, hbr, e1, hg, hp, hp1, h3, q7]
            refine drawnP_intro (by kernel_rfl) (by kernel_rfl) ?_
            simp only [runA, runB, runC, runD, runE, runF, fieldE, storeE, binE, ↓reduceIte, Nat.reduceLT, Nat.reduceLeDiff, Nat.reduceEqDiff, Nat.reduceAdd, Nat.reduceMul, Nat.reduceSub, reduceCtorEq, putAt, unE, Nat.reduceBEq, convE, buildE, List.replicate, Int.reduceLT, Int.reduceLE, Int.reduceToNat, mkE, mapSetE, hN, hF, ty_3, ty_4, ty_9, ty_24, ty_25, ty_27, ty_32, ty_33, ty_51, ty_53, notIf, isEq, h4, q4, bn, hbr, e1, hg, hp, hp1, h3, q7]
            simp only [runB, finC, finD, Option.isSome_some, Option.isSome_none, ↓reduceIte, Nat.reduceEqDiff, Nat.reduceAdd, Nat.reduceMul, forall_eq_or_imp, forall_eq, implies_true, Nat.reduceBEq, reduceCtorEq, false_implies, List.zip_cons_cons, List.zip_nil_left, List.zip_nil_right, Nat.reduceLeDiff, List.forall_mem_nil, rs_52, ty_3, ty_4, ty_9, ty_24, ty_25, ty_27, ty_32, ty_33, ty_51, ty_53, brows_nil, Bool.and_false]
          | true =>
            rw [hz] at q7
            simp only [runA, runB, runC, runD, runE, runF, fieldE, storeE, binE, ↓reduceIte, Nat.reduceLT, Nat.reduceLeDiff, Nat.reduceEqDiff, Nat.reduceAdd, Nat.reduceMul, Nat.reduceSub, reduceCtorEq, putAt, unE, Nat.reduceBEq, convE, buildE, List.replicate, Int.reduceLT, Int.reduceLE, Int.reduceToNat, mkE, mapSetE, hN, hF, ty_3, ty_4, ty_9, ty_24, ty_25, ty_27, ty_32, ty_33, ty_51, ty_53, notIf, isEq, h4, q4, bn, hbr, e1, hg, hp, hp1, h3, q7]
            refine drawnP_intro (by kernel_rfl) (by kernel_rfl) ?_
            simp only [runA, runB, runC, runD, runE, runF, fieldE, storeE, binE, ↓reduceIte, Nat.reduceLT, Nat.reduceLeDiff, Nat.reduceEqDiff, Nat.reduceAdd, Nat.reduceMul, Nat.reduceSub, reduceCtorEq, putAt, unE, Nat.reduceBEq, convE, buildE, List.replicate, Int.reduceLT, Int.reduceLE, Int.reduceToNat, mkE, mapSetE, hN, hF, ty_3, ty_4, ty_9, ty_24, ty_25, ty_27, ty_32, ty_33, ty_51, ty_53, notIf, isEq, h4, q4, bn, hbr, e1, hg, hp, hp1, h3, q7]
            simp only [runB, finC, finD, Option.isSome_some, Option.isSome_none, ↓reduceIte, Nat.reduceEqDiff, Nat.reduceAdd, Nat.reduceMul, forall_eq_or_imp, forall_eq, implies_true, Nat.reduceBEq, reduceCtorEq, false_implies, List.zip_cons_cons, List.zip_nil_left, List.zip_nil_right, Nat.reduceLeDiff, List.forall_mem_nil, rs_52, ty_3, ty_4, ty_9, ty_24, ty_25, ty_27, ty_32, ty_33, ty_51, ty_53, Bool.and_true]
      | some b =>
        have hb := got_some ha
        simp only [Option.isSome_some, hb]
        have q5 := atT_p o b.pa
        have q6 := fits_p p b
        have hrow : rowsOK 9 [[.int .i64 b.vw, .int .i64 b.ht, .str b.pa, .int .i64 b.ju.vw, .int .i64 b.ju.ht, .str b.ju.bl, .sl (votes b.ju.vs), .sl (trows b.txs), .str b.sig]] := rowsOK_brows [b]
        have hsn := brows_snoc (ini ++ [p]) b
        have hby : (ini.length + 1 + 1) * 128 ≤ 140737488355328 := by omega
        by_cases hf : o.length < ini.length + 1
        · have bn3 : decide ((((ini.length + 1 : Nat) : Int)) > (o.length : Int)) = true := by simp <;> omega
          have hz : o.length + 1 - (ini.length + 1) = 0 := by omega
          rw [hz, walkL_zero ha] at hWk
          subst hWk
          simp only [runA, runB, runC, runD, runE, runF, fieldE, storeE, binE, ↓reduceIte, Nat.reduceLT, Nat.reduceLeDiff, Nat.reduceEqDiff, Nat.reduceAdd, Nat.reduceMul, Nat.reduceSub, reduceCtorEq, putAt, unE, Nat.reduceBEq, convE, buildE, List.replicate, Int.reduceLT, Int.reduceLE, Int.reduceToNat, mkE, mapSetE, hN, hF, ty_3, ty_4, ty_9, ty_24, ty_25, ty_27, ty_32, ty_33, ty_51, ty_53, notIf, isEq, h1, h2, q2, bn2, bn3, q5, hbr]
          refine drawnP_intro (by kernel_rfl) (by kernel_rfl) ?_
          simp only [runA, runB, runC, runD, runE, runF, fieldE, storeE, binE, ↓reduceIte, Nat.reduceLT, Nat.reduceLeDiff, Nat.reduceEqDiff, Nat.reduceAdd, Nat.reduceMul, Nat.reduceSub, reduceCtorEq, putAt, unE, Nat.reduceBEq, convE, buildE, List.replicate, Int.reduceLT, Int.reduceLE, Int.reduceToNat, mkE, mapSetE, hN, hF, ty_3, ty_4, ty_9, ty_24, ty_25, ty_27, ty_32, ty_33, ty_51, ty_53, notIf, isEq, h1, h2, q2, bn2, bn3, q5, hbr]
          simp only [runB, finC, finD, Option.isSome_some, Option.isSome_none, ↓reduceIte, Nat.reduceEqDiff, Nat.reduceAdd, Nat.reduceMul, forall_eq_or_imp, forall_eq, implies_true, Nat.reduceBEq, reduceCtorEq, false_implies, List.zip_cons_cons, List.zip_nil_left, List.zip_nil_right, Nat.reduceLeDiff, List.forall_mem_nil, rs_52, ty_3, ty_4, ty_9, ty_24, ty_25, ty_27, ty_32, ty_33, ty_51, ty_53, brows_nil, walkE]
        · have bn3 : decide ((((ini.length + 1 : Nat) : Int)) > (o.length : Int)) = false := by simp <;> omega
          obtain ⟨f, hf'⟩ : ∃ f, o.length + 1 - (ini.length + 1) = f + 1 := ⟨o.length - ini.length - 1, by omega⟩
          rw [hf', walkL_step ha] at hWk
          cases hfit : fitsB p b with
          | false =>
            rw [hfit] at hWk q6
            rw [if_neg (by simp)] at hWk
            subst hWk
            simp only [runA, runB, runC, runD, runE, runF, fieldE, storeE, binE, ↓reduceIte, Nat.reduceLT, Nat.reduceLeDiff, Nat.reduceEqDiff, Nat.reduceAdd, Nat.reduceMul, Nat.reduceSub, reduceCtorEq, putAt, unE, Nat.reduceBEq, convE, buildE, List.replicate, Int.reduceLT, Int.reduceLE, Int.reduceToNat, mkE, mapSetE, hN, hF, ty_3, ty_4, ty_9, ty_24, ty_25, ty_27, ty_32, ty_33, ty_51, ty_53, notIf, isEq, h1, h2, q2, bn2, bn3, q5, hbr, e1, hg, h3, q6]
            refine drawnP_intro (by kernel_rfl) (by kernel_rfl) ?_
            simp only [runA, runB, runC, runD, runE, runF, fieldE, storeE, binE, ↓reduceIte, Nat.reduceLT, Nat.reduceLeDiff, Nat.reduceEqDiff, Nat.reduceAdd, Nat.reduceMul, Nat.reduceSub, reduceCtorEq, putAt, unE, Nat.reduceBEq, convE, buildE, List.replicate, Int.reduceLT, Int.reduceLE, Int.reduceToNat, mkE, mapSetE, hN, hF, ty_3, ty_4, ty_9, ty_24, ty_25, ty_27, ty_32, ty_33, ty_51, ty_53, notIf, isEq, h1, h2, q2, bn2, bn3, q5, hbr, e1, hg, h3, q6]
            simp only [runB, finC, finD, Option.isSome_some, Option.isSome_none, ↓reduceIte, Nat.reduceEqDiff, Nat.reduceAdd, Nat.reduceMul, forall_eq_or_imp, forall_eq, implies_true, Nat.reduceBEq, reduceCtorEq, false_implies, List.zip_cons_cons, List.zip_nil_left, List.zip_nil_right, Nat.reduceLeDiff, List.forall_mem_nil, rs_52, ty_3, ty_4, ty_9, ty_24, ty_25, ty_27, ty_32, ty_33, ty_51, ty_53, brows_nil, walkE]
          | true =>
            rw [hfit] at hWk q6
            rw [if_pos rfl] at hWk
            simp only [runA, runB, runC, runD, runE, runF, fieldE, storeE, binE, ↓reduceIte, Nat.reduceLT, Nat.reduceLeDiff, Nat.reduceEqDiff, Nat.reduceAdd, Nat.reduceMul, Nat.reduceSub, reduceCtorEq, putAt, unE, Nat.reduceBEq, convE, buildE, List.replicate, Int.reduceLT, Int.reduceLE, Int.reduceToNat, mkE, mapSetE, hN, hF, ty_3, ty_4, ty_9, ty_24, ty_25, ty_27, ty_32, ty_33, ty_51, ty_53, notIf, isEq, h1, h2, q2, bn2, bn3, q5, hbr, e1, hg, h3, q6]
            refine drawnP_intro (by kernel_rfl) (by kernel_rfl) ?_
            simp only [runA, runB, runC, runD, runE, runF, fieldE, storeE, binE, ↓reduceIte, Nat.reduceLT, Nat.reduceLeDiff, Nat.reduceEqDiff, Nat.reduceAdd, Nat.reduceMul, Nat.reduceSub, reduceCtorEq, putAt, unE, Nat.reduceBEq, convE, buildE, List.replicate, Int.reduceLT, Int.reduceLE, Int.reduceToNat, mkE, mapSetE, hN, hF, ty_3, ty_4, ty_9, ty_24, ty_25, ty_27, ty_32, ty_33, ty_51, ty_53, notIf, isEq, h1, h2, q2, bn2, bn3, q5, hbr, e1, hg, h3, q6, hrow, hby, hsn]
            refine ⟨f, _, by omega, ?_, ini ++ [p] ++ [b], b.pa, by simp; omega, by simp; omega, hWk, .inr ⟨ini ++ [p], b, rfl, rfl⟩⟩
            rw [hns]
            simp only [runB, finC, finD, AS.get, AS.mem, false_implies, implies_true, ↓reduceIte, Nat.reduceEqDiff, Option.isSome_some, Option.isSome_none, forall_eq_or_imp, forall_eq, reduceCtorEq, Nat.reduceAdd, Nat.reduceMul, List.zip_cons_cons, List.zip_nil_left, List.zip_nil_right, List.forall_mem_nil, List.length_append, List.length_cons, List.length_nil, Nat.zero_add]
            first | done | simp


variable {Γ : FuncId → Contract}


theorem op_makeFuncC {Γ : FuncId → Contract} {P : Program} {M : List Nat} {d : Option Tmp} {ty : TypeId} {pos : String} {af : Array Edge} {g : Option (Nat × Bool)} {ρ : Operand → AV} (f : FuncId) (cp : Array Operand) : opE Γ P M ⟨d, .makeFunc (.func f) #[] cp, ty, pos, af, g⟩ ρ = ((capE (cp.toList.map ρ)).bind fun r => .ret ⟨.clo f r.1, r.2⟩) := by
  show (if (#[] : Array Operand) = #[] then ((capE (cp.toList.map ρ)).bind fun r => (.ret ⟨.clo f r.1, r.2⟩ : EP Eff)) else .fail) = _
  rw [if_pos rfl]
theorem capE_nil : capE [] = .ret ([], []) := rfl
theorem capE_ptr (n : Nat) (l : List AV) : capE (.ptr n 0 :: l) = .ask n fun
      | some (.obj cells _) => match toPCs cells with
        | some cs => (capE l).bind fun r => .ret (cs :: r.1, (n, .obj cells true) :: r.2)
        | none => .fail
      | _ => .fail := rfl
def parP (x : List UInt8) (t : Blk) : Bool := t.pa == x
noncomputable def parC : Contract := mkC (α := Blk × List UInt8) (fun _ => True) (fun q => [q.1.av, .rptr [.str q.2]]) (fun _ => []) (fun q => ⟨[.pv (.c (.bool (parP q.2 q.1)))], []⟩)
theorem par_at (t : Blk) (x : List UInt8) : parC [.agg [.c (.int .i64 t.vw), .c (.int .i64 t.ht), .c (.str t.pa), .c (.int .i64 t.ju.vw), .c (.int .i64 t.ju.ht), .c (.str t.ju.bl), .c (.sl (votes t.ju.vs)), .c (.sl (trows t.txs)), .c (.str t.sig)], .rptr [.str x]] [] = some ⟨[.pv (.c (.bool (parP x t)))], []⟩ :=
  mkC_at (α := Blk × List UInt8) (t, x) trivial (by
    rintro ⟨t', x'⟩ _ h _
    have h' : [t'.av, .rptr [.str x']] = [t.av, .rptr [.str x]] := h
    simp only [List.cons.injEq, Blk.av_iff, AV.rptr.injEq, PC.str.injEq, and_true] at h'
    obtain ⟨rfl, rfl⟩ := h'
    rfl)
set_option maxHeartbeats 1000000 in
theorem par_sound : SoundC Try.prog 54 parC := by
  refine sound_fn Try.func54 (by kernel_rfl) rfl rfl ?_
  intro args objs r hr
  obtain ⟨⟨t, x⟩, _, rfl, rfl, rfl⟩ := mkC_inv hr
  refine ⟨rfl, by show 2 ≤ _; decide, fun E hN hns hF => ?_⟩
  refine vc_sound none0_sound mixed _ _ _ ?_
  have hN := hN.trans nt_54
  unfold Blk.av parP
  dsimp only
  simp +contextual (maxSteps := 10000000) only [runA, runB, runC, runD, runE, runF, fieldE, storeE, binE, ↓reduceIte, Nat.reduceLT, Nat.reduceLeDiff, Nat.reduceEqDiff, Nat.reduceAdd, Nat.reduceMul, Nat.reduceSub, reduceCtorEq, putAt, unE, Nat.reduceBEq, convE, buildE, List.replicate, Int.reduceLT, Int.reduceLE, Int.reduceToNat, mkE, mapSetE, hN, hF, ty_3, ty_4, ty_9, ty_24, ty_25, ty_27, notIf, isEq, bytes_length, false_implies, implies_true]
  simp only [runB, finC, finD, Option.isSome_some, Option.isSome_none, ↓reduceIte, Nat.reduceEqDiff, Nat.reduceAdd, Nat.reduceMul, forall_eq_or_imp, forall_eq, implies_true, Nat.reduceBEq, reduceCtorEq, false_implies, List.zip_cons_cons, List.zip_nil_left, List.zip_nil_right, Nat.reduceLeDiff, List.forall_mem_nil, rs_54, ty_3, ty_4, ty_9, ty_24, ty_25, ty_27]
noncomputable def parIC : Contract := mkC (α := List Blk × List UInt8) (fun q => q.1.length ≤ 9223372036854775807) (fun q => [.c (.sl (brows q.1)), .clo 54 [[.str q.2]]]) (fun _ => []) (fun q => ⟨[.pv (.c (.int .i64 (idxP (parP q.2) q.1)))], []⟩)
noncomputable def parFC : Contract := mkC (α := List Blk × List UInt8) (fun q => q.1.length ≤ 9223372036854775807) (fun q => [.c (.sl (brows q.1)), .clo 54 [[.str q.2]]]) (fun _ => []) (fun q => ⟨[.pv (.c (.bool (q.1.any (parP q.2))))], []⟩)
theorem parI_at (l : List Blk) (x : List UInt8) (h : l.length ≤ 9223372036854775807) : parIC [.c (.sl (brows l)), .clo 54 [[.str x]]] [] = some ⟨[.pv (.c (.int .i64 (idxP (parP x) l)))], []⟩ :=
  mkC_at (α := List Blk × List UInt8) (l, x) h (by
    rintro y _ h _
    simp only [List.cons.injEq, AV.c.injEq, PC.sl.injEq, PC.str.injEq, PC.int.injEq, AV.clo.injEq, true_and, and_true, brows_iff] at h
    simp only [h])
theorem parF_at (l : List Blk) (x : List UInt8) (h : l.length ≤ 9223372036854775807) : parFC [.c (.sl (brows l)), .clo 54 [[.str x]]] [] = some ⟨[.pv (.c (.bool (l.any (parP x))))], []⟩ :=
  mkC_at (α := List Blk × List UInt8) (l, x) h (by
    rintro y _ h _
    simp only [List.cons.injEq, AV.c.injEq, PC.sl.injEq, PC.str.injEq, PC.int.injEq, AV.clo.injEq, true_and, and_true, brows_iff] at h
    simp only [h])
set_option maxHeartbeats 2000000 in
theorem parI_sound (hΓ : SoundG Try.prog Γ) (h1 : Γ 54 = parC) : SoundC Try.prog 81 parIC := by
  refine sound_fn Try.func81 (by kernel_rfl) rfl rfl ?_
  intro args objs r hr
  obtain ⟨⟨l, x⟩, hl, rfl, rfl, rfl⟩ := mkC_inv hr
  have hl : l.length ≤ 9223372036854775807 := hl
  refine ⟨rfl, by show 2 ≤ _; decide, fun E hN hns hF => ?_⟩
  refine vc_sound hΓ mixed _ _ _ ?_
  have hN := hN.trans nt_81
  dsimp only
  simp only [runA, runB, runC, runD, runE, runF, fieldE, storeE, binE, ↓reduceIte, Nat.reduceLT, Nat.reduceLeDiff, Nat.reduceEqDiff, Nat.reduceAdd, Nat.reduceMul, Nat.reduceSub, reduceCtorEq, putAt, unE, Nat.reduceBEq, convE, buildE, List.replicate, Int.reduceLT, Int.reduceLE, Int.reduceToNat, mkE, mapSetE, hN, hF, ty_3, ty_9, ty_24, ty_25, ty_27, ty_32, notIf, isEq, brows_length, Blk.pcs]
  refine AWP.loop (fun k st => ∃ i : Nat, (i ≤ l.length ∧ ∀ k, k < i → (parP x) (l.getD k zeroBk) = false) ∧ k = l.length - i ∧ st = ⟨[(0, .c (.sl (brows l))), (1, .clo 54 [[.str x]]), (7, .c (.int .i64 (l.length : Int))), (8, .c (.int .i64 (i : Int)))], []⟩) ⟨l.length, _, ?w, 0, ⟨Nat.zero_le _, fun k hk => absurd hk (by omega)⟩, rfl, rfl⟩ ?r
  case w =>
    rw [hns]
    simp only [runB, finC, finD, AS.get, AS.mem, false_implies, implies_true, ↓reduceIte, Nat.reduceEqDiff, Option.isSome_some, Option.isSome_none, forall_eq_or_imp, forall_eq, reduceCtorEq, Nat.reduceAdd, Nat.reduceMul, List.zip_cons_cons, List.zip_nil_left, List.zip_nil_right, List.forall_mem_nil]
    first | done | simp
  case r =>
    rintro k st ⟨i, ⟨hi, h8⟩, rfl, rfl⟩
    refine vc_sound hΓ mixed _ _ _ ?_
    by_cases hlt : i < l.length
    · have k1 : decide ((i : Int) < (l.length : Int)) = true := by simpa using hlt
      have e1 : IntKind.i64.wrap ((i : Int) + 1) = (i : Int) + 1 := wrapI (by omega)
      have hg := browsD l i hlt
      unfold Blk.pcs at hg
      have hd := par_at (l.getD i zeroBk) x
      cases hp : (parP x) (l.getD i zeroBk) with
      | false =>
        have h8' : ∀ k, k < i + 1 → (parP x) (l.getD k zeroBk) = false := fun k hk => by
          by_cases e : k = i
          · rw [e]; exact hp
          · exact h8 k (by omega)
        rw [hp] at hd
        generalize l.getD i zeroBk = y at hg hd
        simp only [runA, runB, runC, runD, runE, runF, fieldE, storeE, binE, ↓reduceIte, Nat.reduceLT, Nat.reduceLeDiff, Nat.reduceEqDiff, Nat.reduceAdd, Nat.reduceMul, Nat.reduceSub, reduceCtorEq, putAt, unE, Nat.reduceBEq, convE, buildE, List.replicate, Int.reduceLT, Int.reduceLE, Int.reduceToNat, mkE, mapSetE, hN, hF, ty_3, ty_9, ty_24, ty_25, ty_27, ty_32, notIf, isEq, k1, e1, hg, h1, hd]
        refine ⟨l.length - (i + 1), _, by omega, ?_, i + 1, ⟨by omega, h8'⟩, rfl, rfl⟩
        rw [hns]
        simp only [runB, finC, finD, AS.get, AS.mem, false_implies, implies_true, ↓reduceIte, Nat.reduceEqDiff, Option.isSome_some, Option.isSome_none, forall_eq_or_imp, forall_eq, reduceCtorEq, Nat.reduceAdd, Nat.reduceMul, List.zip_cons_cons, List.zip_nil_left, List.zip_nil_right, List.forall_mem_nil]
        first | done | simp
      | true =>
        have hS := idxP_some hlt hp h8
        rw [hp] at hd
        generalize l.getD i zeroBk = y at hg hd
        simp only [runA, runB, runC, runD, runE, runF, fieldE, storeE, binE, ↓reduceIte, Nat.reduceLT, Nat.reduceLeDiff, Nat.reduceEqDiff, Nat.reduceAdd, Nat.reduceMul, Nat.reduceSub, reduceCtorEq, putAt, unE, Nat.reduceBEq, convE, buildE, List.replicate, Int.reduceLT, Int.reduceLE, Int.reduceToNat, mkE, mapSetE, hN, hF, ty_3, ty_9, ty_24, ty_25, ty_27, ty_32, notIf, isEq, k1, e1, hg, h1, hd]
        simp only [runB, finC, finD, Option.isSome_some, Option.isSome_none, ↓reduceIte, Nat.reduceEqDiff, Nat.reduceAdd, Nat.reduceMul, forall_eq_or_imp, forall_eq, implies_true, Nat.reduceBEq, reduceCtorEq, false_implies, List.zip_cons_cons, List.zip_nil_left, List.zip_nil_right, Nat.reduceLeDiff, List.forall_mem_nil, rs_81, hS]
    · have k1 : decide ((i : Int) < (l.length : Int)) = false := by simpa using hlt
      obtain rfl : i = l.length := by omega
      have hS := idxP_none h8
      simp only [runA, runB, runC, runD, runE, runF, fieldE, storeE, binE, ↓reduceIte, Nat.reduceLT, Nat.reduceLeDiff, Nat.reduceEqDiff, Nat.reduceAdd, Nat.reduceMul, Nat.reduceSub, reduceCtorEq, putAt, unE, Nat.reduceBEq, convE, buildE, List.replicate, Int.reduceLT, Int.reduceLE, Int.reduceToNat, mkE, mapSetE, hN, hF, ty_3, ty_9, ty_24, ty_25, ty_27, ty_32, notIf, isEq, k1]
      simp only [runB, finC, finD, Option.isSome_some, Option.isSome_none, ↓reduceIte, Nat.reduceEqDiff, Nat.reduceAdd, Nat.reduceMul, forall_eq_or_imp, forall_eq, implies_true, Nat.reduceBEq, reduceCtorEq, false_implies, List.zip_cons_cons, List.zip_nil_left, List.zip_nil_right, Nat.reduceLeDiff, List.forall_mem_nil, rs_81, hS]
set_option maxHeartbeats 1000000 in
theorem parF_sound (hΓ : SoundG Try.prog Γ) (h1 : Γ 81 = parIC) : SoundC Try.prog 53 parFC := by
  refine sound_fn Try.func53 (by kernel_rfl) rfl rfl ?_
  intro args objs r hr
  obtain ⟨⟨l, x⟩, hl, rfl, rfl, rfl⟩ := mkC_inv hr
  have hl : l.length ≤ 9223372036854775807 := hl
  refine ⟨rfl, by show 2 ≤ _; decide, fun E hN hns hF => ?_⟩
  refine vc_sound hΓ mixed _ _ _ ?_
  have hN := hN.trans nt_53
  have h2 := parI_at l x hl
  have h3 := idxP_ge (parP x) l
  dsimp only
  simp only [runA, runB, runC, runD, runE, runF, fieldE, storeE, binE, ↓reduceIte, Nat.reduceLT, Nat.reduceLeDiff, Nat.reduceEqDiff, Nat.reduceAdd, Nat.reduceMul, Nat.reduceSub, reduceCtorEq, putAt, unE, Nat.reduceBEq, convE, buildE, List.replicate, Int.reduceLT, Int.reduceLE, Int.reduceToNat, mkE, mapSetE, hN, hF, ty_3, ty_4, ty_27, ty_32, notIf, isEq, h1, h2, h3]
  simp only [runB, finC, finD, Option.isSome_some, Option.isSome_none, ↓reduceIte, Nat.reduceEqDiff, Nat.reduceAdd, Nat.reduceMul, forall_eq_or_imp, forall_eq, implies_true, Nat.reduceBEq, reduceCtorEq, false_implies, List.zip_cons_cons, List.zip_nil_left, List.zip_nil_right, Nat.reduceLeDiff, List.forall_mem_nil, rs_53]

noncomputable def extS (own : List Blk) (a b : List UInt8) : Bool := (walkS own a).2 && (b == a || b == genS || (walkS own a).1.any (parP b))
noncomputable def conS (own : List Blk) (a b : List UInt8) : Bool := (walkS own a).2 && (walkS own b).2 && !extS own a b && !extS own b a
theorem walkL_len (own : List Blk) : ∀ (f : Nat) (acc : List Blk) (nm : List UInt8) (l : List Blk), walkL own f acc nm = some l → l.length ≤ acc.length + f
  | 0, acc, nm, l, h => by
    unfold walkL at h
    split at h
    · cases h; omega
    · cases h
  | f + 1, acc, nm, l, h => by
    unfold walkL at h
    split at h
    · cases h; omega
    · split at h
      · split at h
        · have := walkL_len own f _ _ _ h
          simp at this; omega
        · cases h
      · have := walkL_len own f _ _ _ h
        simp at this; omega
theorem walkS_len (own : List Blk) (nm : List UInt8) : (walkS own nm).1.length ≤ own.length + 1 := by
  unfold walkS walkE
  split
  · simp
  · rename_i l h
    have := walkL_len own _ _ _ _ h
    simp at this
    split
    · simp
    · split
      · exact this
      · simp
noncomputable def exdC : Contract := mkC (α := List Blk × List UInt8 × List UInt8) (fun p => treeOK p.1) (fun p => [.ptr 6400000 0, .c (.str p.2.1), .c (.str p.2.2)]) (fun p => [[.mp true (esOf p.1)]]) (fun p => ⟨[.pv (.c (.bool (extS p.1 p.2.1 p.2.2)))], [[.mp true (esOf p.1)]]⟩)
theorem exd_at (o : List Blk) (a : List UInt8) (b : List UInt8) (g0 : treeOK o) : exdC [.ptr 6400000 0, .c (.str a), .c (.str b)] [[.mp true (esOf o)]] = some ⟨[.pv (.c (.bool (extS o a b)))], [[.mp true (esOf o)]]⟩ := by
  exact mkC_at (α := List Blk × List UInt8 × List UInt8) (o, a, b) g0 (by
    rintro ⟨o', a', b'⟩ _ h ho
    have hh := And.intro h ho
    clear h ho
    simp only [List.cons.injEq, AV.c.injEq, AV.agg.injEq, PC.int.injEq, PC.str.injEq, PC.bool.injEq, PC.sl.injEq, OV.c.injEq, OV.own.injEq, OV.mp.injEq, bytes_iff, texts_iff, true_and, and_true, and_self, beq_self_eq_true, esOf_iff] at hh
    simp only [hh])
set_option maxRecDepth 100000 in
set_option maxHeartbeats 4000000 in
theorem exd_sound (hΓ : SoundG Try.prog Γ) (h1 : Γ 52 = walkC) (h2 : Γ 47 = genC) (h3 : Γ 53 = parFC) : SoundC Try.prog 17 exdC := by
  refine sound_fn Try.func17 (by kernel_rfl) rfl rfl ?_
  intro args objs r0 hr
  obtain ⟨⟨o, a, b⟩, ho, rfl, rfl, rfl⟩ := mkC_inv hr
  refine ⟨rfl, by show 3 ≤ _; decide, fun E hN hns hF => ?_⟩
  refine vc_sound hΓ mixed _ _ _ ?_
  have hN := hN.trans nt_17
  have ho : treeOK o := ho
  have q1 := walk_at o a ho
  have hl := walkS_len o a
  have hol := ho.1
  have q2 : genC [] [] = some ⟨[.pv (.c (.str genS))], []⟩ := rfl
  have q3 := parF_at (walkS o a).1 b (by omega)
  dsimp only
  unfold extS
  generalize walkS o a = w at q1 q3 ⊢
  obtain ⟨l, k⟩ := w
  dsimp only at q1 q3 ⊢
  cases k with
  | false =>
    simp only [runA, runB, runC, runD, runE, runF, fieldE, storeE, binE, ↓reduceIte, Nat.reduceLT, Nat.reduceLeDiff, Nat.reduceEqDiff, Nat.reduceAdd, Nat.reduceMul, Nat.reduceSub, reduceCtorEq, putAt, unE, Nat.reduceBEq, convE, buildE, List.replicate, Int.reduceLT, Int.reduceLE, Int.reduceToNat, mkE, mapSetE, hN, hF, ty_4, ty_9, ty_27, ty_32, ty_33, notIf, isEq, h1, q1]
    simp only [runB, finC, finD, Option.isSome_some, Option.isSome_none, ↓reduceIte, Nat.reduceEqDiff, Nat.reduceAdd, Nat.reduceMul, forall_eq_or_imp, forall_eq, implies_true, Nat.reduceBEq, reduceCtorEq, false_implies, List.zip_cons_cons, List.zip_nil_left, List.zip_nil_right, Nat.reduceLeDiff, List.forall_mem_nil, rs_17, ty_4, ty_9, ty_27, ty_32, ty_33, Bool.false_and]
  | true =>
    cases c1 : b == a with
    | true =>
      simp only [runA, runB, runC, runD, runE, runF, fieldE, storeE, binE, ↓reduceIte, Nat.reduceLT, Nat.reduceLeDiff, Nat.reduceEqDiff, Nat.reduceAdd, Nat.reduceMul, Nat.reduceSub, reduceCtorEq, putAt, unE, Nat.reduceBEq, convE, buildE, List.replicate, Int.reduceLT, Int.reduceLE, Int.reduceToNat, mkE, mapSetE, hN, hF, ty_4, ty_9, ty_27, ty_32, ty_33, notIf, isEq, h1, q1, c1]
      refine drawnP_intro (by kernel_rfl) (by kernel_rfl) ?_
      simp only [runA, runB, runC, runD, runE, runF, fieldE, storeE, binE, ↓reduceIte, Nat.reduceLT, Nat.reduceLeDiff, Nat.reduceEqDiff, Nat.reduceAdd, Nat.reduceMul, Nat.reduceSub, reduceCtorEq, putAt, unE, Nat.reduceBEq, convE, buildE, List.replicate, Int.reduceLT, Int.reduceLE, Int.reduceToNat, mkE, mapSetE, hN, hF, ty_4, ty_9, ty_27, ty_32, ty_33, notIf, isEq, h1, q1, c1]
      simp only [runB, finC, finD, Option.isSome_some, Option.isSome_none, ↓reduceIte, Nat.reduceEqDiff, Nat.reduceAdd, Nat.reduceMul, forall_eq_or_imp, forall_eq, implies_true, Nat.reduceBEq, reduceCtorEq, false_implies, List.zip_cons_cons, List.zip_nil_left, List.zip_nil_right, Nat.reduceLeDiff, List.forall_mem_nil, rs_17, ty_4, ty_9, ty_27, ty_32, ty_33, Bool.true_and, Bool.true_or]
    | false =>
      cases c2 : b == genS with
      | true =>
        simp only [runA, runB, runC, runD, runE, runF, fieldE, storeE, binE, ↓reduceIte, Nat.reduceLT, Nat.reduceLeDiff, Nat.reduceEqDiff, Nat.reduceAdd, Nat.reduceMul, Nat.reduceSub, reduceCtorEq, putAt, unE, Nat.reduceBEq, convE, buildE, List.replicate, Int.reduceLT, Int.reduceLE, Int.reduceToNat, mkE, mapSetE, hN, hF, ty_4, ty_9, ty_27, ty_32, ty_33, notIf, isEq, h1, q1, c1, h2, q2, c2]
        refine drawnP_intro (by kernel_rfl) (by kernel_rfl) ?_
        simp only [runA, runB, runC, runD, runE, runF, fieldE, storeE, binE, ↓reduceIte, Nat.reduceLT, Nat.reduceLeDiff, Nat.reduceEqDiff, Nat.reduceAdd, Nat.reduceMul, Nat.reduceSub, reduceCtorEq, putAt, unE, Nat.reduceBEq, convE, buildE, List.replicate, Int.reduceLT, Int.reduceLE, Int.reduceToNat, mkE, mapSetE, hN, hF, ty_4, ty_9, ty_27, ty_32, ty_33, notIf, isEq, h1, q1, c1, h2, q2, c2]
        simp only [runB, finC, finD, Option.isSome_some, Option.isSome_none, ↓reduceIte, Nat.reduceEqDiff, Nat.reduceAdd, Nat.reduceMul, forall_eq_or_imp, forall_eq, implies_true, Nat.reduceBEq, reduceCtorEq, false_implies, List.zip_cons_cons, List.zip_nil_left, List.zip_nil_right, Nat.reduceLeDiff, List.forall_mem_nil, rs_17, ty_4, ty_9, ty_27, ty_32, ty_33, Bool.true_and, Bool.true_or, Bool.or_true]
      | false =>
        simp only [runA, runB, runC, runD, runE, runF, fieldE, storeE, binE, ↓reduceIte, Nat.reduceLT, Nat.reduceLeDiff, Nat.reduceEqDiff, Nat.reduceAdd, Nat.reduceMul, Nat.reduceSub, reduceCtorEq, putAt, unE, Nat.reduceBEq, convE, buildE, List.replicate, Int.reduceLT, Int.reduceLE, Int.reduceToNat, mkE, mapSetE, hN, hF, ty_4, ty_9, ty_27, ty_32, ty_33, notIf, isEq, h1, q1, c1, h2, q2, c2, h3, q3, op_makeFuncC, capE_nil, capE_ptr]
        refine drawnP_intro (by kernel_rfl) (by kernel_rfl) ?_
        simp only [runA, runB, runC, runD, runE, runF, fieldE, storeE, binE, ↓reduceIte, Nat.reduceLT, Nat.reduceLeDiff, Nat.reduceEqDiff, Nat.reduceAdd, Nat.reduceMul, Nat.reduceSub, reduceCtorEq, putAt, unE, Nat.reduceBEq, convE, buildE, List.replicate, Int.reduceLT, Int.reduceLE, Int.reduceToNat, mkE, mapSetE, hN, hF, ty_4, ty_9, ty_27, ty_32, ty_33, notIf, isEq, h1, q1, c1, h2, q2, c2, h3, q3, op_makeFuncC, capE_nil, capE_ptr]
        simp only [runB, finC, finD, Option.isSome_some, Option.isSome_none, ↓reduceIte, Nat.reduceEqDiff, Nat.reduceAdd, Nat.reduceMul, forall_eq_or_imp, forall_eq, implies_true, Nat.reduceBEq, reduceCtorEq, false_implies, List.zip_cons_cons, List.zip_nil_left, List.zip_nil_right, Nat.reduceLeDiff, List.forall_mem_nil, rs_17, ty_4, ty_9, ty_27, ty_32, ty_33, Bool.true_and, Bool.false_or]

end Go.Proofs.Ytenmlgalcjkdbaa.AM
