/-
  QF: Rp Rq.
-/
import Derived.Shelf.Strings.Builder1
import Derived.Shelf.Strings.Builder2
import Derived.Shelf.Strings.BuilderF
import Derived.Shelf.Strings.Prefix
import Derived.Shelf.Bits.Mul64
import Derived.Shelf.Strings.Repeat
import Derived.Test.YtofkehedjcinhaaChecked
import Derived.Test.YtofkehedjcinhaaQE
set_option linter.unusedVariables false
set_option linter.unusedSimpArgs false
namespace Go.Proofs
open Go.Shelf
def Try.lays105_ren : Go.Shelf.Ren := ⟨fun | 105 => 17 | 212 => 27 | 99 => 28 | 165 => 29 | 166 => 30 | 170 => 31 | 169 => 32 | 263 => 43 | 264 => 44 | 206 => 45 | 240 => 46 | 241 => 47 | 276 => 57 | 277 => 58 | n => n, fun | 9 => 9 | 3 => 3 | 4 => 4 | 20 => 20 | 0 => 0 | 46 => 83 | 109 => 84 | 5 => 5 | 72 => 89 | 76 => 93 | 51 => 128 | 146 => 129 | 53 => 131 | 148 => 132 | 70 => 87 | 37 => 73 | 75 => 92 | 127 => 134 | 164 => 146 | 80 => 96 | n => n, fun | n => n⟩
theorem Try.lays105 : Go.Proofs.Lays.n105 Try.prog Try.lays105_ren := {
  mixed := by kernel_rfl
  f99 := Try.func28.trans (congrArg some (by kernel_rfl))
  f105 := Try.func17.trans (congrArg some (by kernel_rfl))
  f165 := Try.func29.trans (congrArg some (by kernel_rfl))
  f166 := Try.func30.trans (congrArg some (by kernel_rfl))
  f169 := Try.func32.trans (congrArg some (by kernel_rfl))
  f170 := Try.func31.trans (congrArg some (by kernel_rfl))
  f206 := Try.func45.trans (congrArg some (by kernel_rfl))
  f212 := Try.func27.trans (congrArg some (by kernel_rfl))
  f240 := Try.func46.trans (congrArg some (by kernel_rfl))
  f241 := Try.func47.trans (congrArg some (by kernel_rfl))
  f263 := Try.func43.trans (congrArg some (by kernel_rfl))
  f264 := Try.func44.trans (congrArg some (by kernel_rfl))
  f276 := Try.func57.trans (congrArg some (by kernel_rfl))
  f277 := Try.func58.trans (congrArg some (by kernel_rfl))
  t0 := Try.underlying0
  a0 := Try.isAgg0
  z0 := Try.sizeOf0
  v0 := Try.zeroValue0
  t3 := Try.underlying3
  a3 := Try.isAgg3
  z3 := Try.sizeOf3
  v3 := Try.zeroValue3
  t4 := Try.underlying4
  a4 := Try.isAgg4
  z4 := Try.sizeOf4
  v4 := Try.zeroValue4
  t5 := Try.underlying5
  a5 := Try.isAgg5
  z5 := Try.sizeOf5
  v5 := Try.zeroValue5
  t9 := Try.underlying9
  a9 := Try.isAgg9
  z9 := Try.sizeOf9
  v9 := Try.zeroValue9
  t20 := Try.underlying20
  a20 := Try.isAgg20
  z20 := Try.sizeOf20
  v20 := Try.zeroValue20
  t37 := Try.underlying73
  a37 := Try.isAgg73
  z37 := Try.sizeOf73
  v37 := Try.zeroValue73
  t46 := Try.underlying83
  a46 := Try.isAgg83
  z46 := Try.sizeOf83
  v46 := Try.zeroValue83
  t51 := Try.underlying128
  a51 := Try.isAgg128
  z51 := Try.sizeOf128
  v51 := Try.zeroValue128
  t53 := Try.underlying131
  a53 := Try.isAgg131
  z53 := Try.sizeOf131
  v53 := Try.zeroValue131
  t70 := Try.underlying87
  a70 := Try.isAgg87
  z70 := Try.sizeOf87
  v70 := Try.zeroValue87
  t72 := Try.underlying89
  a72 := Try.isAgg89
  z72 := Try.sizeOf89
  v72 := Try.zeroValue89
  t75 := Try.underlying92
  a75 := Try.isAgg92
  z75 := Try.sizeOf92
  v75 := Try.zeroValue92
  t76 := Try.underlying93
  a76 := Try.isAgg93
  z76 := Try.sizeOf93
  v76 := Try.zeroValue93
  t109 := Try.underlying84
  a109 := Try.isAgg84
  z109 := Try.sizeOf84
  v109 := Try.zeroValue84
  t127 := Try.underlying134
  a127 := Try.isAgg134
  z127 := Try.sizeOf134
  v127 := Try.zeroValue134
  t146 := Try.underlying129
  a146 := Try.isAgg129
  z146 := Try.sizeOf129
  v146 := Try.zeroValue129
  t148 := Try.underlying132
  a148 := Try.isAgg132
  z148 := Try.sizeOf132
  v148 := Try.zeroValue132
  t164 := Try.underlying146
  a164 := Try.isAgg146
  z164 := Try.sizeOf146
  v164 := Try.zeroValue146 }
theorem Try.Builder_Extra_105 : Builder.Extra Try.prog Try.lays105_ren := {
  sizeBuilder := by kernel_rfl
  liesBuilder := by kernel_rfl
  t5 := Try.underlying5
  a5 := Try.isAgg5
  z5 := Try.sizeOf5
  v5 := Try.zeroValue5
  infoByte := by kernel_rfl
  cellsByte := by kernel_rfl
  sizeByte := by kernel_rfl
  neB5 := by decide }
open Go.RowKit Go.Lib in
theorem Try.strings_Repeat (s : ByteArray) (c : Nat) (w : World) (hc : c ≤ 9223372036854775807) (hlen : s.size * c ≤ 140737488355328) :
    Calls Try.prog 17 #[.string s, .int .i64 c] w fun e w' => e = .returned (.string ⟨(Lib.repeatL s.data.toList c).toArray⟩) ∧ Below w.heap.size w w' := Any.strings_Repeat Try.lays105 Try.Builder_Extra_105 s c w hc hlen
end Go.Proofs
namespace Go.Proofs.Ytofkehedjcinhaa.AM
open Go Go.RowKit

variable {Γ : FuncId → Contract}

theorem MRel.below0 {w w' : World} {Ext : Nat → Prop} {G : Gh} {res : List RV} (M : MRel (cEnv w Ext G.K) G (look (entryMem 0 [])) w) (b : Below w.heap.size w w') (he : exitMem ⟨res, []⟩ = []) : MRel (cEnv w Ext G.K) G (look (exitMem ⟨res, []⟩)) w' := by
  have hG : ∀ i, G.h i = none := fun i => (M.home i).none_of
  refine ⟨fun k o v h => ?_, fun n => ?_, fun n n' h h' k e => ?_, b.os.trans M.os, b.tape.trans M.tape, b.output.trans M.output, Nat.le_trans M.size0 b.size, Nat.le_trans M.sizeB b.size, fun k hk hE => b.block k hk, M.k0, M.kfr⟩
  · rw [cell_same (b.block k (M.k_lt h))]
    exact M.agree k o v h
  · rw [he, hG n]
    trivial
  · rw [hG n] at e
    cases e

noncomputable def repC : Contract := mkC (α := List UInt8 × Nat) (fun p => p.2 ≤ 9223372036854775807 ∧ p.1.length * p.2 ≤ 140737488355328) (fun p => [.c (.str p.1), .c (.int .i64 (p.2 : Int))]) (fun _ => []) (fun p => ⟨[.pv (.c (.str (Lib.repeatL p.1 p.2)))], []⟩)
theorem rep_at (s : List UInt8) (c : Nat) (g0 : c ≤ 9223372036854775807) (g1 : s.length * c ≤ 140737488355328) : repC [.c (.str s), .c (.int .i64 (c : Int))] [] = some ⟨[.pv (.c (.str (Lib.repeatL s c)))], []⟩ :=
  mkC_at (α := List UInt8 × Nat) (s, c) ⟨g0, g1⟩ (by
    rintro ⟨s', c'⟩ _ h _
    simp only [List.cons.injEq, AV.c.injEq, PC.str.injEq, PC.int.injEq, true_and, and_true, Int.natCast_inj] at h
    obtain ⟨rfl, rfl⟩ := h
    rfl)
theorem rep_sound : SoundC Try.prog 17 repC := by
  refine ⟨⟨_, Try.func17, rfl, rfl⟩, fun args objs r hr => ?_⟩
  obtain ⟨⟨s, c⟩, ⟨h1, h2⟩, rfl, rfl, rfl⟩ := mkC_inv hr
  refine ⟨fun x hx => resB_spec (l := [.pv (.c (.str (Lib.repeatL s c)))]) rfl x hx, fun Ext G w vals M hl hx => ?_⟩
  match vals, hl with
  | [v1, v2], _ =>
  have e1 : v1 = .string ⟨s.toArray⟩ := by
    have := hx 0 _ v1 rfl rfl
    cases this with
    | c _ _ h => cases h; rfl
  have e2 : v2 = .int .i64 (c : Int) := by
    have := hx 1 _ v2 rfl rfl
    cases this with
    | c _ _ h => cases h; rfl
  subst e1 e2
  refine Calls.mono (Try.strings_Repeat ⟨s.toArray⟩ c w h1 (by show s.toArray.size * c ≤ _; simpa using h2)) ?_
  rintro e W' ⟨rfl, bel⟩
  refine ⟨G, _, rfl, Gh.le_refl _, M.below0 bel rfl, ?_⟩
  exact .c _ _ (.str _)

def genS : List UInt8 := List.replicate 32 0
theorem repeat_zero : ∀ n, Lib.repeatL [0] n = List.replicate n (0 : UInt8) := by
  intro n
  induction n with
  | zero => rfl
  | succ n ih =>
    show [0] ++ Lib.repeatL [0] n = _
    rw [ih]; rfl

def cfirstC : Contract := fun args objs => match args, objs with | [], [] => some ⟨[.pv (.agg [.c (.int .i64 0), .c (.int .i64 0), .c (.str genS), .c (.sl [])])], []⟩ | _, _ => none
set_option maxHeartbeats 1000000 in
theorem cfirst_sound (hΓ : SoundG Try.prog Γ) (h1 : Γ 17 = repC) : SoundC Try.prog 10 cfirstC := by
  refine sound_fn Try.func10 (by kernel_rfl) rfl rfl ?_
  intro args objs r hr
  unfold cfirstC at hr
  split at hr
  · cases hr
    refine ⟨rfl, by show 0 ≤ _; decide, fun E hN hns hF => ?_⟩
    refine vc_sound hΓ mixed _ _ _ ?_
    have hN := hN.trans nt_10
    have q1 : repC [.c (.str [0]), .c (.int .i64 32)] [] = some ⟨[.pv (.c (.str genS))], []⟩ := by
      have h := rep_at [0] 32 (by decide) (by decide)
      rw [repeat_zero] at h
      exact h
    generalize genS = g at q1
    simp only [runA, runB, runC, runD, runE, runF, fieldE, storeE, binE, ↓reduceIte, Nat.reduceLT, Nat.reduceLeDiff, Nat.reduceEqDiff, Nat.reduceAdd, Nat.reduceMul, Nat.reduceSub, reduceCtorEq, putAt, unE, Nat.reduceBEq, convE, buildE, List.replicate, Int.reduceLT, Int.reduceLE, Int.reduceToNat, mkE, mapSetE, hN, hF, ty_3, ty_9, ty_56, ty_58, notIf, isEq, h1, q1]
    simp only [runB, finC, finD, Option.isSome_some, Option.isSome_none, ↓reduceIte, Nat.reduceEqDiff, Nat.reduceAdd, Nat.reduceMul, forall_eq_or_imp, forall_eq, implies_true, Nat.reduceBEq, reduceCtorEq, false_implies, List.zip_cons_cons, List.zip_nil_left, List.zip_nil_right, Nat.reduceLeDiff, List.forall_mem_nil, rs_10, ty_3, ty_9, ty_56, ty_58]
  · cases hr
end Go.Proofs.Ytofkehedjcinhaa.AM
