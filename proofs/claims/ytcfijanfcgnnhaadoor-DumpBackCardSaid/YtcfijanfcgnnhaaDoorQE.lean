/-
  QE: Dw4 Dt3.
-/
import Derived.Test.YtcfijanfcgnnhaaDoorQ4
import Derived.Test.YtcfijanfcgnnhaaDoorQC
import Derived.Test.YtcfijanfcgnnhaaDoorQD
import Derived.Test.YtcfijanfcgnnhaaDoorQA
set_option linter.unusedVariables false
set_option linter.unusedSimpArgs false
namespace Go.Proofs.YtcfijanfcgnnhaaDoor.AM
open Go Go.RowKit

variable {Γ : FuncId → Contract}

theorem MRel.below0 {w w' : World} {Ext : Nat → Prop} {G : Gh} {res : List RV} (M : MRel (cEnv w Ext G.K) G (look (entryMem 0 [])) w) (b : Below w.heap.size w w') (he : exitMem ⟨res, []⟩ = []) : MRel (cEnv w Ext G.K) G (look (exitMem ⟨res, []⟩)) w' := by
  have hG : ∀ i, G.h i = none := fun i => (M.home i).none_of
  refine ⟨fun k o v h => ?_, fun n => ?_, fun n n' h h' k e => ?_, b.os.trans M.os, b.tape.trans M.tape, b.output.trans M.output, Nat.le_trans M.size0 b.size, Nat.le_trans M.sizeB b.size, fun k hk hE => b.block k hk, M.k0, M.kfr⟩
  · rw [cell_same (b.block k (M.k_lt h))]
    exact M.agree k o v h
  · rw [he, hG n]
    trivial
  · rw [hG n] at e
    cases e

noncomputable def hexC : Contract := mkC (α := List UInt8) (fun l => l.length ≤ 17592186044416) (fun l => [.c (.str l)]) (fun _ => []) (fun l => ⟨[.pv (.c (.str (hexS l)))], []⟩)
theorem hex_at (l : List UInt8) (h : l.length ≤ 17592186044416) : hexC [.c (.str l)] [] = some ⟨[.pv (.c (.str (hexS l)))], []⟩ :=
  mkC_at (α := List UInt8) l h (by
    rintro y _ h _
    simp only [List.cons.injEq, AV.c.injEq, PC.str.injEq, and_true] at h
    rw [h])
theorem hex_sound : SoundC Tryd.prog 10 hexC := by
  refine ⟨⟨_, Tryd.func10, rfl, rfl⟩, fun args objs r hr => ?_⟩
  obtain ⟨l, h1, rfl, rfl, rfl⟩ := mkC_inv hr
  refine ⟨fun x hx => resB_spec (l := [.pv (.c (.str (hexS l)))]) rfl x hx, fun Ext G w vals M hl hx => ?_⟩
  match vals, hl with
  | [v1], _ =>
  have e1 : v1 = .string ⟨l.toArray⟩ := by
    have := hx 0 _ v1 rfl rfl
    cases this with
    | c _ _ h => cases h; rfl
  subst e1
  refine Calls.mono (Tryd.hex_walk ⟨l.toArray⟩ w (by show l.toArray.size ≤ _; have h1 : l.length ≤ 17592186044416 := h1; simp; omega)) ?_
  rintro e W' ⟨rfl, bel⟩
  refine ⟨G, _, rfl, Gh.le_refl _, M.below0 bel rfl, ?_⟩
  exact .c _ _ (.str _)
noncomputable def unhexC : Contract := mkC (α := List UInt8) (fun l => l.length ≤ 35184372088832) (fun l => [.c (.str l)]) (fun _ => []) (fun l => ⟨[.pv (.c (.str ((unS l).getD []))), .pv (.c (.bool (unS l).isSome))], []⟩)
theorem unhex_at (l : List UInt8) (h : l.length ≤ 35184372088832) : unhexC [.c (.str l)] [] = some ⟨[.pv (.c (.str ((unS l).getD []))), .pv (.c (.bool (unS l).isSome))], []⟩ :=
  mkC_at (α := List UInt8) l h (by
    rintro y _ h _
    simp only [List.cons.injEq, AV.c.injEq, PC.str.injEq, and_true] at h
    rw [h])
theorem unhex_sound : SoundC Tryd.prog 9 unhexC := by
  refine ⟨⟨_, Tryd.func9, rfl, rfl⟩, fun args objs r hr => ?_⟩
  obtain ⟨l, h1, rfl, rfl, rfl⟩ := mkC_inv hr
  refine ⟨fun x hx => resB_spec (l := [.pv (.c (.str ((unS l).getD []))), .pv (.c (.bool (unS l).isSome))]) rfl x hx, fun Ext G w vals M hl hx => ?_⟩
  match vals, hl with
  | [v1], _ =>
  have e1 : v1 = .string ⟨l.toArray⟩ := by
    have := hx 0 _ v1 rfl rfl
    cases this with
    | c _ _ h => cases h; rfl
  subst e1
  refine Calls.mono (Tryd.unhex_walk ⟨l.toArray⟩ w (by show l.toArray.size ≤ _; have h1 : l.length ≤ 35184372088832 := h1; simp; omega)) ?_
  rintro e W' ⟨rfl, bel⟩
  refine ⟨G, _, rfl, Gh.le_refl _, M.below0 bel rfl, ?_⟩
  refine .tup _ _ rfl fun i x u h1 h2 => ?_
  match i with
  | 0 => cases h1; cases h2; exact .c _ _ (.str _)
  | 1 => cases h1; cases h2; exact .c _ _ (.bool _)
  | i + 2 => cases h1
def alive39C : Contract := fun args objs => match args, objs with | [], [] => some ⟨[.pv (.c (.bool true))], []⟩ | _, _ => none
set_option maxHeartbeats 1000000 in
theorem alive39_sound (hΓ : SoundG Tryd.prog Γ) (h1 : Γ 9 = unhexC) (h2 : Γ 10 = hexC) : SoundC Tryd.prog 4 alive39C := by
  refine sound_fn Tryd.func4 (by kernel_rfl) rfl rfl ?_
  intro args objs r hr
  unfold alive39C at hr
  split at hr
  · cases hr
    refine ⟨rfl, by show 0 ≤ _; decide, fun E hN hns hF => ?_⟩
    refine vc_sound hΓ mixed _ _ _ ?_
    have hN := hN.trans nt_4
    have q1 : unhexC [.c (.str [48, 102])] [] = some ⟨[.pv (.c (.str [15])), .pv (.c (.bool true))], []⟩ := (unhex_at [48, 102] (by decide)).trans rfl
    have q2 : hexC [.c (.str [])] [] = some ⟨[.pv (.c (.str [46]))], []⟩ := (hex_at [] (by decide)).trans rfl
    have q3 : hexC [.c (.str [15])] [] = some ⟨[.pv (.c (.str [48, 102]))], []⟩ := (hex_at [15] (by decide)).trans rfl
    have b1 : (([46] : List UInt8) == [46]) = true := by decide
    have b2 : (([48, 102] : List UInt8) == [48, 102]) = true := by decide
    have b3 : (([15] : List UInt8) == [15]) = true := by decide
    simp only [runA, runB, runC, runD, runE, runF, fieldE, storeE, binE, ↓reduceIte, Nat.reduceLT, Nat.reduceLeDiff, Nat.reduceEqDiff, Nat.reduceAdd, Nat.reduceMul, Nat.reduceSub, reduceCtorEq, putAt, unE, Nat.reduceBEq, convE, buildE, List.replicate, Int.reduceLT, Int.reduceLE, Int.reduceToNat, mkE, mapSetE, hN, hF, ty_4, ty_9, notIf, isEq, h1, h2, q1, q2, q3, b1, b2, b3]
    iterate 3 (try (refine drawnP_intro (by kernel_rfl) (by kernel_rfl) ?_; simp only [runA, runB, runC, runD, runE, runF, fieldE, storeE, binE, ↓reduceIte, Nat.reduceLT, Nat.reduceLeDiff, Nat.reduceEqDiff, Nat.reduceAdd, Nat.reduceMul, Nat.reduceSub, reduceCtorEq, putAt, unE, Nat.reduceBEq, convE, buildE, List.replicate, Int.reduceLT, Int.reduceLE, Int.reduceToNat, mkE, mapSetE, hN, hF, ty_4, ty_9, notIf, isEq, h1, h2, q1, q2, q3, b1, b2, b3]))
    simp only [runB, finC, finD, Option.isSome_some, Option.isSome_none, ↓reduceIte, Nat.reduceEqDiff, Nat.reduceAdd, Nat.reduceMul, forall_eq_or_imp, forall_eq, implies_true, Nat.reduceBEq, reduceCtorEq, false_implies, List.zip_cons_cons, List.zip_nil_left, List.zip_nil_right, Nat.reduceLeDiff, List.forall_mem_nil, rs_4]
  · cases hr

variable {Γ : FuncId → Contract}

end Go.Proofs.YtcfijanfcgnnhaaDoor.AM
