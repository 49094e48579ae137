/-
  Q9: Mk6 Mk7 Mk8 Mk9.
-/
import Derived.Test.YtcfijanfcgnnhaaQ8
import Derived.Test.YtcfijanfcgnnhaaQ3
import Derived.RangeFuncNested
import Derived.RangeFuncCalls
import Derived.RangeFuncBox
import Derived.Shelf.Abstract
import Derived.Shelf.RegionOpen
import Derived.WalkKit
import Derived.OwnWalkIn
import Derived.TacticsInMore
import Derived.LoopNIn
import Derived.LoopIn
set_option linter.unusedVariables false
set_option linter.unusedSimpArgs false
namespace Go.Proofs.Ytcfijanfcgnnhaa.AM
open Go Go.Proofs Go.RowKit Go.Shelf

variable {Γ : FuncId → Contract}

/-- Two lists of texts. -/
structure Tx2 where
  a : List (List UInt8)
  b : List (List UInt8)
noncomputable def textsC : Contract := mkC (α := Tx2) (fun p => p.a.length ≤ 1099511627776) (fun p => [.c (.sl (texts p.a)), .c (.sl (texts p.b))]) (fun _ => []) (fun p => ⟨[.pv (.c (.bool (decide (p.a = p.b))))], []⟩)
theorem texts_at (a b : List (List UInt8)) (h : a.length ≤ 1099511627776) : textsC [.c (.sl (texts a)), .c (.sl (texts b))] [] = some ⟨[.pv (.c (.bool (decide (a = b))))], []⟩ :=
  mkC_at (α := Tx2) ⟨a, b⟩ h (by
    rintro ⟨a', b'⟩ _ h' _
    simp only [List.cons.injEq, AV.c.injEq, PC.sl.injEq, and_true] at h'
    obtain ⟨h1, h2⟩ := h'
    obtain rfl := texts_inj h1
    obtain rfl := texts_inj h2
    rfl)

set_option maxRecDepth 100000 in
set_option maxHeartbeats 1000000 in
theorem texts_sound (hΓ : SoundG Try.prog Γ) : SoundC Try.prog 36 textsC := by
  refine sound_fn Try.func36 (by kernel_rfl) rfl rfl ?_
  intro args objs r hr
  obtain ⟨⟨a, b⟩, hl, rfl, rfl, rfl⟩ := mkC_inv hr
  have hl : a.length ≤ 1099511627776 := hl
  refine ⟨rfl, by show 2 ≤ _; decide, fun E hN hns hF => ?_⟩
  refine vc_sound hΓ mixed _ _ _ ?_
  have hN := hN.trans nt_36
  dsimp only
  by_cases hne : a.length = b.length
  · have g1 : ((a.length : Int) != (b.length : Int)) = false := by simp [hne]
    simp only [runA, runB, runC, runD, runE, runF, fieldE, storeE, binE, ↓reduceIte, Nat.reduceLT, Nat.reduceLeDiff, Nat.reduceEqDiff, Nat.reduceAdd, Nat.reduceMul, Nat.reduceSub, reduceCtorEq, putAt, unE, Nat.reduceBEq, convE, buildE, List.replicate, Int.reduceLT, Int.reduceLE, Int.reduceToNat, mkE, mapSetE, hN, hF, ty_3, ty_4, ty_9, ty_72, notIf, isEq, g1, texts_length]
    refine AWP.loop (fun c st => ∃ i : Nat, i ≤ a.length ∧ a.take i = b.take i ∧ c = a.length - i ∧ st = ⟨[(0, .c (.sl (texts a))), (1, .c (.sl (texts b))), (5, .c (.int .i64 (i : Int)))], []⟩) ⟨a.length, _, ?w, 0, Nat.zero_le _, rfl, rfl, rfl⟩ ?r
    case w =>
      rw [hns]
      simp only [runB, finC, finD, AS.get, AS.mem, false_implies, implies_true, ↓reduceIte, Nat.reduceEqDiff, Option.isSome_some, Option.isSome_none, forall_eq_or_imp, forall_eq, reduceCtorEq, Nat.reduceAdd, Nat.reduceMul, List.zip_cons_cons, List.zip_nil_left, List.zip_nil_right, List.forall_mem_nil]
      first | done | simp
    case r =>
      rintro c st ⟨i, hi, hti, rfl, rfl⟩
      refine vc_sound hΓ mixed _ _ _ ?_
      by_cases hlt : i < a.length
      · have g2 : decide ((i : Int) < (a.length : Int)) = true := by simpa using hlt
        obtain ⟨x, hx⟩ : ∃ x, a[i]? = some x := ⟨a[i], by simp [hlt]⟩
        obtain ⟨y, hy⟩ : ∃ y, b[i]? = some y := ⟨b[i]'(by omega), by simp⟩
        have hxr : (texts a)[i]? = some [PC.str x] := by simp [texts, hx]
        have hyr : (texts b)[i]? = some [PC.str y] := by simp [texts, hy]
        have e1 : IntKind.i64.wrap ((i : Int) + 1) = (i : Int) + 1 := wrapI (by omega)
        by_cases hxy : x = y
        · subst hxy
          have g3 : (x != x) = false := by simp
          have hti2 : a.take (i + 1) = b.take (i + 1) := by rw [List.take_add_one, List.take_add_one, hti, hx, hy]
          simp only [runA, runB, runC, runD, runE, runF, fieldE, storeE, binE, ↓reduceIte, Nat.reduceLT, Nat.reduceLeDiff, Nat.reduceEqDiff, Nat.reduceAdd, Nat.reduceMul, Nat.reduceSub, reduceCtorEq, putAt, unE, Nat.reduceBEq, convE, buildE, List.replicate, Int.reduceLT, Int.reduceLE, Int.reduceToNat, mkE, mapSetE, hN, hF, ty_3, ty_4, ty_9, ty_72, notIf, isEq, g2, hxr, hyr, g3, texts_length]
          refine drawnP_intro (by kernel_rfl) (by kernel_rfl) ?_
          simp only [runA, runB, runC, runD, runE, runF, fieldE, storeE, binE, ↓reduceIte, Nat.reduceLT, Nat.reduceLeDiff, Nat.reduceEqDiff, Nat.reduceAdd, Nat.reduceMul, Nat.reduceSub, reduceCtorEq, putAt, unE, Nat.reduceBEq, convE, buildE, List.replicate, Int.reduceLT, Int.reduceLE, Int.reduceToNat, mkE, mapSetE, hN, hF, ty_3, ty_4, ty_9, ty_72, notIf, isEq, g3, e1]
          refine ⟨a.length - (i + 1), _, by omega, ?_, i + 1, by omega, hti2, rfl, rfl⟩
          rw [hns]
          simp only [runB, finC, finD, AS.get, AS.mem, false_implies, implies_true, ↓reduceIte, Nat.reduceEqDiff, Option.isSome_some, Option.isSome_none, forall_eq_or_imp, forall_eq, reduceCtorEq, Nat.reduceAdd, Nat.reduceMul, List.zip_cons_cons, List.zip_nil_left, List.zip_nil_right, List.forall_mem_nil]
          first | done | simp
        · have g3 : (x == y) = false := by simpa using hxy
          have hab : decide (a = b) = false := by
            simp only [decide_eq_false_iff_not]
            rintro rfl
            rw [hx] at hy
            exact hxy (Option.some.inj hy)
          simp only [runA, runB, runC, runD, runE, runF, fieldE, storeE, binE, ↓reduceIte, Nat.reduceLT, Nat.reduceLeDiff, Nat.reduceEqDiff, Nat.reduceAdd, Nat.reduceMul, Nat.reduceSub, reduceCtorEq, putAt, unE, Nat.reduceBEq, convE, buildE, List.replicate, Int.reduceLT, Int.reduceLE, Int.reduceToNat, mkE, mapSetE, hN, hF, ty_3, ty_4, ty_9, ty_72, notIf, isEq, g2, hxr, hyr, g3, texts_length]
          refine drawnP_intro (by kernel_rfl) (by kernel_rfl) ?_
          simp only [runA, runB, runC, runD, runE, runF, fieldE, storeE, binE, ↓reduceIte, Nat.reduceLT, Nat.reduceLeDiff, Nat.reduceEqDiff, Nat.reduceAdd, Nat.reduceMul, Nat.reduceSub, reduceCtorEq, putAt, unE, Nat.reduceBEq, convE, buildE, List.replicate, Int.reduceLT, Int.reduceLE, Int.reduceToNat, mkE, mapSetE, hN, hF, ty_3, ty_4, ty_9, ty_72, notIf, isEq, g3]
          simp only [runB, finC, finD, Option.isSome_some, Option.isSome_none, ↓reduceIte, Nat.reduceEqDiff, Nat.reduceAdd, Nat.reduceMul, forall_eq_or_imp, forall_eq, implies_true, Nat.reduceBEq, reduceCtorEq, false_implies, List.zip_cons_cons, List.zip_nil_left, List.zip_nil_right, Nat.reduceLeDiff, List.forall_mem_nil, rs_36, hab]
      · have g2 : decide ((i : Int) < (a.length : Int)) = false := by simpa using hlt
        have hab : decide (a = b) = true := by
          simp only [decide_eq_true_eq]
          rw [List.take_of_length_le (by omega), List.take_of_length_le (by omega)] at hti
          exact hti
        simp only [runA, runB, runC, runD, runE, runF, fieldE, storeE, binE, ↓reduceIte, Nat.reduceLT, Nat.reduceLeDiff, Nat.reduceEqDiff, Nat.reduceAdd, Nat.reduceMul, Nat.reduceSub, reduceCtorEq, putAt, unE, Nat.reduceBEq, convE, buildE, List.replicate, Int.reduceLT, Int.reduceLE, Int.reduceToNat, mkE, mapSetE, hN, hF, ty_3, ty_4, ty_9, ty_72, notIf, isEq, g2, texts_length]
        simp only [runB, finC, finD, Option.isSome_some, Option.isSome_none, ↓reduceIte, Nat.reduceEqDiff, Nat.reduceAdd, Nat.reduceMul, forall_eq_or_imp, forall_eq, implies_true, Nat.reduceBEq, reduceCtorEq, false_implies, List.zip_cons_cons, List.zip_nil_left, List.zip_nil_right, Nat.reduceLeDiff, List.forall_mem_nil, rs_36, hab]
  · have g1 : ((a.length : Int) != (b.length : Int)) = true := by simp; omega
    have hab : decide (a = b) = false := by
      simp only [decide_eq_false_iff_not]
      rintro rfl
      exact hne rfl
    simp only [runA, runB, runC, runD, runE, runF, fieldE, storeE, binE, ↓reduceIte, Nat.reduceLT, Nat.reduceLeDiff, Nat.reduceEqDiff, Nat.reduceAdd, Nat.reduceMul, Nat.reduceSub, reduceCtorEq, putAt, unE, Nat.reduceBEq, convE, buildE, List.replicate, Int.reduceLT, Int.reduceLE, Int.reduceToNat, mkE, mapSetE, hN, hF, ty_3, ty_4, ty_9, ty_72, notIf, isEq, g1, texts_length]
    simp only [runB, finC, finD, Option.isSome_some, Option.isSome_none, ↓reduceIte, Nat.reduceEqDiff, Nat.reduceAdd, Nat.reduceMul, forall_eq_or_imp, forall_eq, implies_true, Nat.reduceBEq, reduceCtorEq, false_implies, List.zip_cons_cons, List.zip_nil_left, List.zip_nil_right, Nat.reduceLeDiff, List.forall_mem_nil, rs_36, hab]

set_option maxRecDepth 100000 in
theorem rows_calls (ad : Option Addr) (len cap : Nat) (w : World) : Calls Try.prog 85 #[.slice ad len cap] w fun e w' => e = .returned (.func (.func 100) #[] #[.pointer (some ⟨w.heap.size, 0, none⟩)]) ∧ w' = w.alloc (.cells #[.slice ad len cap] 72) := by
  refine callsIn_wide.1 (callsIn_of_wp (F := Fence.wide) (n := 0) Try.func85 rfl trivial ?_ rfl)
  simp only [Try.ntmps85, List.size_toArray, List.length_cons, List.length_nil, Nat.reduceAdd, Nat.reduceSub, Array.replicate_succ, Array.replicate_zero, List.push_toArray, List.append_toArray, List.nil_append, List.cons_append]
  gi_wp2
  go_ret
  exact ⟨rfl, rfl⟩

set_option maxRecDepth 100000 in
set_option maxHeartbeats 4000000 in
/-- The rows, from the leaves on: each is yielded; the next one is made of it, as long as it has more than one. -/
theorem rows_it (l Bx k : Nat) (rs : Nat → Nat) (J J' : Nat → World → Prop) (hlen : ∀ i, i < k → 1 < rs i) (hk : rs k ≤ 1)
    (hbox : ∀ i W, J i W → ∃ v, W.cell? ⟨Bx, 0, none⟩ = some v) (hbox' : ∀ i W, J' i W → ∃ ad cap, W.cell? ⟨Bx, 0, none⟩ = some (.slice ad (rs i) cap))
    (hY : ∀ i W v, i ≤ k → J i W → W.cell? ⟨Bx, 0, none⟩ = some v → YieldAt Fence.wide 0 Try.prog l #[v] W fun e W' => e = .returned (.bool true) ∧ J' i W')
    (hUp : ∀ i W v, i < k → J' i W → W.cell? ⟨Bx, 0, none⟩ = some v → Calls Try.prog 101 #[v] W fun e W' => ∃ ad n cap, e = .returned (.slice ad n cap) ∧ (∃ x, W'.cell? ⟨Bx, 0, none⟩ = some x) ∧ W'.frozen? ⟨Bx, 0, none⟩ = false ∧ J (i + 1) (W'.setCell ⟨Bx, 0, none⟩ (.slice ad n cap)))
    (W : World) (h0 : J 0 W) :
    CallsIn Fence.wide 0 Try.prog 100 #[.func (.yield l) #[] #[], .pointer (some ⟨Bx, 0, none⟩)] W fun e W' => (∃ v, e = .returned v) ∧ J' k W' := by
  refine callsIn_of_wp Try.func100 rfl trivial ?_ rfl
  simp only [Try.ntmps100, List.size_toArray, List.length_cons, List.length_nil, Nat.reduceAdd, Nat.reduceSub, Array.replicate_succ, Array.replicate_zero, List.push_toArray, List.append_toArray, List.nil_append, List.cons_append]
  refine wpIn_block (wpIn_loop_rounds (k + 1) ?_)
  refine (?key : ∀ (d i : Nat) (W : World) (t2 t3 t4 t5 t6 t7 t8 t9 t10 t11 t12 : Value), i + d = k → J i W →
      Code.roundsIn Fence.wide 0 Try.prog ?c ?Q (d + 1) { tmps := #[.func (.yield l) #[] #[], .pointer (some ⟨Bx, 0, none⟩), t2, t3, t4, t5, t6, t7, t8, t9, t10, t11, t12], defers := [] } W) k 0 W _ _ _ _ _ _ _ _ _ _ _ (Nat.zero_add k) h0
  intro d
  induction d with
  | zero =>
    intro i W t2 t3 t4 t5 t6 t7 t8 t9 t10 t11 t12 hi hJ
    obtain rfl : i = k := by omega
    obtain ⟨v, hv⟩ := hbox i W hJ
    obtain ⟨fn, tmps, assign, body, hy, hR1⟩ := hY i W v (Nat.le_refl _) hJ hv
    rw [roundsIn_succ]
    gi_wp2
    refine ⟨rfl, hR1.mono ?_⟩
    rintro e W3 ⟨rfl, hJ3⟩
    obtain ⟨ad, cap, hc⟩ := hbox' i W3 hJ3
    have g1 : ¬ ((rs i : Nat) : Int) > 1 := by omega
    gi_wp2
    exact ⟨rfl, _, results_none rfl _ _ _, ⟨_, rfl⟩, hJ3⟩
  | succ d ih =>
    intro i W t2 t3 t4 t5 t6 t7 t8 t9 t10 t11 t12 hi hJ
    obtain ⟨v, hv⟩ := hbox i W hJ
    obtain ⟨fn, tmps, assign, body, hy, hR1⟩ := hY i W v (by omega) hJ hv
    have hlt : i < k := by omega
    have hg := hlen i hlt
    rw [roundsIn_succ]
    gi_wp2
    refine ⟨rfl, hR1.mono ?_⟩
    rintro e W3 ⟨rfl, hJ3⟩
    obtain ⟨ad, cap, hc⟩ := hbox' i W3 hJ3
    have g1 : (1 : Int) < ((rs i : Nat) : Int) := by omega
    have hup := (callsIn_wide (n := 0)).2 (hUp i W3 _ hlt hJ3 hc)
    gi_wp2
    refine ⟨trivial, rfl, hup.mono ?_⟩
    rintro e w' ⟨ad', n', cap', rfl, ⟨x, hx⟩, hfr, hJ4⟩
    gi_wp2
    exact ih (i + 1) _ _ _ _ _ _ _ _ _ _ _ _ (by omega) hJ4

open Go Go.RowKit

variable {Γ : FuncId → Contract} {E : Env}

/-- What the iterator's box holds. -/
theorem Btw.box {G0 G : Gh} {l D : Nat} {rec : LoopState → Loop} {m : List (Nat × MC)} {W : World} (J : Btw E G0 l D rec G m W) {n Bx : Nat} {rows : List (List PC)} (hm : look m n = some (.obj [.c (.sl rows)] false)) (hg : G0.h n = some (.obj Bx)) :
    G.h n = some (.obj Bx) ∧ ∃ (vs : Array Value) (v : Value) (ty : TypeId), W.heap[Bx]? = some (.cells vs ty (0, 0)) ∧ vs[0]? = some v ∧ VR G.K (.sl rows) v ∧ ∃ ad cap, v = .slice ad rows.length cap := by
  obtain ⟨h', e, l⟩ := J.le.h n _ hg
  cases l
  have hh := J.mem.home n
  rw [hm, e] at hh
  obtain ⟨vs, ty, a1, a2, a3, _⟩ := hh
  refine ⟨e, ?_⟩
  have h0 : 0 < vs.size := a2
  have hv := a3 0 _ vs[0] rfl (by simp [h0])
  cases hv with
  | c _ _ hv =>
    obtain ⟨ad, cap, h1, _⟩ := hv.slice_form
    exact ⟨vs, vs[0], ty, a1, by simp [h0], hv, ad, cap, h1⟩

theorem AWPm.rows (hS : SoundC Try.prog 101 upC) (hro : E.ro = none) {s : AS} {id bid : Nat} {ops : Array Oper} {o1 o2 : Oper} {c : Call} {t0 u g p : Tmp} {assign body : Code} {Q : Bool → Exit → AS → Prop} {l : List (List UInt8)}
    (hops : ops = #[o1, o2]) (h1 : o1.op = .move (.tmp t0)) (d1 : o1.dst = some u) (g1 : o1.guard = none) (h2 : o2.op = .call c) (hc : c.callee = .value (.func 85)) (hca : c.args = #[.tmp u]) (d2 : o2.dst = some g) (g2 : o2.guard = none)
    (hu : u < E.N.n) (hg : g < E.N.n) (hp : p < E.N.n) (hget : s.get t0 = .c (.sl (texts l))) (k nbx : Nat) (rs : Nat → List (List UInt8)) (hr0 : rs 0 = l) (hrs : ∀ i, rs (i + 1) = upS (rs i)) (hok : ∀ i, Okl (rs i)) (hgt : ∀ i, i < k → 1 < (rs i).length) (hle : (rs k).length ≤ 1)
    (hn : look s.m nbx = none) (S : Nat → List (Nat × MC)) (hS0 : S 0 = s.m) (s1 : Nat → AS)
    (hA : ∀ i, i ≤ k → ∀ E' : Env, E'.N = E.N → E'.ns = keys ((nbx, .obj [.c (.sl (texts (rs i)))] false) :: S i) →
      AWP Try.prog E' assign (fun e s' => e = .normal ∧ s' = s1 i) ⟨(p, .c (.sl (texts (rs i)))) :: (g, .undef) :: (u, .undef) :: s.t, (nbx, .obj [.c (.sl (texts (rs i)))] false) :: S i⟩)
    (hB : ∀ i, i ≤ k → ∀ E' : Env, E'.N = E.N → E'.ns = keys (s1 i).m → AWP Try.prog E' body (fun e s' => e = .normal ∧ Weak (keys (s1 i).m) s' ⟨[], (nbx, .obj [.c (.sl (texts (rs i)))] false) :: S (i + 1)⟩) (s1 i))
    (hQ : Q true .normal ⟨(g, .undef) :: (u, .undef) :: s.t, (nbx, .obj [.c (.sl (texts (rs k)))] false) :: S (k + 1)⟩) :
    AWPm Try.prog E false (.seq (.region id ops false) (.block bid (.rangeFunc (.tmp g) #[p] assign body))) Q s := by
  rintro G a w ⟨R, hd⟩
  have hd' : a.defers = [] := hd
  have hsz : a.tmps.size = E.N.n := R.size
  have hv := R.tmps t0
  rw [hget] at hv
  generalize hvv : a.tmps.getD t0 Go.undef = v at hv
  cases hv with
  | c _ _ hv =>
  obtain ⟨ad, cap, hform, _⟩ := hv.slice_form
  have hrows : EnterOK Try.prog 85 := ⟨_, Try.func85, rfl, rfl⟩
  have hrows1 : EnterOK Try.prog 100 := ⟨_, Try.func100, rfl, rfl⟩
  have hcall : Calls Try.prog 85 #[v] w fun e w' => e = .returned (.func (.func 100) #[] #[.pointer (some ⟨w.heap.size, 0, none⟩)]) ∧ w' = w.alloc (.cells #[v] 72) := by
    rw [hform]; exact rows_calls ad _ cap w
  refine wpIn_seq (region_made hops (move_at h1 hvv) (fun c hc => by rw [h1] at hc; cases hc) d1 g1 h2 hc hca d2 g2 hrows (by rw [hsz]; exact hu) hcall ?_)
  have M := R.mem.conv (E' := E) rfl rfl rfl rfl
  obtain ⟨n1, n2, n3⟩ := M.newObj (n := nbx) hn (cells := [.c (.sl (texts l))]) (vs := #[v]) (ty := 72) (Nat.le_refl _) (fun i x u e1 e2 => by
    cases i with
    | zero => simp at e1 e2; subst e1; subst e2; exact .c _ _ hv
    | succ i => simp at e1)
  generalize hG2 : G.put nbx (.obj w.heap.size) = G2 at n1 n2 n3
  obtain ⟨Bx, hBx⟩ : ∃ Bx, w.heap.size = Bx := ⟨_, rfl⟩
  have M2 : MRel E G2 (look ((nbx, .obj [.c (.sl (texts (rs 0)))] false) :: S 0)) (w.alloc (.cells #[v] 72)) := by
    rw [hr0, hS0]
    exact n3
  obtain ⟨a2, ha2⟩ : ∃ a2 : Act, a2 = { a with tmps := (a.tmps.setIfInBounds u v).setIfInBounds g (.func (.func 100) #[] #[.pointer (some ⟨w.heap.size, 0, none⟩)]) } := ⟨_, rfl⟩
  have R2 : RelM E false G2 ⟨(g, .undef) :: (u, .undef) :: s.t, (nbx, .obj [.c (.sl (texts (rs 0)))] false) :: S 0⟩ a2 (w.alloc (.cells #[v] 72)) := by
    refine ⟨⟨by rw [ha2]; simpa using hsz, rfl, fun i => ?_, M2.conv rfl rfl rfl rfl, fun n hn' => ?_⟩, by rw [ha2]; exact hd⟩
    · by_cases e1 : g = i
      · have : (AS.mk ((g, AV.undef) :: (u, .undef) :: s.t) ((nbx, .obj [.c (.sl (texts (rs 0)))] false) :: S 0)).get i = .undef := by simp [AS.get, look, e1]
        rw [this]; exact .undef _
      · by_cases e2 : u = i
        · have : (AS.mk ((g, AV.undef) :: (u, .undef) :: s.t) ((nbx, .obj [.c (.sl (texts (rs 0)))] false) :: S 0)).get i = .undef := by simp [AS.get, look, e1, e2]
          rw [this]; exact .undef _
        · have h3 : (AS.mk ((g, AV.undef) :: (u, .undef) :: s.t) ((nbx, .obj [.c (.sl (texts (rs 0)))] false) :: S 0)).get i = s.get i := by simp [AS.get, look, e1, e2]
          have h4 : a2.tmps.getD i Go.undef = a.tmps.getD i Go.undef := by rw [ha2]; simp [Array.getElem?_setIfInBounds_ne e1, Array.getElem?_setIfInBounds_ne e2]
          rw [h3, h4]
          exact (R.tmps i).mono n1
    · obtain ⟨x, x', e1, e2, l⟩ := R.ent n hn'
      obtain ⟨y, e3, l2⟩ := n1.h n x' e2
      exact ⟨x, y, e1, e3, Home.le_trans l l2⟩
  have hge : a2.eval (.tmp g) = .func (.func 100) #[] #[.pointer (some ⟨Bx, 0, none⟩)] := by
    have hg' : g < a.tmps.size := by rw [hsz]; exact hg
    rw [ha2, hBx]; simp [Act.eval, hg']
  rw [← ha2]
  change Code.wpIn (rF E.ro) 0 _ (Code.block bid _) _ a2 _
  have hgB : G2.h nbx = some (.obj Bx) := by rw [← hBx]; exact n2
  refine wpIn_block (wpIn_mono (AWPm.range (Q := inBlockM bid Q) hro R2 hge hrows1 (fun q hq => by simp at hq; subst hq; exact hp) (k + 1) (fun i => [.c (.sl (texts (rs i)))])
    (fun i => (nbx, .obj [.c (.sl (texts (rs i)))] false) :: S i) (fun i => (nbx, .obj [.c (.sl (texts (rs i)))] false) :: S (i + 1)) ((nbx, .obj [.c (.sl (texts (rs k)))] false) :: S (k + 1)) (fun _ _ => rfl) s1
    (fun _ => rfl) (fun i hi => hA i (by omega)) (fun i hi => hB i (by omega)) ?it hQ) ?out)
  case out =>
    rintro e a' w' ⟨b', G', s', h2, h3⟩
    cases e with
    | exit id' =>
      simp only [inBlockM] at h2
      simp only [Exit.inBlock]
      by_cases e : id' = bid
      · rw [if_pos e] at h2 ⊢; exact ⟨b', G', s', h2, h3⟩
      · rw [if_neg e] at h2 ⊢; exact ⟨b', G', s', h2, h3⟩
    | _ => exact ⟨b', G', s', h2, h3⟩
  case it =>
    intro l' D rec W G3 hl' hD J hY
    refine (rows_it l' Bx k (fun i => (rs i).length) (fun i W => ∃ G, Btw E G2 l' D rec G ((nbx, .obj [.c (.sl (texts (rs i)))] false) :: S i) W) (fun i W => ∃ G, Btw E G2 l' D rec G ((nbx, .obj [.c (.sl (texts (rs i)))] false) :: S (i + 1)) W)
      hgt hle ?hb ?hb' ?hy ?hup W ⟨G3, J⟩).mono (fun e W' h => h)
    case hb =>
      rintro i W ⟨G, J⟩
      obtain ⟨_, vs, v, ty, q1, qv, _⟩ := J.box (n := nbx) (rows := texts (rs i)) (by simp [look]) hgB
      exact ⟨v, by simp [World.cell?, q1, qv]⟩
    case hb' =>
      rintro i W ⟨G, J⟩
      obtain ⟨_, vs, v, ty, q1, qv, _, ad, cap, rfl⟩ := J.box (n := nbx) (rows := texts (rs i)) (by simp [look]) hgB
      exact ⟨ad, cap, by simp [World.cell?, q1, qv, texts_length]⟩
    case hy =>
      rintro i W v hi ⟨G, J⟩ hv
      obtain ⟨_, vs, v', ty, q1, qv, q2, _⟩ := J.box (n := nbx) (rows := texts (rs i)) (by simp [look]) hgB
      have : v' = v := by simpa [World.cell?, q1, qv] using hv
      subst this
      refine (hY i W G [v'] (by omega) J rfl (fun j x u e1 e2 => ?_)).mono (fun e W' ⟨h1, G', _, h2⟩ => ⟨h1, G', h2⟩)
      cases j with
      | zero => simp at e1 e2; subst e1; subst e2; exact .c _ _ q2
      | succ j => simp at e1
    case hup =>
      rintro i W v hi ⟨G, J⟩ hv
      obtain ⟨q0, vs, v', ty, q1, qv, q2, _⟩ := J.box (n := nbx) (rows := texts (rs i)) (by simp [look]) hgB
      have : v' = v := by simpa [World.cell?, q1, qv] using hv
      subst this
      refine Calls.mono (J.mem.call0 hS (up_at (rs i) (hok i)) (vals := [v']) rfl (fun j x u e1 e2 => ?_)) ?_
      · cases j with
        | zero => simp at e1 e2; subst e1; subst e2; exact .c _ _ q2
        | succ j => simp at e1
      · rintro e W' ⟨G', x, rfl, hle', hh, M', hx, hblk, hsz'⟩
        cases hx with
        | c _ _ hx =>
        obtain ⟨ad, cap, hform, _⟩ := hx.slice_form
        have hB' : W'.heap[Bx]? = some (.cells vs ty (0, 0)) := (hblk Bx (heap_some_lt q1)).trans q1
        refine ⟨ad, _, cap, by rw [hform], ⟨v', by simp [World.cell?, hB', qv]⟩, by simp [World.frozen?, hB'], G', ?_⟩
        rw [← hform]
        have hset : W'.setCell ⟨Bx, 0, none⟩ x = W'.setRow Bx (vs.setIfInBounds 0 x) := by rw [setCell_eq_setRow W' Bx 0 vs ty (0, 0) x hB']
        rw [hset]
        have hll := J.loop
        have hdd := J.dfr
        have hlb : l' ≠ Bx := fun e => by rw [e, q1] at hll; cases hll
        have hdb : D ≠ Bx := fun e => by rw [e, q1] at hdd; cases hdd
        refine ⟨?_, Gh.le_trans J.le hle', ?_, ?_⟩
        · have := M'.setObj (n := nbx) (b := Bx) (cells := [.c (.sl (texts (rs i)))]) (cells' := [.c (.sl (texts (rs (i + 1))))]) (vs' := vs.setIfInBounds 0 x) (by simp [look]) (by rw [hh]; exact q0) (by have := (Array.getElem?_eq_some_iff.1 qv).1; simp; omega) (fun j y z e1 e2 => by
            cases j with
            | zero =>
              have hlt := (Array.getElem?_eq_some_iff.1 qv).1
              simp [hlt] at e1 e2; subst e1; subst e2; rw [hrs]; exact .c _ _ hx
            | succ j => simp at e1)
          refine this.congr fun n => ?_
          simp only [look, mset]
          split <;> rfl
        · exact (setRow_other W' Bx l' _ hlb).trans ((hblk l' (heap_some_lt hll)).trans hll)
        · exact (setRow_other W' Bx D _ hdb).trans ((hblk D (heap_some_lt hdd)).trans hdd)


variable {Γ : FuncId → Contract}

noncomputable def upN (l : List (List UInt8)) : Nat → List (List UInt8)
  | 0 => l
  | i + 1 => upS (upN l i)
theorem upN_up (l : List (List UInt8)) : ∀ i, upN (upS l) i = upN l (i + 1)
  | 0 => rfl
  | i + 1 => by rw [upN, upN_up l i]; rfl
theorem upN_ok {l : List (List UInt8)} (h : Okl l) : ∀ i, Okl (upN l i)
  | 0 => h
  | i + 1 => upS_ok (upN_ok h i)
theorem depth : ∀ (n : Nat) (l : List (List UInt8)), l.length ≤ n → ∃ k, (∀ i, i < k → 1 < (upN l i).length) ∧ (upN l k).length ≤ 1
  | 0, l, h => ⟨0, fun i hi => by omega, by show l.length ≤ 1; omega⟩
  | n + 1, l, h => by
    by_cases h1 : l.length ≤ 1
    · exact ⟨0, fun i hi => by omega, h1⟩
    · have hl := upS_length l
      obtain ⟨k, h2, h3⟩ := depth n (upS l) (by omega)
      refine ⟨k + 1, fun i hi => ?_, by rw [← upN_up]; exact h3⟩
      cases i with
      | zero => show 1 < l.length; omega
      | succ i => rw [← upN_up]; exact h2 i (by omega)
theorem root_upN {l : List (List UInt8)} {k : Nat} (h : ∀ i, i < k → 1 < (upN l i).length) : ∀ i, i ≤ k → rootS (upN l i) = rootS l
  | 0, _ => rfl
  | i + 1, hi => by
    rw [← root_upN h i (by omega), rootS_gt (l := upN l i) (by have := h i (by omega); omega)]
    rfl

set_option maxRecDepth 100000 in
set_option maxHeartbeats 1000000 in
theorem root_sound (hΓ : SoundG Try.prog Γ) (h2 : Γ 101 = upC) (hS : SoundC Try.prog 101 upC) : SoundC Try.prog 68 rootC := by
  refine sound_fnM ⟨[], []⟩ Try.func68 (by kernel_rfl) rfl rfl ?_ ?_
  · rw [rs_68]; intro r hr; simp at hr; exact ⟨_, hr⟩
  intro args objs r hr
  obtain ⟨l, hl, rfl, rfl, rfl⟩ := mkC_inv hr
  refine ⟨rfl, by show 1 ≤ _; decide, fun E hro hN hns hF => ?_⟩
  have hN := hN.trans nt_68
  refine AWPm.seq (AWPm.of fun E' hE hns' => vc_sound hΓ mixed _ _ _ ?_)
  have hN' : E'.N.n = _ := (congrArg Lim.n hE).trans hN
  have hF' : E'.N.adv = _ := (congrArg Lim.adv hE).trans hF
  simp only [runA, runB, runC, runD, runE, runF, fieldE, storeE, binE, ↓reduceIte, Nat.reduceLT, Nat.reduceLeDiff, Nat.reduceEqDiff, Nat.reduceAdd, Nat.reduceMul, Nat.reduceSub, reduceCtorEq, putAt, unE, Nat.reduceBEq, convE, buildE, List.replicate, Int.reduceLT, Int.reduceLE, Int.reduceToNat, mkE, mapSetE, hN', hF', ty_3, ty_9, ty_72, notIf, isEq, thenM_normal]
  refine AWPm.seq (AWPm.of fun E' hE hns' => vc_sound hΓ mixed _ _ _ ?_)
  have hN' : E'.N.n = _ := (congrArg Lim.n hE).trans hN
  have hF' : E'.N.adv = _ := (congrArg Lim.adv hE).trans hF
  simp only [runA, runB, runC, runD, runE, runF, fieldE, storeE, binE, ↓reduceIte, Nat.reduceLT, Nat.reduceLeDiff, Nat.reduceEqDiff, Nat.reduceAdd, Nat.reduceMul, Nat.reduceSub, reduceCtorEq, putAt, unE, Nat.reduceBEq, convE, buildE, List.replicate, Int.reduceLT, Int.reduceLE, Int.reduceToNat, mkE, mapSetE, hN', hF', ty_3, ty_9, ty_72, notIf, isEq, thenM_normal]
  refine AWPm.weak (s2 := ⟨[(3, .ptr 192 0), (0, .c (.sl (texts l)))], [(192, .obj [.c (.str [])] false)]⟩) (by rw [hns]; simp only [runB, finC, finD, AS.get, AS.mem, false_implies, implies_true, ↓reduceIte, Nat.reduceEqDiff, Option.isSome_some, Option.isSome_none, forall_eq_or_imp, forall_eq, reduceCtorEq, Nat.reduceAdd, Nat.reduceMul, List.zip_cons_cons, List.zip_nil_left, List.zip_nil_right, List.forall_mem_nil]; first | done | simp) ?_
  obtain ⟨k, hk1, hk2⟩ := depth l.length l (Nat.le_refl _)
  have hroot := root_upN hk1
  refine AWPm.seq (AWPm.rows hS hro (l := l) rfl rfl rfl rfl rfl rfl rfl rfl rfl (by rw [hN]; decide) (by rw [hN]; decide) (by rw [hN]; decide) rfl k 384 (upN l) rfl (fun _ => rfl) (upN_ok hl) hk1 hk2 rfl
    (fun i => [(192, .obj [.c (.str (if i ≤ k then [] else rootS l))] false)]) (by simp)
    (fun i => ⟨[(4, .c (.sl (texts (upN l i)))), (7, .c (.sl (texts (upN l i)))), (6, .undef), (5, .undef), (3, .ptr 192 0), (0, .c (.sl (texts l)))], [(384, .obj [.c (.sl (texts (upN l i)))] false), (192, .obj [.c (.str (if i ≤ k then [] else rootS l))] false)]⟩) ?hA ?hB ?hQ)
  case hA =>
    intro i hi E' hE hns'
    have hN' : E'.N.n = _ := (congrArg Lim.n hE).trans hN
    have hF' : E'.N.adv = _ := (congrArg Lim.adv hE).trans hF
    refine vc_sound hΓ mixed _ _ _ ?_
    simp only [runA, runB, runC, runD, runE, runF, fieldE, storeE, binE, ↓reduceIte, Nat.reduceLT, Nat.reduceLeDiff, Nat.reduceEqDiff, Nat.reduceAdd, Nat.reduceMul, Nat.reduceSub, reduceCtorEq, putAt, unE, Nat.reduceBEq, convE, buildE, List.replicate, Int.reduceLT, Int.reduceLE, Int.reduceToNat, mkE, mapSetE, hN', hF', ty_3, ty_9, ty_72, notIf, isEq]
  case hB =>
    intro i hi E' hE hns'
    have hN' : E'.N.n = _ := (congrArg Lim.n hE).trans hN
    have hF' : E'.N.adv = _ := (congrArg Lim.adv hE).trans hF
    refine vc_sound hΓ mixed _ _ _ ?_
    rw [if_pos hi]
    by_cases h1 : (upN l i).length = 1
    · have hik : i = k := by
        rcases Nat.lt_or_ge i k with h | h
        · have := hk1 i h; omega
        · omega
      subst hik
      have g1 : (((upN l i).length : Int) == 1) = true := by simp [h1]
      have hr := hroot i (Nat.le_refl _)
      rw [rootS_le (by omega)] at hr
      obtain ⟨x, hx⟩ := List.length_eq_one_iff.1 h1
      rw [hx] at hr g1 ⊢
      have hr : x = rootS l := hr
      have hi1 : ¬ (i + 1 ≤ i) := by omega
      have g2 : (((1 : Nat) : Int) == 1) = true := rfl
      rw [if_neg hi1, ← hr]
      simp only [runA, runB, runC, runD, runE, runF, fieldE, storeE, binE, ↓reduceIte, Nat.reduceLT, Nat.reduceLeDiff, Nat.reduceEqDiff, Nat.reduceAdd, Nat.reduceMul, Nat.reduceSub, reduceCtorEq, putAt, unE, Nat.reduceBEq, convE, buildE, List.replicate, Int.reduceLT, Int.reduceLE, Int.reduceToNat, mkE, mapSetE, hN', hF', ty_3, ty_9, ty_72, notIf, isEq, g2, texts]
      simp only [runB, finC, finD, AS.get, AS.mem, false_implies, implies_true, ↓reduceIte, Nat.reduceEqDiff, Option.isSome_some, Option.isSome_none, forall_eq_or_imp, forall_eq, reduceCtorEq, Nat.reduceAdd, Nat.reduceMul, List.zip_cons_cons, List.zip_nil_left, List.zip_nil_right, List.forall_mem_nil]
      first | done | simp
    · have g1 : (((upN l i).length : Int) == 1) = false := by simp; omega
      have hif : (if i + 1 ≤ k then ([] : List UInt8) else rootS l) = [] := by
        split
        · rfl
        · obtain rfl : i = k := by omega
          have hr := hroot i (Nat.le_refl _)
          rw [rootS_le (by omega)] at hr
          have : upN l i = [] := List.eq_nil_of_length_eq_zero (by omega)
          rw [this] at hr
          exact hr.symm
      rw [hif]
      simp only [runA, runB, runC, runD, runE, runF, fieldE, storeE, binE, ↓reduceIte, Nat.reduceLT, Nat.reduceLeDiff, Nat.reduceEqDiff, Nat.reduceAdd, Nat.reduceMul, Nat.reduceSub, reduceCtorEq, putAt, unE, Nat.reduceBEq, convE, buildE, List.replicate, Int.reduceLT, Int.reduceLE, Int.reduceToNat, mkE, mapSetE, hN', hF', ty_3, ty_9, ty_72, notIf, isEq, g1, texts_length]
      simp only [runB, finC, finD, AS.get, AS.mem, false_implies, implies_true, ↓reduceIte, Nat.reduceEqDiff, Option.isSome_some, Option.isSome_none, forall_eq_or_imp, forall_eq, reduceCtorEq, Nat.reduceAdd, Nat.reduceMul, List.zip_cons_cons, List.zip_nil_left, List.zip_nil_right, List.forall_mem_nil]
      first | done | simp
  case hQ =>
    rw [if_neg (by omega), thenM_normal]
    refine AWPm.of fun E' hE hns' => vc_sound hΓ mixed _ _ _ ?_
    have hN' : E'.N.n = _ := (congrArg Lim.n hE).trans hN
    have hF' : E'.N.adv = _ := (congrArg Lim.adv hE).trans hF
    simp only [runA, runB, runC, runD, runE, runF, fieldE, storeE, binE, ↓reduceIte, Nat.reduceLT, Nat.reduceLeDiff, Nat.reduceEqDiff, Nat.reduceAdd, Nat.reduceMul, Nat.reduceSub, reduceCtorEq, putAt, unE, Nat.reduceBEq, convE, buildE, List.replicate, Int.reduceLT, Int.reduceLE, Int.reduceToNat, mkE, mapSetE, hN', hF', ty_3, ty_9, ty_72, notIf, isEq]
    simp only [runB, finC, finD, Option.isSome_some, Option.isSome_none, ↓reduceIte, Nat.reduceEqDiff, Nat.reduceAdd, Nat.reduceMul, forall_eq_or_imp, forall_eq, implies_true, Nat.reduceBEq, reduceCtorEq, false_implies, List.zip_cons_cons, List.zip_nil_left, List.zip_nil_right, Nat.reduceLeDiff, List.forall_mem_nil, rs_68]


variable {Γ : FuncId → Contract}

noncomputable def outN (l : List (List UInt8)) (A : Nat) : Nat → List (List UInt8)
  | 0 => []
  | i + 1 => outN l A i ++ [(upN l i).getD (nb (A / 2 ^ i)) []]
theorem outN_length (l : List (List UInt8)) (A : Nat) : ∀ i, (outN l A i).length = i
  | 0 => rfl
  | i + 1 => by rw [outN, List.length_append, outN_length l A i]; rfl
theorem path_upN {l : List (List UInt8)} {A k : Nat} (hA : A < l.length) (hp : powN l.length = true) (h : ∀ i, i < k → 1 < (upN l i).length) : ∀ i, i ≤ k →
    pathP l A = outN l A i ++ pathP (upN l i) (A / 2 ^ i) ∧ A / 2 ^ i < (upN l i).length ∧ powN (upN l i).length = true ∧ (upN l i).length + i ≤ l.length
  | 0, _ => ⟨by simp [outN, upN], by simpa [upN] using hA, hp, by simp [upN]⟩
  | i + 1, hi => by
    obtain ⟨h1, h2, h3, h4⟩ := path_upN hA hp h i (by omega)
    have hg := h i (by omega)
    obtain ⟨p1, p2⟩ := powN_half h3 hg
    have hl := upS_length (upN l i)
    have e : A / 2 ^ (i + 1) = A / 2 ^ i / 2 := by rw [Nat.pow_succ, ← Nat.div_div_eq_div_mul]
    rw [pathP_gt (l := upN l i) (by omega)] at h1
    refine ⟨?_, ?_, ?_, ?_⟩
    · rw [h1, outN, e]
      show _ = _ ++ pathP (upS (upN l i)) _
      simp
    · rw [e]; show _ < (upS (upN l i)).length; omega
    · show powN (upS (upN l i)).length = true
      rw [show (upS (upN l i)).length = (upN l i).length / 2 from by omega]; exact p2
    · show (upS (upN l i)).length + (i + 1) ≤ l.length
      omega

/-- A round's memory. -/
noncomputable def memP (l : List (List UInt8)) (A k i : Nat) : List (Nat × MC) :=
  [(192, .obj [.c (.int .i64 ((A / 2 ^ min i k : Nat) : Int))] false), (448, .obj [.own 449 1 (texts (outN l A (min i k)))] false), (449, .row 1 (min i k))]

theorem and_pred (n : Nat) (h : 1 ≤ n) (h2 : n < 9223372036854775808) : ((IntKind.i64.wrap (((BitVec.ofInt IntKind.i64.bits (n : Int) &&& BitVec.ofInt IntKind.i64.bits (((n - 1 : Nat) : Int))).toNat : Nat) : Int)) != 0) = !(powN n) := by
  have e : (BitVec.ofInt 64 (n : Int) &&& BitVec.ofInt 64 ((n - 1 : Nat) : Int)).toNat = n &&& (n - 1) := by
    rw [ofNat64, ofNat64, BitVec.toNat_and, BitVec.toNat_ofNat, BitVec.toNat_ofNat, Nat.mod_eq_of_lt (by omega), Nat.mod_eq_of_lt (by omega)]
  have hle : n &&& (n - 1) ≤ n := Nat.and_le_left
  show (IntKind.i64.wrap (((BitVec.ofInt 64 (n : Int) &&& BitVec.ofInt 64 ((n - 1 : Nat) : Int)).toNat : Nat) : Int) != 0) = _
  rw [e, wrapI (by omega)]
  have := land_pred n n (Nat.le_refl _) h
  unfold powN
  cases hp : powB n n
  · have : ¬ (n &&& (n - 1) = 0) := fun h0 => by rw [this.1 h0] at hp; cases hp
    simp only [Bool.not_false, bne_iff_ne, ne_eq]; omega
  · have := this.2 hp
    rw [this]; rfl

set_option maxRecDepth 100000 in
set_option maxHeartbeats 2000000 in
theorem path_sound (hΓ : SoundG Try.prog Γ) (h2 : Γ 101 = upC) (hS : SoundC Try.prog 101 upC) : SoundC Try.prog 64 pathC := by
  refine sound_fnM ⟨[], []⟩ Try.func64 (by kernel_rfl) rfl rfl ?_ ?_
  · rw [rs_64]; intro r hr; simp at hr; rcases hr with rfl | rfl <;> exact ⟨_, rfl⟩
  intro args objs r hr
  obtain ⟨⟨l, a⟩, hl, rfl, rfl, rfl⟩ := mkC_inv hr
  have hl : Okl l := hl
  have hl1 : l.length ≤ 1099511627 := hl.1
  refine ⟨rfl, by show 2 ≤ _; decide, fun E hro hN hns hF => ?_⟩
  have hN := hN.trans nt_64
  dsimp only
  refine AWPm.seq (AWPm.of fun E' hE hns' => vc_sound hΓ mixed _ _ _ ?_)
  have hN' : E'.N.n = _ := (congrArg Lim.n hE).trans hN
  have hF' : E'.N.adv = _ := (congrArg Lim.adv hE).trans hF
  simp only [runA, runB, runC, runD, runE, runF, fieldE, storeE, binE, ↓reduceIte, Nat.reduceLT, Nat.reduceLeDiff, Nat.reduceEqDiff, Nat.reduceAdd, Nat.reduceMul, Nat.reduceSub, reduceCtorEq, putAt, unE, Nat.reduceBEq, convE, buildE, List.replicate, Int.reduceLT, Int.reduceLE, Int.reduceToNat, mkE, mapSetE, hN', hF', ty_3, ty_9, ty_42, ty_72, notIf, isEq, thenM_normal]
  refine AWPm.seq (AWPm.of fun E' hE hns' => vc_sound hΓ mixed _ _ _ ?_)
  have hN' : E'.N.n = _ := (congrArg Lim.n hE).trans hN
  have hF' : E'.N.adv = _ := (congrArg Lim.adv hE).trans hF
  simp only [runA, runB, runC, runD, runE, runF, fieldE, storeE, binE, ↓reduceIte, Nat.reduceLT, Nat.reduceLeDiff, Nat.reduceEqDiff, Nat.reduceAdd, Nat.reduceMul, Nat.reduceSub, reduceCtorEq, putAt, unE, Nat.reduceBEq, convE, buildE, List.replicate, Int.reduceLT, Int.reduceLE, Int.reduceToNat, mkE, mapSetE, hN', hF', ty_3, ty_9, ty_42, ty_72, notIf, isEq, thenM_normal, texts_length]
  refine AWPm.seq (AWPm.of fun E' hE hns' => vc_sound hΓ mixed _ _ _ ?_)
  have hN' : E'.N.n = _ := (congrArg Lim.n hE).trans hN
  have hF' : E'.N.adv = _ := (congrArg Lim.adv hE).trans hF
  by_cases hneg : a < 0
  · have hS : pathS l a = ([], 4) := by unfold pathS; rw [if_pos (.inl hneg)]
    have g1 : decide (a < 0) = true := by simpa using hneg
    simp only [runA, runB, runC, runD, runE, runF, fieldE, storeE, binE, ↓reduceIte, Nat.reduceLT, Nat.reduceLeDiff, Nat.reduceEqDiff, Nat.reduceAdd, Nat.reduceMul, Nat.reduceSub, reduceCtorEq, putAt, unE, Nat.reduceBEq, convE, buildE, List.replicate, Int.reduceLT, Int.reduceLE, Int.reduceToNat, mkE, mapSetE, hN', hF', ty_3, ty_9, ty_42, ty_72, notIf, isEq, g1, thenM_ret]
    simp only [runB, finC, finD, Option.isSome_some, Option.isSome_none, ↓reduceIte, Nat.reduceEqDiff, Nat.reduceAdd, Nat.reduceMul, forall_eq_or_imp, forall_eq, implies_true, Nat.reduceBEq, reduceCtorEq, false_implies, List.zip_cons_cons, List.zip_nil_left, List.zip_nil_right, Nat.reduceLeDiff, List.forall_mem_nil, rs_64, hS, texts, List.map_nil]
  have g1 : decide (a < 0) = false := by simpa using hneg
  by_cases hge : (l.length : Int) ≤ a
  · have hS : pathS l a = ([], 4) := by unfold pathS; rw [if_pos (.inr hge)]
    have g2 : decide (a ≥ (l.length : Int)) = true := by simpa using hge
    simp only [runA, runB, runC, runD, runE, runF, fieldE, storeE, binE, ↓reduceIte, Nat.reduceLT, Nat.reduceLeDiff, Nat.reduceEqDiff, Nat.reduceAdd, Nat.reduceMul, Nat.reduceSub, reduceCtorEq, putAt, unE, Nat.reduceBEq, convE, buildE, List.replicate, Int.reduceLT, Int.reduceLE, Int.reduceToNat, mkE, mapSetE, hN', hF', ty_3, ty_9, ty_42, ty_72, notIf, isEq, g1, g2, thenM_ret]
    simp only [runB, finC, finD, Option.isSome_some, Option.isSome_none, ↓reduceIte, Nat.reduceEqDiff, Nat.reduceAdd, Nat.reduceMul, forall_eq_or_imp, forall_eq, implies_true, Nat.reduceBEq, reduceCtorEq, false_implies, List.zip_cons_cons, List.zip_nil_left, List.zip_nil_right, Nat.reduceLeDiff, List.forall_mem_nil, rs_64, hS, texts, List.map_nil]
  have g2 : decide (a ≥ (l.length : Int)) = false := by simpa using hge
  obtain ⟨A, rfl⟩ : ∃ A : Nat, a = (A : Int) := ⟨a.toNat, by omega⟩
  have hAl : A < l.length := by omega
  have e1 : IntKind.i64.wrap ((l.length : Int) - 1) = ((l.length - 1 : Nat) : Int) := by rw [wrapI (by omega)]; omega
  have g3 := and_pred l.length (by omega) (by omega)
  cases hpow : powN l.length
  · have hS : pathS l (A : Int) = ([], 3) := by unfold pathS; rw [if_neg (by omega), if_neg (by rw [hpow]; decide)]
    rw [hpow] at g3
    simp only [runA, runB, runC, runD, runE, runF, fieldE, storeE, binE, ↓reduceIte, Nat.reduceLT, Nat.reduceLeDiff, Nat.reduceEqDiff, Nat.reduceAdd, Nat.reduceMul, Nat.reduceSub, reduceCtorEq, putAt, unE, Nat.reduceBEq, convE, buildE, List.replicate, Int.reduceLT, Int.reduceLE, Int.reduceToNat, mkE, mapSetE, hN', hF', ty_3, ty_9, ty_42, ty_72, notIf, isEq, g1, g2, e1, g3, thenM_ret]
    simp only [runB, finC, finD, Option.isSome_some, Option.isSome_none, ↓reduceIte, Nat.reduceEqDiff, Nat.reduceAdd, Nat.reduceMul, forall_eq_or_imp, forall_eq, implies_true, Nat.reduceBEq, reduceCtorEq, false_implies, List.zip_cons_cons, List.zip_nil_left, List.zip_nil_right, Nat.reduceLeDiff, List.forall_mem_nil, rs_64, hS, texts, List.map_nil]
  have hPS : pathS l (A : Int) = (pathP l A, 0) := by unfold pathS; rw [if_neg (by omega), if_pos hpow]; rfl
  rw [hpow] at g3
  simp only [runA, runB, runC, runD, runE, runF, fieldE, storeE, binE, ↓reduceIte, Nat.reduceLT, Nat.reduceLeDiff, Nat.reduceEqDiff, Nat.reduceAdd, Nat.reduceMul, Nat.reduceSub, reduceCtorEq, putAt, unE, Nat.reduceBEq, convE, buildE, List.replicate, Int.reduceLT, Int.reduceLE, Int.reduceToNat, mkE, mapSetE, hN', hF', ty_3, ty_9, ty_42, ty_72, notIf, isEq, g1, g2, e1, g3, thenM_normal]
  refine AWPm.seq (AWPm.of fun E' hE hns' => vc_sound hΓ mixed _ _ _ ?_)
  have hN' : E'.N.n = _ := (congrArg Lim.n hE).trans hN
  have hF' : E'.N.adv = _ := (congrArg Lim.adv hE).trans hF
  simp only [runA, runB, runC, runD, runE, runF, fieldE, storeE, binE, ↓reduceIte, Nat.reduceLT, Nat.reduceLeDiff, Nat.reduceEqDiff, Nat.reduceAdd, Nat.reduceMul, Nat.reduceSub, reduceCtorEq, putAt, unE, Nat.reduceBEq, convE, buildE, List.replicate, Int.reduceLT, Int.reduceLE, Int.reduceToNat, mkE, mapSetE, hN', hF', ty_3, ty_9, ty_42, ty_72, notIf, isEq, thenM_normal]
  obtain ⟨k, hk1, hk2⟩ := depth l.length l (Nat.le_refl _)
  have hpath := path_upN hAl hpow hk1
  refine AWPm.weak (s2 := ⟨[(3, .ptr 192 0), (7, .ptr 448 0), (0, .c (.sl (texts l)))], memP l A k 0⟩) ?wk ?_
  case wk =>
    rw [hns]
    have e0 : min 0 k = 0 := by omega
    have e2 : A / 2 ^ 0 = A := by simp
    simp only [memP, e0, e2, outN, texts, List.map_nil]
    simp only [runB, finC, finD, AS.get, AS.mem, false_implies, implies_true, ↓reduceIte, Nat.reduceEqDiff, Option.isSome_some, Option.isSome_none, forall_eq_or_imp, forall_eq, reduceCtorEq, Nat.reduceAdd, Nat.reduceMul, List.zip_cons_cons, List.zip_nil_left, List.zip_nil_right, List.forall_mem_nil]
    first | done | simp
  refine AWPm.seq (AWPm.rows hS hro (l := l) rfl rfl rfl rfl rfl rfl rfl rfl rfl (by rw [hN]; decide) (by rw [hN]; decide) (by rw [hN]; decide) rfl k 1664 (upN l) rfl (fun _ => rfl) (upN_ok hl) hk1 hk2 rfl
    (memP l A k) rfl
    (fun i => ⟨[(8, .c (.sl (texts (upN l i)))), (27, .c (.sl (texts (upN l i)))), (26, .undef), (25, .undef), (3, .ptr 192 0), (7, .ptr 448 0), (0, .c (.sl (texts l)))], (1664, .obj [.c (.sl (texts (upN l i)))] false) :: memP l A k i⟩) ?hA ?hB ?hQ)
  case hA =>
    intro i hi E' hE hns'
    have hN' : E'.N.n = _ := (congrArg Lim.n hE).trans hN
    have hF' : E'.N.adv = _ := (congrArg Lim.adv hE).trans hF
    refine vc_sound hΓ mixed _ _ _ ?_
    simp only [runA, runB, runC, runD, runE, runF, fieldE, storeE, binE, ↓reduceIte, Nat.reduceLT, Nat.reduceLeDiff, Nat.reduceEqDiff, Nat.reduceAdd, Nat.reduceMul, Nat.reduceSub, reduceCtorEq, putAt, unE, Nat.reduceBEq, convE, buildE, List.replicate, Int.reduceLT, Int.reduceLE, Int.reduceToNat, mkE, mapSetE, hN', hF', ty_3, ty_9, ty_42, ty_72, notIf, isEq]
  case hB =>
    intro i hi E' hE hns'
    have hN' : E'.N.n = _ := (congrArg Lim.n hE).trans hN
    have hF' : E'.N.adv = _ := (congrArg Lim.adv hE).trans hF
    refine vc_sound hΓ mixed _ _ _ ?_
    have hi2 : min i k = i := by omega
    obtain ⟨q1, q2, q3, q4⟩ := hpath i hi
    by_cases hik : i < k
    · have hi3 : min (i + 1) k = i + 1 := by omega
      have hg := hk1 i hik
      obtain ⟨B, hB⟩ : ∃ B, A / 2 ^ i = B := ⟨_, rfl⟩
      have hB2 : A / 2 ^ (i + 1) = B / 2 := by rw [← hB, Nat.pow_succ, ← Nat.div_div_eq_div_mul]
      have hout : outN l A (i + 1) = outN l A i ++ [(upN l i).getD (nb B) []] := by rw [outN, hB]
      have hol := outN_length l A i
      obtain ⟨p1, p2⟩ := powN_half q3 hg
      rw [hB] at q2
      have hnb : nb B < (upN l i).length := by unfold nb; split <;> omega
      obtain ⟨s, hs⟩ : ∃ s, (upN l i)[nb B]? = some s := ⟨(upN l i)[nb B], by simp [hnb]⟩
      rw [show (upN l i).getD (nb B) [] = s from by simp [List.getD, hs]] at hout
      have hsr : (texts (upN l i))[nb B]? = some [PC.str s] := by simp [texts, hs]
      simp only [memP, hi2, hi3, hB, hB2]
      generalize upN l i = m at hg q1 q2 q3 q4 p1 p2 hnb hs hsr ⊢
      have g4 : decide ((m.length : Int) > 1) = true := by simp; omega
      have e4 := xor_one B (by omega)
      rw [show (if B % 2 = 1 then B - 1 else B + 1 : Nat) = nb B from rfl] at e4
      have e5 := shr_one B
      have hb : (1 : Int) < 0 ↔ False := by decide
      have hz := rowsOK_texts
      have hL : (i + 1) * 16 ≤ 140737488355328 := by omega
      simp only [runA, runB, runC, runD, runE, runF, fieldE, storeE, binE, ↓reduceIte, Nat.reduceLT, Nat.reduceLeDiff, Nat.reduceEqDiff, Nat.reduceAdd, Nat.reduceMul, Nat.reduceSub, reduceCtorEq, putAt, unE, Nat.reduceBEq, convE, buildE, List.replicate, Int.reduceLT, Int.reduceLE, Int.reduceToNat, mkE, mapSetE, hN', hF', ty_3, ty_9, ty_42, ty_72, notIf, isEq, g4, e4, hsr, hz, hL, hol, texts1, texts_app, ← hout, texts_length, shOp, hb, e5]
      refine drawnP_intro (by kernel_rfl) (by kernel_rfl) ?_
      simp only [runA, runB, runC, runD, runE, runF, fieldE, storeE, binE, ↓reduceIte, Nat.reduceLT, Nat.reduceLeDiff, Nat.reduceEqDiff, Nat.reduceAdd, Nat.reduceMul, Nat.reduceSub, reduceCtorEq, putAt, unE, Nat.reduceBEq, convE, buildE, List.replicate, Int.reduceLT, Int.reduceLE, Int.reduceToNat, mkE, mapSetE, hN', hF', ty_3, ty_9, ty_42, ty_72, notIf, isEq, shOp, hb, e5]
      simp only [runB, finC, finD, AS.get, AS.mem, false_implies, implies_true, ↓reduceIte, Nat.reduceEqDiff, Option.isSome_some, Option.isSome_none, forall_eq_or_imp, forall_eq, reduceCtorEq, Nat.reduceAdd, Nat.reduceMul, List.zip_cons_cons, List.zip_nil_left, List.zip_nil_right, List.forall_mem_nil]
      first | done | simp
    · obtain rfl : i = k := by omega
      have hi3 : min (i + 1) i = i := by omega
      simp only [memP, hi2, hi3]
      have g4 : decide (((upN l i).length : Int) > 1) = false := by simp; omega
      simp only [runA, runB, runC, runD, runE, runF, fieldE, storeE, binE, ↓reduceIte, Nat.reduceLT, Nat.reduceLeDiff, Nat.reduceEqDiff, Nat.reduceAdd, Nat.reduceMul, Nat.reduceSub, reduceCtorEq, putAt, unE, Nat.reduceBEq, convE, buildE, List.replicate, Int.reduceLT, Int.reduceLE, Int.reduceToNat, mkE, mapSetE, hN', hF', ty_3, ty_9, ty_42, ty_72, notIf, isEq, g4, texts_length]
      simp only [runB, finC, finD, AS.get, AS.mem, false_implies, implies_true, ↓reduceIte, Nat.reduceEqDiff, Option.isSome_some, Option.isSome_none, forall_eq_or_imp, forall_eq, reduceCtorEq, Nat.reduceAdd, Nat.reduceMul, List.zip_cons_cons, List.zip_nil_left, List.zip_nil_right, List.forall_mem_nil]
      first | done | simp
  case hQ =>
    obtain ⟨q1, q2, q3, q4⟩ := hpath k (Nat.le_refl _)
    rw [pathP_le (l := upN l k) hk2, List.append_nil] at q1
    have hi3 : min (k + 1) k = k := by omega
    rw [thenM_normal]
    refine AWPm.of fun E' hE hns' => vc_sound hΓ mixed _ _ _ ?_
    have hN' : E'.N.n = _ := (congrArg Lim.n hE).trans hN
    have hF' : E'.N.adv = _ := (congrArg Lim.adv hE).trans hF
    simp only [memP, hi3, ← q1]
    simp only [runA, runB, runC, runD, runE, runF, fieldE, storeE, binE, ↓reduceIte, Nat.reduceLT, Nat.reduceLeDiff, Nat.reduceEqDiff, Nat.reduceAdd, Nat.reduceMul, Nat.reduceSub, reduceCtorEq, putAt, unE, Nat.reduceBEq, convE, buildE, List.replicate, Int.reduceLT, Int.reduceLE, Int.reduceToNat, mkE, mapSetE, hN', hF', ty_3, ty_9, ty_42, ty_72, notIf, isEq]
    simp only [runB, finC, finD, Option.isSome_some, Option.isSome_none, ↓reduceIte, Nat.reduceEqDiff, Nat.reduceAdd, Nat.reduceMul, forall_eq_or_imp, forall_eq, implies_true, Nat.reduceBEq, reduceCtorEq, false_implies, List.zip_cons_cons, List.zip_nil_left, List.zip_nil_right, Nat.reduceLeDiff, List.forall_mem_nil, rs_64, hPS]

end Go.Proofs.Ytcfijanfcgnnhaa.AM
