/-
  QJ: Ro5 Ro6 Wl7.
-/
import Derived.Test.YtofkehedjcinhaaQI
import Derived.RangeFuncBound
import Derived.Test.YtofkehedjcinhaaQH
set_option linter.unusedVariables false
set_option linter.unusedSimpArgs false
namespace Go.Proofs.Ytofkehedjcinhaa.AM
open Go Go.RowKit

variable {Γ : FuncId → Contract} {E : Env}

def prL (r i : Nat) : Nat × Nat := (belowP r r).getD i (0, 0)
theorem pfx_facts : ∀ r : Fin 6, ∀ k : Fin 5, ∀ d : Fin 5, k.val < r.val → d.val < r.val - k.val → (pfx r k d).length < (belowP r r).length ∧ prL r (pfx r k d).length = (k.val + 1, k.val + 1 + d.val) ∧ pfx r k (d + 1) = (belowP r r).take ((pfx r k d).length + 1) ∧ (pfx r k (d + 1)).length = (pfx r k d).length + 1 := by decide

/-- What the box holds. -/
theorem Btw.ibox {G0 G : Gh} {l D : Nat} {rec : LoopState → Loop} {m : List (Nat × MC)} {W : World} (J : Btw E G0 l D rec G m W) {n Bx : Nat} {v : Int} (hm : look m n = some (.obj [.c (.int .i64 v)] false)) (hg : G0.h n = some (.obj Bx)) :
    W.cell? ⟨Bx, 0, none⟩ = some (.int .i64 v) := by
  obtain ⟨h', e, l⟩ := J.le.h n _ hg
  cases l
  have hh := J.mem.home n
  rw [hm, e] at hh
  obtain ⟨vs, ty, a1, a2, a3, _⟩ := hh
  obtain ⟨ls⟩ := vs
  cases ls with
  | nil => simp at a2
  | cons u tl =>
    cases tl with
    | cons y tl => simp at a2
    | nil =>
      have hv := a3 0 _ u rfl rfl
      cases hv with
      | c _ _ hv =>
        cases hv
        simp [World.cell?, a1]

theorem AWPm.pairs (hro : E.ro = none) {s : AS} {id bid : Nat} {ops : Array Oper} {o1 o2 : Oper} {c : Call} {t0 u g p1 p2 : Tmp} {ty : TypeId} {assign body : Code} {Q : Bool → Exit → AS → Prop} (r : Nat) (hr5 : r ≤ 5)
    (hops : ops = #[o1, o2]) (h1 : o1.op = .load ty (.tmp t0)) (d1 : o1.dst = some u) (g1 : o1.guard = none) (h2 : o2.op = .call c) (hc : c.callee = .value (.func 16)) (hca : c.args = #[.tmp u]) (d2 : o2.dst = some g) (g2 : o2.guard = none)
    (hu : u < E.N.n) (hg : g < E.N.n) (hp1 : p1 < E.N.n) (hp2 : p2 < E.N.n) {lg : List Nat} (hget : (loadE Try.prog ty (s.get t0)).run s.mem = some (.c (.int .i64 (r : Int)), lg)) (nbx : Nat)
    (hn : look s.m nbx = none) (S : Nat → List (Nat × MC)) (hS0 : S 0 = s.m) (s1 : Nat → AS)
    (hA : ∀ i, i < (belowP r r).length → ∀ E' : Env, E'.N = E.N → E'.ns = keys ((nbx, .obj [.c (.int .i64 (r : Int))] false) :: S i) →
      AWP Try.prog E' assign (fun e s' => e = .normal ∧ s' = s1 i) ⟨(p2, .c (.int .i64 ((prL r i).2 : Int))) :: (p1, .c (.int .i64 ((prL r i).1 : Int))) :: (g, .undef) :: (u, .undef) :: s.t, (nbx, .obj [.c (.int .i64 (r : Int))] false) :: S i⟩)
    (hB : ∀ i, i < (belowP r r).length → ∀ E' : Env, E'.N = E.N → E'.ns = keys (s1 i).m → AWP Try.prog E' body (fun e s' => e = .normal ∧ Weak (keys (s1 i).m) s' ⟨[], (nbx, .obj [.c (.int .i64 (r : Int))] false) :: S (i + 1)⟩) (s1 i))
    (hQ : Q true .normal ⟨(g, .undef) :: (u, .undef) :: s.t, (nbx, .obj [.c (.int .i64 (r : Int))] false) :: S (belowP r r).length⟩) :
    AWPm Try.prog E false (.seq (.region id ops false) (.block bid (.rangeFunc (.tmp g) #[p1, p2] assign body))) Q s := by
  rintro G a w ⟨R, hd⟩
  have hd' : a.defers = [] := hd
  have hsz : a.tmps.size = E.N.n := R.size
  obtain ⟨v, he1, hv⟩ := load_at (P := Try.prog) R.mem (R.tmps t0) h1 hget
  have hv : v = .int .i64 (r : Int) := by
    cases hv with
    | c _ _ hv => cases hv; rfl
  subst hv
  have hrows : EnterOK Try.prog 16 := ⟨_, Try.func16, rfl, rfl⟩
  have hrows1 : EnterOK Try.prog 26 := ⟨_, Try.func26, rfl, rfl⟩
  refine wpIn_seq (region_made hops he1 (fun c hc => by rw [h1] at hc; cases hc) d1 g1 h2 hc hca d2 g2 hrows (by rw [hsz]; exact hu) (pairs_calls (r : Int) w) ?_)
  have M := R.mem.conv (E' := E) rfl rfl rfl rfl
  obtain ⟨n1, n2, n3⟩ := M.newObj (n := nbx) hn (cells := [.c (.int .i64 (r : Int))]) (vs := #[.int .i64 (r : Int)]) (ty := 3) rfl (fun i x u e1 e2 => by
    cases i with
    | zero => simp at e1 e2; subst e1; subst e2; exact .c _ _ (.int _ _)
    | succ i => simp at e1)
  generalize hG2 : G.put nbx (.obj w.heap.size) = G2 at n1 n2 n3
  obtain ⟨Bx, hBx⟩ : ∃ Bx, w.heap.size = Bx := ⟨_, rfl⟩
  have M2 : MRel E G2 (look ((nbx, .obj [.c (.int .i64 (r : Int))] false) :: S 0)) (w.alloc (.cells #[.int .i64 (r : Int)] 3)) := by
    rw [hS0]
    exact n3
  obtain ⟨a2, ha2⟩ : ∃ a2 : Act, a2 = { a with tmps := (a.tmps.setIfInBounds u (.int .i64 (r : Int))).setIfInBounds g (.func (.func 26) #[] #[.pointer (some ⟨w.heap.size, 0, none⟩)]) } := ⟨_, rfl⟩
  have R2 : RelM E false G2 ⟨(g, .undef) :: (u, .undef) :: s.t, (nbx, .obj [.c (.int .i64 (r : Int))] false) :: S 0⟩ a2 (w.alloc (.cells #[.int .i64 (r : Int)] 3)) := by
    refine ⟨⟨by rw [ha2]; simpa using hsz, rfl, fun i => ?_, M2.conv rfl rfl rfl rfl, fun n hn' => ?_⟩, by rw [ha2]; exact hd⟩
    · by_cases e1 : g = i
      · have : (AS.mk ((g, AV.undef) :: (u, .undef) :: s.t) ((nbx, .obj [.c (.int .i64 (r : Int))] false) :: S 0)).get i = .undef := by simp [AS.get, look, e1]
        rw [this]; exact .undef _
      · by_cases e2 : u = i
        · have : (AS.mk ((g, AV.undef) :: (u, .undef) :: s.t) ((nbx, .obj [.c (.int .i64 (r : Int))] false) :: S 0)).get i = .undef := by simp [AS.get, look, e1, e2]
          rw [this]; exact .undef _
        · have h3 : (AS.mk ((g, AV.undef) :: (u, .undef) :: s.t) ((nbx, .obj [.c (.int .i64 (r : Int))] false) :: S 0)).get i = s.get i := by simp [AS.get, look, e1, e2]
          have h4 : a2.tmps.getD i Go.undef = a.tmps.getD i Go.undef := by rw [ha2]; simp [Array.getElem?_setIfInBounds_ne e1, Array.getElem?_setIfInBounds_ne e2]
          rw [h3, h4]
          exact (R.tmps i).mono n1
    · obtain ⟨x, x', e1, e2, l⟩ := R.ent n hn'
      obtain ⟨y, e3, l2⟩ := n1.h n x' e2
      exact ⟨x, y, e1, e3, Home.le_trans l l2⟩
  have hge : a2.eval (.tmp g) = .func (.func 26) #[] #[.pointer (some ⟨Bx, 0, none⟩)] := by
    have hg' : g < a.tmps.size := by rw [hsz]; exact hg
    rw [ha2, hBx]; simp [Act.eval, hg']
  rw [← ha2]
  change Code.wpIn (rF E.ro) 0 _ (Code.block bid _) _ a2 _
  have hgB : G2.h nbx = some (.obj Bx) := by rw [← hBx]; exact n2
  refine wpIn_block (wpIn_mono (AWPm.range (Q := inBlockM bid Q) hro R2 hge hrows1 (fun q hq => by simp at hq; rcases hq with rfl | rfl; exact hp1; exact hp2) (belowP r r).length (fun i => [.c (.int .i64 ((prL r i).1 : Int)), .c (.int .i64 ((prL r i).2 : Int))])
    (fun i => (nbx, .obj [.c (.int .i64 (r : Int))] false) :: S i) (fun i => (nbx, .obj [.c (.int .i64 (r : Int))] false) :: S (i + 1)) ((nbx, .obj [.c (.int .i64 (r : Int))] false) :: S (belowP r r).length) (fun _ _ => rfl) s1
    (fun _ => rfl) hA hB ?it hQ) ?out)
  case out =>
    rintro e a' w' ⟨b', G', s', h2, h3⟩
    cases e with
    | exit id' =>
      simp only [inBlockM] at h2
      simp only [Exit.inBlock]
      by_cases e : id' = bid
      · rw [if_pos e] at h2 ⊢; exact ⟨b', G', s', h2, h3⟩
      · rw [if_neg e] at h2 ⊢; exact ⟨b', G', s', h2, h3⟩
    | _ => exact ⟨b', G', s', h2, h3⟩
  case it =>
    intro l' D rec W G3 hl' hD J hY
    refine (pairs_it l' Bx r hr5 (fun pre W => ∃ G, Btw E G2 l' D rec G ((nbx, .obj [.c (.int .i64 (r : Int))] false) :: S pre.length) W) ?hb ?hy W ⟨G3, J⟩).mono (fun e W' h => h)
    case hb =>
      rintro pre W ⟨G, J⟩
      exact J.ibox (n := nbx) (by simp [look]) hgB
    case hy =>
      rintro k d W hk hd ⟨G, J⟩
      obtain ⟨f1, f2, f3, f4⟩ := pfx_facts ⟨r, by omega⟩ ⟨k, by omega⟩ ⟨d, by omega⟩ hk hd
      dsimp only at f1 f2 f3 f4
      have := hY (pfx r k d).length W G [.int .i64 ((k + 1 : Nat) : Int), .int .i64 ((k + 1 + d : Nat) : Int)] f1 J rfl (fun j x y e1 e2 => by
        rw [f2] at e1
        match j, e1, e2 with
        | 0, e1, e2 => simp only [List.getElem?_cons_zero, Option.some.injEq] at e1 e2; subst e1; subst e2; exact .c _ _ (.int _ _)
        | 1, e1, e2 => simp only [List.getElem?_cons_succ, List.getElem?_cons_zero, Option.some.injEq] at e1 e2; subst e1; subst e2; exact .c _ _ (.int _ _)
        | j + 2, e1, e2 => simp at e1)
      refine YieldAt.mono this fun e W' ⟨h1, G', _, h2⟩ => ⟨h1, G', ?_⟩
      rw [f4]; exact h2


variable {Γ : FuncId → Contract}

def setP (s : Setp) : List PC := [.int .i64 s.r, .int .i64 s.q, .int .i64 s.c, .sl (ruls s.l)]
def sets (l : List Setp) : List (List PC) := l.map setP
theorem sets_length (l : List Setp) : (sets l).length = l.length := by simp [sets]
theorem sets_app (a b : List Setp) : sets a ++ sets b = sets (a ++ b) := by simp [sets]
theorem rowsOK_sets (l : List Setp) : rowsOK 4 (sets l) := by
  intro r hr
  simp only [sets, List.mem_map] at hr
  obtain ⟨b, _, rfl⟩ := hr
  rfl
def setOf (r : Nat) (p : Nat × Nat) : Setp := ⟨(r : Int), (p.1 : Int), 0, [(1, (p.2 : Int))]⟩
/-- All setups of so many replicas. -/
def allS (r : Int) : List Setp := if r < 1 ∨ 5 < r then [] else (belowP r.toNat r.toNat).map (setOf r.toNat)
noncomputable def allC : Contract := mkC (α := Int) (fun _ => True) (fun r => [.c (.int .i64 r)]) (fun _ => []) (fun r => ⟨[.pv (.c (.sl (sets (allS r))))], []⟩)
theorem all_at (r : Int) : allC [.c (.int .i64 r)] [] = some ⟨[.pv (.c (.sl (sets (allS r))))], []⟩ :=
  mkC_at (α := Int) r trivial (fun y _ h _ => by simp at h; rw [h])

def outP (r i : Nat) : List Setp := ((belowP r r).take i).map (setOf r)
theorem outP_succ {r i : Nat} (h : i < (belowP r r).length) : outP r (i + 1) = outP r i ++ [setOf r (prL r i)] := by
  unfold outP prL
  rw [List.take_add_one, List.getElem?_eq_getElem h, List.map_append, List.getD, List.getElem?_eq_getElem h]
  rfl
theorem outP_length {r i : Nat} (h : i ≤ (belowP r r).length) : (outP r i).length = i := by
  unfold outP; rw [List.length_map, List.length_take]; omega
theorem below_len : ∀ r : Fin 6, (belowP r r).length = r.val * (r.val + 1) / 2 ∧ (belowP r r).length ≤ 15 := by decide

noncomputable def memA (r i : Nat) : List (Nat × MC) := [(64, .obj [.c (.int .i64 (r : Int))] false), (192, .obj [.own 193 4 (sets (outP r i))] false), (193, .row 4 i)]

set_option maxRecDepth 100000 in
set_option maxHeartbeats 2000000 in
theorem all_sound (hΓ : SoundG Try.prog Γ) : SoundC Try.prog 7 allC := by
  refine sound_fnM ⟨[], []⟩ Try.func7 (by kernel_rfl) rfl rfl ?_ ?_
  · rw [rs_7]; intro r hr; simp at hr; exact ⟨_, hr⟩
  intro args objs r0 hr
  obtain ⟨r, _, rfl, rfl, rfl⟩ := mkC_inv hr
  refine ⟨rfl, by show 1 ≤ _; decide, fun E hro hN hns hF => ?_⟩
  have hN := hN.trans nt_7
  refine AWPm.seq (AWPm.of fun E' hE hns' => vc_sound hΓ mixed _ _ _ ?_)
  have hN' : E'.N.n = _ := (congrArg Lim.n hE).trans hN
  have hF' : E'.N.adv = _ := (congrArg Lim.adv hE).trans hF
  simp only [runA, runB, runC, runD, runE, runF, fieldE, storeE, binE, ↓reduceIte, Nat.reduceLT, Nat.reduceLeDiff, Nat.reduceEqDiff, Nat.reduceAdd, Nat.reduceMul, Nat.reduceSub, reduceCtorEq, putAt, unE, Nat.reduceBEq, convE, buildE, List.replicate, Int.reduceLT, Int.reduceLE, Int.reduceToNat, mkE, mapSetE, hN', hF', ty_3, ty_22, ty_24, ty_32, ty_36, notIf, isEq, thenM_normal]
  refine AWPm.seq (AWPm.of fun E' hE hns' => vc_sound hΓ mixed _ _ _ ?_)
  have hN' : E'.N.n = _ := (congrArg Lim.n hE).trans hN
  have hF' : E'.N.adv = _ := (congrArg Lim.adv hE).trans hF
  simp only [runA, runB, runC, runD, runE, runF, fieldE, storeE, binE, ↓reduceIte, Nat.reduceLT, Nat.reduceLeDiff, Nat.reduceEqDiff, Nat.reduceAdd, Nat.reduceMul, Nat.reduceSub, reduceCtorEq, putAt, unE, Nat.reduceBEq, convE, buildE, List.replicate, Int.reduceLT, Int.reduceLE, Int.reduceToNat, mkE, mapSetE, hN', hF', ty_3, ty_22, ty_24, ty_32, ty_36, notIf, isEq, thenM_normal]
  refine AWPm.seq (AWPm.of fun E' hE hns' => vc_sound hΓ mixed _ _ _ ?_)
  have hN' : E'.N.n = _ := (congrArg Lim.n hE).trans hN
  have hF' : E'.N.adv = _ := (congrArg Lim.adv hE).trans hF
  by_cases a1 : r < 1
  · have g1 : decide (r < 1) = true := by simpa using a1
    have hS : allS r = [] := by unfold allS; rw [if_pos (.inl a1)]
    simp only [runA, runB, runC, runD, runE, runF, fieldE, storeE, binE, ↓reduceIte, Nat.reduceLT, Nat.reduceLeDiff, Nat.reduceEqDiff, Nat.reduceAdd, Nat.reduceMul, Nat.reduceSub, reduceCtorEq, putAt, unE, Nat.reduceBEq, convE, buildE, List.replicate, Int.reduceLT, Int.reduceLE, Int.reduceToNat, mkE, mapSetE, hN', hF', ty_3, ty_22, ty_24, ty_32, ty_36, notIf, isEq, g1, thenM_ret]
    simp only [runB, finC, finD, Option.isSome_some, Option.isSome_none, ↓reduceIte, Nat.reduceEqDiff, Nat.reduceAdd, Nat.reduceMul, forall_eq_or_imp, forall_eq, implies_true, Nat.reduceBEq, reduceCtorEq, false_implies, List.zip_cons_cons, List.zip_nil_left, List.zip_nil_right, Nat.reduceLeDiff, List.forall_mem_nil, rs_7, hS, sets, List.map_nil]
  have g1 : decide (r < 1) = false := by simpa using a1
  by_cases a2 : 5 < r
  · have g2 : decide (r > 5) = true := by simpa using a2
    have hS : allS r = [] := by unfold allS; rw [if_pos (.inr a2)]
    simp only [runA, runB, runC, runD, runE, runF, fieldE, storeE, binE, ↓reduceIte, Nat.reduceLT, Nat.reduceLeDiff, Nat.reduceEqDiff, Nat.reduceAdd, Nat.reduceMul, Nat.reduceSub, reduceCtorEq, putAt, unE, Nat.reduceBEq, convE, buildE, List.replicate, Int.reduceLT, Int.reduceLE, Int.reduceToNat, mkE, mapSetE, hN', hF', ty_3, ty_22, ty_24, ty_32, ty_36, notIf, isEq, g1, g2, thenM_ret]
    simp only [runB, finC, finD, Option.isSome_some, Option.isSome_none, ↓reduceIte, Nat.reduceEqDiff, Nat.reduceAdd, Nat.reduceMul, forall_eq_or_imp, forall_eq, implies_true, Nat.reduceBEq, reduceCtorEq, false_implies, List.zip_cons_cons, List.zip_nil_left, List.zip_nil_right, Nat.reduceLeDiff, List.forall_mem_nil, rs_7, hS, sets, List.map_nil]
  have g2 : decide (r > 5) = false := by simpa using a2
  simp only [runA, runB, runC, runD, runE, runF, fieldE, storeE, binE, ↓reduceIte, Nat.reduceLT, Nat.reduceLeDiff, Nat.reduceEqDiff, Nat.reduceAdd, Nat.reduceMul, Nat.reduceSub, reduceCtorEq, putAt, unE, Nat.reduceBEq, convE, buildE, List.replicate, Int.reduceLT, Int.reduceLE, Int.reduceToNat, mkE, mapSetE, hN', hF', ty_3, ty_22, ty_24, ty_32, ty_36, notIf, isEq, g1, g2, thenM_normal]
  obtain ⟨R, rfl⟩ : ∃ R : Nat, r = (R : Int) := ⟨r.toNat, by omega⟩
  have hR5 : R ≤ 5 := by omega
  have hAll : allS (R : Int) = outP R (belowP R R).length := by
    unfold allS outP
    rw [if_neg (by omega), show ((R : Int)).toNat = R from by omega, List.take_length]
  obtain ⟨hbl1, hbl2⟩ := below_len ⟨R, by omega⟩
  dsimp only at hbl1 hbl2
  refine AWPm.weak (s2 := ⟨[(1, .ptr 64 0), (3, .ptr 192 0)], memA R 0⟩) ?wk ?_
  case wk =>
    rw [hns]
    simp only [memA, outP, List.take_zero, List.map_nil, sets]
    simp only [runB, finC, finD, AS.get, AS.mem, false_implies, implies_true, ↓reduceIte, Nat.reduceEqDiff, Option.isSome_some, Option.isSome_none, forall_eq_or_imp, forall_eq, reduceCtorEq, Nat.reduceAdd, Nat.reduceMul, List.zip_cons_cons, List.zip_nil_left, List.zip_nil_right, List.forall_mem_nil]
    first | done | simp
  refine AWPm.seq (AWPm.pairs hro R hR5 rfl rfl rfl rfl rfl rfl rfl rfl rfl (by rw [hN]; decide) (by rw [hN]; decide) (by rw [hN]; decide) (by rw [hN]; decide) (lg := [64]) ?hget 832 rfl (memA R) rfl
    (fun i => ⟨[(5, .c (.int .i64 ((prL R i).2 : Int))), (4, .c (.int .i64 ((prL R i).1 : Int))), (15, .c (.int .i64 ((prL R i).2 : Int))), (14, .c (.int .i64 ((prL R i).1 : Int))), (13, .undef), (12, .undef), (1, .ptr 64 0), (3, .ptr 192 0)], (832, .obj [.c (.int .i64 (R : Int))] false) :: memA R i⟩) ?hA ?hB ?hQ)
  case hget =>
    simp only [memA, runA, runB, runC, runD, runE, runF, fieldE, storeE, binE, ↓reduceIte, Nat.reduceLT, Nat.reduceLeDiff, Nat.reduceEqDiff, Nat.reduceAdd, Nat.reduceMul, Nat.reduceSub, reduceCtorEq, putAt, unE, Nat.reduceBEq, convE, buildE, List.replicate, Int.reduceLT, Int.reduceLE, Int.reduceToNat, mkE, mapSetE, ty_3, ty_22, ty_24, ty_32, ty_36]
  case hA =>
    intro i hi E' hE hns'
    have hN' : E'.N.n = _ := (congrArg Lim.n hE).trans hN
    have hF' : E'.N.adv = _ := (congrArg Lim.adv hE).trans hF
    refine vc_sound hΓ mixed _ _ _ ?_
    simp only [runA, runB, runC, runD, runE, runF, fieldE, storeE, binE, ↓reduceIte, Nat.reduceLT, Nat.reduceLeDiff, Nat.reduceEqDiff, Nat.reduceAdd, Nat.reduceMul, Nat.reduceSub, reduceCtorEq, putAt, unE, Nat.reduceBEq, convE, buildE, List.replicate, Int.reduceLT, Int.reduceLE, Int.reduceToNat, mkE, mapSetE, hN', hF', ty_3, ty_22, ty_24, ty_32, ty_36, notIf, isEq]
  case hB =>
    intro i hi E' hE hns'
    have hN' : E'.N.n = _ := (congrArg Lim.n hE).trans hN
    have hF' : E'.N.adv = _ := (congrArg Lim.adv hE).trans hF
    refine vc_sound hΓ mixed _ _ _ ?_
    have hsucc := outP_succ hi
    have hol := outP_length (r := R) (i := i) (by omega)
    have hz := rowsOK_sets
    have hL : (i + 1) * 48 ≤ 140737488355328 := by omega
    have set1 : [[PC.int .i64 (R : Int), PC.int .i64 ((prL R i).1 : Int), PC.int .i64 0, PC.sl [[PC.int .i64 1, PC.int .i64 ((prL R i).2 : Int)]]]] = sets [setOf R (prL R i)] := rfl
    simp only [memA]
    simp only [runA, runB, runC, runD, runE, runF, fieldE, storeE, binE, ↓reduceIte, Nat.reduceLT, Nat.reduceLeDiff, Nat.reduceEqDiff, Nat.reduceAdd, Nat.reduceMul, Nat.reduceSub, reduceCtorEq, putAt, unE, Nat.reduceBEq, convE, buildE, List.replicate, Int.reduceLT, Int.reduceLE, Int.reduceToNat, mkE, mapSetE, hN', hF', ty_3, ty_22, ty_24, ty_32, ty_36, notIf, isEq, set1, sets_app, ← hsucc, sets_length, hol, hz, hL]
    simp only [runB, finC, finD, AS.get, AS.mem, false_implies, implies_true, ↓reduceIte, Nat.reduceEqDiff, Option.isSome_some, Option.isSome_none, forall_eq_or_imp, forall_eq, reduceCtorEq, Nat.reduceAdd, Nat.reduceMul, List.zip_cons_cons, List.zip_nil_left, List.zip_nil_right, List.forall_mem_nil]
    first | done | simp
  case hQ =>
    rw [thenM_normal]
    refine AWPm.of fun E' hE hns' => vc_sound hΓ mixed _ _ _ ?_
    have hN' : E'.N.n = _ := (congrArg Lim.n hE).trans hN
    have hF' : E'.N.adv = _ := (congrArg Lim.adv hE).trans hF
    simp only [memA, ← hAll]
    simp only [runA, runB, runC, runD, runE, runF, fieldE, storeE, binE, ↓reduceIte, Nat.reduceLT, Nat.reduceLeDiff, Nat.reduceEqDiff, Nat.reduceAdd, Nat.reduceMul, Nat.reduceSub, reduceCtorEq, putAt, unE, Nat.reduceBEq, convE, buildE, List.replicate, Int.reduceLT, Int.reduceLE, Int.reduceToNat, mkE, mapSetE, hN', hF', ty_3, ty_22, ty_24, ty_32, ty_36, notIf, isEq]
    simp only [runB, finC, finD, Option.isSome_some, Option.isSome_none, ↓reduceIte, Nat.reduceEqDiff, Nat.reduceAdd, Nat.reduceMul, forall_eq_or_imp, forall_eq, implies_true, Nat.reduceBEq, reduceCtorEq, false_implies, List.zip_cons_cons, List.zip_nil_left, List.zip_nil_right, Nat.reduceLeDiff, List.forall_mem_nil, rs_7]


variable {Γ : FuncId → Contract}

noncomputable def alive40LC : Contract := mkC (α := Unit) (fun _ => True) (fun _ => []) (fun _ => []) (fun _ => ⟨[.pv (.c (.bool true))], []⟩)
theorem alive40L_at : alive40LC [] [] = some ⟨[.pv (.c (.bool true))], []⟩ := mkC_at (α := Unit) () trivial (fun _ _ _ _ => rfl)
theorem all_oneL : allC [.c (.int .i64 1)] [] = some ⟨[.pv (.c (.sl [[.int .i64 1, .int .i64 1, .int .i64 0, .sl [[.int .i64 1, .int .i64 1]]]]))], []⟩ := all_at 1
theorem ckL_zero : ckLC [.agg [.c (.int .i64 0), .c (.int .i64 0), .c (.int .i64 0), .c (.sl [])]] [] = some ⟨[.pv (.c (.int .i64 3))], []⟩ := ckL_at 0 0 0 [] (by decide)

set_option maxRecDepth 100000 in
set_option maxHeartbeats 1000000 in
theorem alive40L_sound (hΓ : SoundG Try.prog Γ) (h1 : Γ 7 = allC) (h2 : Γ 6 = ckLC) : SoundC Try.prog 4 alive40LC := by
  refine sound_fn Try.func4 (by kernel_rfl) rfl rfl ?_
  intro args objs r hr
  obtain ⟨_, _, rfl, rfl, rfl⟩ := mkC_inv hr
  refine ⟨rfl, by show 0 ≤ _; decide, fun E hN hns hF => ?_⟩
  refine vc_sound hΓ mixed _ _ _ ?_
  have hN := hN.trans nt_4
  have q1 := all_oneL
  have q2 := ckL_zero
  have g1 : (((1 : Nat) : Int) == 1) = true := rfl
  have g2 : ((1 : Int) == 1) = true := rfl
  have g3 : ((3 : Int) == 3) = true := rfl
  simp only [runA, runB, runC, runD, runE, runF, fieldE, storeE, binE, ↓reduceIte, Nat.reduceLT, Nat.reduceLeDiff, Nat.reduceEqDiff, Nat.reduceAdd, Nat.reduceMul, Nat.reduceSub, reduceCtorEq, putAt, unE, Nat.reduceBEq, convE, buildE, List.replicate, Int.reduceLT, Int.reduceLE, Int.reduceToNat, mkE, mapSetE, hN, hF, ty_3, ty_4, ty_22, ty_24, ty_27, ty_32, notIf, isEq, h1, h2, q1, q2, g1, g2, g3]
  simp only [runB, finC, finD, Option.isSome_some, Option.isSome_none, ↓reduceIte, Nat.reduceEqDiff, Nat.reduceAdd, Nat.reduceMul, forall_eq_or_imp, forall_eq, implies_true, Nat.reduceBEq, reduceCtorEq, false_implies, List.zip_cons_cons, List.zip_nil_left, List.zip_nil_right, Nat.reduceLeDiff, List.forall_mem_nil, rs_4]

noncomputable def rtC : Contract := mkC (α := Setp) (fun s => s.l.length ≤ 9223372036854775807) (fun s => [.agg [.c (.int .i64 s.r), .c (.int .i64 s.q), .c (.int .i64 s.c), .c (.sl (ruls s.l))]]) (fun _ => []) (fun _ => ⟨[.pv (.c (.bool true))], []⟩)
set_option maxRecDepth 100000 in
set_option maxHeartbeats 4000000 in
theorem rt_sound (hΓ : SoundG Try.prog Γ) (h1 : Γ 4 = alive40LC) (h2 : Γ 5 = wNC) (h3 : Γ 6 = ckLC) : SoundC Try.prog 3 rtC := by
  refine sound_fn Try.func3 (by kernel_rfl) rfl rfl ?_
  intro args objs r0 hr
  obtain ⟨⟨r, q, C, l⟩, hl, rfl, rfl, rfl⟩ := mkC_inv hr
  have hl : l.length ≤ 9223372036854775807 := hl
  refine ⟨rfl, by show 1 ≤ _; decide, fun E hN hns hF => ?_⟩
  refine vc_sound hΓ mixed _ _ _ ?_
  have hN := hN.trans nt_3
  have k1 := alive40L_at
  have k2 := wN_at r q C l hl
  have k3 := ckL_at r q C l hl
  dsimp only
  generalize checkS ⟨r, q, C, l⟩ = e at k2 k3
  have he : (e == e) = true := by simp
  simp only [runA, runB, runC, runD, runE, runF, fieldE, storeE, binE, ↓reduceIte, Nat.reduceLT, Nat.reduceLeDiff, Nat.reduceEqDiff, Nat.reduceAdd, Nat.reduceMul, Nat.reduceSub, reduceCtorEq, putAt, unE, Nat.reduceBEq, convE, buildE, List.replicate, Int.reduceLT, Int.reduceLE, Int.reduceToNat, mkE, mapSetE, hN, hF, ty_3, ty_4, ty_22, ty_24, ty_27, notIf, isEq, h1, h2, h3, k1, k2, k3, he]
  simp only [runB, finC, finD, Option.isSome_some, Option.isSome_none, ↓reduceIte, Nat.reduceEqDiff, Nat.reduceAdd, Nat.reduceMul, forall_eq_or_imp, forall_eq, implies_true, Nat.reduceBEq, reduceCtorEq, false_implies, List.zip_cons_cons, List.zip_nil_left, List.zip_nil_right, Nat.reduceLeDiff, List.forall_mem_nil, rs_3]

end Go.Proofs.Ytofkehedjcinhaa.AM
