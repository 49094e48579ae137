/-
  QG: TrH TrI TrJ.
-/
import Derived.Test.YtenmlgalcjkdbaaGreatQF
import Derived.Test.YtenmlgalcjkdbaaGreatQ3
import Derived.RangeFuncNested
import Derived.RangeFuncCalls
import Derived.RangeFuncBox
import Derived.Shelf.Abstract
import Derived.Shelf.RegionOpen
import Derived.WalkKit
import Derived.OwnWalkIn
import Derived.TacticsInMore
import Derived.LoopNIn
import Derived.LoopIn
set_option linter.unusedVariables false
set_option linter.unusedSimpArgs false
namespace Go.Proofs.YtenmlgalcjkdbaaGreat.AM
open Go Go.Proofs Go.RowKit Go.Shelf

variable {Γ : FuncId → Contract}


set_option maxRecDepth 100000 in
theorem backB_calls (ad : Option Addr) (len cap : Nat) (w : World) : Calls Tryz.prog 135 #[.slice ad len cap] w fun e w' => e = .returned (.func (.func 193) #[] #[.pointer (some ⟨w.heap.size, 0, none⟩)]) ∧ w' = w.alloc (.cells #[.slice ad len cap] 57) := by
  refine callsIn_wide.1 (callsIn_of_wp (F := Fence.wide) (n := 0) Tryz.func135 rfl trivial ?_ rfl)
  simp only [Tryz.ntmps135, List.size_toArray, List.length_cons, List.length_nil, Nat.reduceAdd, Nat.reduceSub, Array.replicate_succ, Array.replicate_zero, List.push_toArray, List.append_toArray, List.nil_append, List.cons_append]
  gi_wp2
  go_ret
  exact ⟨rfl, rfl⟩
set_option maxRecDepth 100000 in
set_option maxHeartbeats 4000000 in
theorem backB_it (l Bx k : Nat) (hk : k ≤ 1099511627776) (J : Nat → World → Prop)
    (hbox : ∀ i W, J i W → ∃ (A : Option Addr) (cap : Nat), W.cell? ⟨Bx, 0, none⟩ = some (.slice A k cap) ∧ ∀ j, j < k → ∃ (ad : Addr) (vs : Nat → Value), A = some ad ∧ W.cell? (ad.add (j * 9)) = some (vs 0) ∧ (∀ o, o < 9 → W.cell? ⟨(ad.add (j * 9)).block, (ad.add (j * 9)).off + o, none⟩ = some (vs o)) ∧
      (i + j + 1 = k → YieldAt Fence.wide 0 Tryz.prog l #[.int .i64 (j : Int), .agg #[vs 0, vs 1, vs 2, vs 3, vs 4, vs 5, vs 6, vs 7, vs 8]] W fun e W' => e = .returned (.bool true) ∧ J (i + 1) W'))
    (W : World) (h0 : J 0 W) :
    CallsIn Fence.wide 0 Tryz.prog 193 #[.func (.yield l) #[] #[], .pointer (some ⟨Bx, 0, none⟩)] W fun e W' => (∃ v, e = .returned v) ∧ J k W' := by
  refine callsIn_of_wp Tryz.func193 rfl trivial ?_ rfl
  simp only [Tryz.ntmps193, List.size_toArray, List.length_cons, List.length_nil, Nat.reduceAdd, Nat.reduceSub, Array.replicate_succ, Array.replicate_zero, List.push_toArray, List.append_toArray, List.nil_append, List.cons_append]
  obtain ⟨A0, cap0, hb, _⟩ := hbox 0 W h0
  gi_wp2
  refine wpIn_loop_rounds (k + 1) ?_
  refine (?key : ∀ (d : Nat) (W : World) (t2 t4 t5 t6 t7 t8 t9 t10 t11 t12 t13 t14 t15 t16 t17 t18 : Value), d ≤ k → J (k - d) W →
      Code.roundsIn Fence.wide 0 Tryz.prog ?cc ?qq (d + 1) { tmps := #[.func (.yield l) #[] #[], .pointer (some ⟨Bx, 0, none⟩), t2, .int .i64 ((d : Int) - 1), t4, t5, t6, t7, t8, t9, t10, t11, t12, t13, t14, t15, t16, t17, t18], defers := [] } W) k W _ _ _ _ _ _ _ _ _ _ _ _ _ _ _ _ (Nat.le_refl _) (by rw [Nat.sub_self]; exact h0)
  intro d
  induction d with
  | zero =>
    intro W t2 t4 t5 t6 t7 t8 t9 t10 t11 t12 t13 t14 t15 t16 t17 t18 hd hJ
    rw [roundsIn_succ]
    gi_wp2
    exact ⟨rfl, _, results_none rfl _ _ _, ⟨_, rfl⟩, hJ⟩
  | succ d ih =>
    intro W t2 t4 t5 t6 t7 t8 t9 t10 t11 t12 t13 t14 t15 t16 t17 t18 hd hJ
    obtain ⟨A, cap, hbx, hel⟩ := hbox _ W hJ
    obtain ⟨ad, vs, rfl, c0, hvs, hy0⟩ := hel d (by omega)
    have hy0 := hy0 (by omega)
    rw [show k - (d + 1) + 1 = k - d from by omega] at hy0
    obtain ⟨fn, tmps, assign, body, hy, hR1⟩ := hy0
    have c1 := hvs 1 (by omega)
    have c2 := hvs 2 (by omega)
    have c3 := hvs 3 (by omega)
    have c4 := hvs 4 (by omega)
    have c5 := hvs 5 (by omega)
    have c6 := hvs 6 (by omega)
    have c7 := hvs 7 (by omega)
    have c8 := hvs 8 (by omega)
    have e1 : ((d + 1 : Nat) : Int) - 1 = (d : Int) := by omega
    rw [e1]
    rw [roundsIn_succ]
    gi_wp2
    refine ⟨rfl, hR1.mono ?_⟩
    rintro e W3 ⟨rfl, hJ3⟩
    gi_wp2
    exact ih _ _ _ _ _ _ _ _ _ _ _ _ _ _ _ _ _ (by omega) hJ3

end Go.Proofs.YtenmlgalcjkdbaaGreat.AM
set_option linter.unusedVariables false
set_option linter.unusedSimpArgs false
namespace Go.Proofs.YtenmlgalcjkdbaaGreat.AM
open Go Go.RowKit

variable {Γ : FuncId → Contract} {E : Env}

/-- What the iterator's box holds. -/
theorem Btw.box {G0 G : Gh} {l D : Nat} {rec : LoopState → Loop} {m : List (Nat × MC)} {W : World} (J : Btw E G0 l D rec G m W) {n Bx : Nat} {rows : List (List PC)} (hm : look m n = some (.obj [.c (.sl rows)] false)) (hg : G0.h n = some (.obj Bx)) :
    G.h n = some (.obj Bx) ∧ ∃ v ty, W.heap[Bx]? = some (.cells #[v] ty (0, 0)) ∧ VR G.K (.sl rows) v ∧ ∃ ad cap, v = .slice ad rows.length cap := by
  obtain ⟨h', e, l⟩ := J.le.h n _ hg
  cases l
  have hh := J.mem.home n
  rw [hm, e] at hh
  obtain ⟨vs, ty, a1, a2, a3, _⟩ := hh
  refine ⟨e, ?_⟩
  obtain ⟨ls⟩ := vs
  cases ls with
  | nil => simp at a2
  | cons v tl =>
    cases tl with
    | cons y tl => simp at a2
    | nil =>
      have hv := a3 0 _ v rfl rfl
      cases hv with
      | c _ _ hv =>
        obtain ⟨ad, cap, h1, _⟩ := hv.slice_form
        exact ⟨v, ty, a1, hv, ad, cap, h1⟩


theorem wk_ok {s s2 : AS} (h1 : wkM (wkRen s.mem s2.m) s.mem s2.m) : RenOK (wkRen s.mem s2.m) s.mem (look s2.m) := by
  refine ⟨fun n n' q e1 e2 => ?_, fun n q e => ?_, fun n z e1 e2 => ?_, fun n e1 e2 => ?_⟩
  · simp only [wkRen] at e1 e2
    split at e1
    · split at e2
      · obtain ⟨_, _, rfl⟩ := Option.map_eq_some_iff.1 e1
        obtain ⟨_, _, rfl⟩ := Option.map_eq_some_iff.1 e2
        rfl
      · cases e2
    · cases e1
  · simp only [wkRen] at e
    split at e
    · rename_i c hc
      obtain ⟨c0, hc0, rfl⟩ := Option.map_eq_some_iff.1 e
      have := wkM_spec h1 hc
      rw [hc0] at this
      rw [hc0, hc]
      exact CMd.cm this
    · cases e
  · simp only [wkRen] at e1 e2
    split at e2
    · rename_i z' fr hc
      cases e2
      have := wkM_spec h1 hc
      rw [hc] at e1
      cases hm : s.mem n with
      | some c0 => rw [hm] at e1; simp at e1
      | none => rw [hm] at this; rw [hc]; dsimp only at this; rw [this]
    · cases e2
  · simp only [wkRen] at e1 e2
    cases hc : look s2.m n with
    | none => rfl
    | some c =>
      rw [hc] at e1 e2
      have := wkM_spec h1 hc
      cases hm : s.mem n with
      | some c0 => rw [hm] at e1; simp at e1
      | none =>
        rw [hm] at this
        cases c with
        | row z fr => simp at e2
        | obj => exact this.elim
        | mp => exact this.elim
/-- What is new may be forgotten. -/
theorem weak_drop {E : Env} {G G4 : Gh} {s' s2 : AS} {W : World} {ns : List Nat} (hw : Weak ns s' s2) (M : MRel E G4 s'.mem W) (hle : G.le G4) (hk : ∀ n h, G.h n = some h → n ∈ ns) : ∃ G5, G.le G5 ∧ MRel E G5 s2.mem W := by
  obtain ⟨h0, h1, _⟩ := hw
  refine ⟨(wkRen s'.mem s2.m).gh G4, ⟨hle.K, fun n x e => ?_⟩, M.rename (wk_ok h1)⟩
  obtain ⟨y, e2, l⟩ := hle.h n x e
  obtain ⟨c, hc⟩ := Option.isSome_iff_exists.1 (h0 n (hk n x e))
  have hm : ∃ c0, s'.mem n = some c0 := by
    cases hm : s'.mem n with
    | some c0 => exact ⟨c0, rfl⟩
    | none => have := M.home n; rw [hm, e2] at this; exact this.elim
  obtain ⟨c0, hm⟩ := hm
  have hs : (wkRen s'.mem s2.m).src n = some n := by simp only [wkRen, hc, hm, Option.map_some]
  exact ⟨y, by simp only [Ren.gh, hs]; exact e2, l⟩
/-- Code in a round's frame: what holds between two rounds stays. -/
theorem piece_round2 {E : Env} {c : Code} {Q : Exit → AS → Prop} {s : AS} {G : Gh} {a : Act} {W : World} {l D : Nat} (h : ∀ E' : Env, E'.N = E.N → E'.ns = keys s.m → AWP Tryz.prog E' c Q s)
    (hsz : a.tmps.size = E.N.n) (hd : a.defers = []) (ht : ∀ i, AR G (s.get i) (a.tmps.getD i Go.undef)) (M : MRel E G s.mem W) {r : Loop} (hl : W.heap[l]? = some (.loop r)) (hk : W.heap[D]? = some (.deferred (some []))) :
    c.wpIn (Fence.wide.inRound l) 0 Tryz.prog (fun e a' W' => ∃ G' s', Q e s' ∧ G.le G' ∧ a'.tmps.size = E.N.n ∧ a'.defers = [] ∧ (∀ i, AR G' (s'.get i) (a'.tmps.getD i Go.undef)) ∧ MRel E G' s'.mem W' ∧ W'.heap[l]? = some (.loop r) ∧ W'.heap[D]? = some (.deferred (some [])) ∧
      ∀ (ns : List Nat) (G0 : Gh) (s2 : AS), Weak ns s' s2 → G0.le G → (∀ n h, G0.h n = some h → n ∈ ns) → ∃ G2, G0.le G2 ∧ MRel E G2 s2.mem W') a W := by
  have R : Rel (E.fo G s W (some l) []) G s a W := ⟨hsz, hd, ht, M.focus.conv rfl rfl rfl rfl, fun n hn => let ⟨h, e⟩ := keys_home M hn; ⟨h, h, e, e, Home.le_refl h⟩⟩
  refine wpIn_mono (h (E.fo G s W (some l) []) rfl rfl G a W R) ?_
  rintro e a' W' ⟨G', s', hq, R2⟩
  obtain ⟨hle, M2, hblk⟩ := fo_out M R2.mem R2.ent
  refine ⟨G', s', hq, hle, R2.size, R2.defs, R2.tmps, M2, (hblk l (Array.getElem?_eq_some_iff.1 hl).1 (home_not M hl (.inr ⟨r, rfl⟩))).trans hl, (hblk D (Array.getElem?_eq_some_iff.1 hk).1 (home_not M hk (.inl ⟨_, rfl⟩))).trans hk, fun ns G0 s2 hw h0 hk => weak_drop hw M2 (Gh.le_trans h0 hle) hk⟩

/-- **A range over a function**: of the iterator's own walk: what it owes between the rounds; of each round: what the body owes. -/
theorem AWPm.range2 {g : Operand} {ps : Array Tmp} {assign body : Code} {Q : Bool → Exit → AS → Prop} {s : AS} {gf : Nat} {lb : Array Value} {G0 : Gh} {a : Act} {w : World}
    (hro : E.ro = none) (R : RelM E false G0 s a w) (hg : a.eval g = .func (.func gf) #[] lb) (henter : EnterOK Tryz.prog gf) (hps : ∀ p ∈ ps.toList, p < E.N.n)
    (n : Nat) (vs : Nat → List AV) (m m' : Nat → List (Nat × MC)) (mEnd : List (Nat × MC)) (hvs : ∀ i, i < n → (vs i).length = ps.size) (s1 : Nat → AS)
    (h0 : ∀ k, look (m 0) k = look s.m k)
    (hA : ∀ i, i < n → ∀ E' : Env, E'.N = E.N → E'.ns = keys (m i) → AWP Tryz.prog E' assign (fun e s' => e = .normal ∧ s' = s1 i) ⟨assignT ⟨s.t, m i⟩ ps.toList (vs i), m i⟩)
    (hB : ∀ i, i < n → ∀ E' : Env, E'.N = E.N → E'.ns = keys (s1 i).m → AWP Tryz.prog E' body (fun e s' => e = .normal ∧ Weak (keys (m i)) s' ⟨[], m' i⟩) (s1 i))
    (hit : ∀ (l D : Nat) (rec : LoopState → Loop) (W : World) (G : Gh), E.B ≤ l → E.B ≤ D → Btw E G0 l D rec G (m 0) W →
      (∀ (i : Nat) (W : World) (G : Gh) (vals : List Value), i < n → Btw E G0 l D rec G (m i) W → vals.length = (vs i).length → (∀ (j : Nat) (x : AV) (v : Value), (vs i)[j]? = some x → vals[j]? = some v → AR G x v) →
        YieldAt Fence.wide 0 Tryz.prog l vals.toArray W fun e W' => e = .returned (.bool true) ∧ ∃ G', G.le G' ∧ Btw E G0 l D rec G' (m' i) W') →
      CallsIn Fence.wide 0 Tryz.prog gf (#[.func (.yield l) #[] #[]] ++ lb) W fun e W' => (∃ v, e = .returned v) ∧ ∃ G', Btw E G0 l D rec G' mEnd W')
    (hQ : Q true .normal ⟨s.t, mEnd⟩) :
    (Code.rangeFunc g ps assign body).wpIn (rF E.ro) 0 Tryz.prog (fun e a' w' => ∃ b' G' s', Q b' e s' ∧ RelM E b' G' s' a' w') a w := by
  obtain ⟨R, hd⟩ := R
  have hd : a.defers = [] := hd
  rw [hro]
  refine wpIn_rangeFunc (F := Fence.wide) ?_
  intro fn hfn
  obtain ⟨rec, hrec⟩ : ∃ rec : LoopState → Loop, rec = fun st => { state := st, pending := none, fn, tmps := a.tmps, params := ps, assign, body, defers := w.heap.size } := ⟨_, rfl⟩
  obtain ⟨W1, hW1⟩ : ∃ W1, (w.alloc (.deferred (some []))).alloc (.loop (rec .ready)) = W1 := ⟨_, rfl⟩
  have hL1 : W1.heap[w.heap.size + 1]? = some (.loop (rec .ready)) := by
    rw [← hW1]; have := World.alloc_heap_new (w.alloc (.deferred (some []))) (.loop (rec .ready)); rwa [World.size_alloc] at this
  have hK1 : W1.heap[w.heap.size]? = some (.deferred (some [])) := by
    rw [← hW1]; exact (Below.heap_alloc _ _ _ (by simp)).trans (World.alloc_heap_new w _)
  have M0 : MRel E G0 s.mem w := R.mem.conv rfl rfl rfl rfl
  have hold : ∀ b, b < w.heap.size → W1.heap[b]? = w.heap[b]? := fun b hb => by
    rw [← hW1]; exact (Below.heap_alloc _ _ _ (by simp; omega)).trans (Below.heap_alloc _ _ _ hb)
  have M1 : MRel E G0 (look (m 0)) W1 := by
    refine (M0.same (Know.le_refl _) rfl (fun b o v h => ?_) hold (fun _ _ _ => rfl) (by rw [← hW1]; rfl) (by rw [← hW1]; rfl) (by rw [← hW1]; rfl) (by rw [← hW1]; simp; omega)).congr h0
    rw [cell_same (hold b (M0.k_lt h))]; exact M0.agree b o v h
  have hB0 := M0.sizeB
  refine ⟨w.heap.size + 1, [markOf w.heap.size], W1, { target := .fn (.func gf) lb, args := #[.func (.yield (w.heap.size + 1)) #[] #[]] }, W1, gf,
    #[.func (.yield (w.heap.size + 1)) #[] #[]] ++ lb, W1, ?_, ?_, fun _ _ => trivial, ?_, by simp [Fence.wide], ?_⟩
  · rw [← hW1, hrec]; exact run_enterLoop_outer _ _ _ _ _
  · simp only [resolve, hg]
    simp [go_sem]
  · obtain ⟨fn', hf1, hf2, hf3⟩ := henter
    have hb : ¬ fn'.body = none := by intro e; rw [e] at hf3; cases hf3
    have hn : ¬ fn'.name = "runtime.NumGoroutine" := by simpa using hf2
    simp [invoke, go_sem, callFunc, hf1, hn, hb]
  · refine (hit (w.heap.size + 1) w.heap.size rec W1 G0 (by omega) hB0 ⟨M1, Gh.le_refl _, hL1, hK1⟩ ?_).mono ?_
    · intro i W G vals hi J hvl hv
      obtain ⟨M, hle, hl, hk⟩ := J
      have hlt := (Array.getElem?_eq_some_iff.1 hl).1
      have hy := run_yield (P := Tryz.prog) (args := vals.toArray) hl (by rw [hrec]; simp; rw [hvl, hvs i hi])
      obtain ⟨a1, ha1⟩ : ∃ a1 : Act, a1 = { tmps := ((rec .ready).params.zip vals.toArray).foldl (fun tmps (t, a) => tmps.setIfInBounds t a) (rec .ready).tmps, defers := [] } := ⟨_, rfl⟩
      have hz : ((rec .ready).params.zip vals.toArray).foldl (fun tmps (t, a) => tmps.setIfInBounds t a) (rec .ready).tmps = (ps.toList.zip vals).foldl (fun t (p, v) => t.setIfInBounds p v) a.tmps := by
        rw [hrec, ← Array.foldl_toList]
        simp
      obtain ⟨t1, t2⟩ := assign_tmps (G := G) ps.toList (vs i) vals ⟨s.t, m i⟩ a.tmps (by simp; rw [hvs i hi]) hvl (fun k => (R.tmps k).mono hle) (fun p hp => Nat.lt_of_lt_of_le (hps p hp) (Nat.le_of_eq (Eq.symm R.size))) hv
      rw [← hz] at t1 t2
      have hfnr : (rec .ready).fn = fn := by rw [hrec]
      have has : (rec .ready).assign = assign := by rw [hrec]
      have hbo : (rec .ready).body = body := by rw [hrec]
      refine ⟨_, _, _, _, hy, roundIn_of_wpIn (by rw [hfnr]; exact hfn) ?_⟩
      rw [has, hbo]
      refine wpIn_mono (piece_round2 (E := E) (G := G) (hA i hi) (a := { tmps := ((rec .ready).params.zip vals.toArray).foldl (fun tmps (t, a) => tmps.setIfInBounds t a) (rec .ready).tmps, defers := [] }) (by rw [t1]; exact R.size) rfl t2 M hl hk) ?_
      rintro e a2 W2 ⟨G2, s2, ⟨rfl, rfl⟩, hle2, z1, z2, z3, M2, hl2, hk2, _⟩
      refine ⟨_, run_beginRound hl2 (by rw [hrec]), ?_⟩
      have hlt2 := (Array.getElem?_eq_some_iff.1 hl2).1
      have M3 := M2.putLoop hl2 (by omega) (.loop { rec .ready with state := .busy })
      have hl3 : (W2.putObj (w.heap.size + 1) (.loop { rec .ready with state := .busy })).heap[w.heap.size + 1]? = some (.loop { rec .ready with state := .busy }) := World.putObj_heap_same hlt2
      have hk3 : (W2.putObj (w.heap.size + 1) (.loop { rec .ready with state := .busy })).heap[w.heap.size]? = some (.deferred (some [])) := (World.putObj_heap_other (by omega)).trans hk2
      refine wpIn_mono (piece_round2 (E := E) (G := G2) (hB i hi) z1 z2 z3 M3 hl3 hk3) ?_
      rintro e a4 W4 ⟨G4, s4, ⟨rfl, hw⟩, hle4, _, _, _, _, hl4, hk4, hwk⟩
      obtain ⟨G5, hle5, M5⟩ := hwk (keys (m i)) G _ hw hle2 (fun n h e => home_keys (s := ⟨[], m i⟩) M e)
      have hlt4 := (Array.getElem?_eq_some_iff.1 hl4).1
      refine ⟨_, _, run_endRound none hl4, rfl, G5, hle5, ?_⟩
      have e5 : ({ { rec .ready with state := .busy } with state := if (none : Option Code).isNone then .ready else .done, pending := none } : Loop) = rec .ready := by rw [hrec]; rfl
      rw [e5]
      exact ⟨M5.putLoop hl4 (by omega) _, Gh.le_trans hle hle5, World.putObj_heap_same hlt4, (World.putObj_heap_other (by omega)).trans hk4⟩
    · rintro e W2 ⟨⟨v, rfl⟩, G, M, hle, hl, hk⟩
      have hel := run_endLoop (P := Tryz.prog) hl (by rw [hrec]; simp)
      have hpe : (rec .ready).pending = none := by rw [hrec]
      rw [hpe] at hel
      refine ⟨none, _, hel, true, G, ⟨s.t, mEnd⟩, hQ, ⟨R.size, rfl, fun i => (R.tmps i).mono hle, (M.putLoop hl (by omega) _).conv rfl rfl rfl rfl, fun k hk' => ?_⟩, w.heap.size, by rw [hd]; rfl, hB0, (World.putObj_heap_other (by omega)).trans hk⟩
      obtain ⟨x, x', e1, e2, l⟩ := R.ent k hk'
      obtain ⟨y, e3, l2⟩ := hle.h k x' e2
      exact ⟨x, y, e1, e3, Home.le_trans l l2⟩


def bkV (l : List Blk) (i : Nat) : List AV := [.c (.int .i64 ((l.length - 1 - i : Nat) : Int)), (l.getD (l.length - 1 - i) zeroBk).av]
theorem AWPm.backB (hro : E.ro = none) {s : AS} {id bid : Nat} {ops : Array Oper} {o1 o2 : Oper} {c : Call} {t0 u g p0 p : Tmp} {assign body : Code} {Q : Bool → Exit → AS → Prop} {l : List Blk}
    (hops : ops = #[o1, o2]) (h1 : o1.op = .move (.tmp t0)) (d1 : o1.dst = some u) (g1 : o1.guard = none) (h2 : o2.op = .call c) (hc : c.callee = .value (.func 135)) (hca : c.args = #[.tmp u]) (d2 : o2.dst = some g) (g2 : o2.guard = none)
    (hu : u < E.N.n) (hg : g < E.N.n) (hp0 : p0 < E.N.n) (hp : p < E.N.n) (hget : s.get t0 = .c (.sl (brows l))) (hk : l.length ≤ 1099511627776) (nbx : Nat)
    (hn : look s.m nbx = none) (S : Nat → List (Nat × MC)) (hS0 : S 0 = s.m) (s1 : Nat → AS)
    (hA : ∀ i, i < l.length → ∀ E' : Env, E'.N = E.N → E'.ns = keys ((nbx, .obj [.c (.sl (brows l))] false) :: S i) →
      AWP Tryz.prog E' assign (fun e s' => e = .normal ∧ s' = s1 i) ⟨assignT ⟨(g, .undef) :: (u, .undef) :: s.t, (nbx, .obj [.c (.sl (brows l))] false) :: S i⟩ [p0, p] (bkV l i), (nbx, .obj [.c (.sl (brows l))] false) :: S i⟩)
    (hB : ∀ i, i < l.length → ∀ E' : Env, E'.N = E.N → E'.ns = keys (s1 i).m → AWP Tryz.prog E' body (fun e s' => e = .normal ∧ Weak (keys ((nbx, .obj [.c (.sl (brows l))] false) :: S i)) s' ⟨[], (nbx, .obj [.c (.sl (brows l))] false) :: S (i + 1)⟩) (s1 i))
    (hQ : Q true .normal ⟨(g, .undef) :: (u, .undef) :: s.t, (nbx, .obj [.c (.sl (brows l))] false) :: S l.length⟩) :
    AWPm Tryz.prog E false (.seq (.region id ops false) (.block bid (.rangeFunc (.tmp g) #[p0, p] assign body))) Q s := by
  rintro G a w ⟨R, hd⟩
  have hd' : a.defers = [] := hd
  have hsz : a.tmps.size = E.N.n := R.size
  have hv := R.tmps t0
  rw [hget] at hv
  generalize hvv : a.tmps.getD t0 Go.undef = v at hv
  cases hv with
  | c _ _ hv =>
  obtain ⟨ad, cap, hform, _⟩ := hv.slice_form
  have hrows : EnterOK Tryz.prog 135 := ⟨_, Tryz.func135, rfl, rfl⟩
  have hrows1 : EnterOK Tryz.prog 193 := ⟨_, Tryz.func193, rfl, rfl⟩
  have hcall : Calls Tryz.prog 135 #[v] w fun e w' => e = .returned (.func (.func 193) #[] #[.pointer (some ⟨w.heap.size, 0, none⟩)]) ∧ w' = w.alloc (.cells #[v] 57) := by
    rw [hform]; exact backB_calls ad _ cap w
  refine wpIn_seq (region_made hops (move_at h1 hvv) (fun c hc => by rw [h1] at hc; cases hc) d1 g1 h2 hc hca d2 g2 hrows (by rw [hsz]; exact hu) hcall ?_)
  have M := R.mem.conv (E' := E) rfl rfl rfl rfl
  obtain ⟨n1, n2, n3⟩ := M.newObj (n := nbx) hn (cells := [.c (.sl (brows l))]) (vs := #[v]) (ty := 57) rfl (fun i x u e1 e2 => by
    cases i with
    | zero => simp at e1 e2; subst e1; subst e2; exact .c _ _ hv
    | succ i => simp at e1)
  generalize hG2 : G.put nbx (.obj w.heap.size) = G2 at n1 n2 n3
  obtain ⟨Bx, hBx⟩ : ∃ Bx, w.heap.size = Bx := ⟨_, rfl⟩
  have M2 : MRel E G2 (look ((nbx, .obj [.c (.sl (brows l))] false) :: S 0)) (w.alloc (.cells #[v] 57)) := by
    rw [hS0]
    exact n3
  obtain ⟨a2, ha2⟩ : ∃ a2 : Act, a2 = { a with tmps := (a.tmps.setIfInBounds u v).setIfInBounds g (.func (.func 193) #[] #[.pointer (some ⟨w.heap.size, 0, none⟩)]) } := ⟨_, rfl⟩
  have R2 : RelM E false G2 ⟨(g, .undef) :: (u, .undef) :: s.t, (nbx, .obj [.c (.sl (brows l))] false) :: S 0⟩ a2 (w.alloc (.cells #[v] 57)) := by
    refine ⟨⟨by rw [ha2]; simpa using hsz, rfl, fun i => ?_, M2.conv rfl rfl rfl rfl, fun n hn' => ?_⟩, by rw [ha2]; exact hd⟩
    · by_cases e1 : g = i
      · have : (AS.mk ((g, AV.undef) :: (u, .undef) :: s.t) ((nbx, .obj [.c (.sl (brows l))] false) :: S 0)).get i = .undef := by simp [AS.get, look, e1]
        rw [this]; exact .undef _
      · by_cases e2 : u = i
        · have : (AS.mk ((g, AV.undef) :: (u, .undef) :: s.t) ((nbx, .obj [.c (.sl (brows l))] false) :: S 0)).get i = .undef := by simp [AS.get, look, e1, e2]
          rw [this]; exact .undef _
        · have h3 : (AS.mk ((g, AV.undef) :: (u, .undef) :: s.t) ((nbx, .obj [.c (.sl (brows l))] false) :: S 0)).get i = s.get i := by simp [AS.get, look, e1, e2]
          have h4 : a2.tmps.getD i Go.undef = a.tmps.getD i Go.undef := by rw [ha2]; simp [Array.getElem?_setIfInBounds_ne e1, Array.getElem?_setIfInBounds_ne e2]
          rw [h3, h4]
          exact (R.tmps i).mono n1
    · obtain ⟨x, x', e1, e2, l⟩ := R.ent n hn'
      obtain ⟨y, e3, l2⟩ := n1.h n x' e2
      exact ⟨x, y, e1, e3, Home.le_trans l l2⟩
  have hge : a2.eval (.tmp g) = .func (.func 193) #[] #[.pointer (some ⟨Bx, 0, none⟩)] := by
    have hg' : g < a.tmps.size := by rw [hsz]; exact hg
    rw [ha2, hBx]; simp [Act.eval, hg']
  rw [← ha2]
  change Code.wpIn (rF E.ro) 0 _ (Code.block bid _) _ a2 _
  have hgB : G2.h nbx = some (.obj Bx) := by rw [← hBx]; exact n2
  have hv2 : VR G2.K (.sl (brows l)) v := hv.mono n1.K
  refine wpIn_block (wpIn_mono (AWPm.range2 (Q := inBlockM bid Q) hro R2 hge hrows1 (fun q hq => by simp at hq; rcases hq with rfl | rfl; exact hp0; exact hp) l.length (fun i => bkV l i)
    (fun i => (nbx, .obj [.c (.sl (brows l))] false) :: S i) (fun i => (nbx, .obj [.c (.sl (brows l))] false) :: S (i + 1)) ((nbx, .obj [.c (.sl (brows l))] false) :: S l.length) (fun _ _ => rfl) s1
    (fun _ => rfl) (fun i hi => hA i hi) (fun i hi => hB i hi) ?it hQ) ?out)
  case out =>
    rintro e a' w' ⟨b', G', s', h2, h3⟩
    cases e with
    | exit id' =>
      simp only [inBlockM] at h2
      simp only [Exit.inBlock]
      by_cases e : id' = bid
      · rw [if_pos e] at h2 ⊢; exact ⟨b', G', s', h2, h3⟩
      · rw [if_neg e] at h2 ⊢; exact ⟨b', G', s', h2, h3⟩
    | _ => exact ⟨b', G', s', h2, h3⟩
  case it =>
    intro l' D rec W G3 hl' hD J hY
    refine (backB_it l' Bx l.length hk (fun i W => ∃ G, Btw E G2 l' D rec G ((nbx, .obj [.c (.sl (brows l))] false) :: S i) W) ?hb W ⟨G3, J⟩).mono (fun e W' h => h)
    rintro i W ⟨G, J⟩
    obtain ⟨_, v', ty, q1, q2, _⟩ := J.box (n := nbx) (rows := brows l) (by simp [look]) hgB
    rcases q2.slice_inv with ⟨hnil, A, cap, rfl, _⟩ | ⟨z, b, off, cap, rfl, _, hz, hsl⟩
    · have hl0 : l.length = 0 := by rw [← brows_length, hnil]; rfl
      exact ⟨A, cap, by simp [World.cell?, q1, hl0], fun j hj => absurd hj (by omega)⟩
    · refine ⟨some ⟨b, off, none⟩, cap, by simp [World.cell?, q1, brows_length], fun j hj => ?_⟩
      have hr := browsD l j hj
      have hz9 : (Blk.pcs (l.getD j zeroBk)).length = z := hz _ (List.mem_of_getElem? hr)
      have hz9 : z = 9 := by rw [← hz9]; rfl
      subst hz9
      have hkn := hsl j _ hr
      have hcell : ∀ o, o < 9 → ∃ v, W.cell? ⟨b, off + j * 9 + o, none⟩ = some v ∧ ∀ c, (Blk.pcs (l.getD j zeroBk))[o]? = some c → VR G.K c v := by
        intro o ho
        have ho' : o < (Blk.pcs (l.getD j zeroBk)).length := ho
        obtain ⟨v, k1, k2⟩ := hkn o _ (List.getElem?_eq_getElem ho')
        exact ⟨v, J.mem.agree _ _ _ k1, fun c hc => by rw [List.getElem?_eq_getElem ho'] at hc; cases hc; exact k2⟩
      let vs : Nat → Value := fun o => if h : o < 9 then Classical.choose (hcell o h) else Go.undef
      have hvs : ∀ o, o < 9 → W.cell? ⟨b, off + j * 9 + o, none⟩ = some (vs o) ∧ ∀ c, (Blk.pcs (l.getD j zeroBk))[o]? = some c → VR G.K c (vs o) := fun o ho => by
        have := Classical.choose_spec (hcell o ho)
        simp only [vs, dif_pos ho]
        exact this
      have hadd : Addr.add ⟨b, off, none⟩ (j * 9) = ⟨b, off + j * 9, none⟩ := add_at _ _ _
      refine ⟨⟨b, off, none⟩, vs, rfl, by rw [hadd]; exact (hvs 0 (by omega)).1, fun o ho => by rw [hadd]; exact (hvs o ho).1, fun hij => ?_⟩
      have hj' : l.length - 1 - i = j := by omega
      refine (hY i W G _ (by omega) J rfl (fun n x y e1 e2 => ?_)).mono (fun e W' ⟨h1, G', _, h2⟩ => ⟨h1, G', h2⟩)
      unfold bkV at e1
      rw [hj'] at e1
      match n with
      | 0 => simp at e1 e2; subst e1; subst e2; exact .c _ _ (.int _ _)
      | 1 =>
        simp at e1 e2
        subst e1
        subst e2
        refine .agg _ _ rfl ?_
        intro m x y f1 f2
        have hm : m < 9 := (List.getElem?_eq_some_iff.1 f1).1
        have key : ∀ m, m < 9 → ((List.map AV.c (Blk.pcs (l.getD j zeroBk)))[m]? = some x → (#[vs 0, vs 1, vs 2, vs 3, vs 4, vs 5, vs 6, vs 7, vs 8] : Array Value)[m]? = some y → AR G x y) := by
          intro m hm f1 f2
          have hy : y = vs m := by
            rcases (show m = 0 ∨ m = 1 ∨ m = 2 ∨ m = 3 ∨ m = 4 ∨ m = 5 ∨ m = 6 ∨ m = 7 ∨ m = 8 by omega) with rfl | rfl | rfl | rfl | rfl | rfl | rfl | rfl | rfl <;> (simp at f2; exact f2.symm)
          rw [List.getElem?_map, Option.map_eq_some_iff] at f1
          obtain ⟨c, hc, rfl⟩ := f1
          rw [hy]
          exact .c _ _ ((hvs m hm).2 c hc)
        exact key m hm f1 f2
      | n + 2 => simp at e1

end Go.Proofs.YtenmlgalcjkdbaaGreat.AM
set_option linter.unusedVariables false
set_option linter.unusedSimpArgs false
namespace Go.Proofs.YtenmlgalcjkdbaaGreat.AM
open Go

variable {Γ : FuncId → Contract}

noncomputable def chnC : Contract := mkC (α := List Blk × List UInt8) (fun p => treeOK p.1) (fun p => [.ptr 6400000 0, .c (.str p.2)]) (fun p => [[.mp true (esOf p.1)]]) (fun p => ⟨[.pv (.c (.sl (brows (walkS p.1 p.2).1.reverse))), .pv (.c (.bool (walkS p.1 p.2).2))], [[.mp true (esOf p.1)]]⟩)
theorem chn_at (o : List Blk) (s : List UInt8) (g0 : treeOK o) : chnC [.ptr 6400000 0, .c (.str s)] [[.mp true (esOf o)]] = some ⟨[.pv (.c (.sl (brows (walkS o s).1.reverse))), .pv (.c (.bool (walkS o s).2))], [[.mp true (esOf o)]]⟩ := by
  exact mkC_at (α := List Blk × List UInt8) (o, s) g0 (by
    rintro ⟨o', s'⟩ _ h ho
    have hh := And.intro h ho
    clear h ho
    simp only [List.cons.injEq, AV.c.injEq, AV.agg.injEq, PC.int.injEq, PC.str.injEq, PC.bool.injEq, PC.sl.injEq, OV.c.injEq, OV.own.injEq, OV.mp.injEq, bytes_iff, texts_iff, true_and, and_true, and_self, beq_self_eq_true, esOf_iff] at hh
    simp only [hh])

theorem walkS_none {own : List Blk} {nm : List UInt8} (h : (walkS own nm).2 = false) : (walkS own nm).1 = [] := by
  unfold walkS at h ⊢
  cases hW : walkL own (own.length + 1) [] nm with
  | none => rfl
  | some l =>
    rw [hW] at h
    rcases List.eq_nil_or_concat l with rfl | ⟨i, p, e2⟩
    · rfl
    · rw [List.concat_eq_append] at e2
      subst e2
      rw [walkE_snoc] at h ⊢
      split at h
      · cases h
      · rename_i hc
        rw [if_neg hc]
theorem cpy_p (b : Blk) (h : smB b) : cpyC [.agg [.c (.int .i64 b.vw), .c (.int .i64 b.ht), .c (.str b.pa), .c (.int .i64 b.ju.vw), .c (.int .i64 b.ju.ht), .c (.str b.ju.bl), .c (.sl (votes b.ju.vs)), .c (.sl (trows b.txs)), .c (.str b.sig)]] [] = some ⟨[.pv (.agg [.c (.int .i64 b.vw), .c (.int .i64 b.ht), .c (.str b.pa), .c (.int .i64 b.ju.vw), .c (.int .i64 b.ju.ht), .c (.str b.ju.bl), .c (.sl (votes b.ju.vs)), .c (.sl (trows b.txs)), .c (.str b.sig)])], []⟩ := cpy_at b.vw b.ht b.pa b.ju.vw b.ju.ht b.ju.bl b.ju.vs b.txs b.sig h
/-- The last i of a list, turned. -/
def revI (l : List Blk) (i : Nat) : List Blk := (l.drop (l.length - i)).reverse
theorem revI_zero (l : List Blk) : revI l 0 = [] := by simp [revI]
theorem revI_all (l : List Blk) : revI l l.length = l.reverse := by simp [revI]
theorem revI_len {l : List Blk} {i : Nat} (h : i ≤ l.length) : (revI l i).length = i := by simp [revI]; omega
theorem revI_succ {l : List Blk} {i : Nat} (h : i < l.length) : revI l (i + 1) = revI l i ++ [l.getD (l.length - 1 - i) zeroBk] := by
  unfold revI
  have e : l.length - i = (l.length - (i + 1)) + 1 := by omega
  rw [e, List.drop_eq_getElem_cons (show l.length - (i + 1) < l.length by omega), List.reverse_cons, List.getD, List.getElem?_eq_getElem (show l.length - 1 - i < l.length by omega)]
  have e2 : l.length - 1 - i = l.length - (i + 1) := by omega
  simp only [e2, Option.getD_some]

set_option maxRecDepth 100000 in
set_option maxHeartbeats 4000000 in
theorem chn_sound (hΓ : SoundG Tryz.prog Γ) (h1 : Γ 124 = walkC) (h2 : Γ 69 = cpyC) : SoundC Tryz.prog 83 chnC := by
  refine sound_fnM ⟨[], []⟩ Tryz.func83 (by kernel_rfl) rfl rfl ?_ ?_
  · rw [rs_83]; intro r hr; simp at hr; rcases hr with rfl | rfl <;> exact ⟨_, rfl⟩
  intro args objs r0 hr
  obtain ⟨⟨o, s⟩, ho, rfl, rfl, rfl⟩ := mkC_inv hr
  refine ⟨rfl, by show 2 ≤ _; decide, fun E hro hN hns hF => ?_⟩
  have hN := hN.trans nt_83
  have ho : treeOK o := ho
  have q1 := walk_at o s ho
  have hlen := walkS_len o s
  have hsub : ∀ x ∈ (walkS o s).1, smB x := fun x hx => (ho.2 x (walkS_sub x hx)).2
  have hol := ho.1
  have hnone : (walkS o s).2 = false → (walkS o s).1 = [] := walkS_none
  dsimp only
  generalize (walkS o s).1 = L at q1 hlen hsub hnone ⊢
  generalize (walkS o s).2 = k at q1 hnone ⊢
  refine AWPm.seq (AWPm.of fun E' hE hns' => vc_sound hΓ mixed _ _ _ ?_)
  have hN' : E'.N.n = _ := (congrArg Lim.n hE).trans hN
  have hF' : E'.N.adv = _ := (congrArg Lim.adv hE).trans hF
  simp only [runA, runB, runC, runD, runE, runF, fieldE, storeE, binE, ↓reduceIte, Nat.reduceLT, Nat.reduceLeDiff, Nat.reduceEqDiff, Nat.reduceAdd, Nat.reduceMul, Nat.reduceSub, reduceCtorEq, putAt, unE, Nat.reduceBEq, convE, buildE, List.replicate, Int.reduceLT, Int.reduceLE, Int.reduceToNat, mkE, mapSetE, hN', hF', ty_3, ty_4, ty_9, ty_22, ty_31, ty_33, ty_57, ty_59, notIf, isEq, thenM_normal, h1, q1]
  refine AWPm.seq (AWPm.of fun E' hE hns' => vc_sound hΓ mixed _ _ _ ?_)
  have hN' : E'.N.n = _ := (congrArg Lim.n hE).trans hN
  have hF' : E'.N.adv = _ := (congrArg Lim.adv hE).trans hF
  simp only [runA, runB, runC, runD, runE, runF, fieldE, storeE, binE, ↓reduceIte, Nat.reduceLT, Nat.reduceLeDiff, Nat.reduceEqDiff, Nat.reduceAdd, Nat.reduceMul, Nat.reduceSub, reduceCtorEq, putAt, unE, Nat.reduceBEq, convE, buildE, List.replicate, Int.reduceLT, Int.reduceLE, Int.reduceToNat, mkE, mapSetE, hN', hF', ty_3, ty_4, ty_9, ty_22, ty_31, ty_33, ty_57, ty_59, notIf, isEq, thenM_normal, h1, q1]
  refine AWPm.seq (AWPm.of fun E' hE hns' => vc_sound hΓ mixed _ _ _ ?_)
  have hN' : E'.N.n = _ := (congrArg Lim.n hE).trans hN
  have hF' : E'.N.adv = _ := (congrArg Lim.adv hE).trans hF
  cases k with
  | false =>
    rw [hnone rfl]
    simp only [runA, runB, runC, runD, runE, runF, fieldE, storeE, binE, ↓reduceIte, Nat.reduceLT, Nat.reduceLeDiff, Nat.reduceEqDiff, Nat.reduceAdd, Nat.reduceMul, Nat.reduceSub, reduceCtorEq, putAt, unE, Nat.reduceBEq, convE, buildE, List.replicate, Int.reduceLT, Int.reduceLE, Int.reduceToNat, mkE, mapSetE, hN', hF', ty_3, ty_4, ty_9, ty_22, ty_31, ty_33, ty_57, ty_59, notIf, isEq, thenM_normal, thenM_ret, Bool.not_false]
    simp only [runB, finC, finD, Option.isSome_some, Option.isSome_none, ↓reduceIte, Nat.reduceEqDiff, Nat.reduceAdd, Nat.reduceMul, forall_eq_or_imp, forall_eq, implies_true, Nat.reduceBEq, reduceCtorEq, false_implies, List.zip_cons_cons, List.zip_nil_left, List.zip_nil_right, Nat.reduceLeDiff, List.forall_mem_nil, rs_83, ty_3, ty_4, ty_9, ty_22, ty_31, ty_33, ty_57, ty_59, List.reverse_nil, brows_nil]
  | true =>
  simp only [runA, runB, runC, runD, runE, runF, fieldE, storeE, binE, ↓reduceIte, Nat.reduceLT, Nat.reduceLeDiff, Nat.reduceEqDiff, Nat.reduceAdd, Nat.reduceMul, Nat.reduceSub, reduceCtorEq, putAt, unE, Nat.reduceBEq, convE, buildE, List.replicate, Int.reduceLT, Int.reduceLE, Int.reduceToNat, mkE, mapSetE, hN', hF', ty_3, ty_4, ty_9, ty_22, ty_31, ty_33, ty_57, ty_59, notIf, isEq, thenM_normal, Bool.not_true]
  refine AWPm.seq (AWPm.of fun E' hE hns' => vc_sound hΓ mixed _ _ _ ?_)
  have hN' : E'.N.n = _ := (congrArg Lim.n hE).trans hN
  have hF' : E'.N.adv = _ := (congrArg Lim.adv hE).trans hF
  simp only [runA, runB, runC, runD, runE, runF, fieldE, storeE, binE, ↓reduceIte, Nat.reduceLT, Nat.reduceLeDiff, Nat.reduceEqDiff, Nat.reduceAdd, Nat.reduceMul, Nat.reduceSub, reduceCtorEq, putAt, unE, Nat.reduceBEq, convE, buildE, List.replicate, Int.reduceLT, Int.reduceLE, Int.reduceToNat, mkE, mapSetE, hN', hF', ty_3, ty_4, ty_9, ty_22, ty_31, ty_33, ty_57, ty_59, notIf, isEq, thenM_normal]
  refine AWPm.weak (s2 := ⟨[(8, .ptr 512 0), (6, .c (.sl (brows L)))], [(512, .obj [.own 1729 9 []] false), (1729, .row 9 0), (6400000, .obj [.mp 6400001] false), (6400001, .mp true (esOf o))]⟩) (by rw [hns]; simp only [runB, finC, finD, AS.get, AS.mem, false_implies, implies_true, ↓reduceIte, Nat.reduceEqDiff, Option.isSome_some, Option.isSome_none, forall_eq_or_imp, forall_eq, reduceCtorEq, Nat.reduceAdd, Nat.reduceMul, List.zip_cons_cons, List.zip_nil_left, List.zip_nil_right, List.forall_mem_nil]; first | done | simp) ?_
  refine AWPm.seq (AWPm.backB hro (l := L) rfl rfl rfl rfl rfl rfl rfl rfl rfl (by rw [hN]; decide) (by rw [hN]; decide) (by rw [hN]; decide) (by rw [hN]; decide) rfl (by omega) 1280 rfl
    (fun i => [(512, .obj [.own 1729 9 (brows (revI L i))] false), (1729, .row 9 (revI L i).length), (6400000, .obj [.mp 6400001] false), (6400001, .mp true (esOf o))]) (by simp [revI_zero, brows_nil])
    (fun i => ⟨[(10, .ptr 640 0), (22, .agg [.c (.int .i64 (L.getD (L.length - 1 - i) zeroBk).vw), .c (.int .i64 (L.getD (L.length - 1 - i) zeroBk).ht), .c (.str (L.getD (L.length - 1 - i) zeroBk).pa), .c (.int .i64 (L.getD (L.length - 1 - i) zeroBk).ju.vw), .c (.int .i64 (L.getD (L.length - 1 - i) zeroBk).ju.ht), .c (.str (L.getD (L.length - 1 - i) zeroBk).ju.bl), .c (.sl (votes (L.getD (L.length - 1 - i) zeroBk).ju.vs)), .c (.sl (trows (L.getD (L.length - 1 - i) zeroBk).txs)), .c (.str (L.getD (L.length - 1 - i) zeroBk).sig)]), (21, .c (.int .i64 ((L.length - 1 - i : Nat) : Int))), (20, .undef), (19, .undef), (8, .ptr 512 0), (6, .c (.sl (brows L)))], [(640, .obj [.c (.int .i64 (L.getD (L.length - 1 - i) zeroBk).vw), .c (.int .i64 (L.getD (L.length - 1 - i) zeroBk).ht), .c (.str (L.getD (L.length - 1 - i) zeroBk).pa), .c (.int .i64 (L.getD (L.length - 1 - i) zeroBk).ju.vw), .c (.int .i64 (L.getD (L.length - 1 - i) zeroBk).ju.ht), .c (.str (L.getD (L.length - 1 - i) zeroBk).ju.bl), .c (.sl (votes (L.getD (L.length - 1 - i) zeroBk).ju.vs)), .c (.sl (trows (L.getD (L.length - 1 - i) zeroBk).txs)), .c (.str (L.getD (L.length - 1 - i) zeroBk).sig)] false), (640, .obj [.c (.int .i64 0), .c (.int .i64 0), .c (.str []), .c (.int .i64 0), .c (.int .i64 0), .c (.str []), .nilsl, .nilsl, .c (.str [])] false), (1280, .obj [.c (.sl (brows L))] false), (512, .obj [.own 1729 9 (brows (revI L i))] false), (1729, .row 9 (revI L i).length), (6400000, .obj [.mp 6400001] false), (6400001, .mp true (esOf o))]⟩) ?hA ?hB ?hQ)
  case hA =>
    intro i hi E' hE hns'
    have hN' : E'.N.n = _ := (congrArg Lim.n hE).trans hN
    have hF' : E'.N.adv = _ := (congrArg Lim.adv hE).trans hF
    refine vc_sound hΓ mixed _ _ _ ?_
    have hy := hsub (L.getD (L.length - 1 - i) zeroBk) (by rw [List.getD, List.getElem?_eq_getElem (show L.length - 1 - i < L.length by omega)]; exact List.getElem_mem _)
    unfold bkV Blk.av
    generalize L.getD (L.length - 1 - i) zeroBk = y at hy ⊢
    simp only [assignT, runA, runB, runC, runD, runE, runF, fieldE, storeE, binE, ↓reduceIte, Nat.reduceLT, Nat.reduceLeDiff, Nat.reduceEqDiff, Nat.reduceAdd, Nat.reduceMul, Nat.reduceSub, reduceCtorEq, putAt, unE, Nat.reduceBEq, convE, buildE, List.replicate, Int.reduceLT, Int.reduceLE, Int.reduceToNat, mkE, mapSetE, hN', hF', ty_3, ty_4, ty_9, ty_22, ty_31, ty_33, ty_57, ty_59, notIf, isEq]
  case hB =>
    intro i hi E' hE hns'
    have hN' : E'.N.n = _ := (congrArg Lim.n hE).trans hN
    have hF' : E'.N.adv = _ := (congrArg Lim.adv hE).trans hF
    refine vc_sound hΓ mixed _ _ _ ?_
    have hy := hsub (L.getD (L.length - 1 - i) zeroBk) (by rw [List.getD, List.getElem?_eq_getElem (show L.length - 1 - i < L.length by omega)]; exact List.getElem_mem _)
    have hsu := revI_succ hi
    have hl1 := revI_len (show i ≤ L.length by omega)
    have hl2 := revI_len (show i + 1 ≤ L.length by omega)
    rw [hl1, hl2]
    generalize L.getD (L.length - 1 - i) zeroBk = y at hy hsu ⊢
    have q2 := cpy_p y hy
    have hsn := brows_snoc (revI L i) y
    rw [← hsu] at hsn
    have hrow2 : rowsOK 9 [[.int .i64 y.vw, .int .i64 y.ht, .str y.pa, .int .i64 y.ju.vw, .int .i64 y.ju.ht, .str y.ju.bl, .sl (votes y.ju.vs), .sl (trows y.txs), .str y.sig]] := rowsOK_brows [y]
    have hby : (i + 1) * 128 ≤ 140737488355328 := by omega
    have hlb : (brows (revI L i)).length = i := by rw [brows_length, hl1]
    generalize brows (revI L i) = R0 at hsn hlb ⊢
    generalize brows (revI L (i + 1)) = R1 at hsn ⊢
    generalize L.length - 1 - i = j
    simp only [runA, runB, runC, runD, runE, runF, fieldE, storeE, binE, ↓reduceIte, Nat.reduceLT, Nat.reduceLeDiff, Nat.reduceEqDiff, Nat.reduceAdd, Nat.reduceMul, Nat.reduceSub, reduceCtorEq, putAt, unE, Nat.reduceBEq, convE, buildE, List.replicate, Int.reduceLT, Int.reduceLE, Int.reduceToNat, mkE, mapSetE, hN', hF', ty_3, ty_4, ty_9, ty_22, ty_31, ty_33, ty_57, ty_59, notIf, isEq, h2, q2, hrow2, hby, hsn, hlb]
    refine drawnP_intro (by kernel_rfl) (by kernel_rfl) ?_
    simp only [runA, runB, runC, runD, runE, runF, fieldE, storeE, binE, ↓reduceIte, Nat.reduceLT, Nat.reduceLeDiff, Nat.reduceEqDiff, Nat.reduceAdd, Nat.reduceMul, Nat.reduceSub, reduceCtorEq, putAt, unE, Nat.reduceBEq, convE, buildE, List.replicate, Int.reduceLT, Int.reduceLE, Int.reduceToNat, mkE, mapSetE, hN', hF', ty_3, ty_4, ty_9, ty_22, ty_31, ty_33, ty_57, ty_59, notIf, isEq, h2, q2, hrow2, hby, hsn, hlb]
    simp only [runB, finC, finD, AS.get, AS.mem, false_implies, implies_true, ↓reduceIte, Nat.reduceEqDiff, Option.isSome_some, Option.isSome_none, forall_eq_or_imp, forall_eq, reduceCtorEq, Nat.reduceAdd, Nat.reduceMul, List.zip_cons_cons, List.zip_nil_left, List.zip_nil_right, List.forall_mem_nil]
    first | done | simp
  case hQ =>
    rw [revI_all, thenM_normal]
    refine AWPm.of fun E' hE hns' => vc_sound hΓ mixed _ _ _ ?_
    have hN' : E'.N.n = _ := (congrArg Lim.n hE).trans hN
    have hF' : E'.N.adv = _ := (congrArg Lim.adv hE).trans hF
    simp only [runA, runB, runC, runD, runE, runF, fieldE, storeE, binE, ↓reduceIte, Nat.reduceLT, Nat.reduceLeDiff, Nat.reduceEqDiff, Nat.reduceAdd, Nat.reduceMul, Nat.reduceSub, reduceCtorEq, putAt, unE, Nat.reduceBEq, convE, buildE, List.replicate, Int.reduceLT, Int.reduceLE, Int.reduceToNat, mkE, mapSetE, hN', hF', ty_3, ty_4, ty_9, ty_22, ty_31, ty_33, ty_57, ty_59, notIf, isEq]
    simp only [runB, finC, finD, Option.isSome_some, Option.isSome_none, ↓reduceIte, Nat.reduceEqDiff, Nat.reduceAdd, Nat.reduceMul, forall_eq_or_imp, forall_eq, implies_true, Nat.reduceBEq, reduceCtorEq, false_implies, List.zip_cons_cons, List.zip_nil_left, List.zip_nil_right, Nat.reduceLeDiff, List.forall_mem_nil, rs_83, ty_3, ty_4, ty_9, ty_22, ty_31, ty_33, ty_57, ty_59]

end Go.Proofs.YtenmlgalcjkdbaaGreat.AM
