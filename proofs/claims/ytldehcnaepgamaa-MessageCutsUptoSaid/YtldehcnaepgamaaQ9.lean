/-
  Q9: Mk6 Mk7 Mk8 Mk9.
-/
import Derived.Test.YtldehcnaepgamaaQ8
import Derived.Test.YtldehcnaepgamaaQ3
import Derived.RangeFuncNested
import Derived.RangeFuncCalls
import Derived.RangeFuncBox
import Derived.Shelf.Abstract
import Derived.Shelf.RegionOpen
import Derived.WalkKit
import Derived.OwnWalkIn
import Derived.TacticsInMore
import Derived.LoopNIn
import Derived.LoopIn
set_option linter.unusedVariables false
set_option linter.unusedSimpArgs false
namespace Go.Proofs.Ytldehcnaepgamaa.AM
open Go Go.Proofs Go.RowKit Go.Shelf

variable {Γ : FuncId → Contract}

/-- Two lists of texts. -/
structure Tx2 where
  a : List (List UInt8)
  b : List (List UInt8)
set_option maxRecDepth 100000 in
theorem rows_calls (ad : Option Addr) (len cap : Nat) (w : World) : Calls Try.prog 100 #[.slice ad len cap] w fun e w' => e = .returned (.func (.func 130) #[] #[.pointer (some ⟨w.heap.size, 0, none⟩)]) ∧ w' = w.alloc (.cells #[.slice ad len cap] 22) := by
  refine callsIn_wide.1 (callsIn_of_wp (F := Fence.wide) (n := 0) Try.func100 rfl trivial ?_ rfl)
  simp only [Try.ntmps100, List.size_toArray, List.length_cons, List.length_nil, Nat.reduceAdd, Nat.reduceSub, Array.replicate_succ, Array.replicate_zero, List.push_toArray, List.append_toArray, List.nil_append, List.cons_append]
  gi_wp2
  go_ret
  exact ⟨rfl, rfl⟩

set_option maxRecDepth 100000 in
set_option maxHeartbeats 4000000 in
/-- The rows, from the leaves on: each is yielded; the next one is made of it, as long as it has more than one. -/
theorem rows_it (l Bx k : Nat) (rs : Nat → Nat) (J J' : Nat → World → Prop) (hlen : ∀ i, i < k → 1 < rs i) (hk : rs k ≤ 1)
    (hbox : ∀ i W, J i W → ∃ v, W.cell? ⟨Bx, 0, none⟩ = some v) (hbox' : ∀ i W, J' i W → ∃ ad cap, W.cell? ⟨Bx, 0, none⟩ = some (.slice ad (rs i) cap))
    (hY : ∀ i W v, i ≤ k → J i W → W.cell? ⟨Bx, 0, none⟩ = some v → YieldAt Fence.wide 0 Try.prog l #[v] W fun e W' => e = .returned (.bool true) ∧ J' i W')
    (hUp : ∀ i W v, i < k → J' i W → W.cell? ⟨Bx, 0, none⟩ = some v → Calls Try.prog 131 #[v] W fun e W' => ∃ ad n cap, e = .returned (.slice ad n cap) ∧ (∃ x, W'.cell? ⟨Bx, 0, none⟩ = some x) ∧ W'.frozen? ⟨Bx, 0, none⟩ = false ∧ J (i + 1) (W'.setCell ⟨Bx, 0, none⟩ (.slice ad n cap)))
    (W : World) (h0 : J 0 W) :
    CallsIn Fence.wide 0 Try.prog 130 #[.func (.yield l) #[] #[], .pointer (some ⟨Bx, 0, none⟩)] W fun e W' => (∃ v, e = .returned v) ∧ J' k W' := by
  refine callsIn_of_wp Try.func130 rfl trivial ?_ rfl
  simp only [Try.ntmps130, List.size_toArray, List.length_cons, List.length_nil, Nat.reduceAdd, Nat.reduceSub, Array.replicate_succ, Array.replicate_zero, List.push_toArray, List.append_toArray, List.nil_append, List.cons_append]
  refine wpIn_block (wpIn_loop_rounds (k + 1) ?_)
  refine (?key : ∀ (d i : Nat) (W : World) (t2 t3 t4 t5 t6 t7 t8 t9 t10 t11 t12 : Value), i + d = k → J i W →
      Code.roundsIn Fence.wide 0 Try.prog ?c ?Q (d + 1) { tmps := #[.func (.yield l) #[] #[], .pointer (some ⟨Bx, 0, none⟩), t2, t3, t4, t5, t6, t7, t8, t9, t10, t11, t12], defers := [] } W) k 0 W _ _ _ _ _ _ _ _ _ _ _ (Nat.zero_add k) h0
  intro d
  induction d with
  | zero =>
    intro i W t2 t3 t4 t5 t6 t7 t8 t9 t10 t11 t12 hi hJ
    obtain rfl : i = k := by omega
    obtain ⟨v, hv⟩ := hbox i W hJ
    obtain ⟨fn, tmps, assign, body, hy, hR1⟩ := hY i W v (Nat.le_refl _) hJ hv
    rw [roundsIn_succ]
    gi_wp2
    refine ⟨rfl, hR1.mono ?_⟩
    rintro e W3 ⟨rfl, hJ3⟩
    obtain ⟨ad, cap, hc⟩ := hbox' i W3 hJ3
    have g1 : ¬ ((rs i : Nat) : Int) > 1 := by omega
    gi_wp2
    exact ⟨rfl, _, results_none rfl _ _ _, ⟨_, rfl⟩, hJ3⟩
  | succ d ih =>
    intro i W t2 t3 t4 t5 t6 t7 t8 t9 t10 t11 t12 hi hJ
    obtain ⟨v, hv⟩ := hbox i W hJ
    obtain ⟨fn, tmps, assign, body, hy, hR1⟩ := hY i W v (by omega) hJ hv
    have hlt : i < k := by omega
    have hg := hlen i hlt
    rw [roundsIn_succ]
    gi_wp2
    refine ⟨rfl, hR1.mono ?_⟩
    rintro e W3 ⟨rfl, hJ3⟩
    obtain ⟨ad, cap, hc⟩ := hbox' i W3 hJ3
    have g1 : (1 : Int) < ((rs i : Nat) : Int) := by omega
    have hup := (callsIn_wide (n := 0)).2 (hUp i W3 _ hlt hJ3 hc)
    gi_wp2
    refine ⟨trivial, rfl, hup.mono ?_⟩
    rintro e w' ⟨ad', n', cap', rfl, ⟨x, hx⟩, hfr, hJ4⟩
    gi_wp2
    exact ih (i + 1) _ _ _ _ _ _ _ _ _ _ _ _ (by omega) hJ4

open Go Go.RowKit

variable {Γ : FuncId → Contract} {E : Env}

/-- What the iterator's box holds. -/
theorem Btw.box {G0 G : Gh} {l D : Nat} {rec : LoopState → Loop} {m : List (Nat × MC)} {W : World} (J : Btw E G0 l D rec G m W) {n Bx : Nat} {rows : List (List PC)} (hm : look m n = some (.obj [.c (.sl rows)] false)) (hg : G0.h n = some (.obj Bx)) :
    G.h n = some (.obj Bx) ∧ ∃ v ty, W.heap[Bx]? = some (.cells #[v] ty (0, 0)) ∧ VR G.K (.sl rows) v ∧ ∃ ad cap, v = .slice ad rows.length cap := by
  obtain ⟨h', e, l⟩ := J.le.h n _ hg
  cases l
  have hh := J.mem.home n
  rw [hm, e] at hh
  obtain ⟨vs, ty, a1, a2, a3, _⟩ := hh
  refine ⟨e, ?_⟩
  obtain ⟨ls⟩ := vs
  cases ls with
  | nil => simp at a2
  | cons v tl =>
    cases tl with
    | cons y tl => simp at a2
    | nil =>
      have hv := a3 0 _ v rfl rfl
      cases hv with
      | c _ _ hv =>
        obtain ⟨ad, cap, h1, _⟩ := hv.slice_form
        exact ⟨v, ty, a1, hv, ad, cap, h1⟩

theorem AWPm.rows (hS : SoundC Try.prog 131 upC) (hro : E.ro = none) {s : AS} {id bid : Nat} {ops : Array Oper} {o1 o2 : Oper} {c : Call} {t0 u g p : Tmp} {assign body : Code} {Q : Bool → Exit → AS → Prop} {l : List (List UInt8)}
    (hops : ops = #[o1, o2]) (h1 : o1.op = .move (.tmp t0)) (d1 : o1.dst = some u) (g1 : o1.guard = none) (h2 : o2.op = .call c) (hc : c.callee = .value (.func 100)) (hca : c.args = #[.tmp u]) (d2 : o2.dst = some g) (g2 : o2.guard = none)
    (hu : u < E.N.n) (hg : g < E.N.n) (hp : p < E.N.n) (hget : s.get t0 = .c (.sl (texts l))) (k nbx : Nat) (rs : Nat → List (List UInt8)) (hr0 : rs 0 = l) (hrs : ∀ i, rs (i + 1) = upS (rs i)) (hok : ∀ i, Okl (rs i)) (hgt : ∀ i, i < k → 1 < (rs i).length) (hle : (rs k).length ≤ 1)
    (hn : look s.m nbx = none) (S : Nat → List (Nat × MC)) (hS0 : S 0 = s.m) (s1 : Nat → AS)
    (hA : ∀ i, i ≤ k → ∀ E' : Env, E'.N = E.N → E'.ns = keys ((nbx, .obj [.c (.sl (texts (rs i)))] false) :: S i) →
      AWP Try.prog E' assign (fun e s' => e = .normal ∧ s' = s1 i) ⟨(p, .c (.sl (texts (rs i)))) :: (g, .undef) :: (u, .undef) :: s.t, (nbx, .obj [.c (.sl (texts (rs i)))] false) :: S i⟩)
    (hB : ∀ i, i ≤ k → ∀ E' : Env, E'.N = E.N → E'.ns = keys (s1 i).m → AWP Try.prog E' body (fun e s' => e = .normal ∧ Weak (keys (s1 i).m) s' ⟨[], (nbx, .obj [.c (.sl (texts (rs i)))] false) :: S (i + 1)⟩) (s1 i))
    (hQ : Q true .normal ⟨(g, .undef) :: (u, .undef) :: s.t, (nbx, .obj [.c (.sl (texts (rs k)))] false) :: S (k + 1)⟩) :
    AWPm Try.prog E false (.seq (.region id ops false) (.block bid (.rangeFunc (.tmp g) #[p] assign body))) Q s := by
  rintro G a w ⟨R, hd⟩
  have hd' : a.defers = [] := hd
  have hsz : a.tmps.size = E.N.n := R.size
  have hv := R.tmps t0
  rw [hget] at hv
  generalize hvv : a.tmps.getD t0 Go.undef = v at hv
  cases hv with
  | c _ _ hv =>
  obtain ⟨ad, cap, hform, _⟩ := hv.slice_form
  have hrows : EnterOK Try.prog 100 := ⟨_, Try.func100, rfl, rfl⟩
  have hrows1 : EnterOK Try.prog 130 := ⟨_, Try.func130, rfl, rfl⟩
  have hcall : Calls Try.prog 100 #[v] w fun e w' => e = .returned (.func (.func 130) #[] #[.pointer (some ⟨w.heap.size, 0, none⟩)]) ∧ w' = w.alloc (.cells #[v] 22) := by
    rw [hform]; exact rows_calls ad _ cap w
  refine wpIn_seq (region_made hops (move_at h1 hvv) (fun c hc => by rw [h1] at hc; cases hc) d1 g1 h2 hc hca d2 g2 hrows (by rw [hsz]; exact hu) hcall ?_)
  have M := R.mem.conv (E' := E) rfl rfl rfl rfl
  obtain ⟨n1, n2, n3⟩ := M.newObj (n := nbx) hn (cells := [.c (.sl (texts l))]) (vs := #[v]) (ty := 22) rfl (fun i x u e1 e2 => by
    cases i with
    | zero => simp at e1 e2; subst e1; subst e2; exact .c _ _ hv
    | succ i => simp at e1)
  generalize hG2 : G.put nbx (.obj w.heap.size) = G2 at n1 n2 n3
  obtain ⟨Bx, hBx⟩ : ∃ Bx, w.heap.size = Bx := ⟨_, rfl⟩
  have M2 : MRel E G2 (look ((nbx, .obj [.c (.sl (texts (rs 0)))] false) :: S 0)) (w.alloc (.cells #[v] 22)) := by
    rw [hr0, hS0]
    exact n3
  obtain ⟨a2, ha2⟩ : ∃ a2 : Act, a2 = { a with tmps := (a.tmps.setIfInBounds u v).setIfInBounds g (.func (.func 130) #[] #[.pointer (some ⟨w.heap.size, 0, none⟩)]) } := ⟨_, rfl⟩
  have R2 : RelM E false G2 ⟨(g, .undef) :: (u, .undef) :: s.t, (nbx, .obj [.c (.sl (texts (rs 0)))] false) :: S 0⟩ a2 (w.alloc (.cells #[v] 22)) := by
    refine ⟨⟨by rw [ha2]; simpa using hsz, rfl, fun i => ?_, M2.conv rfl rfl rfl rfl, fun n hn' => ?_⟩, by rw [ha2]; exact hd⟩
    · by_cases e1 : g = i
      · have : (AS.mk ((g, AV.undef) :: (u, .undef) :: s.t) ((nbx, .obj [.c (.sl (texts (rs 0)))] false) :: S 0)).get i = .undef := by simp [AS.get, look, e1]
        rw [this]; exact .undef _
      · by_cases e2 : u = i
        · have : (AS.mk ((g, AV.undef) :: (u, .undef) :: s.t) ((nbx, .obj [.c (.sl (texts (rs 0)))] false) :: S 0)).get i = .undef := by simp [AS.get, look, e1, e2]
          rw [this]; exact .undef _
        · have h3 : (AS.mk ((g, AV.undef) :: (u, .undef) :: s.t) ((nbx, .obj [.c (.sl (texts (rs 0)))] false) :: S 0)).get i = s.get i := by simp [AS.get, look, e1, e2]
          have h4 : a2.tmps.getD i Go.undef = a.tmps.getD i Go.undef := by rw [ha2]; simp [Array.getElem?_setIfInBounds_ne e1, Array.getElem?_setIfInBounds_ne e2]
          rw [h3, h4]
          exact (R.tmps i).mono n1
    · obtain ⟨x, x', e1, e2, l⟩ := R.ent n hn'
      obtain ⟨y, e3, l2⟩ := n1.h n x' e2
      exact ⟨x, y, e1, e3, Home.le_trans l l2⟩
  have hge : a2.eval (.tmp g) = .func (.func 130) #[] #[.pointer (some ⟨Bx, 0, none⟩)] := by
    have hg' : g < a.tmps.size := by rw [hsz]; exact hg
    rw [ha2, hBx]; simp [Act.eval, hg']
  rw [← ha2]
  change Code.wpIn (rF E.ro) 0 _ (Code.block bid _) _ a2 _
  have hgB : G2.h nbx = some (.obj Bx) := by rw [← hBx]; exact n2
  refine wpIn_block (wpIn_mono (AWPm.range (Q := inBlockM bid Q) hro R2 hge hrows1 (fun q hq => by simp at hq; subst hq; exact hp) (k + 1) (fun i => [.c (.sl (texts (rs i)))])
    (fun i => (nbx, .obj [.c (.sl (texts (rs i)))] false) :: S i) (fun i => (nbx, .obj [.c (.sl (texts (rs i)))] false) :: S (i + 1)) ((nbx, .obj [.c (.sl (texts (rs k)))] false) :: S (k + 1)) (fun _ _ => rfl) s1
    (fun _ => rfl) (fun i hi => hA i (by omega)) (fun i hi => hB i (by omega)) ?it hQ) ?out)
  case out =>
    rintro e a' w' ⟨b', G', s', h2, h3⟩
    cases e with
    | exit id' =>
      simp only [inBlockM] at h2
      simp only [Exit.inBlock]
      by_cases e : id' = bid
      · rw [if_pos e] at h2 ⊢; exact ⟨b', G', s', h2, h3⟩
      · rw [if_neg e] at h2 ⊢; exact ⟨b', G', s', h2, h3⟩
    | _ => exact ⟨b', G', s', h2, h3⟩
  case it =>
    intro l' D rec W G3 hl' hD J hY
    refine (rows_it l' Bx k (fun i => (rs i).length) (fun i W => ∃ G, Btw E G2 l' D rec G ((nbx, .obj [.c (.sl (texts (rs i)))] false) :: S i) W) (fun i W => ∃ G, Btw E G2 l' D rec G ((nbx, .obj [.c (.sl (texts (rs i)))] false) :: S (i + 1)) W)
      hgt hle ?hb ?hb' ?hy ?hup W ⟨G3, J⟩).mono (fun e W' h => h)
    case hb =>
      rintro i W ⟨G, J⟩
      obtain ⟨_, v, ty, q1, _⟩ := J.box (n := nbx) (rows := texts (rs i)) (by simp [look]) hgB
      exact ⟨v, by simp [World.cell?, q1]⟩
    case hb' =>
      rintro i W ⟨G, J⟩
      obtain ⟨_, v, ty, q1, _, ad, cap, rfl⟩ := J.box (n := nbx) (rows := texts (rs i)) (by simp [look]) hgB
      exact ⟨ad, cap, by simp [World.cell?, q1, texts_length]⟩
    case hy =>
      rintro i W v hi ⟨G, J⟩ hv
      obtain ⟨_, v', ty, q1, q2, _⟩ := J.box (n := nbx) (rows := texts (rs i)) (by simp [look]) hgB
      have : v' = v := by simpa [World.cell?, q1] using hv
      subst this
      refine (hY i W G [v'] (by omega) J rfl (fun j x u e1 e2 => ?_)).mono (fun e W' ⟨h1, G', _, h2⟩ => ⟨h1, G', h2⟩)
      cases j with
      | zero => simp at e1 e2; subst e1; subst e2; exact .c _ _ q2
      | succ j => simp at e1
    case hup =>
      rintro i W v hi ⟨G, J⟩ hv
      obtain ⟨q0, v', ty, q1, q2, _⟩ := J.box (n := nbx) (rows := texts (rs i)) (by simp [look]) hgB
      have : v' = v := by simpa [World.cell?, q1] using hv
      subst this
      refine Calls.mono (J.mem.call0 hS (up_at (rs i) (hok i)) (vals := [v']) rfl (fun j x u e1 e2 => ?_)) ?_
      · cases j with
        | zero => simp at e1 e2; subst e1; subst e2; exact .c _ _ q2
        | succ j => simp at e1
      · rintro e W' ⟨G', x, rfl, hle', hh, M', hx, hblk, hsz'⟩
        cases hx with
        | c _ _ hx =>
        obtain ⟨ad, cap, hform, _⟩ := hx.slice_form
        have hB' : W'.heap[Bx]? = some (.cells #[v'] ty (0, 0)) := (hblk Bx (heap_some_lt q1)).trans q1
        refine ⟨ad, _, cap, by rw [hform], ⟨v', by simp [World.cell?, hB']⟩, by simp [World.frozen?, hB'], G', ?_⟩
        rw [← hform]
        have hset : W'.setCell ⟨Bx, 0, none⟩ x = W'.setRow Bx #[x] := by rw [setCell_eq_setRow W' Bx 0 #[v'] ty (0, 0) x hB']; rfl
        rw [hset]
        have hll := J.loop
        have hdd := J.dfr
        have hlb : l' ≠ Bx := fun e => by rw [e, q1] at hll; cases hll
        have hdb : D ≠ Bx := fun e => by rw [e, q1] at hdd; cases hdd
        refine ⟨?_, Gh.le_trans J.le hle', ?_, ?_⟩
        · have := M'.setObj (n := nbx) (b := Bx) (cells := [.c (.sl (texts (rs i)))]) (cells' := [.c (.sl (texts (rs (i + 1))))]) (vs' := #[x]) (by simp [look]) (by rw [hh]; exact q0) rfl (fun j y z e1 e2 => by
            cases j with
            | zero => simp at e1 e2; subst e1; subst e2; rw [hrs]; exact .c _ _ hx
            | succ j => simp at e1)
          refine this.congr fun n => ?_
          simp only [look, mset]
          split <;> rfl
        · exact (setRow_other W' Bx l' _ hlb).trans ((hblk l' (heap_some_lt hll)).trans hll)
        · exact (setRow_other W' Bx D _ hdb).trans ((hblk D (heap_some_lt hdd)).trans hdd)


variable {Γ : FuncId → Contract}

noncomputable def upN (l : List (List UInt8)) : Nat → List (List UInt8)
  | 0 => l
  | i + 1 => upS (upN l i)
theorem upN_up (l : List (List UInt8)) : ∀ i, upN (upS l) i = upN l (i + 1)
  | 0 => rfl
  | i + 1 => by rw [upN, upN_up l i]; rfl
theorem depth : ∀ (n : Nat) (l : List (List UInt8)), l.length ≤ n → ∃ k, (∀ i, i < k → 1 < (upN l i).length) ∧ (upN l k).length ≤ 1
  | 0, l, h => ⟨0, fun i hi => by omega, by show l.length ≤ 1; omega⟩
  | n + 1, l, h => by
    by_cases h1 : l.length ≤ 1
    · exact ⟨0, fun i hi => by omega, h1⟩
    · have hl := upS_length l
      obtain ⟨k, h2, h3⟩ := depth n (upS l) (by omega)
      refine ⟨k + 1, fun i hi => ?_, by rw [← upN_up]; exact h3⟩
      cases i with
      | zero => show 1 < l.length; omega
      | succ i => rw [← upN_up]; exact h2 i (by omega)

variable {Γ : FuncId → Contract}

end Go.Proofs.Ytldehcnaepgamaa.AM
