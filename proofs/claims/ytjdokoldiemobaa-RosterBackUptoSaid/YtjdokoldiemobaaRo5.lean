/-
  Setups: all of them.
-/
import Derived.Test.YtjdokoldiemobaaRo4
import Derived.RangeFuncBound
set_option linter.unusedVariables false
set_option linter.unusedSimpArgs false
namespace Go.Proofs.Ytjdokoldiemobaa.AM
open Go Go.RowKit

variable {Γ : FuncId → Contract} {E : Env}

def prL (r i : Nat) : Nat × Nat := (belowP r r).getD i (0, 0)
theorem pfx_facts : ∀ r : Fin 6, ∀ k : Fin 5, ∀ d : Fin 5, k.val < r.val → d.val < r.val - k.val → (pfx r k d).length < (belowP r r).length ∧ prL r (pfx r k d).length = (k.val + 1, k.val + 1 + d.val) ∧ pfx r k (d + 1) = (belowP r r).take ((pfx r k d).length + 1) ∧ (pfx r k (d + 1)).length = (pfx r k d).length + 1 := by decide

/-- What the box holds. -/
theorem Btw.ibox {G0 G : Gh} {l D : Nat} {rec : LoopState → Loop} {m : List (Nat × MC)} {W : World} (J : Btw E G0 l D rec G m W) {n Bx : Nat} {v : Int} (hm : look m n = some (.obj [.c (.int .i64 v)] false)) (hg : G0.h n = some (.obj Bx)) :
    W.cell? ⟨Bx, 0, none⟩ = some (.int .i64 v) := by
  obtain ⟨h', e, l⟩ := J.le.h n _ hg
  cases l
  have hh := J.mem.home n
  rw [hm, e] at hh
  obtain ⟨vs, ty, a1, a2, a3, _⟩ := hh
  obtain ⟨ls⟩ := vs
  cases ls with
  | nil => simp at a2
  | cons u tl =>
    cases tl with
    | cons y tl => simp at a2
    | nil =>
      have hv := a3 0 _ u rfl rfl
      cases hv with
      | c _ _ hv =>
        cases hv
        simp [World.cell?, a1]

theorem AWPm.pairs (hro : E.ro = none) {s : AS} {id bid : Nat} {ops : Array Oper} {o1 o2 : Oper} {c : Call} {t0 u g p1 p2 : Tmp} {ty : TypeId} {assign body : Code} {Q : Bool → Exit → AS → Prop} (r : Nat) (hr5 : r ≤ 5)
    (hops : ops = #[o1, o2]) (h1 : o1.op = .load ty (.tmp t0)) (d1 : o1.dst = some u) (g1 : o1.guard = none) (h2 : o2.op = .call c) (hc : c.callee = .value (.func 120)) (hca : c.args = #[.tmp u]) (d2 : o2.dst = some g) (g2 : o2.guard = none)
    (hu : u < E.N.n) (hg : g < E.N.n) (hp1 : p1 < E.N.n) (hp2 : p2 < E.N.n) {lg : List Nat} (hget : (loadE Try.prog ty (s.get t0)).run s.mem = some (.c (.int .i64 (r : Int)), lg)) (nbx : Nat)
    (hn : look s.m nbx = none) (S : Nat → List (Nat × MC)) (hS0 : S 0 = s.m) (s1 : Nat → AS)
    (hA : ∀ i, i < (belowP r r).length → ∀ E' : Env, E'.N = E.N → E'.ns = keys ((nbx, .obj [.c (.int .i64 (r : Int))] false) :: S i) →
      AWP Try.prog E' assign (fun e s' => e = .normal ∧ s' = s1 i) ⟨(p2, .c (.int .i64 ((prL r i).2 : Int))) :: (p1, .c (.int .i64 ((prL r i).1 : Int))) :: (g, .undef) :: (u, .undef) :: s.t, (nbx, .obj [.c (.int .i64 (r : Int))] false) :: S i⟩)
    (hB : ∀ i, i < (belowP r r).length → ∀ E' : Env, E'.N = E.N → E'.ns = keys (s1 i).m → AWP Try.prog E' body (fun e s' => e = .normal ∧ Weak (keys (s1 i).m) s' ⟨[], (nbx, .obj [.c (.int .i64 (r : Int))] false) :: S (i + 1)⟩) (s1 i))
    (hQ : Q true .normal ⟨(g, .undef) :: (u, .undef) :: s.t, (nbx, .obj [.c (.int .i64 (r : Int))] false) :: S (belowP r r).length⟩) :
    AWPm Try.prog E false (.seq (.region id ops false) (.block bid (.rangeFunc (.tmp g) #[p1, p2] assign body))) Q s := by
  rintro G a w ⟨R, hd⟩
  have hd' : a.defers = [] := hd
  have hsz : a.tmps.size = E.N.n := R.size
  obtain ⟨v, he1, hv⟩ := load_at (P := Try.prog) R.mem (R.tmps t0) h1 hget
  have hv : v = .int .i64 (r : Int) := by
    cases hv with
    | c _ _ hv => cases hv; rfl
  subst hv
  have hrows : EnterOK Try.prog 120 := ⟨_, Try.func120, rfl, rfl⟩
  have hrows1 : EnterOK Try.prog 149 := ⟨_, Try.func149, rfl, rfl⟩
  refine wpIn_seq (region_made hops he1 (fun c hc => by rw [h1] at hc; cases hc) d1 g1 h2 hc hca d2 g2 hrows (by rw [hsz]; exact hu) (pairs_calls (r : Int) w) ?_)
  have M := R.mem.conv (E' := E) rfl rfl rfl rfl
  obtain ⟨n1, n2, n3⟩ := M.newObj (n := nbx) hn (cells := [.c (.int .i64 (r : Int))]) (vs := #[.int .i64 (r : Int)]) (ty := 3) rfl (fun i x u e1 e2 => by
    cases i with
    | zero => simp at e1 e2; subst e1; subst e2; exact .c _ _ (.int _ _)
    | succ i => simp at e1)
  generalize hG2 : G.put nbx (.obj w.heap.size) = G2 at n1 n2 n3
  obtain ⟨Bx, hBx⟩ : ∃ Bx, w.heap.size = Bx := ⟨_, rfl⟩
  have M2 : MRel E G2 (look ((nbx, .obj [.c (.int .i64 (r : Int))] false) :: S 0)) (w.alloc (.cells #[.int .i64 (r : Int)] 3)) := by
    rw [hS0]
    exact n3
  obtain ⟨a2, ha2⟩ : ∃ a2 : Act, a2 = { a with tmps := (a.tmps.setIfInBounds u (.int .i64 (r : Int))).setIfInBounds g (.func (.func 149) #[] #[.pointer (some ⟨w.heap.size, 0, none⟩)]) } := ⟨_, rfl⟩
  have R2 : RelM E false G2 ⟨(g, .undef) :: (u, .undef) :: s.t, (nbx, .obj [.c (.int .i64 (r : Int))] false) :: S 0⟩ a2 (w.alloc (.cells #[.int .i64 (r : Int)] 3)) := by
    refine ⟨⟨by rw [ha2]; simpa using hsz, rfl, fun i => ?_, M2.conv rfl rfl rfl rfl, fun n hn' => ?_⟩, by rw [ha2]; exact hd⟩
    · by_cases e1 : g = i
      · have : (AS.mk ((g, AV.undef) :: (u, .undef) :: s.t) ((nbx, .obj [.c (.int .i64 (r : Int))] false) :: S 0)).get i = .undef := by simp [AS.get, look, e1]
        rw [this]; exact .undef _
      · by_cases e2 : u = i
        · have : (AS.mk ((g, AV.undef) :: (u, .undef) :: s.t) ((nbx, .obj [.c (.int .i64 (r : Int))] false) :: S 0)).get i = .undef := by simp [AS.get, look, e1, e2]
          rw [this]; exact .undef _
        · have h3 : (AS.mk ((g, AV.undef) :: (u, .undef) :: s.t) ((nbx, .obj [.c (.int .i64 (r : Int))] false) :: S 0)).get i = s.get i := by simp [AS.get, look, e1, e2]
          have h4 : a2.tmps.getD i Go.undef = a.tmps.getD i Go.undef := by rw [ha2]; simp [Array.getElem?_setIfInBounds_ne e1, Array.getElem?_setIfInBounds_ne e2]
          rw [h3, h4]
          exact (R.tmps i).mono n1
    · obtain ⟨x, x', e1, e2, l⟩ := R.ent n hn'
      obtain ⟨y, e3, l2⟩ := n1.h n x' e2
      exact ⟨x, y, e1, e3, Home.le_trans l l2⟩
  have hge : a2.eval (.tmp g) = .func (.func 149) #[] #[.pointer (some ⟨Bx, 0, none⟩)] := by
    have hg' : g < a.tmps.size := by rw [hsz]; exact hg
    rw [ha2, hBx]; simp [Act.eval, hg']
  rw [← ha2]
  change Code.wpIn (rF E.ro) 0 _ (Code.block bid _) _ a2 _
  have hgB : G2.h nbx = some (.obj Bx) := by rw [← hBx]; exact n2
  refine wpIn_block (wpIn_mono (AWPm.range (Q := inBlockM bid Q) hro R2 hge hrows1 (fun q hq => by simp at hq; rcases hq with rfl | rfl; exact hp1; exact hp2) (belowP r r).length (fun i => [.c (.int .i64 ((prL r i).1 : Int)), .c (.int .i64 ((prL r i).2 : Int))])
    (fun i => (nbx, .obj [.c (.int .i64 (r : Int))] false) :: S i) (fun i => (nbx, .obj [.c (.int .i64 (r : Int))] false) :: S (i + 1)) ((nbx, .obj [.c (.int .i64 (r : Int))] false) :: S (belowP r r).length) (fun _ _ => rfl) s1
    (fun _ => rfl) hA hB ?it hQ) ?out)
  case out =>
    rintro e a' w' ⟨b', G', s', h2, h3⟩
    cases e with
    | exit id' =>
      simp only [inBlockM] at h2
      simp only [Exit.inBlock]
      by_cases e : id' = bid
      · rw [if_pos e] at h2 ⊢; exact ⟨b', G', s', h2, h3⟩
      · rw [if_neg e] at h2 ⊢; exact ⟨b', G', s', h2, h3⟩
    | _ => exact ⟨b', G', s', h2, h3⟩
  case it =>
    intro l' D rec W G3 hl' hD J hY
    refine (pairs_it l' Bx r hr5 (fun pre W => ∃ G, Btw E G2 l' D rec G ((nbx, .obj [.c (.int .i64 (r : Int))] false) :: S pre.length) W) ?hb ?hy W ⟨G3, J⟩).mono (fun e W' h => h)
    case hb =>
      rintro pre W ⟨G, J⟩
      exact J.ibox (n := nbx) (by simp [look]) hgB
    case hy =>
      rintro k d W hk hd ⟨G, J⟩
      obtain ⟨f1, f2, f3, f4⟩ := pfx_facts ⟨r, by omega⟩ ⟨k, by omega⟩ ⟨d, by omega⟩ hk hd
      dsimp only at f1 f2 f3 f4
      have := hY (pfx r k d).length W G [.int .i64 ((k + 1 : Nat) : Int), .int .i64 ((k + 1 + d : Nat) : Int)] f1 J rfl (fun j x y e1 e2 => by
        rw [f2] at e1
        match j, e1, e2 with
        | 0, e1, e2 => simp only [List.getElem?_cons_zero, Option.some.injEq] at e1 e2; subst e1; subst e2; exact .c _ _ (.int _ _)
        | 1, e1, e2 => simp only [List.getElem?_cons_succ, List.getElem?_cons_zero, Option.some.injEq] at e1 e2; subst e1; subst e2; exact .c _ _ (.int _ _)
        | j + 2, e1, e2 => simp at e1)
      refine YieldAt.mono this fun e W' ⟨h1, G', _, h2⟩ => ⟨h1, G', ?_⟩
      rw [f4]; exact h2

end Go.Proofs.Ytjdokoldiemobaa.AM
