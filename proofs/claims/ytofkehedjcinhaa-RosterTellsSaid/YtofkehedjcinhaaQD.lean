/-
  QD: Mk7 Mk8 Mk9 Sn4 Sn5.
-/
import Derived.Test.YtofkehedjcinhaaQC
import Derived.Test.YtofkehedjcinhaaQ9
set_option linter.unusedVariables false
set_option linter.unusedSimpArgs false
namespace Go.Proofs.Ytofkehedjcinhaa.AM
open Go Go.RowKit

variable {Γ : FuncId → Contract} {E : Env}

/-- What the iterator's box holds. -/
theorem Btw.box {G0 G : Gh} {l D : Nat} {rec : LoopState → Loop} {m : List (Nat × MC)} {W : World} (J : Btw E G0 l D rec G m W) {n Bx : Nat} {rows : List (List PC)} (hm : look m n = some (.obj [.c (.sl rows)] false)) (hg : G0.h n = some (.obj Bx)) :
    G.h n = some (.obj Bx) ∧ ∃ v ty, W.heap[Bx]? = some (.cells #[v] ty (0, 0)) ∧ VR G.K (.sl rows) v ∧ ∃ ad cap, v = .slice ad rows.length cap := by
  obtain ⟨h', e, l⟩ := J.le.h n _ hg
  cases l
  have hh := J.mem.home n
  rw [hm, e] at hh
  obtain ⟨vs, ty, a1, a2, a3, _⟩ := hh
  refine ⟨e, ?_⟩
  obtain ⟨ls⟩ := vs
  cases ls with
  | nil => simp at a2
  | cons v tl =>
    cases tl with
    | cons y tl => simp at a2
    | nil =>
      have hv := a3 0 _ v rfl rfl
      cases hv with
      | c _ _ hv =>
        obtain ⟨ad, cap, h1, _⟩ := hv.slice_form
        exact ⟨v, ty, a1, hv, ad, cap, h1⟩

theorem AWPm.rows (hS : SoundC Try.prog 53 upC) (hro : E.ro = none) {s : AS} {id bid : Nat} {ops : Array Oper} {o1 o2 : Oper} {c : Call} {t0 u g p : Tmp} {assign body : Code} {Q : Bool → Exit → AS → Prop} {l : List (List UInt8)}
    (hops : ops = #[o1, o2]) (h1 : o1.op = .move (.tmp t0)) (d1 : o1.dst = some u) (g1 : o1.guard = none) (h2 : o2.op = .call c) (hc : c.callee = .value (.func 36)) (hca : c.args = #[.tmp u]) (d2 : o2.dst = some g) (g2 : o2.guard = none)
    (hu : u < E.N.n) (hg : g < E.N.n) (hp : p < E.N.n) (hget : s.get t0 = .c (.sl (texts l))) (k nbx : Nat) (rs : Nat → List (List UInt8)) (hr0 : rs 0 = l) (hrs : ∀ i, rs (i + 1) = upS (rs i)) (hok : ∀ i, Okl (rs i)) (hgt : ∀ i, i < k → 1 < (rs i).length) (hle : (rs k).length ≤ 1)
    (hn : look s.m nbx = none) (S : Nat → List (Nat × MC)) (hS0 : S 0 = s.m) (s1 : Nat → AS)
    (hA : ∀ i, i ≤ k → ∀ E' : Env, E'.N = E.N → E'.ns = keys ((nbx, .obj [.c (.sl (texts (rs i)))] false) :: S i) →
      AWP Try.prog E' assign (fun e s' => e = .normal ∧ s' = s1 i) ⟨(p, .c (.sl (texts (rs i)))) :: (g, .undef) :: (u, .undef) :: s.t, (nbx, .obj [.c (.sl (texts (rs i)))] false) :: S i⟩)
    (hB : ∀ i, i ≤ k → ∀ E' : Env, E'.N = E.N → E'.ns = keys (s1 i).m → AWP Try.prog E' body (fun e s' => e = .normal ∧ Weak (keys (s1 i).m) s' ⟨[], (nbx, .obj [.c (.sl (texts (rs i)))] false) :: S (i + 1)⟩) (s1 i))
    (hQ : Q true .normal ⟨(g, .undef) :: (u, .undef) :: s.t, (nbx, .obj [.c (.sl (texts (rs k)))] false) :: S (k + 1)⟩) :
    AWPm Try.prog E false (.seq (.region id ops false) (.block bid (.rangeFunc (.tmp g) #[p] assign body))) Q s := by
  rintro G a w ⟨R, hd⟩
  have hd' : a.defers = [] := hd
  have hsz : a.tmps.size = E.N.n := R.size
  have hv := R.tmps t0
  rw [hget] at hv
  generalize hvv : a.tmps.getD t0 Go.undef = v at hv
  cases hv with
  | c _ _ hv =>
  obtain ⟨ad, cap, hform, _⟩ := hv.slice_form
  have hrows : EnterOK Try.prog 36 := ⟨_, Try.func36, rfl, rfl⟩
  have hrows1 : EnterOK Try.prog 52 := ⟨_, Try.func52, rfl, rfl⟩
  have hcall : Calls Try.prog 36 #[v] w fun e w' => e = .returned (.func (.func 52) #[] #[.pointer (some ⟨w.heap.size, 0, none⟩)]) ∧ w' = w.alloc (.cells #[v] 43) := by
    rw [hform]; exact rows_calls ad _ cap w
  refine wpIn_seq (region_made hops (move_at h1 hvv) (fun c hc => by rw [h1] at hc; cases hc) d1 g1 h2 hc hca d2 g2 hrows (by rw [hsz]; exact hu) hcall ?_)
  have M := R.mem.conv (E' := E) rfl rfl rfl rfl
  obtain ⟨n1, n2, n3⟩ := M.newObj (n := nbx) hn (cells := [.c (.sl (texts l))]) (vs := #[v]) (ty := 43) rfl (fun i x u e1 e2 => by
    cases i with
    | zero => simp at e1 e2; subst e1; subst e2; exact .c _ _ hv
    | succ i => simp at e1)
  generalize hG2 : G.put nbx (.obj w.heap.size) = G2 at n1 n2 n3
  obtain ⟨Bx, hBx⟩ : ∃ Bx, w.heap.size = Bx := ⟨_, rfl⟩
  have M2 : MRel E G2 (look ((nbx, .obj [.c (.sl (texts (rs 0)))] false) :: S 0)) (w.alloc (.cells #[v] 43)) := by
    rw [hr0, hS0]
    exact n3
  obtain ⟨a2, ha2⟩ : ∃ a2 : Act, a2 = { a with tmps := (a.tmps.setIfInBounds u v).setIfInBounds g (.func (.func 52) #[] #[.pointer (some ⟨w.heap.size, 0, none⟩)]) } := ⟨_, rfl⟩
  have R2 : RelM E false G2 ⟨(g, .undef) :: (u, .undef) :: s.t, (nbx, .obj [.c (.sl (texts (rs 0)))] false) :: S 0⟩ a2 (w.alloc (.cells #[v] 43)) := by
    refine ⟨⟨by rw [ha2]; simpa using hsz, rfl, fun i => ?_, M2.conv rfl rfl rfl rfl, fun n hn' => ?_⟩, by rw [ha2]; exact hd⟩
    · by_cases e1 : g = i
      · have : (AS.mk ((g, AV.undef) :: (u, .undef) :: s.t) ((nbx, .obj [.c (.sl (texts (rs 0)))] false) :: S 0)).get i = .undef := by simp [AS.get, look, e1]
        rw [this]; exact .undef _
      · by_cases e2 : u = i
        · have : (AS.mk ((g, AV.undef) :: (u, .undef) :: s.t) ((nbx, .obj [.c (.sl (texts (rs 0)))] false) :: S 0)).get i = .undef := by simp [AS.get, look, e1, e2]
          rw [this]; exact .undef _
        · have h3 : (AS.mk ((g, AV.undef) :: (u, .undef) :: s.t) ((nbx, .obj [.c (.sl (texts (rs 0)))] false) :: S 0)).get i = s.get i := by simp [AS.get, look, e1, e2]
          have h4 : a2.tmps.getD i Go.undef = a.tmps.getD i Go.undef := by rw [ha2]; simp [Array.getElem?_setIfInBounds_ne e1, Array.getElem?_setIfInBounds_ne e2]
          rw [h3, h4]
          exact (R.tmps i).mono n1
    · obtain ⟨x, x', e1, e2, l⟩ := R.ent n hn'
      obtain ⟨y, e3, l2⟩ := n1.h n x' e2
      exact ⟨x, y, e1, e3, Home.le_trans l l2⟩
  have hge : a2.eval (.tmp g) = .func (.func 52) #[] #[.pointer (some ⟨Bx, 0, none⟩)] := by
    have hg' : g < a.tmps.size := by rw [hsz]; exact hg
    rw [ha2, hBx]; simp [Act.eval, hg']
  rw [← ha2]
  change Code.wpIn (rF E.ro) 0 _ (Code.block bid _) _ a2 _
  have hgB : G2.h nbx = some (.obj Bx) := by rw [← hBx]; exact n2
  refine wpIn_block (wpIn_mono (AWPm.range (Q := inBlockM bid Q) hro R2 hge hrows1 (fun q hq => by simp at hq; subst hq; exact hp) (k + 1) (fun i => [.c (.sl (texts (rs i)))])
    (fun i => (nbx, .obj [.c (.sl (texts (rs i)))] false) :: S i) (fun i => (nbx, .obj [.c (.sl (texts (rs i)))] false) :: S (i + 1)) ((nbx, .obj [.c (.sl (texts (rs k)))] false) :: S (k + 1)) (fun _ _ => rfl) s1
    (fun _ => rfl) (fun i hi => hA i (by omega)) (fun i hi => hB i (by omega)) ?it hQ) ?out)
  case out =>
    rintro e a' w' ⟨b', G', s', h2, h3⟩
    cases e with
    | exit id' =>
      simp only [inBlockM] at h2
      simp only [Exit.inBlock]
      by_cases e : id' = bid
      · rw [if_pos e] at h2 ⊢; exact ⟨b', G', s', h2, h3⟩
      · rw [if_neg e] at h2 ⊢; exact ⟨b', G', s', h2, h3⟩
    | _ => exact ⟨b', G', s', h2, h3⟩
  case it =>
    intro l' D rec W G3 hl' hD J hY
    refine (rows_it l' Bx k (fun i => (rs i).length) (fun i W => ∃ G, Btw E G2 l' D rec G ((nbx, .obj [.c (.sl (texts (rs i)))] false) :: S i) W) (fun i W => ∃ G, Btw E G2 l' D rec G ((nbx, .obj [.c (.sl (texts (rs i)))] false) :: S (i + 1)) W)
      hgt hle ?hb ?hb' ?hy ?hup W ⟨G3, J⟩).mono (fun e W' h => h)
    case hb =>
      rintro i W ⟨G, J⟩
      obtain ⟨_, v, ty, q1, _⟩ := J.box (n := nbx) (rows := texts (rs i)) (by simp [look]) hgB
      exact ⟨v, by simp [World.cell?, q1]⟩
    case hb' =>
      rintro i W ⟨G, J⟩
      obtain ⟨_, v, ty, q1, _, ad, cap, rfl⟩ := J.box (n := nbx) (rows := texts (rs i)) (by simp [look]) hgB
      exact ⟨ad, cap, by simp [World.cell?, q1, texts_length]⟩
    case hy =>
      rintro i W v hi ⟨G, J⟩ hv
      obtain ⟨_, v', ty, q1, q2, _⟩ := J.box (n := nbx) (rows := texts (rs i)) (by simp [look]) hgB
      have : v' = v := by simpa [World.cell?, q1] using hv
      subst this
      refine (hY i W G [v'] (by omega) J rfl (fun j x u e1 e2 => ?_)).mono (fun e W' ⟨h1, G', _, h2⟩ => ⟨h1, G', h2⟩)
      cases j with
      | zero => simp at e1 e2; subst e1; subst e2; exact .c _ _ q2
      | succ j => simp at e1
    case hup =>
      rintro i W v hi ⟨G, J⟩ hv
      obtain ⟨q0, v', ty, q1, q2, _⟩ := J.box (n := nbx) (rows := texts (rs i)) (by simp [look]) hgB
      have : v' = v := by simpa [World.cell?, q1] using hv
      subst this
      refine Calls.mono (J.mem.call0 hS (up_at (rs i) (hok i)) (vals := [v']) rfl (fun j x u e1 e2 => ?_)) ?_
      · cases j with
        | zero => simp at e1 e2; subst e1; subst e2; exact .c _ _ q2
        | succ j => simp at e1
      · rintro e W' ⟨G', x, rfl, hle', hh, M', hx, hblk, hsz'⟩
        cases hx with
        | c _ _ hx =>
        obtain ⟨ad, cap, hform, _⟩ := hx.slice_form
        have hB' : W'.heap[Bx]? = some (.cells #[v'] ty (0, 0)) := (hblk Bx (heap_some_lt q1)).trans q1
        refine ⟨ad, _, cap, by rw [hform], ⟨v', by simp [World.cell?, hB']⟩, by simp [World.frozen?, hB'], G', ?_⟩
        rw [← hform]
        have hset : W'.setCell ⟨Bx, 0, none⟩ x = W'.setRow Bx #[x] := by rw [setCell_eq_setRow W' Bx 0 #[v'] ty (0, 0) x hB']; rfl
        rw [hset]
        have hll := J.loop
        have hdd := J.dfr
        have hlb : l' ≠ Bx := fun e => by rw [e, q1] at hll; cases hll
        have hdb : D ≠ Bx := fun e => by rw [e, q1] at hdd; cases hdd
        refine ⟨?_, Gh.le_trans J.le hle', ?_, ?_⟩
        · have := M'.setObj (n := nbx) (b := Bx) (cells := [.c (.sl (texts (rs i)))]) (cells' := [.c (.sl (texts (rs (i + 1))))]) (vs' := #[x]) (by simp [look]) (by rw [hh]; exact q0) rfl (fun j y z e1 e2 => by
            cases j with
            | zero => simp at e1 e2; subst e1; subst e2; rw [hrs]; exact .c _ _ hx
            | succ j => simp at e1)
          refine this.congr fun n => ?_
          simp only [look, mset]
          split <;> rfl
        · exact (setRow_other W' Bx l' _ hlb).trans ((hblk l' (heap_some_lt hll)).trans hll)
        · exact (setRow_other W' Bx D _ hdb).trans ((hblk D (heap_some_lt hdd)).trans hdd)


variable {Γ : FuncId → Contract}

noncomputable def upN (l : List (List UInt8)) : Nat → List (List UInt8)
  | 0 => l
  | i + 1 => upS (upN l i)
theorem upN_up (l : List (List UInt8)) : ∀ i, upN (upS l) i = upN l (i + 1)
  | 0 => rfl
  | i + 1 => by rw [upN, upN_up l i]; rfl
theorem upN_ok {l : List (List UInt8)} (h : Okl l) : ∀ i, Okl (upN l i)
  | 0 => h
  | i + 1 => upS_ok (upN_ok h i)
theorem depth : ∀ (n : Nat) (l : List (List UInt8)), l.length ≤ n → ∃ k, (∀ i, i < k → 1 < (upN l i).length) ∧ (upN l k).length ≤ 1
  | 0, l, h => ⟨0, fun i hi => by omega, by show l.length ≤ 1; omega⟩
  | n + 1, l, h => by
    by_cases h1 : l.length ≤ 1
    · exact ⟨0, fun i hi => by omega, h1⟩
    · have hl := upS_length l
      obtain ⟨k, h2, h3⟩ := depth n (upS l) (by omega)
      refine ⟨k + 1, fun i hi => ?_, by rw [← upN_up]; exact h3⟩
      cases i with
      | zero => show 1 < l.length; omega
      | succ i => rw [← upN_up]; exact h2 i (by omega)
theorem root_upN {l : List (List UInt8)} {k : Nat} (h : ∀ i, i < k → 1 < (upN l i).length) : ∀ i, i ≤ k → rootS (upN l i) = rootS l
  | 0, _ => rfl
  | i + 1, hi => by
    rw [← root_upN h i (by omega), rootS_gt (l := upN l i) (by have := h i (by omega); omega)]
    rfl

set_option maxRecDepth 100000 in
set_option maxHeartbeats 1000000 in
theorem root_sound (hΓ : SoundG Try.prog Γ) (h2 : Γ 53 = upC) (hS : SoundC Try.prog 53 upC) : SoundC Try.prog 21 rootC := by
  refine sound_fnM ⟨[], []⟩ Try.func21 (by kernel_rfl) rfl rfl ?_ ?_
  · rw [rs_21]; intro r hr; simp at hr; exact ⟨_, hr⟩
  intro args objs r hr
  obtain ⟨l, hl, rfl, rfl, rfl⟩ := mkC_inv hr
  refine ⟨rfl, by show 1 ≤ _; decide, fun E hro hN hns hF => ?_⟩
  have hN := hN.trans nt_21
  refine AWPm.seq (AWPm.of fun E' hE hns' => vc_sound hΓ mixed _ _ _ ?_)
  have hN' : E'.N.n = _ := (congrArg Lim.n hE).trans hN
  have hF' : E'.N.adv = _ := (congrArg Lim.adv hE).trans hF
  simp only [runA, runB, runC, runD, runE, runF, fieldE, storeE, binE, ↓reduceIte, Nat.reduceLT, Nat.reduceLeDiff, Nat.reduceEqDiff, Nat.reduceAdd, Nat.reduceMul, Nat.reduceSub, reduceCtorEq, putAt, unE, Nat.reduceBEq, convE, buildE, List.replicate, Int.reduceLT, Int.reduceLE, Int.reduceToNat, mkE, mapSetE, hN', hF', ty_3, ty_9, ty_43, notIf, isEq, thenM_normal]
  refine AWPm.seq (AWPm.of fun E' hE hns' => vc_sound hΓ mixed _ _ _ ?_)
  have hN' : E'.N.n = _ := (congrArg Lim.n hE).trans hN
  have hF' : E'.N.adv = _ := (congrArg Lim.adv hE).trans hF
  simp only [runA, runB, runC, runD, runE, runF, fieldE, storeE, binE, ↓reduceIte, Nat.reduceLT, Nat.reduceLeDiff, Nat.reduceEqDiff, Nat.reduceAdd, Nat.reduceMul, Nat.reduceSub, reduceCtorEq, putAt, unE, Nat.reduceBEq, convE, buildE, List.replicate, Int.reduceLT, Int.reduceLE, Int.reduceToNat, mkE, mapSetE, hN', hF', ty_3, ty_9, ty_43, notIf, isEq, thenM_normal]
  refine AWPm.weak (s2 := ⟨[(3, .ptr 192 0), (0, .c (.sl (texts l)))], [(192, .obj [.c (.str [])] false)]⟩) (by rw [hns]; simp only [runB, finC, finD, AS.get, AS.mem, false_implies, implies_true, ↓reduceIte, Nat.reduceEqDiff, Option.isSome_some, Option.isSome_none, forall_eq_or_imp, forall_eq, reduceCtorEq, Nat.reduceAdd, Nat.reduceMul, List.zip_cons_cons, List.zip_nil_left, List.zip_nil_right, List.forall_mem_nil]; first | done | simp) ?_
  obtain ⟨k, hk1, hk2⟩ := depth l.length l (Nat.le_refl _)
  have hroot := root_upN hk1
  refine AWPm.seq (AWPm.rows hS hro (l := l) rfl rfl rfl rfl rfl rfl rfl rfl rfl (by rw [hN]; decide) (by rw [hN]; decide) (by rw [hN]; decide) rfl k 384 (upN l) rfl (fun _ => rfl) (upN_ok hl) hk1 hk2 rfl
    (fun i => [(192, .obj [.c (.str (if i ≤ k then [] else rootS l))] false)]) (by simp)
    (fun i => ⟨[(4, .c (.sl (texts (upN l i)))), (7, .c (.sl (texts (upN l i)))), (6, .undef), (5, .undef), (3, .ptr 192 0), (0, .c (.sl (texts l)))], [(384, .obj [.c (.sl (texts (upN l i)))] false), (192, .obj [.c (.str (if i ≤ k then [] else rootS l))] false)]⟩) ?hA ?hB ?hQ)
  case hA =>
    intro i hi E' hE hns'
    have hN' : E'.N.n = _ := (congrArg Lim.n hE).trans hN
    have hF' : E'.N.adv = _ := (congrArg Lim.adv hE).trans hF
    refine vc_sound hΓ mixed _ _ _ ?_
    simp only [runA, runB, runC, runD, runE, runF, fieldE, storeE, binE, ↓reduceIte, Nat.reduceLT, Nat.reduceLeDiff, Nat.reduceEqDiff, Nat.reduceAdd, Nat.reduceMul, Nat.reduceSub, reduceCtorEq, putAt, unE, Nat.reduceBEq, convE, buildE, List.replicate, Int.reduceLT, Int.reduceLE, Int.reduceToNat, mkE, mapSetE, hN', hF', ty_3, ty_9, ty_43, notIf, isEq]
  case hB =>
    intro i hi E' hE hns'
    have hN' : E'.N.n = _ := (congrArg Lim.n hE).trans hN
    have hF' : E'.N.adv = _ := (congrArg Lim.adv hE).trans hF
    refine vc_sound hΓ mixed _ _ _ ?_
    rw [if_pos hi]
    by_cases h1 : (upN l i).length = 1
    · have hik : i = k := by
        rcases Nat.lt_or_ge i k with h | h
        · have := hk1 i h; omega
        · omega
      subst hik
      have g1 : (((upN l i).length : Int) == 1) = true := by simp [h1]
      have hr := hroot i (Nat.le_refl _)
      rw [rootS_le (by omega)] at hr
      obtain ⟨x, hx⟩ := List.length_eq_one_iff.1 h1
      rw [hx] at hr g1 ⊢
      have hr : x = rootS l := hr
      have hi1 : ¬ (i + 1 ≤ i) := by omega
      have g2 : (((1 : Nat) : Int) == 1) = true := rfl
      rw [if_neg hi1, ← hr]
      simp only [runA, runB, runC, runD, runE, runF, fieldE, storeE, binE, ↓reduceIte, Nat.reduceLT, Nat.reduceLeDiff, Nat.reduceEqDiff, Nat.reduceAdd, Nat.reduceMul, Nat.reduceSub, reduceCtorEq, putAt, unE, Nat.reduceBEq, convE, buildE, List.replicate, Int.reduceLT, Int.reduceLE, Int.reduceToNat, mkE, mapSetE, hN', hF', ty_3, ty_9, ty_43, notIf, isEq, g2, texts]
      simp only [runB, finC, finD, AS.get, AS.mem, false_implies, implies_true, ↓reduceIte, Nat.reduceEqDiff, Option.isSome_some, Option.isSome_none, forall_eq_or_imp, forall_eq, reduceCtorEq, Nat.reduceAdd, Nat.reduceMul, List.zip_cons_cons, List.zip_nil_left, List.zip_nil_right, List.forall_mem_nil]
      first | done | simp
    · have g1 : (((upN l i).length : Int) == 1) = false := by simp; omega
      have hif : (if i + 1 ≤ k then ([] : List UInt8) else rootS l) = [] := by
        split
        · rfl
        · obtain rfl : i = k := by omega
          have hr := hroot i (Nat.le_refl _)
          rw [rootS_le (by omega)] at hr
          have : upN l i = [] := List.eq_nil_of_length_eq_zero (by omega)
          rw [this] at hr
          exact hr.symm
      rw [hif]
      simp only [runA, runB, runC, runD, runE, runF, fieldE, storeE, binE, ↓reduceIte, Nat.reduceLT, Nat.reduceLeDiff, Nat.reduceEqDiff, Nat.reduceAdd, Nat.reduceMul, Nat.reduceSub, reduceCtorEq, putAt, unE, Nat.reduceBEq, convE, buildE, List.replicate, Int.reduceLT, Int.reduceLE, Int.reduceToNat, mkE, mapSetE, hN', hF', ty_3, ty_9, ty_43, notIf, isEq, g1, texts_length]
      simp only [runB, finC, finD, AS.get, AS.mem, false_implies, implies_true, ↓reduceIte, Nat.reduceEqDiff, Option.isSome_some, Option.isSome_none, forall_eq_or_imp, forall_eq, reduceCtorEq, Nat.reduceAdd, Nat.reduceMul, List.zip_cons_cons, List.zip_nil_left, List.zip_nil_right, List.forall_mem_nil]
      first | done | simp
  case hQ =>
    rw [if_neg (by omega), thenM_normal]
    refine AWPm.of fun E' hE hns' => vc_sound hΓ mixed _ _ _ ?_
    have hN' : E'.N.n = _ := (congrArg Lim.n hE).trans hN
    have hF' : E'.N.adv = _ := (congrArg Lim.adv hE).trans hF
    simp only [runA, runB, runC, runD, runE, runF, fieldE, storeE, binE, ↓reduceIte, Nat.reduceLT, Nat.reduceLeDiff, Nat.reduceEqDiff, Nat.reduceAdd, Nat.reduceMul, Nat.reduceSub, reduceCtorEq, putAt, unE, Nat.reduceBEq, convE, buildE, List.replicate, Int.reduceLT, Int.reduceLE, Int.reduceToNat, mkE, mapSetE, hN', hF', ty_3, ty_9, ty_43, notIf, isEq]
    simp only [runB, finC, finD, Option.isSome_some, Option.isSome_none, ↓reduceIte, Nat.reduceEqDiff, Nat.reduceAdd, Nat.reduceMul, forall_eq_or_imp, forall_eq, implies_true, Nat.reduceBEq, reduceCtorEq, false_implies, List.zip_cons_cons, List.zip_nil_left, List.zip_nil_right, Nat.reduceLeDiff, List.forall_mem_nil, rs_21]


variable {Γ : FuncId → Contract}


variable {Γ : FuncId → Contract}

structure Ky where
  seed : List UInt8
  leaves : List (List UInt8)
  next : Int
  deriving DecidableEq
def Ky.av (k : Ky) : AV := .agg [.c (.str k.seed), .c (.sl (texts k.leaves)), .c (.int .i64 k.next)]
theorem Ky.av_inj {a b : Ky} (h : a.av = b.av) : a = b := by
  obtain ⟨a1, a2, a3⟩ := a
  obtain ⟨b1, b2, b3⟩ := b
  simp only [Ky.av, AV.agg.injEq, List.cons.injEq, AV.c.injEq, PC.str.injEq, PC.sl.injEq, PC.int.injEq, true_and, and_true] at h
  obtain ⟨rfl, h, rfl⟩ := h
  rw [texts_inj h]
def okN16 (n : Nat) : Prop := n = 1 ∨ n = 2 ∨ n = 4 ∨ n = 8 ∨ n = 16
instance (n : Nat) : Decidable (okN16 n) := inferInstanceAs (Decidable (_ ∨ _))
def goodK (k : Ky) : Prop := k.seed.length ≤ 64 ∧ okN16 k.leaves.length ∧ all8 k.leaves ∧ 0 ≤ k.next ∧ k.next ≤ (k.leaves.length : Int)
instance (k : Ky) : Decidable (goodK k) := inferInstanceAs (Decidable (_ ∧ _))
def keyS (k : Ky) : Int := if goodK k then 0 else 9
theorem goodK.okl {k : Ky} (h : goodK k) : Okl k.leaves := by
  obtain ⟨_, h1, h2, _⟩ := h
  refine ⟨by unfold okN16 at h1; omega, fun s hs => by rw [h2 s hs]; decide⟩

def oddC : Contract := fun args objs => match args, objs with
  | [.c (.str s)], [] => some ⟨[.pv (.c (.bool ((s.length : Int) != 8)))], []⟩
  | _, _ => none
set_option maxHeartbeats 1000000 in
theorem odd_sound : SoundC Try.prog 34 oddC := by
  refine sound_fn Try.func34 (by kernel_rfl) rfl rfl ?_
  intro args objs r hr
  unfold oddC at hr
  split at hr
  · rename_i s
    cases hr
    refine ⟨rfl, by show 1 ≤ _; decide, fun E hN hns hF => ?_⟩
    refine vc_sound none0_sound mixed _ _ _ ?_
    have hN := hN.trans nt_34
    simp only [runA, runB, runC, runD, runE, runF, fieldE, storeE, binE, ↓reduceIte, Nat.reduceLT, Nat.reduceLeDiff, Nat.reduceEqDiff, Nat.reduceAdd, Nat.reduceMul, Nat.reduceSub, reduceCtorEq, putAt, unE, Nat.reduceBEq, convE, buildE, List.replicate, Int.reduceLT, Int.reduceLE, Int.reduceToNat, mkE, mapSetE, hN, hF, ty_3, ty_4, ty_9, notIf, isEq]
    simp only [runB, finC, finD, Option.isSome_some, Option.isSome_none, ↓reduceIte, Nat.reduceEqDiff, Nat.reduceAdd, Nat.reduceMul, forall_eq_or_imp, forall_eq, implies_true, Nat.reduceBEq, reduceCtorEq, false_implies, List.zip_cons_cons, List.zip_nil_left, List.zip_nil_right, Nat.reduceLeDiff, List.forall_mem_nil, rs_34]
  · cases hr
def oddIdx (l : List (List UInt8)) : Int := match l.findIdx? (fun s => s.length != 8) with | some i => (i : Int) | none => -1
theorem oddIdx_some {l : List (List UInt8)} {i : Nat} (hi : i < l.length) (h : (l.getD i []).length ≠ 8) (hb : ∀ k, k < i → (l.getD k []).length = 8) : oddIdx l = (i : Int) := by
  have : l.findIdx? (fun s => s.length != 8) = some i := by
    rw [List.findIdx?_eq_some_iff_getElem]
    refine ⟨hi, ?_, fun j hj => ?_⟩
    · rw [List.getD, List.getElem?_eq_getElem hi] at h
      simpa using h
    · have := hb j hj
      rw [List.getD, List.getElem?_eq_getElem (by omega)] at this
      simpa using this
  unfold oddIdx
  rw [this]
theorem oddIdx_none {l : List (List UInt8)} (h : all8 l) : oddIdx l = -1 := by
  have : l.findIdx? (fun s => s.length != 8) = none := by
    rw [List.findIdx?_eq_none_iff]
    intro x hx
    simp [h x hx]
  unfold oddIdx
  rw [this]
theorem all8_of {l : List (List UInt8)} (h : ∀ k, k < l.length → (l.getD k []).length = 8) : all8 l := fun p hp => by
  obtain ⟨k, hk, rfl⟩ := List.getElem_of_mem hp
  have := h k hk
  rw [List.getD, List.getElem?_eq_getElem hk] at this
  exact this
theorem oddIdx_ge (l : List (List UInt8)) : decide (oddIdx l ≥ 0) = !decide (all8 l) := by
  by_cases h : all8 l
  · rw [oddIdx_none h, decide_eq_true h]; rfl
  · rw [decide_eq_false h]
    have : ∃ i, l.findIdx? (fun s => s.length != 8) = some i := by
      cases hf : l.findIdx? (fun s => s.length != 8) with
      | some i => exact ⟨i, rfl⟩
      | none =>
        rw [List.findIdx?_eq_none_iff] at hf
        exact absurd (fun p hp => by simpa using hf p hp) h
    obtain ⟨i, hi⟩ := this
    unfold oddIdx
    rw [hi]
    simp
noncomputable def idxFC : Contract := mkC (α := List (List UInt8)) (fun l => l.length ≤ 9223372036854775807) (fun l => [.c (.sl (texts l)), .clo 34 []]) (fun _ => []) (fun l => ⟨[.pv (.c (.int .i64 (oddIdx l)))], []⟩)
theorem idxF_at (l : List (List UInt8)) (h : l.length ≤ 9223372036854775807) : idxFC [.c (.sl (texts l)), .clo 34 []] [] = some ⟨[.pv (.c (.int .i64 (oddIdx l)))], []⟩ :=
  mkC_at (α := List (List UInt8)) l h (by
    rintro y _ h _
    simp only [List.cons.injEq, AV.c.injEq, PC.sl.injEq, true_and, and_true] at h
    rw [texts_inj h])
set_option maxHeartbeats 1000000 in
theorem idxF_sound (hΓ : SoundG Try.prog Γ) (h1 : Γ 34 = oddC) : SoundC Try.prog 51 idxFC := by
  refine sound_fn Try.func51 (by kernel_rfl) rfl rfl ?_
  intro args objs r hr
  obtain ⟨l, hl, rfl, rfl, rfl⟩ := mkC_inv hr
  have hl : l.length ≤ 9223372036854775807 := hl
  refine ⟨rfl, by show 2 ≤ _; decide, fun E hN hns hF => ?_⟩
  refine vc_sound hΓ mixed _ _ _ ?_
  have hN := hN.trans nt_51
  simp only [runA, runB, runC, runD, runE, runF, fieldE, storeE, binE, ↓reduceIte, Nat.reduceLT, Nat.reduceLeDiff, Nat.reduceEqDiff, Nat.reduceAdd, Nat.reduceMul, Nat.reduceSub, reduceCtorEq, putAt, unE, Nat.reduceBEq, convE, buildE, List.replicate, Int.reduceLT, Int.reduceLE, Int.reduceToNat, mkE, mapSetE, hN, hF, ty_3, ty_9, ty_43, notIf, isEq, texts_length]
  refine AWP.loop (fun k st => ∃ i : Nat, (i ≤ l.length ∧ ∀ k, k < i → (l.getD k []).length = 8) ∧ k = l.length - i ∧ st = ⟨[(0, .c (.sl (texts l))), (1, .clo 34 []), (7, .c (.int .i64 (l.length : Int))), (8, .c (.int .i64 (i : Int)))], []⟩) ⟨l.length, _, ?w, 0, ⟨Nat.zero_le _, fun k hk => absurd hk (Nat.not_lt_zero k)⟩, rfl, rfl⟩ ?r
  case w =>
    rw [hns]
    simp only [runB, finC, finD, AS.get, AS.mem, false_implies, implies_true, ↓reduceIte, Nat.reduceEqDiff, Option.isSome_some, Option.isSome_none, forall_eq_or_imp, forall_eq, reduceCtorEq, Nat.reduceAdd, Nat.reduceMul, List.zip_cons_cons, List.zip_nil_left, List.zip_nil_right, List.forall_mem_nil]
    first | done | simp
  case r =>
    rintro k st ⟨i, ⟨hi, h8⟩, rfl, rfl⟩
    refine vc_sound hΓ mixed _ _ _ ?_
    by_cases hlt : i < l.length
    · have k1 : decide ((i : Int) < (l.length : Int)) = true := by simpa using hlt
      have e1 : IntKind.i64.wrap ((i : Int) + 1) = (i : Int) + 1 := wrapI (by omega)
      have hg := textsD l i hlt
      by_cases hp8 : (l.getD i []).length = 8
      · have k2 : (((l.getD i []).length : Int) != 8) = false := ne8f hp8
        have h8' : ∀ k, k < i + 1 → (l.getD k []).length = 8 := fun k hk => by
          by_cases e : k = i
          · rw [e]; exact hp8
          · exact h8 k (by omega)
        generalize l.getD i [] = q at hg k2
        simp only [runA, runB, runC, runD, runE, runF, fieldE, storeE, binE, ↓reduceIte, Nat.reduceLT, Nat.reduceLeDiff, Nat.reduceEqDiff, Nat.reduceAdd, Nat.reduceMul, Nat.reduceSub, reduceCtorEq, putAt, unE, Nat.reduceBEq, convE, buildE, List.replicate, Int.reduceLT, Int.reduceLE, Int.reduceToNat, mkE, mapSetE, hN, hF, ty_3, ty_9, ty_43, notIf, isEq, k1, k2, e1, hg, h1, oddC]
        refine ⟨l.length - (i + 1), _, by omega, ?_, i + 1, ⟨by omega, h8'⟩, rfl, rfl⟩
        rw [hns]
        simp only [runB, finC, finD, AS.get, AS.mem, false_implies, implies_true, ↓reduceIte, Nat.reduceEqDiff, Option.isSome_some, Option.isSome_none, forall_eq_or_imp, forall_eq, reduceCtorEq, Nat.reduceAdd, Nat.reduceMul, List.zip_cons_cons, List.zip_nil_left, List.zip_nil_right, List.forall_mem_nil]
        first | done | simp
      · have k2 : (((l.getD i []).length : Int) != 8) = true := ne8t hp8
        have hS := oddIdx_some hlt hp8 h8
        generalize l.getD i [] = q at hg k2
        simp only [runA, runB, runC, runD, runE, runF, fieldE, storeE, binE, ↓reduceIte, Nat.reduceLT, Nat.reduceLeDiff, Nat.reduceEqDiff, Nat.reduceAdd, Nat.reduceMul, Nat.reduceSub, reduceCtorEq, putAt, unE, Nat.reduceBEq, convE, buildE, List.replicate, Int.reduceLT, Int.reduceLE, Int.reduceToNat, mkE, mapSetE, hN, hF, ty_3, ty_9, ty_43, notIf, isEq, k1, k2, e1, hg, h1, oddC]
        simp only [runB, finC, finD, Option.isSome_some, Option.isSome_none, ↓reduceIte, Nat.reduceEqDiff, Nat.reduceAdd, Nat.reduceMul, forall_eq_or_imp, forall_eq, implies_true, Nat.reduceBEq, reduceCtorEq, false_implies, List.zip_cons_cons, List.zip_nil_left, List.zip_nil_right, Nat.reduceLeDiff, List.forall_mem_nil, rs_51, hS]
    · have k1 : decide ((i : Int) < (l.length : Int)) = false := by simpa using hlt
      obtain rfl : i = l.length := by omega
      have hS := oddIdx_none (all8_of h8)
      simp only [runA, runB, runC, runD, runE, runF, fieldE, storeE, binE, ↓reduceIte, Nat.reduceLT, Nat.reduceLeDiff, Nat.reduceEqDiff, Nat.reduceAdd, Nat.reduceMul, Nat.reduceSub, reduceCtorEq, putAt, unE, Nat.reduceBEq, convE, buildE, List.replicate, Int.reduceLT, Int.reduceLE, Int.reduceToNat, mkE, mapSetE, hN, hF, ty_3, ty_9, ty_43, notIf, isEq, k1]
      simp only [runB, finC, finD, Option.isSome_some, Option.isSome_none, ↓reduceIte, Nat.reduceEqDiff, Nat.reduceAdd, Nat.reduceMul, forall_eq_or_imp, forall_eq, implies_true, Nat.reduceBEq, reduceCtorEq, false_implies, List.zip_cons_cons, List.zip_nil_left, List.zip_nil_right, Nat.reduceLeDiff, List.forall_mem_nil, rs_51, hS]

noncomputable def conFC : Contract := mkC (α := List (List UInt8)) (fun l => l.length ≤ 9223372036854775807) (fun l => [.c (.sl (texts l)), .clo 34 []]) (fun _ => []) (fun l => ⟨[.pv (.c (.bool (!decide (all8 l))))], []⟩)
theorem conF_at (l : List (List UInt8)) (h : l.length ≤ 9223372036854775807) : conFC [.c (.sl (texts l)), .clo 34 []] [] = some ⟨[.pv (.c (.bool (!decide (all8 l))))], []⟩ :=
  mkC_at (α := List (List UInt8)) l h (by
    rintro y _ h _
    simp only [List.cons.injEq, AV.c.injEq, PC.sl.injEq, true_and, and_true] at h
    rw [texts_inj h])
set_option maxHeartbeats 1000000 in
theorem conF_sound (hΓ : SoundG Try.prog Γ) (h1 : Γ 51 = idxFC) : SoundC Try.prog 35 conFC := by
  refine sound_fn Try.func35 (by kernel_rfl) rfl rfl ?_
  intro args objs r hr
  obtain ⟨l, hl, rfl, rfl, rfl⟩ := mkC_inv hr
  refine ⟨rfl, by show 2 ≤ _; decide, fun E hN hns hF => ?_⟩
  refine vc_sound hΓ mixed _ _ _ ?_
  have hN := hN.trans nt_35
  have h2 := idxF_at l hl
  have h3 := oddIdx_ge l
  simp only [runA, runB, runC, runD, runE, runF, fieldE, storeE, binE, ↓reduceIte, Nat.reduceLT, Nat.reduceLeDiff, Nat.reduceEqDiff, Nat.reduceAdd, Nat.reduceMul, Nat.reduceSub, reduceCtorEq, putAt, unE, Nat.reduceBEq, convE, buildE, List.replicate, Int.reduceLT, Int.reduceLE, Int.reduceToNat, mkE, mapSetE, hN, hF, ty_3, ty_4, ty_9, ty_43, notIf, isEq, h1, h2, h3]
  simp only [runB, finC, finD, Option.isSome_some, Option.isSome_none, ↓reduceIte, Nat.reduceEqDiff, Nat.reduceAdd, Nat.reduceMul, forall_eq_or_imp, forall_eq, implies_true, Nat.reduceBEq, reduceCtorEq, false_implies, List.zip_cons_cons, List.zip_nil_left, List.zip_nil_right, Nat.reduceLeDiff, List.forall_mem_nil, rs_35]

theorem and_p16 (n : Nat) (h1 : 1 ≤ n) (h : n ≤ 16) : (IntKind.i64.wrap (((BitVec.ofInt IntKind.i64.bits (n : Int) &&& BitVec.ofInt IntKind.i64.bits ((n - 1 : Nat) : Int)).toNat : Nat) : Int) != 0) = !decide (okN16 n) := by
  have : n = 1 ∨ n = 2 ∨ n = 3 ∨ n = 4 ∨ n = 5 ∨ n = 6 ∨ n = 7 ∨ n = 8 ∨ n = 9 ∨ n = 10 ∨ n = 11 ∨ n = 12 ∨ n = 13 ∨ n = 14 ∨ n = 15 ∨ n = 16 := by omega
  rcases this with rfl | rfl | rfl | rfl | rfl | rfl | rfl | rfl | rfl | rfl | rfl | rfl | rfl | rfl | rfl | rfl <;> rfl

noncomputable def keyC : Contract := mkC (α := Ky) (fun k => k.leaves.length ≤ 9223372036854775807) (fun k => [k.av]) (fun _ => []) (fun k => ⟨[.pv (.c (.int .i64 (keyS k)))], []⟩)
theorem key_at (k : Ky) (h : k.leaves.length ≤ 9223372036854775807) : keyC [.agg [.c (.str k.seed), .c (.sl (texts k.leaves)), .c (.int .i64 k.next)]] [] = some ⟨[.pv (.c (.int .i64 (keyS k)))], []⟩ :=
  mkC_at (α := Ky) k h (by
    rintro y _ h _
    have h' : [y.av] = [k.av] := h
    have e : y = k := Ky.av_inj (by simpa using h')
    rw [e])

set_option maxRecDepth 100000 in
set_option maxHeartbeats 4000000 in
theorem key_sound (hΓ : SoundG Try.prog Γ) (h1 : Γ 35 = conFC) : SoundC Try.prog 20 keyC := by
  refine sound_fn Try.func20 (by kernel_rfl) rfl rfl ?_
  intro args objs r hr
  obtain ⟨⟨seed, leaves, next⟩, hl, rfl, rfl, rfl⟩ := mkC_inv hr
  have hl : leaves.length ≤ 9223372036854775807 := hl
  refine ⟨rfl, by show 1 ≤ _; decide, fun E hN hns hF => ?_⟩
  refine vc_sound hΓ mixed _ _ _ ?_
  have hN := hN.trans nt_20
  have hc := conF_at leaves hl
  have hB : ∀ b, keyS ⟨seed, leaves, next⟩ = b → True := fun _ _ => trivial
  unfold Ky.av
  by_cases hca : seed.length ≤ 64
  case neg =>
    have ga : decide ((seed.length : Int) > 64) = true := by simp; omega
    have hS : keyS ⟨seed, leaves, next⟩ = 9 := if_neg (by rintro ⟨a1, a2, a3, a4, a5⟩; exact hca a1)
    simp only [runA, runB, runC, runD, runE, runF, fieldE, storeE, binE, ↓reduceIte, Nat.reduceLT, Nat.reduceLeDiff, Nat.reduceEqDiff, Nat.reduceAdd, Nat.reduceMul, Nat.reduceSub, reduceCtorEq, putAt, unE, Nat.reduceBEq, convE, buildE, List.replicate, Int.reduceLT, Int.reduceLE, Int.reduceToNat, mkE, mapSetE, hN, hF, ty_3, ty_9, ty_27, ty_43, ty_61, notIf, isEq, texts_length, ga]
    simp only [runB, finC, finD, Option.isSome_some, Option.isSome_none, ↓reduceIte, Nat.reduceEqDiff, Nat.reduceAdd, Nat.reduceMul, forall_eq_or_imp, forall_eq, implies_true, Nat.reduceBEq, reduceCtorEq, false_implies, List.zip_cons_cons, List.zip_nil_left, List.zip_nil_right, Nat.reduceLeDiff, List.forall_mem_nil, rs_20, hS]
  have ga : decide ((seed.length : Int) > 64) = false := by simp; omega
  by_cases hcb : leaves.length = 0
  case pos =>
    have gb : ((leaves.length : Int) == 0) = true := by rw [hcb]; rfl
    have hS : keyS ⟨seed, leaves, next⟩ = 9 := if_neg (by rintro ⟨a1, a2, a3, a4, a5⟩; rw [show leaves.length = 0 from hcb] at a2; exact absurd a2 (by decide))
    simp only [runA, runB, runC, runD, runE, runF, fieldE, storeE, binE, ↓reduceIte, Nat.reduceLT, Nat.reduceLeDiff, Nat.reduceEqDiff, Nat.reduceAdd, Nat.reduceMul, Nat.reduceSub, reduceCtorEq, putAt, unE, Nat.reduceBEq, convE, buildE, List.replicate, Int.reduceLT, Int.reduceLE, Int.reduceToNat, mkE, mapSetE, hN, hF, ty_3, ty_9, ty_27, ty_43, ty_61, notIf, isEq, texts_length, ga, gb]
    simp only [runB, finC, finD, Option.isSome_some, Option.isSome_none, ↓reduceIte, Nat.reduceEqDiff, Nat.reduceAdd, Nat.reduceMul, forall_eq_or_imp, forall_eq, implies_true, Nat.reduceBEq, reduceCtorEq, false_implies, List.zip_cons_cons, List.zip_nil_left, List.zip_nil_right, Nat.reduceLeDiff, List.forall_mem_nil, rs_20, hS]
  have gb : ((leaves.length : Int) == 0) = false := by rw [beq_eq_false_iff_ne]; omega
  by_cases hcc : leaves.length ≤ 16
  case neg =>
    have gc : decide ((leaves.length : Int) > 16) = true := by simp; omega
    have hS : keyS ⟨seed, leaves, next⟩ = 9 := if_neg (by rintro ⟨a1, a2, a3, a4, a5⟩; exact hcc (by unfold okN16 at a2; dsimp only at a2; omega))
    simp only [runA, runB, runC, runD, runE, runF, fieldE, storeE, binE, ↓reduceIte, Nat.reduceLT, Nat.reduceLeDiff, Nat.reduceEqDiff, Nat.reduceAdd, Nat.reduceMul, Nat.reduceSub, reduceCtorEq, putAt, unE, Nat.reduceBEq, convE, buildE, List.replicate, Int.reduceLT, Int.reduceLE, Int.reduceToNat, mkE, mapSetE, hN, hF, ty_3, ty_9, ty_27, ty_43, ty_61, notIf, isEq, texts_length, ga, gb, gc]
    simp only [runB, finC, finD, Option.isSome_some, Option.isSome_none, ↓reduceIte, Nat.reduceEqDiff, Nat.reduceAdd, Nat.reduceMul, forall_eq_or_imp, forall_eq, implies_true, Nat.reduceBEq, reduceCtorEq, false_implies, List.zip_cons_cons, List.zip_nil_left, List.zip_nil_right, Nat.reduceLeDiff, List.forall_mem_nil, rs_20, hS]
  have gc : decide ((leaves.length : Int) > 16) = false := by simp; omega
  have ew : IntKind.i64.wrap ((leaves.length : Int) - 1) = ((leaves.length - 1 : Nat) : Int) := by rw [wrapI (by omega)]; omega
  have hap := and_p16 leaves.length (by omega) hcc
  by_cases hcd : okN16 leaves.length
  case neg =>
    rw [decide_eq_false hcd] at hap
    have gd : (!false) = true := rfl
    rw [gd] at hap
    have hS : keyS ⟨seed, leaves, next⟩ = 9 := if_neg (by rintro ⟨a1, a2, a3, a4, a5⟩; exact hcd a2)
    simp only [runA, runB, runC, runD, runE, runF, fieldE, storeE, binE, ↓reduceIte, Nat.reduceLT, Nat.reduceLeDiff, Nat.reduceEqDiff, Nat.reduceAdd, Nat.reduceMul, Nat.reduceSub, reduceCtorEq, putAt, unE, Nat.reduceBEq, convE, buildE, List.replicate, Int.reduceLT, Int.reduceLE, Int.reduceToNat, mkE, mapSetE, hN, hF, ty_3, ty_9, ty_27, ty_43, ty_61, notIf, isEq, texts_length, ga, gb, gc, ew, hap]
    simp only [runB, finC, finD, Option.isSome_some, Option.isSome_none, ↓reduceIte, Nat.reduceEqDiff, Nat.reduceAdd, Nat.reduceMul, forall_eq_or_imp, forall_eq, implies_true, Nat.reduceBEq, reduceCtorEq, false_implies, List.zip_cons_cons, List.zip_nil_left, List.zip_nil_right, Nat.reduceLeDiff, List.forall_mem_nil, rs_20, hS]
  rw [decide_eq_true hcd] at hap
  have gd : (!true) = false := rfl
  rw [gd] at hap
  by_cases hce : all8 leaves
  case neg =>
    rw [decide_eq_false hce] at hc
    have ge : (!false) = true := rfl
    rw [ge] at hc
    have hS : keyS ⟨seed, leaves, next⟩ = 9 := if_neg (by rintro ⟨a1, a2, a3, a4, a5⟩; exact hce a3)
    simp only [runA, runB, runC, runD, runE, runF, fieldE, storeE, binE, ↓reduceIte, Nat.reduceLT, Nat.reduceLeDiff, Nat.reduceEqDiff, Nat.reduceAdd, Nat.reduceMul, Nat.reduceSub, reduceCtorEq, putAt, unE, Nat.reduceBEq, convE, buildE, List.replicate, Int.reduceLT, Int.reduceLE, Int.reduceToNat, mkE, mapSetE, hN, hF, ty_3, ty_9, ty_27, ty_43, ty_61, notIf, isEq, texts_length, ga, gb, gc, ew, hap, h1, hc]
    simp only [runB, finC, finD, Option.isSome_some, Option.isSome_none, ↓reduceIte, Nat.reduceEqDiff, Nat.reduceAdd, Nat.reduceMul, forall_eq_or_imp, forall_eq, implies_true, Nat.reduceBEq, reduceCtorEq, false_implies, List.zip_cons_cons, List.zip_nil_left, List.zip_nil_right, Nat.reduceLeDiff, List.forall_mem_nil, rs_20, hS]
  rw [decide_eq_true hce] at hc
  have ge : (!true) = false := rfl
  rw [ge] at hc
  by_cases hcf : 0 ≤ next
  case neg =>
    have gf : decide (next < 0) = true := by simp; omega
    have hS : keyS ⟨seed, leaves, next⟩ = 9 := if_neg (by rintro ⟨a1, a2, a3, a4, a5⟩; exact hcf a4)
    simp only [runA, runB, runC, runD, runE, runF, fieldE, storeE, binE, ↓reduceIte, Nat.reduceLT, Nat.reduceLeDiff, Nat.reduceEqDiff, Nat.reduceAdd, Nat.reduceMul, Nat.reduceSub, reduceCtorEq, putAt, unE, Nat.reduceBEq, convE, buildE, List.replicate, Int.reduceLT, Int.reduceLE, Int.reduceToNat, mkE, mapSetE, hN, hF, ty_3, ty_9, ty_27, ty_43, ty_61, notIf, isEq, texts_length, ga, gb, gc, ew, hap, h1, hc, gf]
    simp only [runB, finC, finD, Option.isSome_some, Option.isSome_none, ↓reduceIte, Nat.reduceEqDiff, Nat.reduceAdd, Nat.reduceMul, forall_eq_or_imp, forall_eq, implies_true, Nat.reduceBEq, reduceCtorEq, false_implies, List.zip_cons_cons, List.zip_nil_left, List.zip_nil_right, Nat.reduceLeDiff, List.forall_mem_nil, rs_20, hS]
  have gf : decide (next < 0) = false := by simp; omega
  by_cases hcg : next ≤ (leaves.length : Int)
  case neg =>
    have gg : decide (next > (leaves.length : Int)) = true := by simp; omega
    have hS : keyS ⟨seed, leaves, next⟩ = 9 := if_neg (by rintro ⟨a1, a2, a3, a4, a5⟩; exact hcg a5)
    simp only [runA, runB, runC, runD, runE, runF, fieldE, storeE, binE, ↓reduceIte, Nat.reduceLT, Nat.reduceLeDiff, Nat.reduceEqDiff, Nat.reduceAdd, Nat.reduceMul, Nat.reduceSub, reduceCtorEq, putAt, unE, Nat.reduceBEq, convE, buildE, List.replicate, Int.reduceLT, Int.reduceLE, Int.reduceToNat, mkE, mapSetE, hN, hF, ty_3, ty_9, ty_27, ty_43, ty_61, notIf, isEq, texts_length, ga, gb, gc, ew, hap, h1, hc, gf, gg]
    simp only [runB, finC, finD, Option.isSome_some, Option.isSome_none, ↓reduceIte, Nat.reduceEqDiff, Nat.reduceAdd, Nat.reduceMul, forall_eq_or_imp, forall_eq, implies_true, Nat.reduceBEq, reduceCtorEq, false_implies, List.zip_cons_cons, List.zip_nil_left, List.zip_nil_right, Nat.reduceLeDiff, List.forall_mem_nil, rs_20, hS]
  have gg : decide (next > (leaves.length : Int)) = false := by simp; omega
  have hS : keyS ⟨seed, leaves, next⟩ = 0 := if_pos ⟨hca, hcd, hce, hcf, hcg⟩
  simp only [runA, runB, runC, runD, runE, runF, fieldE, storeE, binE, ↓reduceIte, Nat.reduceLT, Nat.reduceLeDiff, Nat.reduceEqDiff, Nat.reduceAdd, Nat.reduceMul, Nat.reduceSub, reduceCtorEq, putAt, unE, Nat.reduceBEq, convE, buildE, List.replicate, Int.reduceLT, Int.reduceLE, Int.reduceToNat, mkE, mapSetE, hN, hF, ty_3, ty_9, ty_27, ty_43, ty_61, notIf, isEq, texts_length, ga, gb, gc, ew, hap, h1, hc, gf, gg]
  simp only [runB, finC, finD, Option.isSome_some, Option.isSome_none, ↓reduceIte, Nat.reduceEqDiff, Nat.reduceAdd, Nat.reduceMul, forall_eq_or_imp, forall_eq, implies_true, Nat.reduceBEq, reduceCtorEq, false_implies, List.zip_cons_cons, List.zip_nil_left, List.zip_nil_right, Nat.reduceLeDiff, List.forall_mem_nil, rs_20, hS]


variable {Γ : FuncId → Contract}

noncomputable def rootK (k : Ky) : List UInt8 × Int := if goodK k then (rootS k.leaves, 0) else ([], 9)
noncomputable def rootKC : Contract := mkC (α := Ky) (fun k => k.leaves.length ≤ 9223372036854775807) (fun k => [k.av]) (fun _ => []) (fun k => ⟨[.pv (.c (.str (rootK k).1)), .pv (.c (.int .i64 (rootK k).2))], []⟩)
theorem rootK_at (k : Ky) (h : k.leaves.length ≤ 9223372036854775807) : rootKC [.agg [.c (.str k.seed), .c (.sl (texts k.leaves)), .c (.int .i64 k.next)]] [] = some ⟨[.pv (.c (.str (rootK k).1)), .pv (.c (.int .i64 (rootK k).2))], []⟩ :=
  mkC_at (α := Ky) k h (by
    rintro y _ h _
    have h' : [y.av] = [k.av] := h
    have e : y = k := Ky.av_inj (by simpa using h')
    rw [e])
set_option maxRecDepth 100000 in
set_option maxHeartbeats 1000000 in
theorem rootK_sound (hΓ : SoundG Try.prog Γ) (h1 : Γ 20 = keyC) (h2 : Γ 21 = rootC) : SoundC Try.prog 12 rootKC := by
  refine sound_fn Try.func12 (by kernel_rfl) rfl rfl ?_
  intro args objs r hr
  obtain ⟨⟨seed, leaves, next⟩, hl, rfl, rfl, rfl⟩ := mkC_inv hr
  have hl : leaves.length ≤ 9223372036854775807 := hl
  refine ⟨rfl, by show 1 ≤ _; decide, fun E hN hns hF => ?_⟩
  refine vc_sound hΓ mixed _ _ _ ?_
  have hN := hN.trans nt_12
  have q1 := key_at ⟨seed, leaves, next⟩ hl
  unfold Ky.av
  dsimp only at q1 ⊢
  by_cases hg : goodK ⟨seed, leaves, next⟩
  · have hK : keyS ⟨seed, leaves, next⟩ = 0 := if_pos hg
    have hS : rootK ⟨seed, leaves, next⟩ = (rootS leaves, 0) := if_pos hg
    rw [hK] at q1
    rw [hS]
    have q2 := root_at leaves hg.okl
    have b0 : ((0 : Int) != 0) = false := rfl
    simp only [runA, runB, runC, runD, runE, runF, fieldE, storeE, binE, ↓reduceIte, Nat.reduceLT, Nat.reduceLeDiff, Nat.reduceEqDiff, Nat.reduceAdd, Nat.reduceMul, Nat.reduceSub, reduceCtorEq, putAt, unE, Nat.reduceBEq, convE, buildE, List.replicate, Int.reduceLT, Int.reduceLE, Int.reduceToNat, mkE, mapSetE, hN, hF, ty_3, ty_9, ty_27, ty_43, ty_61, notIf, isEq, h1, h2, q1, q2, b0]
    simp only [runB, finC, finD, Option.isSome_some, Option.isSome_none, ↓reduceIte, Nat.reduceEqDiff, Nat.reduceAdd, Nat.reduceMul, forall_eq_or_imp, forall_eq, implies_true, Nat.reduceBEq, reduceCtorEq, false_implies, List.zip_cons_cons, List.zip_nil_left, List.zip_nil_right, Nat.reduceLeDiff, List.forall_mem_nil, rs_12]
  · have hK : keyS ⟨seed, leaves, next⟩ = 9 := if_neg hg
    have hS : rootK ⟨seed, leaves, next⟩ = ([], 9) := if_neg hg
    rw [hK] at q1
    rw [hS]
    have b0 : ((9 : Int) != 0) = true := rfl
    simp only [runA, runB, runC, runD, runE, runF, fieldE, storeE, binE, ↓reduceIte, Nat.reduceLT, Nat.reduceLeDiff, Nat.reduceEqDiff, Nat.reduceAdd, Nat.reduceMul, Nat.reduceSub, reduceCtorEq, putAt, unE, Nat.reduceBEq, convE, buildE, List.replicate, Int.reduceLT, Int.reduceLE, Int.reduceToNat, mkE, mapSetE, hN, hF, ty_3, ty_9, ty_27, ty_43, ty_61, notIf, isEq, h1, q1, b0]
    simp only [runB, finC, finD, Option.isSome_some, Option.isSome_none, ↓reduceIte, Nat.reduceEqDiff, Nat.reduceAdd, Nat.reduceMul, forall_eq_or_imp, forall_eq, implies_true, Nat.reduceBEq, reduceCtorEq, false_implies, List.zip_cons_cons, List.zip_nil_left, List.zip_nil_right, Nat.reduceLeDiff, List.forall_mem_nil, rs_12]

end Go.Proofs.Ytofkehedjcinhaa.AM
