/-
  THE ABSTRACT MACHINE, part 11: what code owes ('vc'), loops, whole functions.
-/
import Derived.Test.YtjdokoldiemobaaAmA
set_option linter.unusedVariables false
set_option linter.unusedSimpArgs false
namespace Go.Proofs.Ytjdokoldiemobaa.AM
open Go

def AWP (P : Program) (E : Env) (c : Code) (Q : Exit → AS → Prop) (s : AS) : Prop :=
  ∀ G a w, Rel E G s a w → c.wpIn (rF E.ro) 0 P (fun e a' w' => ∃ G' s', Q e s' ∧ Rel E G' s' a' w') a w

/-- What is at hand, then what follows. -/
def andThen {α : Type} (x : Option α) (f : α → Prop) : Prop := match x with | some a => f a | none => False
theorem andThen_some {α : Type} (a : α) (f : α → Prop) : andThen (some a) f = f a := Eq.trans (Eq.refl _) (Eq.refl _)
theorem andThen_none {α : Type} (f : α → Prop) : andThen none f = False := rfl
theorem andThen_iff {α : Type} {x : Option α} {f : α → Prop} : andThen x f ↔ ∃ a, x = some a ∧ f a := by
  cases x with
  | none => simp [andThen]
  | some a => simp [andThen]
@[congr] theorem andThen_congr {α : Type} {x x' : Option α} {f : α → Prop} (h : x = x') : andThen x f = andThen x' f := by rw [h]

/-- Two ways. -/
def branch (b : Bool) (X Y : Prop) : Prop := (b = true → X) ∧ (b = false → Y)
theorem branch_true (X Y : Prop) : branch true X Y = X := by simp [branch]
theorem branch_false (X Y : Prop) : branch false X Y = Y := by simp [branch]
@[congr] theorem branch_congr {b b' : Bool} {X Y : Prop} (h : b = b') : branch b X Y = branch b' X Y := by rw [h]
theorem branch_intro {b : Bool} {X Y : Prop} (h1 : b = true → X) (h2 : b = false → Y) : branch b X Y := ⟨h1, h2⟩
theorem andThen_ifE {α : Type} (b : Bool) (x y : Option α) (f : α → Prop) : andThen (ifE b x y) f = branch b (andThen x f) (andThen y f) := by
  cases b <;> simp [branch]

def thenA (K : AS → Prop) (Q : Exit → AS → Prop) : Exit → AS → Prop
  | .normal, s => K s
  | e, s => Q e s
def inBlockA (id : Nat) (Q : Exit → AS → Prop) : Exit → AS → Prop
  | .exit id', s => if id' = id then Q .normal s else Q (.exit id') s
  | e, s => Q e s

inductive Cnd where
  | b (t : Bool)
  | any
def cndE : AV → Option Cnd
  | .c (.bool t) => some (.b t)
  | .ubool => some .any
  | _ => none
def cndQ (c : Cnd) (X Y : Prop) : Prop := match c with | .b t => branch t X Y | .any => X ∧ Y

/-! hints -/
def noName (n : Nat) : AV → Bool
  | .own r _ _ => r != n
  | .ptr r _ => r != n
  | .msl r _ _ _ => r != n
  | .mp r => r != n
  | .agg cs => cs.all fun
    | .own r _ _ => r != n
    | .ptr r _ => r != n
    | .msl r _ _ _ => r != n
    | .mp r => r != n
    | .agg _ | .tup _ => false
    | _ => true
  | .tup cs => cs.all fun
    | .own r _ _ => r != n
    | .ptr r _ => r != n
    | .msl r _ _ _ => r != n
    | .mp r => r != n
    | .agg _ | .tup _ => false
    | _ => true
  | _ => true
def dropT (n : Nat) : List (Nat × AV) → List (Nat × AV)
  | [] => []
  | (i, x) :: l => (i, if noName n x then x else .undef) :: dropT n l
def noMC (n : Nat) : MC → Bool
  | .obj cells _ => cells.all (noName n)
  | _ => true
def noNames (n : Nat) : List (Nat × MC) → Bool
  | [] => true
  | (k, c) :: l => (k == n || noMC n c) && noNames n l
/-- These slots alone. -/
def pickT (s : AS) : List Nat → List (Nat × AV)
  | [] => []
  | i :: l => (i, s.get i) :: pickT s l
def without (n : Nat) : List (Nat × MC) → List (Nat × MC)
  | [] => []
  | (k, c) :: l => if k = n then without n l else (k, c) :: without n l
/-- What is told twice is told once. -/
def once : List (Nat × MC) → List (Nat × MC)
  | [] => []
  | (k, c) :: l => (k, c) :: without k (once l)
def doHint (ns : List Nat) (h : Hint) (s : AS) : Option AS :=
  match h with
  | .frz d z => match s.get d with
    | .msl n off len _ => match s.mem n with
      | some (.obj cells _) => match toPCs cells with
        | some cs => if 0 < z ∧ off + len * z ≤ cs.length then some ⟨(d, .c (.sl (chunks z len (cs.drop off)))) :: s.t, (n, .obj cells true) :: s.m⟩ else none
        | none => none
      | _ => none
    | _ => none
  | .toOwn d z => match s.get d with
    | .msl n 0 len true => match s.mem n with
      | some (.obj cells false) => match toPCs cells with
        | some cs => if 0 < z ∧ len * z = cs.length ∧ hasN ns n = false ∧ noNames n s.m = true then some ⟨(d, .own n z (chunks z len cs)) :: dropT n s.t, (n, .row z len) :: s.m⟩ else none
        | none => none
      | _ => none
    | _ => none
  | .tidy l => some ⟨pickT s l, once s.m⟩
def hintP (ns : List Nat) (id : Nat) (K : AS → Prop) : List (Nat × Hint) → AS → Prop
  | [], s => K s
  | (i, h) :: l, s => if i = id then andThen (doHint ns h s) (hintP ns id K l) else hintP ns id K l s

def vc (Γ : FuncId → Contract) (P : Program) (E : Env) : Code → (Exit → AS → Prop) → AS → Prop
  | .skip, Q, s => Q .normal s
  | .region id ops false, Q, s => andThen (aOps Γ P E.N ops ops.toList s) fun r => hintP E.ns id (Q .normal) E.N.adv.hints r.1
  | .region id ops true, Q, s => regionB ops = true ∧ andThen (aOps Γ P E.N ops ops.toList s) fun r => orderB ops r.2 = true ∧ hintP E.ns id (Q .normal) E.N.adv.hints r.1
  | .seq a b, Q, s => vc Γ P E a (thenA (vc Γ P E b Q) Q) s
  | .cond c x y, Q, s => andThen (cndE (s.eval c)) fun c => cndQ c (vc Γ P E x Q s) (vc Γ P E y Q s)
  | .block id body, Q, s => vc Γ P E body (inBlockA id Q) s
  | .loop body, Q, s => AWP P E (.loop body) Q s
  | .exit id, Q, s => Q (.exit id) s
  | .label _, Q, s => Q .normal s
  | .ret, Q, s => Q .ret s
  | _, _, _ => False

section
variable {P : Program} {E : Env} {Γ : FuncId → Contract}

theorem AWP.mono {c : Code} {Q Q' : Exit → AS → Prop} {s : AS} (h : AWP P E c Q s) (hq : ∀ e s, Q e s → Q' e s) : AWP P E c Q' s :=
  fun G a w R => wpIn_mono (h G a w R) fun e a' w' ⟨G', s', h2, h3⟩ => ⟨G', s', hq e s' h2, h3⟩

theorem AWP.seq {x y : Code} {Q : Exit → AS → Prop} {s : AS} (h : AWP P E x (thenA (AWP P E y Q) Q) s) : AWP P E (.seq x y) Q s := by
  intro G a w R
  refine wpIn_seq (wpIn_mono (h G a w R) ?_)
  rintro e a' w' ⟨G', s', h2, h3⟩
  cases e with
  | normal =>
    refine wpIn_mono (h2 G' a' w' h3) ?_
    exact fun e a2 w2 h => h
  | _ => exact ⟨G', s', h2, h3⟩

theorem AWP.block {id : Nat} {c : Code} {Q : Exit → AS → Prop} {s : AS} (h : AWP P E c (inBlockA id Q) s) : AWP P E (.block id c) Q s := by
  intro G a w R
  refine wpIn_block (wpIn_mono (h G a w R) ?_)
  rintro e a' w' ⟨G', s', h2, h3⟩
  cases e with
  | exit id' =>
    simp only [inBlockA] at h2
    simp only [Exit.inBlock]
    by_cases e : id' = id
    · rw [if_pos e] at h2 ⊢; exact ⟨G', s', h2, h3⟩
    · rw [if_neg e] at h2 ⊢; exact ⟨G', s', h2, h3⟩
  | _ => exact ⟨G', s', h2, h3⟩

theorem hasN_mem : ∀ {l : List Nat} {n : Nat}, n ∈ l → hasN l n = true
  | x :: l, n, h => by
    simp only [hasN, Bool.or_eq_true, beq_iff_eq]
    rcases List.mem_cons.1 h with h | h
    · exact .inl h.symm
    · exact .inr (hasN_mem h)

/-- What does not say the name stays as it is. -/
theorem noName_rel {G G' : Gh} {n : Nat} (hK : G.K.le G'.K) (hh : ∀ i, i ≠ n → G'.h i = G.h i) {x : AV} {v : Value} (hx : noName n x = true) (h : AR G x v) : AR G' x v := by
  have one : ∀ {x : AV} {v : Value}, (match x with | .own r _ _ => r != n | .ptr r _ => r != n | .msl r _ _ _ => r != n | .mp r => r != n | .agg _ | .tup _ => false | _ => true) = true → AR G x v → AR G' x v := by
    intro x v hx h
    cases h with
    | undef v => exact .undef v
    | c x v hv => exact .c x v (hv.mono hK)
    | agg => cases hx
    | nilsl => exact .nilsl
    | own r z rows v bk fr h1 hl hr hv ha => exact .own r z rows v bk fr (by rw [hh r (by simpa using hx)]; exact h1) hl hr (hv.mono hK) ha
    | ptr r off b h1 => exact .ptr r off b (by rw [hh r (by simpa using hx)]; exact h1)
    | msl r off len b cap ex h1 hc he => exact .msl r off len b cap ex (by rw [hh r (by simpa using hx)]; exact h1) hc he
    | nilptr => exact .nilptr
    | rptr cs b off hk => exact .rptr cs b off (hk.mono hK)
    | clo f caps us hl hk => exact .clo f caps us hl (fun i cs b h1 h2 => (hk i cs b h1 h2).mono hK)
    | mp r b h1 => exact .mp r b (by rw [hh r (by simpa using hx)]; exact h1)
    | nilmp => exact .nilmp
    | ubool b => exact .ubool b
    | tup => cases hx
  cases h with
  | agg cs us hl hc =>
    refine .agg cs us hl fun i x u e1 e2 => ?_
    simp only [noName, List.all_eq_true] at hx
    exact one (hx x (List.mem_of_getElem? e1)) (hc i x u e1 e2)
  | tup cs us hl hc =>
    refine .tup cs us hl fun i x u e1 e2 => ?_
    simp only [noName, List.all_eq_true] at hx
    exact one (hx x (List.mem_of_getElem? e1)) (hc i x u e1 e2)
  | undef v => exact .undef v
  | c x v hv => exact .c x v (hv.mono hK)
  | nilsl => exact .nilsl
  | own r z rows v bk fr h1 hl hr hv ha => exact one (x := .own r z rows) hx (.own r z rows v bk fr h1 hl hr hv ha)
  | ptr r off b h1 => exact one (x := .ptr r off) hx (.ptr r off b h1)
  | msl r off len b cap ex h1 hc he => exact one (x := .msl r off len ex) hx (.msl r off len b cap ex h1 hc he)
  | nilptr => exact .nilptr
  | rptr cs b off hk => exact .rptr cs b off (hk.mono hK)
  | clo f caps us hl hk => exact .clo f caps us hl (fun i cs b h1 h2 => (hk i cs b h1 h2).mono hK)
  | mp r b h1 => exact one (x := .mp r) hx (.mp r b h1)
  | nilmp => exact .nilmp
  | ubool b => exact .ubool b

theorem dropT_get (n : Nat) : ∀ (l : List (Nat × AV)) (i : Nat), (look (dropT n l) i).getD .undef = (let x := (look l i).getD .undef; if noName n x then x else .undef)
  | [], i => rfl
  | (j, x) :: l, i => by
    simp only [dropT, look]
    split
    · rfl
    · exact dropT_get n l i

theorem noNames_look {n : Nat} : ∀ {l : List (Nat × MC)} {k : Nat} {c : MC}, noNames n l = true → look l k = some c → k ≠ n → noMC n c = true
  | (j, y) :: l, k, c, h, hl, hk => by
    simp only [noNames, Bool.and_eq_true, Bool.or_eq_true, beq_iff_eq] at h
    simp only [look] at hl
    split at hl
    · rename_i e; cases hl
      rcases h.1 with h1 | h1
      · exact absurd (e ▸ h1) hk
      · exact h1
    · exact noNames_look h.2 hl hk
  | [], k, c, h, hl, hk => by cases hl

theorem chunk_rows {K : Know} {b off z len : Nat} {cs : List PC} (h0 : 0 < z) (hl : off + len * z ≤ cs.length) (hk : ∀ i c, cs[i]? = some c → ∃ v, K b i = some v ∧ VR K c v) : Slice K z b off (chunks z len (cs.drop off)) := by
  refine ⟨fun r hr => ?_, fun j r hj i c hi => ?_⟩
  · obtain ⟨j, hj⟩ := List.mem_iff_getElem?.1 hr
    have hjl : j < len := by have := (List.getElem?_eq_some_iff.1 hj).1; rwa [chunks_length] at this
    have := chunks_get _ _ _ _ _ hj
    have h3 : j * z + z ≤ len * z := by rw [← Nat.succ_mul]; exact Nat.mul_le_mul_right z hjl
    rw [this]; simp; omega
  · have := chunks_get _ _ _ _ _ hj
    rw [this, List.getElem?_take] at hi
    split at hi
    · rw [List.getElem?_drop, List.getElem?_drop] at hi
      rw [show off + j * z + i = off + (j * z + i) from by omega]
      exact hk _ c hi
    · cases hi

theorem look_without (n : Nat) : ∀ (l : List (Nat × MC)) (i : Nat), i ≠ n → look (without n l) i = look l i
  | [], i, _ => rfl
  | (k, c) :: l, i, h => by
    simp only [without]
    split
    · rename_i e
      simp only [look]
      rw [if_neg (by omega), look_without n l i h]
    · simp only [look]
      split
      · rfl
      · exact look_without n l i h
theorem look_once : ∀ (l : List (Nat × MC)) (i : Nat), look (once l) i = look l i
  | [], i => rfl
  | (k, c) :: l, i => by
    simp only [once, look]
    split
    · rfl
    · rename_i h
      rw [look_without k _ i (Ne.symm h), look_once l i]
theorem pickT_get (s : AS) : ∀ (l : List Nat) (i : Nat), (look (pickT s l) i).getD .undef = s.get i ∨ (look (pickT s l) i).getD .undef = .undef
  | [], i => .inr rfl
  | j :: l, i => by
    simp only [pickT, look]
    split
    · rename_i e; subst e; exact .inl rfl
    · exact pickT_get s l i

theorem hint_sound {G : Gh} {s s' : AS} {a : Act} {w : World} (R : Rel E G s a w) {h : Hint} (hs : doHint E.ns h s = some s') : ∃ G', Rel E G' s' a w := by
  have ht := R.tmps
  cases h with
  | tidy l =>
    simp only [doHint, Option.some.injEq] at hs
    subst hs
    refine ⟨G, R.size, R.defs, fun i => ?_, R.mem.congr (fun i => look_once s.m i), R.ent⟩
    have := pickT_get s l i
    show AR G ((look (pickT s l) i).getD .undef) _
    rcases this with h | h
    · rw [h]; exact ht i
    · rw [h]; exact .undef _
  | frz d z =>
    simp only [doHint] at hs
    split at hs
    · rename_i n off len ex hd
      split at hs
      · rename_i cells fz hm
        split at hs
        · rename_i cs hcs
          split at hs
          · rename_i hc
            cases hs
            have hv := ht d
            rw [hd] at hv
            generalize hvv : a.tmps.getD d Go.undef = v at hv
            cases hv with
            | msl _ _ _ b cap _ hb hcap he =>
            obtain ⟨G', g1, g2, g3, g4⟩ := R.mem.freeze hm hb
            obtain ⟨t1, t2⟩ := toPCs_spec hcs
            refine ⟨G', R.size, R.defs, fun i => ?_, g4.congr (fun i => AS.mem_wr1 ⟨s.t, s.m⟩ n _ i), fun k hk => ?_⟩
            · simp only [AS.get, look]
              split
              · rename_i e; subst e
                rw [hvv, Option.getD_some]
                have hsl := chunk_rows (K := G'.K) (b := b) (cs := cs) hc.1 hc.2 (fun i c hi => by
                  have hil : i < cells.length := by have := (List.getElem?_eq_some_iff.1 hi).1; omega
                  obtain ⟨v, v1, v2⟩ := g3 i cells[i] (by simp [hil])
                  exact ⟨v, v1, v2.toPC (t2 i _ c (by simp [hil]) hi)⟩)
                have := VR.of_slice hsl (cap := cap) (by rw [chunks_length]; exact hcap)
                rw [chunks_length] at this
                exact .c _ _ this
              · exact (ht i).mono g1
            · obtain ⟨x, x', e1, e2, l⟩ := R.ent k hk
              exact ⟨x, x', e1, by rw [g2]; exact e2, l⟩
          · cases hs
        · cases hs
      · cases hs
    · cases hs
  | toOwn d z =>
    simp only [doHint] at hs
    split at hs
    · rename_i n len hd
      split at hs
      · rename_i cells hm
        split at hs
        · rename_i cs hcs
          split at hs
          · rename_i hc
            obtain ⟨c1, c2, c3, c4⟩ := hc
            cases hs
            have hv := ht d
            rw [hd] at hv
            generalize hvv : a.tmps.getD d Go.undef = v at hv
            cases hv with
            | msl _ _ _ b cap _ hb hcap he =>
            have hcap' := he rfl
            subst hcap'
            obtain ⟨t1, t2⟩ := toPCs_spec hcs
            have h0 := R.mem.home n
            rw [hm, hb] at h0
            obtain ⟨vs, ty, a1, a2, a3, a4, a5, a6⟩ := h0
            obtain ⟨G1, g1, g2, g3, g4⟩ := R.mem.freeze hm hb
            let G2 : Gh := ⟨G1.K, fun i => if i = n then some (.row z (some (b, cap)) cap) else G1.h i⟩
            have hh : ∀ i, i ≠ n → G2.h i = G.h i := fun i hi => by show (if i = n then _ else G1.h i) = _; rw [if_neg hi, g2]
            have hhn : G2.h n = some (.row z (some (b, cap)) cap) := by show (if n = n then _ else _) = _; rw [if_pos rfl]
            have hKle : G.K.le G2.K := g1.K
            have hsl := chunk_rows (K := G2.K) (b := b) (off := 0) (len := cap) (cs := cs) c1 (by omega) (fun i c hi => by
              have hil : i < cells.length := by have := (List.getElem?_eq_some_iff.1 hi).1; omega
              obtain ⟨v, v1, v2⟩ := g3 i cells[i] (by simp [hil])
              exact ⟨v, v1, v2.toPC (t2 i _ c (by simp [hil]) hi)⟩)
            rw [List.drop_zero] at hsl
            have hKb : ∀ o, cap * z ≤ o → G2.K b o = none := by
              intro o ho
              cases hk : G2.K b o with
              | none => rfl
              | some v =>
                have := g4.agree b o v hk
                simp only [World.cell?, a1] at this
                have := (Array.getElem?_eq_some_iff.1 this).1
                omega
            refine ⟨G2, R.size, R.defs, fun i => ?_, ?_, fun k hk => ?_⟩
            · simp only [AS.get, look]
              split
              · rename_i e; subst e
                rw [hvv, Option.getD_some]
                have hl := chunks_length z cap cs
                have := VR.of_slice hsl (cap := cap) (by omega)
                rw [hl] at this
                exact .own n z (chunks z cap cs) _ (some (b, cap)) cap hhn (by omega) hsl.1 this (fun _ => by rw [hl]; rfl)
              · rw [dropT_get]
                dsimp only
                split
                · rename_i hn
                  exact noName_rel hKle hh hn (ht i)
                · exact .undef _
            · have M : MRel E G2 (mset s.mem n (.row z cap)) w := by
                refine ⟨g4.agree, fun i => ?_, fun i j x y b' e1 e2 e3 e4 => ?_, g4.os, g4.tape, g4.output, g4.size0, g4.sizeB, g4.blk, g4.k0, g4.kfr⟩
                · unfold mset
                  by_cases e : n = i
                  · subst e
                    rw [if_pos rfl, hhn]
                    exact ⟨rfl, rfl, vs, ty, ⟨_, a1, .inl rfl⟩, by omega, Nat.le_refl _, c1, a4, hKb⟩
                  · rw [if_neg e, hh i (Ne.symm e)]
                    have hi := R.mem.home i
                    have hi2 := g4.home i
                    unfold mset at hi2
                    rw [if_neg e, g2] at hi2
                    cases hgh : G.h i with
                    | none => rw [hgh] at hi; cases hmi : s.mem i with | none => trivial | some c => rw [hmi] at hi; cases c <;> exact hi.elim
                    | some x =>
                      rw [hgh] at hi2
                      cases hmi : s.mem i with
                      | none => rw [hmi] at hi2; exact hi2.elim
                      | some c =>
                        rw [hmi] at hi2
                        have hno := noNames_look c4 hmi (Ne.symm e)
                        cases c with
                        | obj cells' fz' =>
                          cases x with
                          | row => exact hi2.elim
                          | obj b' =>
                            rw [hgh, hmi] at hi
                            obtain ⟨vs', ty', q1, q2, q3, q4, q5, q6⟩ := hi2
                            obtain ⟨vs2, ty2, p1, p2, p3, _⟩ := hi
                            rw [q1] at p1
                            cases p1
                            simp only [noMC, List.all_eq_true] at hno
                            exact ⟨vs', ty', q1, q2, fun k x v e1 e2 => noName_rel hKle hh (hno x (List.mem_of_getElem? e1)) (p3 k x v e1 e2), q4, q5, q6⟩
                        | row z' fr' =>
                          cases x with
                          | obj => exact hi2.elim
                          | row z2 bk fr2 => exact hi2
                        | mp ag es =>
                          cases x with
                          | row => exact hi2.elim
                          | obj b' =>
                            obtain ⟨ms, cl, q1, q2, q3, q4⟩ := hi2
                            rw [hgh, hmi] at hi
                            obtain ⟨ms', cl', p1, p2, p3, _⟩ := hi
                            rw [q1] at p1
                            cases p1
                            refine ⟨ms, cl, q1, q2, fun k y e e1 e2 => ?_, q4⟩
                            obtain ⟨b1, b2, b3⟩ := p3 k y e e1 e2
                            refine ⟨b1, ?_, b3⟩
                            refine noName_rel hKle hh ?_ b2
                            unfold elemAV
                            split
                            · simp [noName]
                            · cases y.2 <;> rfl
                · have key : ∀ i x, G2.h i = some x → x.blk = some b' → ∃ x', G.h i = some x' ∧ x'.blk = some b' := by
                    intro i x e1 e3
                    by_cases e : i = n
                    · subst e; rw [hhn] at e1; cases e1
                      refine ⟨.obj b, hb, ?_⟩
                      simpa [Home.blk] using e3
                    · rw [hh i e] at e1; exact ⟨x, e1, e3⟩
                  obtain ⟨x', p1, p2⟩ := key i x e1 e3
                  obtain ⟨y', p3, p4⟩ := key j y e2 e4
                  exact R.mem.inj i j x' y' b' p1 p3 p2 p4
              exact M.congr (fun i => AS.mem_wr1 ⟨s.t, s.m⟩ n _ i)
            · obtain ⟨x, x', e1, e2, l⟩ := R.ent k hk
              have hkn : k ≠ n := fun e => by subst e; rw [hasN_mem hk] at c3; cases c3
              exact ⟨x, x', e1, by rw [hh k hkn]; exact e2, l⟩
          · cases hs
        · cases hs
      · cases hs
    · cases hs

theorem hintP_sound {id : Nat} {K : AS → Prop} {a : Act} {w : World} : ∀ {l : List (Nat × Hint)} {G : Gh} {s : AS}, Rel E G s a w → hintP E.ns id K l s → ∃ G' s', K s' ∧ Rel E G' s' a w
  | [], G, s, R, h => ⟨G, s, h, R⟩
  | (i, x) :: l, G, s, R, h => by
    simp only [hintP] at h
    split at h
    · obtain ⟨s1, h1, h2⟩ := andThen_iff.1 h
      obtain ⟨G1, R1⟩ := hint_sound R h1
      exact hintP_sound R1 h2
    · exact hintP_sound R h

theorem vc_sound (hΓ : SoundG P Γ) (hm : P.follows .mixedOrders = true) : ∀ (c : Code) (Q : Exit → AS → Prop) (s : AS), vc Γ P E c Q s → AWP P E c Q s
  | .skip, Q, s, h => fun G a w R => wpIn_skip ⟨G, s, h, R⟩
  | .region id ops false, Q, s, h => fun G a w R => by
    simp only [vc] at h
    obtain ⟨⟨s', fs⟩, h1, h2⟩ := andThen_iff.1 h
    exact region_sound hΓ R h1 fun G' a' w' hle R' => hintP_sound R' h2
  | .region id ops true, Q, s, h => fun G a w R => by
    simp only [vc] at h
    obtain ⟨hB, h⟩ := h
    obtain ⟨⟨s', fs⟩, h1, hO, h2⟩ := andThen_iff.1 h
    exact drawn_sound hΓ hm R hB h1 hO fun G' a' w' hle R' => hintP_sound R' h2
  | .seq x y, Q, s, h => by
    simp only [vc] at h
    refine AWP.seq ((vc_sound hΓ hm x _ s h).mono ?_)
    intro e s h
    cases e with
    | normal => exact vc_sound hΓ hm y Q s h
    | _ => exact h
  | .cond c x y, Q, s, h => fun G a w R => by
    simp only [vc] at h
    obtain ⟨t, h1, h2⟩ := andThen_iff.1 h
    have hc := R.eval c
    unfold cndE at h1
    split at h1
    · rename_i b e
      cases h1
      rw [e] at hc
      refine wpIn_cond_split hc.bool_inv (fun hb => ?_) (fun hb => ?_)
      · exact vc_sound hΓ hm x Q s (h2.1 hb) G a w R
      · exact vc_sound hΓ hm y Q s (h2.2 hb) G a w R
    · rename_i e
      cases h1
      rw [e] at hc
      generalize hv : a.eval c = v at hc
      cases hc with
      | ubool b =>
      refine wpIn_cond_split hv (fun hb => ?_) (fun hb => ?_)
      · exact vc_sound hΓ hm x Q s h2.1 G a w R
      · exact vc_sound hΓ hm y Q s h2.2 G a w R
    · cases h1
  | .block id c, Q, s, h => by
    simp only [vc] at h
    exact AWP.block (vc_sound hΓ hm c _ s h)
  | .loop c, Q, s, h => h
  | .exit id, Q, s, h => fun G a w R => wpIn_exit ⟨G, s, h, R⟩
  | .label l, Q, s, h => fun G a w R => wpIn_label ⟨G, s, h, R⟩
  | .ret, Q, s, h => fun G a w R => wpIn_ret ⟨G, s, h, R⟩
  | .rangeFunc _ _ _ _, _, _, h => h.elim
  | .scope _, _, _, h => h.elim
  | .goto _, _, _, h => h.elim
  | .refuse _, _, _, h => h.elim

/-! what is forgotten at a loop's head -/
def AMd (ρ : Ren) : AV → AV → Prop
  | _, .undef => True
  | .c x, .c y => x = y
  | .nilsl, .c y => y = .sl []
  | .own _ _ rows, .c y => y = .sl rows
  | .nilsl, .nilsl => True
  | .nilsl, .own n z rows => rows = [] ∧ ρ.src n = none ∧ ρ.ph n = some z
  | .own r z rows, .own n z' rows' => ρ.src n = some r ∧ z = z' ∧ rows = rows'
  | .ptr q o, .ptr n o' => ρ.src n = some q ∧ o = o'
  | .msl q o l e, .msl n o' l' e' => ρ.src n = some q ∧ o = o' ∧ l = l' ∧ e = e'
  | .nilptr, .nilptr => True
  | .rptr cs, .rptr cs' => cs = cs'
  | .clo f caps, .clo f' caps' => f = f' ∧ caps = caps'
  | .mp q, .mp n => ρ.src n = some q
  | .nilmp, .nilmp => True
  | .ubool, .ubool => True
  | .agg cs, .agg cs' => cs.length = cs'.length ∧ ∀ p ∈ cs.zip cs', AMp p.1 p.2
  | _, _ => False
where AMp : AV → AV → Prop
  | _, .undef => True
  | .c x, .c y => x = y
  | .nilsl, .c y => y = .sl []
  | .own _ _ rows, .c y => y = .sl rows
  | .nilsl, .nilsl => True
  | _, _ => False

theorem AMd.am {ρ : Ren} {x y : AV} (h : AMd ρ x y) : AM ρ x y := by
  unfold AMd at h
  split at h
  · exact .undef _
  · subst h; exact .c _
  · subst h; exact .nilc
  · subst h; exact .ownc _ _ _
  · exact .nilsl
  · obtain ⟨rfl, h1, h2⟩ := h; exact .nilo _ _ h1 h2
  · obtain ⟨h1, rfl, rfl⟩ := h; exact .own _ _ _ _ h1
  · obtain ⟨h1, rfl⟩ := h; exact .ptr _ _ _ h1
  · obtain ⟨h1, rfl, rfl, rfl⟩ := h; exact .msl _ _ _ _ _ h1
  · exact .nilptr
  · subst h; exact .rptr _
  · obtain ⟨rfl, rfl⟩ := h; exact .clo _ _
  · exact .mp _ _ h
  · exact .nilmp
  · exact .ubool
  · obtain ⟨hl, h⟩ := h
    refine .agg _ _ hl fun i x y e1 e2 => ?_
    have this : AMd.AMp x y := h (x, y) (List.mem_of_getElem? (i := i) (by simp [List.getElem?_zip_eq_some, e1, e2]))
    unfold AMd.AMp at this
    split at this
    · exact .undef _
    · subst this; exact .c _
    · subst this; exact .nilc
    · subst this; exact .ownc _ _ _
    · exact .nilsl
    · exact this.elim
  · exact h.elim

def AMds (ρ : Ren) : List AV → List AV → Prop
  | [], [] => True
  | x :: xs, y :: ys => AMd ρ x y ∧ AMds ρ xs ys
  | _, _ => False
theorem AMds.am {ρ : Ren} : ∀ {xs ys : List AV}, AMds ρ xs ys → xs.length = ys.length ∧ ∀ (i : Nat) (x y : AV), xs[i]? = some x → ys[i]? = some y → AM ρ x y
  | [], [], _ => ⟨rfl, fun i x y h => by simp at h⟩
  | x :: xs, y :: ys, ⟨h1, h2⟩ => by
    obtain ⟨a1, a2⟩ := AMds.am h2
    refine ⟨by simp [a1], fun i u v e1 e2 => ?_⟩
    cases i with
    | zero => simp at e1 e2; subst e1; subst e2; exact h1.am
    | succ i => exact a2 i u v (by simpa using e1) (by simpa using e2)
  | [], _ :: _, h => h.elim
  | _ :: _, [], h => h.elim

def CMd (ρ : Ren) : MC → MC → Prop
  | .obj cells fz, .obj cells' fz' => fz = fz' ∧ AMds ρ cells cells'
  | .row z fr, .row z' fr' => z = z' ∧ fr = fr'
  | .mp ag es, .mp ag' es' => ag = ag' ∧ es = es'
  | _, _ => False
theorem CMd.cm {ρ : Ren} {x y : MC} (h : CMd ρ x y) : CM ρ (some x) (some y) := by
  unfold CMd at h
  split at h
  · obtain ⟨rfl, h⟩ := h; exact ⟨rfl, h.am⟩
  · exact h
  · exact h
  · exact h.elim

def wkRen (m : Nat → Option MC) (m2 : List (Nat × MC)) : Ren where
  src n := match look m2 n with | some _ => (m n).map fun _ => n | none => none
  ph n := match look m2 n with | some (.row z _) => some z | _ => none
def wkM (ρ : Ren) (m : Nat → Option MC) : List (Nat × MC) → Prop
  | [] => True
  | (n, c) :: l => (match m n with | some c0 => CMd ρ c0 c | none => match c with | .row _ fr => fr = 0 | _ => False) ∧ wkM ρ m l
def wkT (ρ : Ren) (s : AS) : List (Nat × AV) → Prop
  | [] => True
  | (i, y) :: l => AMd ρ (s.get i) y ∧ wkT ρ s l
/-- s2 says less than s. -/
def Weak (ns : List Nat) (s s2 : AS) : Prop := (∀ n ∈ ns, (look s2.m n).isSome = true) ∧ wkM (wkRen s.mem s2.m) s.mem s2.m ∧ wkT (wkRen s.mem s2.m) s s2.t

theorem wkM_spec {ρ : Ren} {m : Nat → Option MC} : ∀ {l : List (Nat × MC)} {n : Nat} {c : MC}, wkM ρ m l → look l n = some c → (match m n with | some c0 => CMd ρ c0 c | none => match c with | .row _ fr => fr = 0 | _ => False)
  | [], n, c, _, h => by cases h
  | (j, y) :: l, n, c, ⟨h1, h2⟩, h => by
    simp only [look] at h
    split at h
    · rename_i e; subst e; cases h; exact h1
    · exact wkM_spec h2 h

theorem Weak.rel {G : Gh} {s s2 : AS} {a : Act} {w : World} (R : Rel E G s a w) (h : Weak E.ns s s2) : ∃ G', G.K = G'.K ∧ Rel E G' s2 a w := by
  obtain ⟨h0, h1, h2⟩ := h
  have hren : RenOK (wkRen s.mem s2.m) s.mem (look s2.m) := by
    refine ⟨fun n n' q e1 e2 => ?_, fun n q e => ?_, fun n z e1 e2 => ?_, fun n e1 e2 => ?_⟩
    · simp only [wkRen] at e1 e2
      split at e1
      · split at e2
        · obtain ⟨_, _, rfl⟩ := Option.map_eq_some_iff.1 e1
          obtain ⟨_, _, rfl⟩ := Option.map_eq_some_iff.1 e2
          rfl
        · cases e2
      · cases e1
    · simp only [wkRen] at e
      split at e
      · rename_i c hc
        obtain ⟨c0, hc0, rfl⟩ := Option.map_eq_some_iff.1 e
        have := wkM_spec h1 hc
        rw [hc0] at this
        rw [hc0, hc]
        exact CMd.cm this
      · cases e
    · simp only [wkRen] at e1 e2
      split at e2
      · rename_i z' fr hc
        cases e2
        have := wkM_spec h1 hc
        rw [hc] at e1
        cases hm : s.mem n with
        | some c0 => rw [hm] at e1; simp at e1
        | none => rw [hm] at this; rw [hc]; dsimp only at this; rw [this]
      · cases e2
    · simp only [wkRen] at e1 e2
      cases hc : look s2.m n with
      | none => rfl
      | some c =>
        rw [hc] at e1 e2
        have := wkM_spec h1 hc
        cases hm : s.mem n with
        | some c0 => rw [hm] at e1; simp at e1
        | none =>
          rw [hm] at this
          cases c with
          | row z fr => simp at e2
          | obj => exact this.elim
          | mp => exact this.elim
  refine ⟨(wkRen s.mem s2.m).gh G, rfl, R.size, R.defs, fun i => ?_, R.mem.rename hren, fun n hn => ?_⟩
  case refine_2 =>
    obtain ⟨x, x', e1, e2, l⟩ := R.ent n hn
    obtain ⟨c, hc⟩ := Option.isSome_iff_exists.1 (h0 n hn)
    refine ⟨x, x', e1, ?_, l⟩
    have hm : ∃ c0, s.mem n = some c0 := by
      cases hm : s.mem n with
      | some c0 => exact ⟨c0, rfl⟩
      | none => have := R.mem.home n; rw [hm, e2] at this; exact this.elim
    obtain ⟨c0, hm⟩ := hm
    have hs : (wkRen s.mem s2.m).src n = some n := by simp only [wkRen, hc, hm, Option.map_some]
    simp only [Ren.gh, hs]; exact e2
  have : ∀ (l : List (Nat × AV)), wkT (wkRen s.mem s2.m) s l → AM (wkRen s.mem s2.m) (s.get i) ((look l i).getD .undef) := by
    intro l
    induction l with
    | nil => intro _; exact .undef _
    | cons p l ih =>
      obtain ⟨j, y⟩ := p
      rintro ⟨g1, g2⟩
      simp only [look]
      split
      · rename_i e; subst e; exact g1.am
      · exact ih g2
  exact (this s2.t h2).rel (R.tmps i)


/-! loops -/
/-- A loop: what holds at each round's head with so many rounds to come at most. -/
theorem AWP.loop {c : Code} {Q : Exit → AS → Prop} {s : AS} (I : Nat → AS → Prop) (h0 : ∃ n s1, Weak E.ns s s1 ∧ I n s1)
    (hr : ∀ n s, I n s → AWP P E c (thenA (fun s' => ∃ m s2, m < n ∧ Weak E.ns s' s2 ∧ I m s2) Q) s) : AWP P E (.loop c) Q s := by
  intro G a w R b k cs hro hb hrm
  have key : ∀ n s G a w, I n s → Rel E G s a w → ∃ e a' w', (∃ G' s', Q e s' ∧ Rel E G' s' a' w') ∧ ArrivesIn (Machine.fenced P (rF E.ro)) P (lone (b.atR a (.code c :: .inLoop c :: k)) cs w) b k cs e a' w' := by
    intro n
    induction n using Nat.strongRecOn with
    | _ n ih =>
      intro s G a w hI R
      obtain ⟨e, a₁, w₁, ⟨G1, s1, g2, g3⟩, harr⟩ := hr n s hI G a w R b (.inLoop c :: k) cs hro hb hrm
      cases e with
      | normal =>
        obtain ⟨m, s2, hlt, hw, hI2⟩ := g2
        obtain ⟨G2, _, R2⟩ := hw.rel g3
        obtain ⟨e₂, a₂, w₂, hq₂, harr₂⟩ := ih m hlt s2 G2 a₁ w₁ hI2 R2
        exact ⟨e₂, a₂, w₂, hq₂, .of_steps (StepsIn.trans harr (.one (fenced_calm hb hrm rfl) stepR_inLoop)) harr₂⟩
      | exit id => exact ⟨_, a₁, w₁, ⟨G1, s1, g2, g3⟩, .pass (x := .inLoop c) rfl (fun _ _ => .inl (by simp)) harr⟩
      | goto l => exact ⟨_, a₁, w₁, ⟨G1, s1, g2, g3⟩, .pass (x := .inLoop c) rfl (fun _ _ => .inl (by simp)) harr⟩
      | ret => exact ⟨_, a₁, w₁, ⟨G1, s1, g2, g3⟩, .pass (x := .inLoop c) rfl (fun _ _ => .inl (by simp)) harr⟩
      | panic ch => exact ⟨_, a₁, w₁, ⟨G1, s1, g2, g3⟩, .pass (x := .inLoop c) rfl (fun _ _ => .inl (by simp)) harr⟩
      | outgrown => exact ⟨_, a₁, w₁, ⟨G1, s1, g2, g3⟩, .pass (x := .inLoop c) rfl (fun _ _ => .inl (by simp)) harr⟩
  obtain ⟨n, s1, hw, hI⟩ := h0
  obtain ⟨G1, _, R1⟩ := hw.rel R
  obtain ⟨e, a', w', hq, harr⟩ := key n s1 G1 a w hI R1
  exact ⟨e, a', w', hq, .of_steps (.one (fenced_calm hb hrm rfl) stepR_loop) harr⟩

end
end Go.Proofs.Ytjdokoldiemobaa.AM
