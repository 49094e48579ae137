/-
  THE ABSTRACT MACHINE, part 7: names turn, what is no longer needed is dropped; a callee's view of its caller's memory, and back.
-/
import Derived.Test.YtjdokoldiemobaaAm6
set_option linter.unusedVariables false
set_option linter.unusedSimpArgs false
namespace Go.Proofs.Ytjdokoldiemobaa.AM
open Go

/-- Target names: their sources; rows of nothing that are new. -/
structure Ren where
  src : Nat → Option Nat
  ph : Nat → Option Nat

inductive AM (ρ : Ren) : AV → AV → Prop
  | undef (x : AV) : AM ρ x .undef
  | c (x : PC) : AM ρ (.c x) (.c x)
  | agg (cs cs' : List AV) (hl : cs.length = cs'.length) (h : ∀ (i : Nat) (x y : AV), cs[i]? = some x → cs'[i]? = some y → AM ρ x y) : AM ρ (.agg cs) (.agg cs')
  | nilsl : AM ρ .nilsl .nilsl
  | nilc : AM ρ .nilsl (.c (.sl []))
  | nilo (n z : Nat) (hs : ρ.src n = none) (h : ρ.ph n = some z) : AM ρ .nilsl (.own n z [])
  | own (r n z : Nat) (rows : List (List PC)) (h : ρ.src n = some r) : AM ρ (.own r z rows) (.own n z rows)
  | ownc (r z : Nat) (rows : List (List PC)) : AM ρ (.own r z rows) (.c (.sl rows))
  | ptr (q n off : Nat) (h : ρ.src n = some q) : AM ρ (.ptr q off) (.ptr n off)
  | msl (q n off len : Nat) (ex : Bool) (h : ρ.src n = some q) : AM ρ (.msl q off len ex) (.msl n off len ex)
  | nilptr : AM ρ .nilptr .nilptr
  | rptr (cs : List PC) : AM ρ (.rptr cs) (.rptr cs)
  | clo (f : FuncId) (caps : List (List PC)) : AM ρ (.clo f caps) (.clo f caps)
  | mp (q n : Nat) (h : ρ.src n = some q) : AM ρ (.mp q) (.mp n)
  | nilmp : AM ρ .nilmp .nilmp
  | ubool : AM ρ .ubool .ubool
  | tup (cs cs' : List AV) (hl : cs.length = cs'.length) (h : ∀ (i : Nat) (x y : AV), cs[i]? = some x → cs'[i]? = some y → AM ρ x y) : AM ρ (.tup cs) (.tup cs')

/-- The ghost behind a renaming. -/
def Ren.gh (ρ : Ren) (G : Gh) : Gh := ⟨G.K, fun n => match ρ.src n with | some q => G.h q | none => (ρ.ph n).map fun z => .row z none 0⟩

theorem AM.rel {ρ : Ren} {G : Gh} {x y : AV} (h : AM ρ x y) : ∀ {v : Value}, AR G x v → AR (ρ.gh G) y v := by
  induction h with
  | undef x => exact fun _ => .undef _
  | c x => intro v h; cases h with | c _ _ h => exact .c _ _ h
  | agg cs cs' hl _ ih =>
    intro v h
    cases h with
    | agg _ us hl' hc =>
      refine .agg _ _ (by omega) (fun i y u e1 e2 => ?_)
      have hi : i < cs.length := by have := (List.getElem?_eq_some_iff.1 e1).1; omega
      have hx : cs[i]? = some cs[i] := by simp [hi]
      exact ih i _ y hx e1 (hc i _ u hx e2)
  | nilsl => intro v h; cases h; exact .nilsl
  | nilc => intro v h; cases h; exact .c _ _ .nil
  | nilo n z hs hp =>
    intro v h; cases h
    exact .own n z [] _ none 0 (by simp only [Ren.gh, hs, hp]; rfl) (Nat.le_refl _) (by simp) .nil (fun _ => rfl)
  | own r n z rows hs =>
    intro v h
    cases h with
    | own _ _ _ _ bk fr hh hl hr hv ha => exact .own n z rows v bk fr (by simp only [Ren.gh, hs]; exact hh) hl hr hv ha
  | ownc r z rows => intro v h; cases h with | own _ _ _ _ bk fr hh hl hr hv ha => exact .c _ _ hv
  | ptr q n off hs => intro v h; cases h with | ptr _ _ b hb => exact .ptr n off b (by simp only [Ren.gh, hs]; exact hb)
  | msl q n off len ex hs => intro v h; cases h with | msl _ _ _ b cap _ hb hc he => exact .msl n off len b cap ex (by simp only [Ren.gh, hs]; exact hb) hc he
  | nilptr => intro v h; cases h; exact .nilptr
  | rptr cs => intro v h; cases h with | rptr _ b off hk => exact .rptr cs b off hk
  | clo f caps => intro v h; cases h with | clo _ _ us hl hk => exact .clo f caps us hl hk
  | mp q n hs => intro v h; cases h with | mp _ b hb => exact .mp n b (by simp only [Ren.gh, hs]; exact hb)
  | nilmp => intro v h; cases h; exact .nilmp
  | ubool => intro v h; cases h with | ubool b => exact .ubool b
  | tup cs cs' hl _ ih =>
    intro v h
    cases h with
    | tup _ us hl' hc =>
      refine .tup _ _ (by omega) (fun i y u e1 e2 => ?_)
      have hi : i < cs.length := by have := (List.getElem?_eq_some_iff.1 e1).1; omega
      have hx : cs[i]? = some cs[i] := by simp [hi]
      exact ih i _ y hx e1 (hc i _ u hx e2)

/-- A target's content out of its source's. -/
def CM (ρ : Ren) : Option MC → Option MC → Prop
  | some (.obj cells fz), some (.obj cells' fz') => fz = fz' ∧ cells.length = cells'.length ∧ ∀ (i : Nat) (x y : AV), cells[i]? = some x → cells'[i]? = some y → AM ρ x y
  | some (.row z fr), some (.row z' fr') => z = z' ∧ fr = fr'
  | some (.mp ag es), some (.mp ag' es') => ag = ag' ∧ es = es'
  | _, _ => False

structure RenOK (ρ : Ren) (m m2 : Nat → Option MC) : Prop where
  inj : ∀ n n' q, ρ.src n = some q → ρ.src n' = some q → n = n'
  src : ∀ n q, ρ.src n = some q → CM ρ (m q) (m2 n)
  ph : ∀ n z, ρ.src n = none → ρ.ph n = some z → m2 n = some (.row z 0)
  none : ∀ n, ρ.src n = none → ρ.ph n = none → m2 n = none

theorem elemAV_ren {ρ : Ren} {G : Gh} {ag : Bool} {cs : List PC} {v : Value} (h : AR G (elemAV ag (cs.map .c)) v) : AR (ρ.gh G) (elemAV ag (cs.map .c)) v := by
  cases ag with
  | true =>
    simp only [elemAV, if_true] at h ⊢
    refine AM.rel (ρ := ρ) (.agg _ _ rfl fun i x y e1 e2 => ?_) h
    rw [e1] at e2; cases e2
    simp only [List.getElem?_map, Option.map_eq_some_iff] at e1
    obtain ⟨c, _, rfl⟩ := e1
    exact .c c
  | false =>
    simp only [elemAV, Bool.false_eq_true, if_false] at h ⊢
    cases cs with
    | nil => exact .undef _
    | cons c cs => exact AM.rel (ρ := ρ) (.c c) h

theorem MRel.rename {E : Env} {G : Gh} {m m2 : Nat → Option MC} {w : World} (M : MRel E G m w) {ρ : Ren} (h : RenOK ρ m m2) : MRel E (ρ.gh G) m2 w where
  agree := M.agree
  home n := by
    cases hs : ρ.src n with
    | some q =>
      have hm := h.src n q hs
      have h0 := M.home q
      have hg : (ρ.gh G).h n = G.h q := by simp only [Ren.gh, hs]
      rw [hg]
      generalize m q = c1 at hm h0
      generalize m2 n = c2 at hm
      generalize G.h q = hq at h0
      unfold CM at hm
      split at hm
      · obtain ⟨rfl, hl, hc⟩ := hm
        cases hq with
        | none => exact h0.elim
        | some x =>
          cases x with
          | row => exact h0.elim
          | obj b =>
            obtain ⟨vs, ty, a1, a2, a3, a4, a5, a6⟩ := h0
            refine ⟨vs, ty, a1, by omega, fun i y v e1 e2 => ?_, a4, a5, a6⟩
            rename_i cells fz cells'
            have hi : i < cells.length := by have := (List.getElem?_eq_some_iff.1 e1).1; omega
            have hx : cells[i]? = some cells[i] := by simp [hi]
            exact (hc i _ y hx e1).rel (a3 i _ v hx e2)
      · obtain ⟨rfl, rfl⟩ := hm
        cases hq with
        | none => exact h0.elim
        | some x =>
          cases x with
          | obj => exact h0.elim
          | row z bk fr => exact h0
      · obtain ⟨rfl, rfl⟩ := hm
        cases hq with
        | none => exact h0.elim
        | some x =>
          cases x with
          | row => exact h0.elim
          | obj b =>
            obtain ⟨ms, cl, a1, a2, a3, a4⟩ := h0
            exact ⟨ms, cl, a1, a2, fun i x e q1 q2 => let ⟨b1, b2, b3⟩ := a3 i x e q1 q2; ⟨b1, elemAV_ren b2, b3⟩, a4⟩
      · exact hm.elim
    | none =>
      cases hp : ρ.ph n with
      | some z =>
        rw [h.ph n z hs hp]
        have hg : (ρ.gh G).h n = some (.row z none 0) := by simp only [Ren.gh, hs, hp]; rfl
        rw [hg]
        exact ⟨rfl, rfl, rfl⟩
      | none =>
        rw [h.none n hs hp]
        have hg : (ρ.gh G).h n = none := by simp only [Ren.gh, hs, hp]; rfl
        rw [hg]
        trivial
  inj n n' x y b e1 e2 e3 e4 := by
    cases hs : ρ.src n with
    | none =>
      simp only [Ren.gh, hs] at e1
      cases hp : ρ.ph n with
      | none => rw [hp] at e1; cases e1
      | some z => rw [hp] at e1; cases e1; simp [Home.blk] at e3
    | some q =>
      cases hs' : ρ.src n' with
      | none =>
        simp only [Ren.gh, hs'] at e2
        cases hp : ρ.ph n' with
        | none => rw [hp] at e2; cases e2
        | some z => rw [hp] at e2; cases e2; simp [Home.blk] at e4
      | some q' =>
        simp only [Ren.gh, hs] at e1
        simp only [Ren.gh, hs'] at e2
        have := M.inj q q' x y b e1 e2 e3 e4
        subst this
        exact h.inj n n' q hs hs'
  os := M.os
  tape := M.tape
  output := M.output
  size0 := M.size0
  sizeB := M.sizeB
  blk := M.blk
  k0 := M.k0
  kfr := M.kfr

/-- A callee's view: the world at the call, whatever is named may turn. -/
def callee (G : Gh) (w : World) : Env := cEnv w (fun b => ∃ n h, G.h n = some h ∧ h.blk = some b) G.K

theorem HomeOK.env {E E' : Env} {G : Gh} {w : World} {c : Option MC} {h : Option Home} (hh : HomeOK E G w c h) (hm : ∀ x b, h = some x → x.blk = some b → E'.mine b) : HomeOK E' G w c h := by
  cases h with
  | none => cases c with | none => trivial | some c => cases c <;> exact hh.elim
  | some h =>
    cases c with
    | none => exact hh.elim
    | some c =>
      cases c with
      | obj cells fz =>
        cases h with
        | row => exact hh.elim
        | obj b => obtain ⟨vs, ty, a1, a2, a3, a4, a5, a6⟩ := hh; exact ⟨vs, ty, a1, a2, a3, hm _ b rfl rfl, a5, a6⟩
      | row z fr =>
        cases h with
        | obj => exact hh.elim
        | row z' bk fr' =>
          obtain ⟨e1, e2, hr⟩ := hh
          refine ⟨e1, e2, ?_⟩
          cases bk with
          | none => exact hr
          | some p => obtain ⟨b, cap⟩ := p; obtain ⟨vs, ty, a1, a2, a3, a4, a5, a6⟩ := hr; exact ⟨vs, ty, a1, a2, a3, a4, hm _ b rfl rfl, a6⟩
      | mp ag es =>
        cases h with
        | row => exact hh.elim
        | obj b => obtain ⟨ms, cl, a1, a2, a3, a4⟩ := hh; exact ⟨ms, cl, a1, a2, a3, hm _ b rfl rfl⟩

theorem MRel.focus {E : Env} {G : Gh} {m : Nat → Option MC} {w : World} (M : MRel E G m w) : MRel (callee G w) G m w where
  agree := M.agree
  home n := (M.home n).env fun x b e1 e2 => .inr ⟨n, x, e1, e2⟩
  inj := M.inj
  os := rfl
  tape := rfl
  output := rfl
  size0 := Nat.le_refl _
  sizeB := Nat.le_refl _
  blk _ _ _ := rfl
  k0 := Know.le_refl _
  kfr _ _ _ _ := rfl


/-- Behind a call: what was named has turned, all else lies as it lay. -/
theorem MRel.merge {E : Env} {G : Gh} {m : Nat → Option MC} {w : World} (M : MRel E G m w) {Ext : Nat → Prop} {G' : Gh} {m' : Nat → Option MC} {w' : World}
    (M' : MRel (cEnv w Ext G.K) G' m' w') (hext : ∀ b, Ext b → ∃ n h, G.h n = some h ∧ h.blk = some b ∧ m' n ≠ none)
    (hle : ∀ n h, G.h n = some h → m' n ≠ none → ∃ h', G'.h n = some h' ∧ Home.le h h') :
    let G2 : Gh := ⟨G'.K, fun n => match m' n with | some _ => G'.h n | none => G.h n⟩
    G.le G2 ∧ G'.le G2 ∧ MRel E G2 (fun n => match m' n with | some c => some c | none => m n) w' := by
  intro G2
  have hnone : ∀ n, m' n = none → G'.h n = none := fun n h => by have := M'.home n; rw [h] at this; exact this.none_of
  have ht : ∀ n, m' n ≠ none → G2.h n = G'.h n := fun n h => by
    show (match m' n with | some _ => G'.h n | none => G.h n) = _
    cases hm : m' n with
    | none => exact absurd hm h
    | some c => rfl
  have hu : ∀ n, m' n = none → G2.h n = G.h n := fun n h => by
    show (match m' n with | some _ => G'.h n | none => G.h n) = _
    rw [h]
  have l1 : G.le G2 := ⟨M'.k0, fun n h e => by
    by_cases hm : m' n = none
    · exact ⟨h, (hu n hm).trans e, Home.le_refl h⟩
    · obtain ⟨h', e', l⟩ := hle n h e hm
      exact ⟨h', (ht n hm).trans e', l⟩⟩
  have l2 : G'.le G2 := ⟨Know.le_refl _, fun n h e => by
    by_cases hm : m' n = none
    · rw [hnone n hm] at e; cases e
    · exact ⟨h, (ht n hm).trans e, Home.le_refl h⟩⟩
  have hmine : ∀ b, (cEnv w Ext G.K).mine b → E.mine b := fun b hb => by
    rcases hb with h | h
    · exact .inl (Nat.le_trans M.sizeB h)
    · obtain ⟨n, x, e1, e2, _⟩ := hext b h
      exact (e1 ▸ M.home n).mine e2
  have hnext : ∀ n x b, m' n = none → G.h n = some x → x.blk = some b → ¬ Ext b := fun n x b hm e1 e2 he => by
    obtain ⟨n', x', e3, e4, h⟩ := hext b he
    have := M.inj n n' x x' b e1 e3 e2 e4
    subst this
    exact h hm
  have hold : ∀ n x b, m' n = none → G.h n = some x → x.blk = some b → w'.heap[b]? = w.heap[b]? ∧ ∀ o, G'.K b o = G.K b o := fun n x b hm e1 e2 => by
    have hlt := (e1 ▸ M.home n).lt e2
    have hn := hnext n x b hm e1 e2
    exact ⟨M'.blk b hlt hn, fun o => M'.kfr b o hlt hn⟩
  refine ⟨l1, l2, M'.agree, fun n => ?_, fun i j x y b e1 e2 e3 e4 => ?_, M'.os.trans M.os, M'.tape.trans M.tape, M'.output.trans M.output, Nat.le_trans M.size0 M'.sizeB, Nat.le_trans M.sizeB M'.sizeB, ?_, Know.le_trans M.k0 M'.k0, ?_⟩
  · by_cases hm : m' n = none
    · rw [hu n hm, hm]
      exact (M.home n).keep l1 fun x b e1 e2 => hold n x b hm e1 e2
    · rw [ht n hm]
      have h0 := M'.home n
      have : (match m' n with | some c => some c | none => m n) = m' n := by
        cases hq : m' n with
        | none => exact absurd hq hm
        | some c => rfl
      rw [this]
      exact (h0.keep l2 fun _ _ _ _ => ⟨rfl, fun _ => rfl⟩).env fun x b e1 e2 => hmine b ((e1 ▸ h0).mine e2)
  · have cross : ∀ i j x y b, m' i ≠ none → m' j = none → G'.h i = some x → G.h j = some y → x.blk = some b → y.blk = some b → False := fun i j x y b h1 h2 e1 e2 e3 e4 => by
      have hlt := (e2 ▸ M.home j).lt e4
      rcases (e1 ▸ M'.home i).mine e3 with h | h
      · have h' : w.heap.size ≤ b := h
        omega
      · exact hnext j y b h2 e2 e4 h
    by_cases hi : m' i = none
    · rw [hu i hi] at e1
      by_cases hj : m' j = none
      · rw [hu j hj] at e2; exact M.inj i j x y b e1 e2 e3 e4
      · rw [ht j hj] at e2; exact (cross j i y x b hj hi e2 e1 e4 e3).elim
    · rw [ht i hi] at e1
      by_cases hj : m' j = none
      · rw [hu j hj] at e2; exact (cross i j x y b hi hj e1 e2 e3 e4).elim
      · rw [ht j hj] at e2; exact M'.inj i j x y b e1 e2 e3 e4
  · intro k hk hx
    have hsz := M.sizeB
    refine (M'.blk k (by show k < w.heap.size; omega) ?_).trans (M.blk k hk hx)
    intro he
    obtain ⟨n, x, e1, e2, _⟩ := hext k he
    rcases (e1 ▸ M.home n).mine e2 with h | h
    · omega
    · exact hx h
  · intro b o hb hx
    have hsz := M.sizeB
    refine (M'.kfr b o (by show b < w.heap.size; omega) ?_).trans (M.kfr b o hb hx)
    intro he
    obtain ⟨n, x, e1, e2, _⟩ := hext b he
    rcases (e1 ▸ M.home n).mine e2 with h | h
    · omega
    · exact hx h

end Go.Proofs.Ytjdokoldiemobaa.AM
