/-
  THE ABSTRACT MACHINE, part 2: an abstract memory and a world; what each kind of step makes of the relation.
-/
import Derived.Test.YtjdokoldiemobaaAm1
import Derived.Laws.CopyRow
import Derived.Laws.Append
import Derived.Laws.Entries
set_option linter.unusedVariables false
set_option linter.unusedSimpArgs false
namespace Go.Proofs.Ytjdokoldiemobaa.AM
open Go

structure Env where
  N : Lim
  ns : List Nat
  H0 : Nat → Option Home
  w0 : World
  B : Nat
  Ext : Nat → Prop
  K0 : Know
  ro : Option Nat
  dfs : List Deferred

/-- The fence that lets all by: in an activation of a function, or in a round. -/
def rF (ro : Option Nat) : Fence := { Fence.wide with round := ro }

/-- The view of a call that begins in this world. -/
def cEnv (w : World) (Ext : Nat → Prop) (K : Know) : Env := ⟨⟨0, ⟨[], []⟩⟩, [], fun _ => none, w, w.heap.size, Ext, K, none, []⟩
def Env.mine (E : Env) (b : Nat) : Prop := E.B ≤ b ∨ E.Ext b

def ObjOK (E : Env) (G : Gh) (w : World) (cells : List AV) (fz : Bool) (b : Nat) : Prop :=
  ∃ (vs : Array Value) (ty : TypeId), w.heap[b]? = some (.cells vs ty (0, 0)) ∧ cells.length = vs.size ∧ (∀ (i : Nat) (x : AV) (v : Value), cells[i]? = some x → vs[i]? = some v → AR G x v) ∧
    E.mine b ∧ (fz = true → ∀ (i : Nat) (v : Value), vs[i]? = some v → G.K b i = some v) ∧ (fz = false → ∀ o, G.K b o = none)

/-- None of a row's cells is frozen. -/
def FrOK (n : Nat) (p : Nat × Nat) : Prop := p = (0, 0) ∨ p = (n, n + 1)
def RowOK (E : Env) (G : Gh) (w : World) (z : Nat) (bk : Option (Nat × Nat)) (fr : Nat) : Prop :=
  match bk with
  | none => fr = 0
  | some (b, cap) => ∃ (vs : Array Value) (ty : TypeId), (∃ p, w.heap[b]? = some (.cells vs ty p) ∧ FrOK vs.size p) ∧ vs.size = cap * z ∧ fr ≤ cap ∧ 0 < z ∧
      E.mine b ∧ ∀ o, fr * z ≤ o → G.K b o = none

def EntryOK (G : Gh) (ag : Bool) (x : List UInt8 × List PC) (e : MapEntry) : Prop :=
  e.key = .string ⟨x.1.toArray⟩ ∧ AR G (elemAV ag (x.2.map .c)) e.val ∧ (ag = false → x.2.length = 1)

def MapOK (E : Env) (G : Gh) (w : World) (ag : Bool) (es : List (List UInt8 × List PC)) (b : Nat) : Prop :=
  ∃ (ms : Array MapEntry) (clock : Nat), w.heap[b]? = some (.map ms clock) ∧ es.length = ms.size ∧
    (∀ (i : Nat) (x : List UInt8 × List PC) (e : MapEntry), es[i]? = some x → ms[i]? = some e → EntryOK G ag x e) ∧ E.mine b

def HomeOK (E : Env) (G : Gh) (w : World) : Option MC → Option Home → Prop
  | none, none => True
  | some (.obj cells fz), some (.obj b) => ObjOK E G w cells fz b
  | some (.row z fr), some (.row z' bk fr') => z = z' ∧ fr = fr' ∧ RowOK E G w z bk fr
  | some (.mp ag es), some (.obj b) => MapOK E G w ag es b
  | _, _ => False

structure MRel (E : Env) (G : Gh) (m : Nat → Option MC) (w : World) : Prop where
  agree : ∀ b o v, G.K b o = some v → w.cell? ⟨b, o, none⟩ = some v
  home : ∀ n, HomeOK E G w (m n) (G.h n)
  inj : ∀ n n' h h' b, G.h n = some h → G.h n' = some h' → h.blk = some b → h'.blk = some b → n = n'
  os : w.os = E.w0.os
  tape : w.tape = E.w0.tape
  output : w.output = E.w0.output
  size0 : E.w0.heap.size ≤ w.heap.size
  sizeB : E.B ≤ w.heap.size
  blk : ∀ k, k < E.B → ¬ E.Ext k → w.heap[k]? = E.w0.heap[k]?
  k0 : E.K0.le G.K
  kfr : ∀ b o, b < E.B → ¬ E.Ext b → G.K b o = E.K0 b o

theorem MRel.k_lt {E : Env} {G : Gh} {m : Nat → Option MC} {w : World} (R : MRel E G m w) {b o : Nat} {v : Value} (h : G.K b o = some v) : b < w.heap.size :=
  World.block_lt_of_cell? w _ (R.agree b o v h)

theorem MRel.k_new {E : Env} {G : Gh} {m : Nat → Option MC} {w : World} (R : MRel E G m w) {b : Nat} (hb : w.heap.size ≤ b) (o : Nat) : G.K b o = none := by
  cases h : G.K b o with
  | none => rfl
  | some v => have := R.k_lt h; omega

theorem heap_some_lt {w : World} {b : Nat} {o : Obj} (h : w.heap[b]? = some o) : b < w.heap.size := (Array.getElem?_eq_some_iff.1 h).1

theorem HomeOK.lt {E : Env} {G : Gh} {w : World} {c : Option MC} {h : Home} {b : Nat} (hh : HomeOK E G w c (some h)) (hb : h.blk = some b) : b < w.heap.size := by
  cases c with
  | none => cases hh
  | some c =>
    cases c with
    | obj cells fz =>
      cases h with
      | obj b' => simp only [Home.blk, Option.some.injEq] at hb; subst hb; obtain ⟨vs, ty, h1, _⟩ := hh; exact heap_some_lt h1
      | row => exact hh.elim
    | row z fr =>
      cases h with
      | obj b' => exact hh.elim
      | row z' bk fr' =>
        obtain ⟨_, _, hr⟩ := hh
        cases bk with
        | none => simp [Home.blk] at hb
        | some p => obtain ⟨b', cap⟩ := p; simp only [Home.blk, Option.map_some, Option.some.injEq] at hb; subst hb; obtain ⟨vs, ty, ⟨_, h1, _⟩, _⟩ := hr; exact heap_some_lt h1
    | mp ag es =>
      cases h with
      | obj b' => simp only [Home.blk, Option.some.injEq] at hb; subst hb; obtain ⟨vs, cl, h1, _⟩ := hh; exact heap_some_lt h1
      | row => exact hh.elim

theorem HomeOK.mine {E : Env} {G : Gh} {w : World} {c : Option MC} {h : Home} {b : Nat} (hh : HomeOK E G w c (some h)) (hb : h.blk = some b) : E.mine b := by
  cases c with
  | none => cases hh
  | some c =>
    cases c with
    | obj cells fz =>
      cases h with
      | obj b' => simp only [Home.blk, Option.some.injEq] at hb; subst hb; obtain ⟨vs, _, _, _, _, h1, _⟩ := hh; exact h1
      | row => exact hh.elim
    | row z fr =>
      cases h with
      | obj b' => exact hh.elim
      | row z' bk fr' =>
        obtain ⟨_, _, hr⟩ := hh
        cases bk with
        | none => simp [Home.blk] at hb
        | some p => obtain ⟨b', cap⟩ := p; simp only [Home.blk, Option.map_some, Option.some.injEq] at hb; subst hb; obtain ⟨vs, ty, _, _, _, _, h1, _⟩ := hr; exact h1
    | mp ag es =>
      cases h with
      | obj b' => simp only [Home.blk, Option.some.injEq] at hb; subst hb; obtain ⟨vs, cl, _, _, _, h1⟩ := hh; exact h1
      | row => exact hh.elim

theorem frozen_same {w w' : World} {b : Nat} (h : w'.heap[b]? = w.heap[b]?) (o : Nat) : w'.frozen? ⟨b, o, none⟩ = w.frozen? ⟨b, o, none⟩ := by
  simp only [World.frozen?, h]
theorem cell_same {w w' : World} {b : Nat} (h : w'.heap[b]? = w.heap[b]?) (o : Nat) : w'.cell? ⟨b, o, none⟩ = w.cell? ⟨b, o, none⟩ := by
  simp only [World.cell?, h]

/-- A home that nothing touches. -/
theorem HomeOK.keep {E : Env} {G G' : Gh} {w w' : World} {c : Option MC} {h : Option Home} (hh : HomeOK E G w c h) (hle : G.le G')
    (hk : ∀ x b, h = some x → x.blk = some b → w'.heap[b]? = w.heap[b]? ∧ ∀ o, G'.K b o = G.K b o) : HomeOK E G' w' c h := by
  cases h with
  | none => cases c with | none => trivial | some c => cases c <;> exact hh.elim
  | some h =>
    cases c with
    | none => exact hh.elim
    | some c =>
      cases c with
      | obj cells fz =>
        cases h with
        | row => exact hh.elim
        | obj b =>
          obtain ⟨h1, h2⟩ := hk _ b rfl rfl
          obtain ⟨vs, ty, a1, a2, a3, a4, a5, a6⟩ := hh
          exact ⟨vs, ty, h1.trans a1, a2, fun i x v e1 e2 => (a3 i x v e1 e2).mono hle, a4, fun e i v hv => (h2 i).trans (a5 e i v hv), fun e o => (h2 o).trans (a6 e o)⟩
      | row z fr =>
        cases h with
        | obj => exact hh.elim
        | row z' bk fr' =>
          obtain ⟨e1, e2, hr⟩ := hh
          refine ⟨e1, e2, ?_⟩
          cases bk with
          | none => exact hr
          | some p =>
            obtain ⟨b, cap⟩ := p
            obtain ⟨h1, h2⟩ := hk _ b rfl rfl
            obtain ⟨vs, ty, a1, a2, a3, a4, a6, a7⟩ := hr
            obtain ⟨q, a1, aq⟩ := a1
            exact ⟨vs, ty, ⟨q, h1.trans a1, aq⟩, a2, a3, a4, a6, fun o ho => (h2 o).trans (a7 o ho)⟩
      | mp ag es =>
        cases h with
        | row => exact hh.elim
        | obj b =>
          obtain ⟨h1, _⟩ := hk _ b rfl rfl
          obtain ⟨ms, cl, a1, a2, a3, a4⟩ := hh
          exact ⟨ms, cl, h1.trans a1, a2, fun i x e q1 q2 => let ⟨b1, b2, b3⟩ := a3 i x e q1 q2; ⟨b1, b2.mono hle, b3⟩, a4⟩

def mset (m : Nat → Option MC) (n : Nat) (c : MC) : Nat → Option MC := fun i => if n = i then some c else m i

/-- One name's home is new, or turns. -/
theorem MRel.update {E : Env} {G G' : Gh} {m : Nat → Option MC} {w w' : World} (R : MRel E G m w) (hle : G.le G') (n : Nat) (c : MC) (h : Home)
    (hag : ∀ b o v, G'.K b o = some v → w'.cell? ⟨b, o, none⟩ = some v)
    (hG : ∀ i, i ≠ n → G'.h i = G.h i) (hn : G'.h n = some h) (hok : HomeOK E G' w' (some c) (some h))
    (hoth : ∀ i x b, i ≠ n → G.h i = some x → x.blk = some b → w'.heap[b]? = w.heap[b]? ∧ (∀ o, G'.K b o = G.K b o) ∧ h.blk ≠ some b)
    (hos : w'.os = w.os) (htape : w'.tape = w.tape) (hout : w'.output = w.output) (hsz : w.heap.size ≤ w'.heap.size)
    (hblk : ∀ k, k < E.B → ¬ E.Ext k → w'.heap[k]? = w.heap[k]?) (hkf : ∀ b o, b < E.B → ¬ E.Ext b → G'.K b o = G.K b o) : MRel E G' (mset m n c) w' where
  agree := hag
  home i := by
    unfold mset
    by_cases e : n = i
    · subst e; rw [if_pos rfl, hn]; exact hok
    · rw [if_neg e, hG i (Ne.symm e)]
      exact (R.home i).keep hle fun x b e1 e2 => let ⟨h1, h2, _⟩ := hoth i x b (Ne.symm e) e1 e2; ⟨h1, h2⟩
  inj i j x y b e1 e2 e3 e4 := by
    by_cases hi : i = n
    · by_cases hj : j = n
      · rw [hi, hj]
      · subst hi
        rw [hG j hj] at e2
        rw [hn] at e1
        cases e1
        exact absurd e3 (hoth j y b hj e2 e4).2.2
    · by_cases hj : j = n
      · subst hj
        rw [hG i hi] at e1
        rw [hn] at e2
        cases e2
        exact absurd e4 (hoth i x b hi e1 e3).2.2
      · rw [hG i hi] at e1
        rw [hG j hj] at e2
        exact R.inj i j x y b e1 e2 e3 e4
  os := hos.trans R.os
  tape := htape.trans R.tape
  output := hout.trans R.output
  size0 := Nat.le_trans R.size0 hsz
  sizeB := Nat.le_trans R.sizeB hsz
  blk k hk hx := (hblk k hk hx).trans (R.blk k hk hx)
  k0 := Know.le_trans R.k0 hle.K
  kfr b o hb hx := (hkf b o hb hx).trans (R.kfr b o hb hx)

/-- The count of draws alone. -/
theorem MRel.drawn {E : Env} {G : Gh} {m : Nat → Option MC} {w : World} (R : MRel E G m w) (d : Nat) : MRel E G m { w with drawn := d } :=
  ⟨R.agree, fun n => (R.home n).keep (Gh.le_refl G) fun _ _ _ _ => ⟨rfl, fun _ => rfl⟩, R.inj, R.os, R.tape, R.output, R.size0, R.sizeB, R.blk, R.k0, R.kfr⟩

theorem MRel.congr {E : Env} {G : Gh} {m m' : Nat → Option MC} {w : World} (R : MRel E G m w) (h : ∀ n, m' n = m n) : MRel E G m' w := by
  have : m' = m := funext h
  rw [this]; exact R

def Gh.put (G : Gh) (n : Nat) (x : Home) : Gh := ⟨G.K, fun i => if i = n then some x else G.h i⟩
theorem Gh.le_put {G : Gh} {n : Nat} {x : Home} (h : G.h n = none) : G.le (G.put n x) :=
  ⟨Know.le_refl _, fun i y e => ⟨y, by simp only [Gh.put]; rw [if_neg (fun e' => by subst e'; rw [h] at e; cases e)]; exact e, Home.le_refl y⟩⟩

theorem HomeOK.none_of {E : Env} {G : Gh} {w : World} {h : Option Home} (hh : HomeOK E G w none h) : h = none := by
  cases h with
  | none => rfl
  | some h => exact hh.elim

/-- A new block of cells: an object. -/
theorem MRel.newObj {E : Env} {G : Gh} {m : Nat → Option MC} {w : World} (R : MRel E G m w) {n : Nat} (hn : m n = none) {cells : List AV} {vs : Array Value} {ty : TypeId}
    (hl : cells.length = vs.size) (hc : ∀ (i : Nat) (x : AV) (v : Value), cells[i]? = some x → vs[i]? = some v → AR G x v) :
    let G' := G.put n (.obj w.heap.size)
    G.le G' ∧ G'.h n = some (.obj w.heap.size) ∧ MRel E G' (mset m n (.obj cells false)) { w with heap := w.heap.push (.cells vs ty (0, 0)) } := by
  have hnone : G.h n = none := by have := R.home n; rw [hn] at this; exact this.none_of
  have hle : G.le (G.put n (.obj w.heap.size)) := Gh.le_put hnone
  have hold : ∀ b, b < w.heap.size → ({ w with heap := w.heap.push (.cells vs ty (0, 0)) } : World).heap[b]? = w.heap[b]? := fun b hb => by
    show (w.heap.push _)[b]? = _
    rw [Array.getElem?_push, if_neg (by omega)]
  have hb : ({ w with heap := w.heap.push (.cells vs ty (0, 0)) } : World).heap[w.heap.size]? = some (.cells vs ty (0, 0)) := by simp
  refine ⟨hle, by simp [Gh.put], R.update hle n _ (.obj w.heap.size) ?_ ?_ ?_ ?_ ?_ rfl rfl rfl (by simp) ?_ (fun _ _ _ _ => rfl)⟩
  · intro b o v h
    rw [cell_same (hold b (R.k_lt h))]; exact R.agree b o v h
  · intro i hi; simp [Gh.put, hi]
  · simp [Gh.put]
  · refine ⟨vs, ty, hb, hl, fun i x v e1 e2 => (hc i x v e1 e2).mono hle, .inl R.sizeB, (fun e => by cases e), fun _ o => R.k_new (Nat.le_refl _) o⟩
  · intro i x b _ e1 e2
    have hlt := (e1 ▸ R.home i).lt e2
    refine ⟨hold b hlt, fun _ => rfl, ?_⟩
    simp [Home.blk]; omega
  · intro k hk _
    have := R.sizeB
    exact hold k (by omega)


/-- No name turns: new blocks, draws, and what is known of new blocks. -/
theorem MRel.same {E : Env} {G G' : Gh} {m : Nat → Option MC} {w w' : World} (R : MRel E G m w) (hK : G.K.le G'.K) (hh : G'.h = G.h)
    (hag : ∀ b o v, G'.K b o = some v → w'.cell? ⟨b, o, none⟩ = some v)
    (hold : ∀ b, b < w.heap.size → w'.heap[b]? = w.heap[b]?) (hko : ∀ b o, b < w.heap.size → G'.K b o = G.K b o)
    (hos : w'.os = w.os) (htape : w'.tape = w.tape) (hout : w'.output = w.output) (hsz : w.heap.size ≤ w'.heap.size) : MRel E G' m w' := by
  have hle : G.le G' := ⟨hK, fun n h e => ⟨h, by rw [hh]; exact e, Home.le_refl h⟩⟩
  refine ⟨hag, fun n => ?_, fun i j x y b e1 e2 => by rw [hh] at e1 e2; exact R.inj i j x y b e1 e2, hos.trans R.os, htape.trans R.tape, hout.trans R.output,
    Nat.le_trans R.size0 hsz, Nat.le_trans R.sizeB hsz, fun k hk hx => (hold k ?_).trans (R.blk k hk hx), Know.le_trans R.k0 hK, fun b o hb hx => (hko b o ?_).trans (R.kfr b o hb hx)⟩
  · rw [hh]
    exact (R.home n).keep hle fun x b e1 e2 => by
      have hlt := (e1 ▸ R.home n).lt e2
      exact ⟨hold b hlt, fun o => hko b o hlt⟩
  · have := R.sizeB; omega
  · have := R.sizeB; omega

def World.setBlock (w : World) (b : Nat) (o : Obj) : World := { w with heap := w.heap.setIfInBounds b o }
theorem setBlock_same {w : World} {b : Nat} (h : b < w.heap.size) (o : Obj) : (World.setBlock w b o).heap[b]? = some o := by
  simp [World.setBlock, h]
theorem setBlock_other {w : World} {b k : Nat} (h : k ≠ b) (o : Obj) : (World.setBlock w b o).heap[k]? = w.heap[k]? := by
  simp only [World.setBlock]
  rw [Array.getElem?_setIfInBounds_ne (Ne.symm h)]
theorem setBlock_size (w : World) (b : Nat) (o : Obj) : (World.setBlock w b o).heap.size = w.heap.size := by simp [World.setBlock]

/-- An object's cells turn. -/
theorem MRel.setObj {E : Env} {G : Gh} {m : Nat → Option MC} {w : World} (R : MRel E G m w) {n b : Nat} {cells cells' : List AV} {vs' : Array Value}
    (hn : m n = some (.obj cells false)) (hb : G.h n = some (.obj b)) (hl : cells'.length = vs'.size)
    (hc : ∀ (i : Nat) (x : AV) (v : Value), cells'[i]? = some x → vs'[i]? = some v → AR G x v) :
    MRel E G (mset m n (.obj cells' false)) (w.setRow b vs') := by
  have h0 := R.home n
  rw [hn, hb] at h0
  obtain ⟨vs, ty, a1, a2, a3, a4, a5, a6⟩ := h0
  refine R.update (Gh.le_refl G) n _ (.obj b) ?_ (fun _ _ => rfl) hb ⟨vs', ty, setRow_heap w b vs vs' ty _ a1, hl, hc, a4, (fun e => by cases e), a6⟩ ?_ rfl rfl rfl (by simp [World.setRow]) ?_ (fun _ _ _ _ => rfl)
  · intro b' o v h
    by_cases e : b' = b
    · subst e; rw [a6 rfl o] at h; cases h
    · rw [cell_same (setRow_other w b _ vs' e)]; exact R.agree b' o v h
  · intro i x b' hi e1 e2
    have hne : b' ≠ b := fun e => hi (R.inj i n x _ b' e1 hb e2 (by rw [e]; rfl))
    exact ⟨setRow_other w b _ vs' hne, fun _ => rfl, fun e => hne (by simpa [Home.blk] using e.symm)⟩
  · intro k hk hx
    have hne : k ≠ b := fun e => by
      subst e
      rcases a4 with h | h
      · omega
      · exact hx h
    exact setRow_other w b _ vs' hne

def Know.ext (K : Know) (b : Nat) (f : Nat → Option Value) : Know := fun b' o => if b' = b then f o else K b' o

/-- An object's cells are never written again. -/
theorem MRel.freeze {E : Env} {G : Gh} {m : Nat → Option MC} {w : World} (R : MRel E G m w) {n b : Nat} {cells : List AV} {fz : Bool}
    (hn : m n = some (.obj cells fz)) (hb : G.h n = some (.obj b)) :
    ∃ G' : Gh, G.le G' ∧ G'.h = G.h ∧ (∀ i x, cells[i]? = some x → ∃ v, G'.K b i = some v ∧ AR G' x v) ∧ MRel E G' (mset m n (.obj cells true)) w := by
  have h0 := R.home n
  rw [hn, hb] at h0
  obtain ⟨vs, ty, a1, a2, a3, a4, a5, a6⟩ := h0
  have hcell : ∀ o, w.cell? ⟨b, o, none⟩ = vs[o]? := fun o => by simp [World.cell?, a1]
  have hK : G.K.le (Know.ext G.K b fun o => vs[o]?) := fun b' o v h => by
    unfold Know.ext
    split
    · rename_i e; subst e; show vs[o]? = some v; rw [← hcell]; exact R.agree b' o v h
    · exact h
  have hle : G.le ⟨Know.ext G.K b fun o => vs[o]?, G.h⟩ := ⟨hK, fun n h e => ⟨h, e, Home.le_refl h⟩⟩
  have hself : ∀ o, Know.ext G.K b (fun o => vs[o]?) b o = vs[o]? := fun o => by simp [Know.ext]
  refine ⟨⟨Know.ext G.K b fun o => vs[o]?, G.h⟩, hle, rfl, ?_, R.update hle n _ (.obj b) ?_ (fun _ _ => rfl) hb ⟨vs, ty, a1, a2, fun i x v e1 e2 => (a3 i x v e1 e2).mono hle, a4, fun _ i v hv => (hself i).trans hv, (fun e => by cases e)⟩ ?_ rfl rfl rfl (Nat.le_refl _) (fun _ _ _ => rfl) ?_⟩
  · intro i x hx
    have hi : i < vs.size := by
      have := (List.getElem?_eq_some_iff.1 hx).1
      omega
    exact ⟨vs[i], (hself i).trans (by simp [hi]), (a3 i x _ hx (by simp [hi])).mono hle⟩
  · intro b' o v h
    simp only [Know.ext] at h
    split at h
    · rename_i e; subst e; rw [hcell]; exact h
    · exact R.agree b' o v h
  · intro i x b' hi e1 e2
    have hne : b' ≠ b := fun e => hi (R.inj i n x _ b' e1 hb e2 (by rw [e]; rfl))
    refine ⟨rfl, fun o => by simp [Know.ext, hne], fun e => hne (by simpa [Home.blk] using e.symm)⟩
  · intro b' o hb' hx
    have hne : b' ≠ b := fun e => by
      subst e
      rcases a4 with h | h
      · omega
      · exact hx h
    simp [Know.ext, hne]

/-- A new block all of whose cells are known from the first: its place, no name. -/
theorem MRel.newKnown {E : Env} {G : Gh} {m : Nat → Option MC} {w w' : World} (R : MRel E G m w) (f : Nat → Option Value)
    (hf : ∀ o v, f o = some v → w'.cell? ⟨w.heap.size, o, none⟩ = some v)
    (hold : ∀ b, b < w.heap.size → w'.heap[b]? = w.heap[b]?) (hos : w'.os = w.os) (htape : w'.tape = w.tape) (hout : w'.output = w.output) (hsz : w.heap.size ≤ w'.heap.size) :
    let G' : Gh := ⟨Know.ext G.K w.heap.size f, G.h⟩
    G.le G' ∧ MRel E G' m w' := by
  have hK : G.K.le (Know.ext G.K w.heap.size f) := fun b o v h => by
    have := R.k_lt h
    unfold Know.ext
    rw [if_neg (by omega)]; exact h
  refine ⟨⟨hK, fun n h e => ⟨h, e, Home.le_refl h⟩⟩, R.same hK rfl ?_ hold ?_ hos htape hout hsz⟩
  · intro b o v h
    simp only [Know.ext] at h
    split at h
    · rename_i e; subst e; exact hf o v h
    · rw [cell_same (hold b (R.k_lt h))]; exact R.agree b o v h
  · intro b o hb
    simp only [Know.ext]
    rw [if_neg (by omega)]

/-- A new row that is owned: a new block (of which the first cells are known), or nothing. -/
theorem MRel.newRow {E : Env} {G : Gh} {m : Nat → Option MC} {w w' : World} (R : MRel E G m w) {n : Nat} (hn : m n = none) {z cap : Nat} {rows : List (List PC)} {vs : Array Value} {ty : TypeId}
    (hz : 0 < z) (hr : ∀ r ∈ rows, r.length = z) (hcap : rows.length ≤ cap) (hsize : vs.size = cap * z)
    (hw : w'.heap[w.heap.size]? = some (.cells vs ty (0, 0)))
    (hv : ∀ (j : Nat) (r : List PC) (i : Nat) (c : PC), rows[j]? = some r → r[i]? = some c → ∃ v, vs[j * z + i]? = some v ∧ VR G.K c v)
    (hold : ∀ b, b < w.heap.size → w'.heap[b]? = w.heap[b]?) (hos : w'.os = w.os) (htape : w'.tape = w.tape) (hout : w'.output = w.output) (hsz : w.heap.size ≤ w'.heap.size) :
    ∃ G' : Gh, G.le G' ∧ AR G' (.own n z rows) (.slice (some ⟨w.heap.size, 0, none⟩) rows.length cap) ∧ MRel E G' (mset m n (.row z rows.length)) w' := by
  have hnone : G.h n = none := by have := R.home n; rw [hn] at this; exact this.none_of
  let f : Nat → Option Value := fun o => if o < rows.length * z then vs[o]? else none
  have hK : G.K.le (Know.ext G.K w.heap.size f) := fun b o v h => by
    have := R.k_lt h
    unfold Know.ext
    rw [if_neg (by omega)]; exact h
  let G' : Gh := ⟨Know.ext G.K w.heap.size f, fun i => if i = n then some (.row z (some (w.heap.size, cap)) rows.length) else G.h i⟩
  have hle : G.le G' := ⟨hK, fun i h e => ⟨h, by show (if i = n then _ else _) = _; rw [if_neg (fun e' => by subst e'; rw [hnone] at e; cases e)]; exact e, Home.le_refl h⟩⟩
  have hn' : G'.h n = some (.row z (some (w.heap.size, cap)) rows.length) := if_pos rfl
  have hself : ∀ o, G'.K w.heap.size o = f o := fun o => by show (if _ then _ else _) = _; rw [if_pos rfl]
  have hslice : Slice G'.K z w.heap.size 0 rows := by
    refine ⟨hr, fun j r hj i c hi => ?_⟩
    obtain ⟨v, h1, h2⟩ := hv j r i c hj hi
    have hjl : j < rows.length := (List.getElem?_eq_some_iff.1 hj).1
    have hil : i < z := by
      have := (List.getElem?_eq_some_iff.1 hi).1
      rw [hr r (List.mem_of_getElem? hj)] at this; exact this
    have hlt : j * z + i < rows.length * z := by
      have h3 : j * z + z ≤ rows.length * z := by rw [← Nat.succ_mul]; exact Nat.mul_le_mul_right z hjl
      omega
    refine ⟨v, ?_, h2.mono hle.K⟩
    rw [hself]
    show (if 0 + j * z + i < rows.length * z then vs[0 + j * z + i]? else none) = some v
    rw [Nat.zero_add, if_pos hlt]; exact h1
  refine ⟨G', hle, .own n z rows _ _ _ hn' (Nat.le_refl _) hr (VR.of_slice hslice hcap) (fun _ => rfl), ?_⟩
  refine R.update hle n _ _ ?_ ?_ hn' ⟨rfl, rfl, vs, ty, ⟨_, hw, .inl rfl⟩, hsize, hcap, hz, .inl R.sizeB, ?_⟩ ?_ hos htape hout hsz ?_ ?_
  · intro b o v h
    by_cases e : b = w.heap.size
    · subst e
      rw [hself] at h
      simp only [World.cell?, hw]
      show (if _ then _ else _) = _
      simp only [f] at h
      split at h
      · simpa using h
      · cases h
    · have h' : G.K b o = some v := by
        have h2 : (if b = w.heap.size then f o else G.K b o) = some v := h
        rw [if_neg e] at h2; exact h2
      rw [cell_same (hold b (R.k_lt h'))]; exact R.agree b o v h'
  · intro i hi; show (if i = n then _ else _) = _; rw [if_neg hi]
  · intro o ho
    rw [hself]
    show (if _ then _ else _) = _
    rw [if_neg (by omega)]
  · intro i x b hi e1 e2
    have hlt := (e1 ▸ R.home i).lt e2
    refine ⟨hold b hlt, fun o => ?_, ?_⟩
    · show (if _ then _ else _) = _
      rw [if_neg (by omega)]
    · simp [Home.blk]; omega
  · intro k hk _
    have := R.sizeB
    exact hold k (by omega)
  · intro b o hb _
    have := R.sizeB
    show (if _ then _ else _) = _
    rw [if_neg (by omega)]


/-- A row that is owned grows: where it lies, or in a new block. -/
theorem MRel.turnRow {E : Env} {G : Gh} {m : Nat → Option MC} {w w' : World} (R : MRel E G m w) {n z : Nat} {bk : Option (Nat × Nat)} {b' cap' : Nat} {rows ys : List (List PC)} {vs' : Array Value} {ty : TypeId}
    (hn : m n = some (.row z rows.length)) (hb : G.h n = some (.row z bk rows.length))
    (hplace : bk = some (b', cap') ∨ (b' = w.heap.size ∧ 0 < ys.length)) (hz : 0 < z) (hr : ∀ r ∈ rows ++ ys, r.length = z)
    (hcap : (rows ++ ys).length ≤ cap') (hsize : vs'.size = cap' * z)
    (hw : ∃ p, w'.heap[b']? = some (.cells vs' ty p) ∧ FrOK vs'.size p)
    (hv : ∀ (j : Nat) (r : List PC) (i : Nat) (c : PC), (rows ++ ys)[j]? = some r → r[i]? = some c → ∃ v, vs'[j * z + i]? = some v ∧ VR G.K c v)
    (hkeep : ∀ o v, G.K b' o = some v → vs'[o]? = some v)
    (hold : ∀ b, b ≠ b' → b < w.heap.size → w'.heap[b]? = w.heap[b]?) (hos : w'.os = w.os) (htape : w'.tape = w.tape) (hout : w'.output = w.output) (hsz : w.heap.size ≤ w'.heap.size) :
    ∃ G' : Gh, G.le G' ∧ AR G' (.own n z (rows ++ ys)) (.slice (some ⟨b', 0, none⟩) (rows ++ ys).length cap') ∧ MRel E G' (mset m n (.row z (rows ++ ys).length)) w' := by
  obtain ⟨pq, hwq, hwf⟩ := hw
  have h0 := R.home n
  rw [hn, hb] at h0
  obtain ⟨_, _, h0⟩ := h0
  have hbeyond : ∀ o, rows.length * z ≤ o → G.K b' o = none := by
    rcases hplace with rfl | ⟨rfl, _⟩
    · obtain ⟨_, _, _, _, _, _, _, h⟩ := h0; exact h
    · exact fun o _ => R.k_new (Nat.le_refl _) o
  have hmine : E.mine b' := by
    rcases hplace with rfl | ⟨rfl, _⟩
    · obtain ⟨_, _, _, _, _, _, h, _⟩ := h0; exact h
    · exact .inl R.sizeB
  have hother : ∀ i x b, i ≠ n → G.h i = some x → x.blk = some b → b ≠ b' := by
    intro i x b hi e1 e2 e
    rcases hplace with rfl | ⟨rfl, _⟩
    · exact hi (R.inj i n x _ b e1 hb e2 (by rw [e]; rfl))
    · have hlt := (e1 ▸ R.home i).lt e2
      omega
  have hlen : (rows ++ ys).length = rows.length + ys.length := List.length_append
  have hL : rows.length * z ≤ (rows ++ ys).length * z := Nat.mul_le_mul_right z (by omega)
  let f : Nat → Option Value := fun o => if o < (rows ++ ys).length * z then vs'[o]? else none
  have hK : G.K.le (Know.ext G.K b' f) := fun b o v h => by
    unfold Know.ext
    split
    · rename_i e; subst e
      have : o < rows.length * z := by
        rcases Nat.lt_or_ge o (rows.length * z) with h1 | h1
        · exact h1
        · rw [hbeyond o h1] at h; cases h
      show (if o < (rows ++ ys).length * z then vs'[o]? else none) = some v
      rw [if_pos (by omega)]; exact hkeep o v h
    · exact h
  let G' : Gh := ⟨Know.ext G.K b' f, fun i => if i = n then some (.row z (some (b', cap')) (rows ++ ys).length) else G.h i⟩
  have hle : G.le G' := by
    refine ⟨hK, fun i h e => ?_⟩
    by_cases hi : i = n
    · subst hi
      rw [hb] at e
      cases e
      refine ⟨_, if_pos rfl, .row z _ _ _ _ (by omega) (fun e => ?_)⟩
      rcases hplace with h | ⟨_, h⟩
      · exact h
      · omega
    · exact ⟨h, (if_neg hi).trans e, Home.le_refl h⟩
  have hn' : G'.h n = some (.row z (some (b', cap')) (rows ++ ys).length) := if_pos rfl
  have hself : ∀ o, G'.K b' o = f o := fun o => by show (if _ then _ else _) = _; rw [if_pos rfl]
  have hoth : ∀ b o, b ≠ b' → G'.K b o = G.K b o := fun b o e => by show (if _ then _ else _) = _; rw [if_neg e]
  have hslice : Slice G'.K z b' 0 (rows ++ ys) := by
    refine ⟨hr, fun j r hj i c hi => ?_⟩
    obtain ⟨v, h1, h2⟩ := hv j r i c hj hi
    have hjl : j < (rows ++ ys).length := (List.getElem?_eq_some_iff.1 hj).1
    have hil : i < z := by
      have := (List.getElem?_eq_some_iff.1 hi).1
      rw [hr r (List.mem_of_getElem? hj)] at this; exact this
    have hlt : j * z + i < (rows ++ ys).length * z := by
      have h3 : j * z + z ≤ (rows ++ ys).length * z := by rw [← Nat.succ_mul]; exact Nat.mul_le_mul_right z hjl
      omega
    refine ⟨v, ?_, h2.mono hle.K⟩
    rw [hself]
    show (if 0 + j * z + i < (rows ++ ys).length * z then vs'[0 + j * z + i]? else none) = some v
    rw [Nat.zero_add, if_pos hlt]; exact h1
  refine ⟨G', hle, .own n z _ _ _ _ hn' (Nat.le_refl _) hr (VR.of_slice hslice hcap) (fun _ => rfl), ?_⟩
  refine R.update hle n _ _ ?_ ?_ hn' ⟨rfl, rfl, vs', ty, ⟨pq, hwq, hwf⟩, hsize, hcap, hz, hmine, ?_⟩ ?_ hos htape hout hsz ?_ ?_
  · intro b o v h
    by_cases e : b = b'
    · subst e
      rw [hself] at h
      simp only [World.cell?, hwq]
      simp only [f] at h
      split at h
      · simpa using h
      · cases h
    · rw [hoth b o e] at h
      rw [cell_same (hold b e (R.k_lt h))]; exact R.agree b o v h
  · intro i hi; show (if i = n then _ else _) = _; rw [if_neg hi]
  · intro o ho
    rw [hself]
    show (if _ then _ else _) = _
    rw [if_neg (by omega)]
  · intro i x b hi e1 e2
    have hne := hother i x b hi e1 e2
    have hlt := (e1 ▸ R.home i).lt e2
    exact ⟨hold b hne hlt, fun o => hoth b o hne, fun e => hne (by simpa [Home.blk] using e.symm)⟩
  · intro k hk hx
    have := R.sizeB
    refine hold k (fun e => ?_) (by omega)
    subst e
    rcases hmine with h | h
    · omega
    · exact hx h
  · intro b o hb' hx
    refine hoth b o (fun e => ?_)
    subst e
    rcases hmine with h | h
    · omega
    · exact hx h

/-- A row of nothing, owned. -/
theorem MRel.nilRow {E : Env} {G : Gh} {m : Nat → Option MC} {w : World} (R : MRel E G m w) {n : Nat} (hn : m n = none) (z : Nat) :
    ∃ G' : Gh, G.le G' ∧ AR G' (.own n z []) (.slice none 0 0) ∧ MRel E G' (mset m n (.row z 0)) w := by
  have hnone : G.h n = none := by have := R.home n; rw [hn] at this; exact this.none_of
  have hle : G.le (G.put n (.row z none 0)) := Gh.le_put hnone
  have hn' : (G.put n (.row z none 0)).h n = some (.row z none 0) := by simp [Gh.put]
  refine ⟨_, hle, .own n z [] _ none 0 hn' (Nat.le_refl _) (by simp) .nil (fun _ => rfl), ?_⟩
  refine R.update hle n _ (.row z none 0) R.agree (fun i hi => by simp [Gh.put, hi]) hn' ⟨rfl, rfl, rfl⟩ (fun i x b _ _ _ => ⟨rfl, fun _ => rfl, by simp [Home.blk]⟩) rfl rfl rfl (Nat.le_refl _) (fun _ _ _ => rfl) (fun _ _ _ _ => rfl)

/-- A map that is new. -/
theorem MRel.newMap {E : Env} {G : Gh} {m : Nat → Option MC} {w : World} (R : MRel E G m w) {n : Nat} (hn : m n = none) (ag : Bool) :
    let G' := G.put n (.obj w.heap.size)
    G.le G' ∧ AR G' (.mp n) (.map (some w.heap.size)) ∧ MRel E G' (mset m n (.mp ag [])) { w with heap := w.heap.push (.map #[] 0) } := by
  have hnone : G.h n = none := by have := R.home n; rw [hn] at this; exact this.none_of
  have hle : G.le (G.put n (.obj w.heap.size)) := Gh.le_put hnone
  have hold : ∀ b, b < w.heap.size → ({ w with heap := w.heap.push (.map #[] 0) } : World).heap[b]? = w.heap[b]? := fun b hb => by
    show (w.heap.push _)[b]? = _
    rw [Array.getElem?_push, if_neg (by omega)]
  refine ⟨hle, .mp n _ (by simp [Gh.put]), R.update hle n _ (.obj w.heap.size) ?_ ?_ ?_ ?_ ?_ rfl rfl rfl (by simp) ?_ (fun _ _ _ _ => rfl)⟩
  · intro b o v h
    rw [cell_same (hold b (R.k_lt h))]; exact R.agree b o v h
  · intro i hi; simp [Gh.put, hi]
  · simp [Gh.put]
  · exact ⟨#[], 0, by simp, rfl, fun i x e h => by simp at h, .inl R.sizeB⟩
  · intro i x b _ e1 e2
    have hlt := (e1 ▸ R.home i).lt e2
    refine ⟨hold b hlt, fun _ => rfl, ?_⟩
    simp [Home.blk]; omega
  · intro k hk _
    have := R.sizeB
    exact hold k (by omega)

/-- A map's entries turn. -/
theorem MRel.setMap {E : Env} {G : Gh} {m : Nat → Option MC} {w : World} (R : MRel E G m w) {n b : Nat} {ag : Bool} {es es' : List (List UInt8 × List PC)} {ms' : Array MapEntry} {cl' : Nat}
    (hn : m n = some (.mp ag es)) (hb : G.h n = some (.obj b)) (hl : es'.length = ms'.size)
    (hc : ∀ (i : Nat) (x : List UInt8 × List PC) (e : MapEntry), es'[i]? = some x → ms'[i]? = some e → EntryOK G ag x e) :
    MRel E G (mset m n (.mp ag es')) (World.setBlock w b (.map ms' cl')) := by
  have h0 := R.home n
  rw [hn, hb] at h0
  obtain ⟨ms, cl, a1, a2, a3, a4⟩ := h0
  have hlt := heap_some_lt a1
  refine R.update (Gh.le_refl G) n _ (.obj b) ?_ (fun _ _ => rfl) hb ⟨ms', cl', setBlock_same hlt _, hl, hc, a4⟩ ?_ rfl rfl rfl (by simp [setBlock_size]) ?_ (fun _ _ _ _ => rfl)
  · intro b' o v h
    by_cases e : b' = b
    · subst e
      have := R.agree _ _ _ h
      simp [World.cell?, a1] at this
    · rw [cell_same (setBlock_other e _)]; exact R.agree b' o v h
  · intro i x b' hi e1 e2
    have hne : b' ≠ b := fun e => hi (R.inj i n x _ b' e1 hb e2 (by rw [e]; rfl))
    exact ⟨setBlock_other hne _, fun _ => rfl, fun e => hne (by simpa [Home.blk] using e.symm)⟩
  · intro k hk hx
    have hne : k ≠ b := fun e => by
      subst e
      rcases a4 with h | h
      · omega
      · exact hx h
    exact setBlock_other hne _

end Go.Proofs.Ytjdokoldiemobaa.AM
