/-
  Q4: Am8.
-/
import Derived.Test.YtldehcnaepgamaaQ3
set_option linter.unusedVariables false
set_option linter.unusedSimpArgs false
namespace Go.Proofs.Ytldehcnaepgamaa.AM
open Go

inductive Al (R : Nat × MC → Nat × MC → Prop) : List (Nat × MC) → List (Nat × MC) → Prop
  | nil : Al R [] []
  | cons (x y : Nat × MC) (l l' : List (Nat × MC)) (h : R x y) (t : Al R l l') : Al R (x :: l) (y :: l')

theorem Al.append {R : Nat × MC → Nat × MC → Prop} {a b c d : List (Nat × MC)} (h : Al R a b) (h' : Al R c d) : Al R (a ++ c) (b ++ d) := by
  induction h with
  | nil => exact h'
  | cons x y l l' h t ih => exact .cons x y _ _ h ih
theorem Al.length {R : Nat × MC → Nat × MC → Prop} {a b : List (Nat × MC)} (h : Al R a b) : a.length = b.length := by
  induction h with
  | nil => rfl
  | cons x y l l' h t ih => simp [ih]
theorem Al.mono {R R' : Nat × MC → Nat × MC → Prop} {a b : List (Nat × MC)} (h : Al R a b) (hr : ∀ x y, R x y → R' x y) : Al R' a b := by
  induction h with
  | nil => exact .nil
  | cons x y l l' h t ih => exact .cons x y _ _ (hr _ _ h) ih

theorem look_mem {α : Type} {l : List (Nat × α)} {n : Nat} {c : α} (h : look l n = some c) : (n, c) ∈ l := by
  induction l with
  | nil => cases h
  | cons x l ih =>
    obtain ⟨j, y⟩ := x
    simp only [look] at h
    split at h
    · rename_i e; subst e; cases h; simp
    · exact List.mem_cons_of_mem _ (ih h)
theorem look_none {α : Type} {l : List (Nat × α)} {n : Nat} (h : n ∉ l.map (·.1)) : look l n = none := by
  induction l with
  | nil => rfl
  | cons x l ih =>
    obtain ⟨j, y⟩ := x
    simp only [List.map_cons, List.mem_cons, not_or] at h
    simp only [look]
    rw [if_neg (fun e => h.1 e.symm)]
    exact ih h.2
theorem look_some {α : Type} {l : List (Nat × α)} {n : Nat} (h : n ∈ l.map (·.1)) : ∃ c, look l n = some c := by
  induction l with
  | nil => simp at h
  | cons x l ih =>
    obtain ⟨j, y⟩ := x
    simp only [look]
    by_cases e : j = n
    · exact ⟨y, by rw [if_pos e]⟩
    · rw [if_neg e]
      refine ih ?_
      simp only [List.map_cons, List.mem_cons] at h
      rcases h with h | h
      · exact absurd h.symm e
      · exact h

def pairs (l1 l2 : List (Nat × MC)) : List (Nat × Nat) := (keys l2).zip (keys l1)

theorem Al.look {R : Nat × MC → Nat × MC → Prop} {l1 l2 : List (Nat × MC)} (h : Al R l1 l2) : (keys l1).Nodup → ∀ n q, AM.look (pairs l1 l2) n = some q →
    ∃ c1 c2, AM.look l1 q = some c1 ∧ AM.look l2 n = some c2 ∧ R (q, c1) (n, c2) := by
  induction h with
  | nil => intro _ n q h; simp [pairs, keys, AM.look] at h
  | cons x y l l' h t ih =>
    intro nd n q hq
    obtain ⟨q0, c1⟩ := x
    obtain ⟨n0, c2⟩ := y
    simp only [keys, List.map_cons, List.nodup_cons] at nd
    simp only [pairs, keys, List.map_cons, List.zip_cons_cons, AM.look] at hq
    split at hq
    · rename_i e
      cases hq
      subst e
      exact ⟨c1, c2, by simp [AM.look], by simp [AM.look], h⟩
    · rename_i e
      obtain ⟨d1, d2, e1, e2, e3⟩ := ih nd.2 n q hq
      have hne : q0 ≠ q := fun e' => by
        subst e'
        exact nd.1 (List.mem_map_of_mem (look_mem e1))
      exact ⟨d1, d2, by simp only [AM.look]; rw [if_neg hne]; exact e1, by simp only [AM.look]; rw [if_neg e]; exact e2, e3⟩

theorem pairs_inj {l1 l2 : List (Nat × MC)} (hl : l1.length = l2.length) (nd : (keys l1).Nodup) : ∀ n n' q, look (pairs l1 l2) n = some q → look (pairs l1 l2) n' = some q → n = n' := by
  induction l1 generalizing l2 with
  | nil => intro n n' q h; simp [pairs, keys, look] at h
  | cons x l1 ih =>
    cases l2 with
    | nil => simp at hl
    | cons y l2 =>
      intro n n' q h h'
      obtain ⟨q0, c1⟩ := x
      obtain ⟨n0, c2⟩ := y
      simp only [keys, List.map_cons, List.nodup_cons] at nd
      have key : ∀ n, look (pairs l1 l2) n = some q → q ∈ keys l1 := fun n h => by
        have := look_mem h
        exact (List.of_mem_zip this).2
      simp only [pairs, keys, List.map_cons, List.zip_cons_cons, look] at h h'
      split at h
      · rename_i e
        cases h
        split at h'
        · rename_i e'; exact e.symm.trans e'
        · exact absurd (key n' h') nd.1
      · split at h'
        · cases h'; exact absurd (key n h) nd.1
        · exact ih (by simpa using hl) nd.2 n n' q h h'

def pren (l1 l2 : List (Nat × MC)) : Ren := ⟨look (pairs l1 l2), fun _ => none⟩

theorem pairs_none {l1 l2 : List (Nat × MC)} (hl : l1.length = l2.length) {n : Nat} (h : look (pairs l1 l2) n = none) : look l2 n = none := by
  cases hc : look l2 n with
  | none => rfl
  | some c =>
    exfalso
    have hm : n ∈ (pairs l1 l2).map (·.1) := by
      have : (pairs l1 l2).map (·.1) = keys l2 := by
        unfold pairs
        rw [List.map_fst_zip]
        simp [keys, hl]
      rw [this]
      exact List.mem_map_of_mem (look_mem hc)
    obtain ⟨q, hq⟩ := look_some hm
    rw [h] at hq; cases hq

/-- Two lists of names and contents, one as the other but for the names. -/
theorem RenOK.of {m : Nat → Option MC} {l1 l2 : List (Nat × MC)} (h : Al (fun x y => CM (pren l1 l2) (some x.2) (some y.2)) l1 l2) (nd : (keys l1).Nodup) (hm : ∀ q c, look l1 q = some c → m q = some c) : RenOK (pren l1 l2) m (look l2) where
  inj := pairs_inj h.length nd
  src n q hs := by
    obtain ⟨c1, c2, e1, e2, e3⟩ := h.look nd n q hs
    rw [hm q c1 e1, e2]; exact e3
  ph n z _ hp := by cases hp
  none n hs _ := pairs_none h.length hs

def nOwn : List OV → Nat
  | [] => 0
  | .c _ :: o => nOwn o
  | .own _ _ :: o => nOwn o + 1
  | .mp _ _ :: o => nOwn o + 1
  | .nilmp :: o => nOwn o
  | .nilptr :: o => nOwn o
  | .self :: o => nOwn o
def rowNames (nm : Nat → Nat) : Nat → List OV → List Nat
  | _, [] => []
  | j, .c _ :: o => rowNames nm (j + 1) o
  | j, .own _ _ :: o => nm j :: rowNames nm (j + 1) o
  | j, .mp _ _ :: o => nm j :: rowNames nm (j + 1) o
  | j, .nilmp :: o => rowNames nm (j + 1) o
  | j, .nilptr :: o => rowNames nm (j + 1) o
  | j, .self :: o => rowNames nm (j + 1) o
theorem rowNames_length (nm : Nat → Nat) : ∀ (j : Nat) (o : List OV), (rowNames nm j o).length = nOwn o
  | _, [] => rfl
  | j, .c _ :: o => rowNames_length nm (j + 1) o
  | j, .own _ _ :: o => by simp [rowNames, nOwn, rowNames_length nm (j + 1) o]
  | j, .mp _ _ :: o => by simp [rowNames, nOwn, rowNames_length nm (j + 1) o]
  | j, .nilmp :: o => rowNames_length nm (j + 1) o
  | j, .nilptr :: o => rowNames_length nm (j + 1) o
  | j, .self :: o => rowNames_length nm (j + 1) o
theorem cellsAt_back (nm : Nat → Nat) (me : Nat) : ∀ (j : Nat) (o : List OV), cellsAt nm me j o = backCells me o (rowNames nm j o)
  | _, [] => rfl
  | j, .c _ :: o => by simp only [cellsAt, rowNames, backCells, cellsAt_back nm me (j + 1) o]
  | j, .own _ _ :: o => by simp only [cellsAt, rowNames, backCells, cellsAt_back nm me (j + 1) o]
  | j, .mp _ _ :: o => by simp only [cellsAt, rowNames, backCells, cellsAt_back nm me (j + 1) o]
  | j, .nilmp :: o => by simp only [cellsAt, rowNames, backCells, cellsAt_back nm me (j + 1) o]
  | j, .nilptr :: o => by simp only [cellsAt, rowNames, backCells, cellsAt_back nm me (j + 1) o]
  | j, .self :: o => by simp only [cellsAt, rowNames, backCells, cellsAt_back nm me (j + 1) o]
def entryNames : Nat → List (List OV) → List (Nat × List Nat)
  | _, [] => []
  | i, o :: os => (inObj i, rowNames (inRow i) 0 o) :: entryNames (i + 1) os
theorem entry_back : ∀ (i : Nat) (os : List (List OV)), entryMem i os = backObjs (entryNames i os) os
  | _, [] => rfl
  | i, o :: os => by simp only [entryMem, entryNames, backObjs, cellsAt_back, entry_back (i + 1) os]

/-- Names that fit objects. -/
def Fit : List (Nat × List Nat) → List (List OV) → Prop
  | [], [] => True
  | (_, rs) :: ns, o :: os => rs.length = nOwn o ∧ Fit ns os
  | _, _ => False
theorem Fit.entry : ∀ (i : Nat) (os : List (List OV)), Fit (entryNames i os) os
  | _, [] => trivial
  | i, o :: os => ⟨rowNames_length _ _ _, Fit.entry (i + 1) os⟩
theorem nOwn_count : ∀ o : List OV, nOwn o = ((shapeOf o).filter Option.isSome).length
  | [] => rfl
  | .c _ :: o => by simp [nOwn, shapeOf, nOwn_count o]
  | .own _ _ :: o => by simp [nOwn, shapeOf, nOwn_count o]
  | .mp _ _ :: o => by simp [nOwn, shapeOf, nOwn_count o]
  | .nilmp :: o => by simp [nOwn, shapeOf, nOwn_count o]
  | .nilptr :: o => by simp [nOwn, shapeOf, nOwn_count o]
  | .self :: o => by simp [nOwn, shapeOf, nOwn_count o]
theorem nOwn_shape {o o' : List OV} (h : shapeOf o = shapeOf o') : nOwn o = nOwn o' := by rw [nOwn_count, nOwn_count, h]
theorem Fit.shape : ∀ {ns : List (Nat × List Nat)} {os os' : List (List OV)}, Fit ns os → os'.map shapeOf = os.map shapeOf → Fit ns os'
  | [], [], [], _, _ => trivial
  | [], [], _ :: _, _, h => by simp at h
  | [], _ :: _, _, h, _ => h.elim
  | _ :: _, [], _, h, _ => h.elim
  | (_, rs) :: ns, o :: os, [], _, h => by simp at h
  | (_, rs) :: ns, o :: os, o' :: os', ⟨h1, h2⟩, h => by
    simp only [List.map_cons, List.cons.injEq] at h
    exact ⟨h1.trans (nOwn_shape h.1).symm, Fit.shape h2 h.2⟩

theorem back_length (me : Nat) : ∀ (o : List OV) (rs : List Nat), (backCells me o rs).1.length = o.length
  | [], _ => rfl
  | .c _ :: o, rs => by simp [backCells, back_length me o rs]
  | .own _ _ :: o, r :: rs => by simp [backCells, back_length me o rs]
  | .own _ _ :: o, [] => by simp [backCells, back_length me o []]
  | .mp _ _ :: o, r :: rs => by simp [backCells, back_length me o rs]
  | .mp _ _ :: o, [] => by simp [backCells, back_length me o []]
  | .nilmp :: o, rs => by simp [backCells, back_length me o rs]
  | .nilptr :: o, rs => by simp [backCells, back_length me o rs]
  | .self :: o, rs => by simp [backCells, back_length me o rs]

theorem back_keys (me : Nat) : ∀ (o : List OV) (rs : List Nat), rs.length = nOwn o → keys (backCells me o rs).2 = rs
  | [], rs, h => by cases rs with | nil => rfl | cons => simp [nOwn] at h
  | .c _ :: o, rs, h => back_keys me o rs h
  | .own _ _ :: o, r :: rs, h => by simp only [backCells, keys, List.map_cons, List.cons.injEq, true_and]; exact back_keys me o rs (by simpa [nOwn] using h)
  | .own _ _ :: o, [], h => by simp [nOwn] at h
  | .mp _ _ :: o, r :: rs, h => by simp only [backCells, keys, List.map_cons, List.cons.injEq, true_and]; exact back_keys me o rs (by simpa [nOwn] using h)
  | .mp _ _ :: o, [], h => by simp [nOwn] at h
  | .nilmp :: o, rs, h => back_keys me o rs h
  | .nilptr :: o, rs, h => back_keys me o rs h
  | .self :: o, rs, h => back_keys me o rs h

/-- One object's cells under two namings. -/
theorem back_am {ρ : Ren} {me me' : Nat} (hme : ρ.src me' = some me) : ∀ (o : List OV) (rs ns : List Nat), rs.length = nOwn o → ns.length = nOwn o → (∀ p ∈ ns.zip rs, ρ.src p.1 = some p.2) →
    (∀ (i : Nat) (x y : AV), (backCells me o rs).1[i]? = some x → (backCells me' o ns).1[i]? = some y → AM ρ x y) ∧ Al (fun x y => CM ρ (some x.2) (some y.2)) (backCells me o rs).2 (backCells me' o ns).2
  | [], rs, ns, _, _, _ => ⟨fun i x y h => by simp [backCells] at h, .nil⟩
  | .c c :: o, rs, ns, h1, h2, H => by
    obtain ⟨a1, a2⟩ := back_am hme o rs ns h1 h2 H
    refine ⟨fun i x y e1 e2 => ?_, a2⟩
    cases i with
    | zero => simp [backCells] at e1 e2; subst e1; subst e2; exact .c c
    | succ i => exact a1 i x y (by simpa [backCells] using e1) (by simpa [backCells] using e2)
  | .nilmp :: o, rs, ns, h1, h2, H => by
    obtain ⟨a1, a2⟩ := back_am hme o rs ns h1 h2 H
    refine ⟨fun i x y e1 e2 => ?_, a2⟩
    cases i with
    | zero => simp [backCells] at e1 e2; subst e1; subst e2; exact .nilmp
    | succ i => exact a1 i x y (by simpa [backCells] using e1) (by simpa [backCells] using e2)
  | .nilptr :: o, rs, ns, h1, h2, H => by
    obtain ⟨a1, a2⟩ := back_am hme o rs ns h1 h2 H
    refine ⟨fun i x y e1 e2 => ?_, a2⟩
    cases i with
    | zero => simp [backCells] at e1 e2; subst e1; subst e2; exact .nilptr
    | succ i => exact a1 i x y (by simpa [backCells] using e1) (by simpa [backCells] using e2)
  | .self :: o, rs, ns, h1, h2, H => by
    obtain ⟨a1, a2⟩ := back_am hme o rs ns h1 h2 H
    refine ⟨fun i x y e1 e2 => ?_, a2⟩
    cases i with
    | zero => simp [backCells] at e1 e2; subst e1; subst e2; exact .ptr _ _ 0 hme
    | succ i => exact a1 i x y (by simpa [backCells] using e1) (by simpa [backCells] using e2)
  | .own z rows :: o, [], _, h1, _, _ => by simp [nOwn] at h1
  | .own z rows :: o, _ :: _, [], _, h2, _ => by simp [nOwn] at h2
  | .own z rows :: o, r :: rs, n :: ns, h1, h2, H => by
    obtain ⟨a1, a2⟩ := back_am hme o rs ns (by simpa [nOwn] using h1) (by simpa [nOwn] using h2) (fun p hp => H p (by simp [hp]))
    refine ⟨fun i x y e1 e2 => ?_, .cons _ _ _ _ ⟨rfl, rfl⟩ a2⟩
    cases i with
    | zero => simp [backCells] at e1 e2; subst e1; subst e2; exact .own r n z rows (H (n, r) (by simp))
    | succ i => exact a1 i x y (by simpa [backCells] using e1) (by simpa [backCells] using e2)
  | .mp ag es :: o, [], _, h1, _, _ => by simp [nOwn] at h1
  | .mp ag es :: o, _ :: _, [], _, h2, _ => by simp [nOwn] at h2
  | .mp ag es :: o, r :: rs, n :: ns, h1, h2, H => by
    obtain ⟨a1, a2⟩ := back_am hme o rs ns (by simpa [nOwn] using h1) (by simpa [nOwn] using h2) (fun p hp => H p (by simp [hp]))
    refine ⟨fun i x y e1 e2 => ?_, .cons _ _ _ _ ⟨rfl, rfl⟩ a2⟩
    cases i with
    | zero => simp [backCells] at e1 e2; subst e1; subst e2; exact .mp r n (H (n, r) (by simp))
    | succ i => exact a1 i x y (by simpa [backCells] using e1) (by simpa [backCells] using e2)

def allNames : List (Nat × List Nat) → List Nat
  | [] => []
  | (n, rs) :: ns => n :: (rs ++ allNames ns)
theorem objs_keys : ∀ (ns : List (Nat × List Nat)) (os : List (List OV)), Fit ns os → keys (backObjs ns os) = allNames ns
  | [], [], _ => rfl
  | [], _ :: _, h => h.elim
  | _ :: _, [], h => h.elim
  | (n, rs) :: ns, o :: os, ⟨h1, h2⟩ => by
    have e1 := back_keys n o rs h1
    have e2 := objs_keys ns os h2
    simp only [keys] at e1 e2
    simp only [backObjs, allNames, keys, List.map_cons, List.map_append, e1, e2]
theorem allNames_length : ∀ (ns ns' : List (Nat × List Nat)) (os : List (List OV)), Fit ns os → Fit ns' os → (allNames ns).length = (allNames ns').length
  | [], [], [], _, _ => rfl
  | (n, rs) :: ns, (n', rs') :: ns', o :: os, ⟨h1, h2⟩, ⟨h3, h4⟩ => by
    simp [allNames, allNames_length ns ns' os h2 h4, h1, h3]
  | [], _ :: _, [], _, h => h.elim
  | _ :: _, [], [], h, _ => h.elim
  | _ :: _, _ :: _, [], h, _ => h.elim
  | [], _, _ :: _, h, _ => h.elim
  | _ :: _, [], _ :: _, _, h => h.elim

theorem objs_am {ρ : Ren} : ∀ (ns ns' : List (Nat × List Nat)) (os : List (List OV)), Fit ns os → Fit ns' os → (∀ p ∈ (allNames ns').zip (allNames ns), ρ.src p.1 = some p.2) →
    Al (fun x y => CM ρ (some x.2) (some y.2)) (backObjs ns os) (backObjs ns' os)
  | [], [], [], _, _, _ => .nil
  | (n, rs) :: ns, (n', rs') :: ns', o :: os, ⟨h1, h2⟩, ⟨h3, h4⟩, H => by
    have hz : (allNames ((n', rs') :: ns')).zip (allNames ((n, rs) :: ns)) = (n', n) :: (rs'.zip rs ++ (allNames ns').zip (allNames ns)) := by
      simp only [allNames, List.zip_cons_cons]
      rw [List.zip_append (by omega)]
    rw [hz] at H
    obtain ⟨a1, a2⟩ := back_am (ρ := ρ) (H (n', n) (by simp)) o rs rs' h1 h3 (fun p hp => H p (by simp [hp]))
    refine .cons _ _ _ _ ⟨rfl, by rw [back_length, back_length], a1⟩ (a2.append (objs_am ns ns' os h2 h4 fun p hp => H p (by simp [hp])))
  | [], _ :: _, [], _, h, _ => h.elim
  | _ :: _, [], [], h, _, _ => h.elim
  | _ :: _, _ :: _, [], h, _, _ => h.elim
  | [], _, _ :: _, h, _, _ => h.elim
  | _ :: _, [], _ :: _, _, h, _ => h.elim


theorem refE_am {ρ : Ren} {k : Nat} : ∀ {no no' : List Nat}, no.length = no'.length → (∀ p ∈ no'.zip no, ρ.src p.1 = some p.2) → AM ρ (refE no k) (refE no' k) := by
  intro no no' hl H
  unfold refE
  cases h' : no'[k]? with
  | none => exact .undef _
  | some n' =>
    have hk : k < no.length := by have := (List.getElem?_eq_some_iff.1 h').1; omega
    have h : no[k]? = some no[k] := by simp [hk]
    rw [h]
    exact .ptr _ _ 0 (H (n', no[k]) (List.mem_of_getElem? (i := k) (by simp [List.getElem?_zip_eq_some, h', hk])))

theorem res_am {ρ : Ren} {nr nr' : Nat → Nat} {nc nc' : Nat → Nat → Nat} {no no' : List Nat} (hno : no.length = no'.length) (Ho : ∀ p ∈ no'.zip no, ρ.src p.1 = some p.2) : ∀ (l : List RV) (i : Nat), (∀ r ∈ l, ∀ x, r = .pv x → AM ρ x x) → (∀ p ∈ (keys (resAt nr' nc' no' i l).2).zip (keys (resAt nr nc no i l).2), ρ.src p.1 = some p.2) →
    (resAt nr nc no i l).1.length = (resAt nr' nc' no' i l).1.length ∧ (∀ (k : Nat) (x y : AV), (resAt nr nc no i l).1[k]? = some x → (resAt nr' nc' no' i l).1[k]? = some y → AM ρ x y) ∧
      Al (fun x y => CM ρ (some x.2) (some y.2)) (resAt nr nc no i l).2 (resAt nr' nc' no' i l).2
  | [], i, _, _ => ⟨rfl, fun k x y h => by simp [resAt] at h, .nil⟩
  | .pv x :: l, i, hp, H => by
    obtain ⟨a0, a1, a2⟩ := res_am (nr := nr) (nr' := nr') (nc := nc) (nc' := nc') hno Ho l (i + 1) (fun r hr => hp r (by simp [hr])) H
    refine ⟨by simp [resAt, a0], fun k y z e1 e2 => ?_, a2⟩
    cases k with
    | zero => simp [resAt] at e1 e2; subst e1; subst e2; exact hp _ (by simp) x rfl
    | succ k => exact a1 k y z (by simpa [resAt] using e1) (by simpa [resAt] using e2)
  | .ref q :: l, i, hp, H => by
    obtain ⟨a0, a1, a2⟩ := res_am (nr := nr) (nr' := nr') (nc := nc) (nc' := nc') hno Ho l (i + 1) (fun r hr => hp r (by simp [hr])) H
    refine ⟨by simp [resAt, a0], fun k y z e1 e2 => ?_, a2⟩
    cases k with
    | zero => simp [resAt] at e1 e2; subst e1; subst e2; exact refE_am hno Ho
    | succ k => exact a1 k y z (by simpa [resAt] using e1) (by simpa [resAt] using e2)
  | .fresh z rows :: l, i, hp, H => by
    simp only [resAt, keys, List.map_cons, List.zip_cons_cons, List.mem_cons] at H
    obtain ⟨a0, a1, a2⟩ := res_am (nr := nr) (nr' := nr') (nc := nc) (nc' := nc') hno Ho l (i + 1) (fun r hr => hp r (by simp [hr])) (fun p hp => H p (.inr hp))
    refine ⟨by simp [resAt, a0], fun k y w e1 e2 => ?_, .cons _ _ _ _ ⟨rfl, rfl⟩ a2⟩
    cases k with
    | zero => simp [resAt] at e1 e2; subst e1; subst e2; exact .own _ _ z rows (H _ (.inl rfl))
    | succ k => exact a1 k y w (by simpa [resAt] using e1) (by simpa [resAt] using e2)
  | .newobj o :: l, i, hp, H => by
    have k1 : keys (cellsAt (nc i) (nr i) 0 o).2 = rowNames (nc i) 0 o := by rw [cellsAt_back]; exact back_keys _ _ _ (rowNames_length _ _ _)
    have k2 : keys (cellsAt (nc' i) (nr' i) 0 o).2 = rowNames (nc' i) 0 o := by rw [cellsAt_back]; exact back_keys _ _ _ (rowNames_length _ _ _)
    have hz : (keys (resAt nr' nc' no' i (.newobj o :: l)).2).zip (keys (resAt nr nc no i (.newobj o :: l)).2) = (nr' i, nr i) :: ((rowNames (nc' i) 0 o).zip (rowNames (nc i) 0 o) ++ (keys (resAt nr' nc' no' (i + 1) l).2).zip (keys (resAt nr nc no (i + 1) l).2)) := by
      rw [← k1, ← k2]
      simp only [resAt, keys, List.map_cons, List.map_append, List.zip_cons_cons]
      rw [List.zip_append]
      have e1 := k1; have e2 := k2
      simp only [keys] at e1 e2
      rw [e1, e2, rowNames_length, rowNames_length]
    rw [hz] at H
    obtain ⟨a0, a1, a2⟩ := res_am (nr := nr) (nr' := nr') (nc := nc) (nc' := nc') hno Ho l (i + 1) (fun r hr => hp r (by simp [hr])) (fun p hp => H p (by simp [hp]))
    obtain ⟨b1, b2⟩ := back_am (ρ := ρ) (H (nr' i, nr i) (by simp)) o (rowNames (nc i) 0 o) (rowNames (nc' i) 0 o) (rowNames_length _ _ _) (rowNames_length _ _ _) (fun p hp => H p (by simp [hp]))
    refine ⟨by simp [resAt, a0], fun k y w e1 e2 => ?_, ?_⟩
    · cases k with
      | zero => simp [resAt] at e1 e2; subst e1; subst e2; exact .ptr _ _ 0 (H (nr' i, nr i) (by simp))
      | succ k => exact a1 k y w (by simpa [resAt] using e1) (by simpa [resAt] using e2)
    · simp only [resAt]
      refine .cons _ _ _ _ ⟨rfl, ?_, ?_⟩ (Al.append ?_ a2)
      · rw [cellsAt_back, cellsAt_back, back_length, back_length]
      · rw [cellsAt_back, cellsAt_back]; exact b1
      · rw [cellsAt_back, cellsAt_back]; exact b2

/-- What a call hands back by value is pure: it names nothing. -/
inductive Pure : AV → Prop
  | c (x : PC) : Pure (.c x)
  | agg (cs : List AV) (h : ∀ x ∈ cs, Pure x) : Pure (.agg cs)
  | nilptr : Pure .nilptr
  | nilsl : Pure .nilsl
  | rptr (cs : List PC) : Pure (.rptr cs)
  | clo (f : FuncId) (caps : List (List PC)) : Pure (.clo f caps)
  | ubool : Pure .ubool

theorem Pure.am {x : AV} (h : Pure x) (ρ : Ren) : AM ρ x x := by
  induction h with
  | c x => exact .c x
  | agg cs h ih =>
    refine .agg cs cs rfl fun i x y e1 e2 => ?_
    rw [e1] at e2; cases e2
    exact ih x (List.mem_of_getElem? e1)
  | nilptr => exact .nilptr
  | nilsl => exact .nilsl
  | rptr cs => exact .rptr cs
  | clo f caps => exact .clo f caps
  | ubool => exact .ubool

def CRes.pure (r : CRes) : Prop := ∀ x, RV.pv x ∈ r.res → Pure x

theorem AR.pure {E : Env} {G : Gh} {x y : AV} {v : Value} (h : AR G x v) (hp : x.pure? = some y) : AR G y v ∧ Pure y := by
  unfold AV.pure? at hp
  split at hp
  · rename_i cs
    obtain ⟨l, hl, rfl⟩ := Option.map_eq_some_iff.1 hp
    obtain ⟨t1, t2⟩ := toPCs_spec hl
    cases h with
    | agg _ us hl hc =>
    refine ⟨.agg _ _ (by simp; omega) (fun i x u e1 e2 => ?_), .agg _ (fun x hx => ?_)⟩
    · simp only [List.getElem?_map, Option.map_eq_some_iff] at e1
      obtain ⟨c, e1, rfl⟩ := e1
      have hi : i < cs.length := by have := (List.getElem?_eq_some_iff.1 e1).1; omega
      have hx : cs[i]? = some cs[i] := by simp [hi]
      exact .c _ _ ((hc i _ u hx e2).toPC (t2 i _ c hx e1))
    · simp only [List.mem_map] at hx
      obtain ⟨c, _, rfl⟩ := hx
      exact .c c
  · cases hp; exact ⟨h, .rptr _⟩
  · cases hp; exact ⟨h, .clo _ _⟩
  · cases hp; exact ⟨h, .nilptr⟩
  · cases hp; exact ⟨h, .nilsl⟩
  · obtain ⟨c, hc, rfl⟩ := Option.map_eq_some_iff.1 hp
    exact ⟨.c _ _ (h.toPC hc), .c c⟩

def EnterOK (P : Program) (f : FuncId) : Prop := ∃ fn, P.funcs[f]? = some fn ∧ (fn.name == "runtime.NumGoroutine") = false ∧ fn.body.isSome = true

def CallPost (E : Env) (G : Gh) (r : CRes) : Ending → World → Prop := fun e w' => ∃ (G' : Gh) (v : Value), e = .returned v ∧ G.le G' ∧ MRel E G' (look (exitMem r)) w' ∧ AR G' (oneE (exitVals r)) v

/-- What a function answers. -/
def SoundC (P : Program) (f : FuncId) (C : Contract) : Prop :=
  EnterOK P f ∧ ∀ (args : List AV) (objs : List (List OV)) (r : CRes), C args objs = some r → r.pure ∧
    ∀ (Ext : Nat → Prop) (G : Gh) (w : World) (vals : List Value), MRel (cEnv w Ext G.K) G (look (entryMem 0 objs)) w → args.length = vals.length →
      (∀ (i : Nat) (x : AV) (v : Value), args[i]? = some x → vals[i]? = some v → AR G x v) →
      Calls P f vals.toArray w (CallPost (cEnv w Ext G.K) G r)


section
variable {P : Program} {E : Env} {G : Gh} {s : AS} {a : Act} {w : World} {o : Oper} {next : Act → World → Prop} {Q : Exit → Act → World → Prop}

/-- The caller's own list of what it hands over. -/
def rowsMC : List OV → List Nat → List (Nat × MC)
  | [], _ => []
  | .c _ :: o, rs => rowsMC o rs
  | .own z rows :: o, r :: rs => (r, .row z rows.length) :: rowsMC o rs
  | .own _ _ :: o, [] => rowsMC o []
  | .mp ag es :: o, r :: rs => (r, .mp ag es) :: rowsMC o rs
  | .mp _ _ :: o, [] => rowsMC o []
  | .nilmp :: o, rs => rowsMC o rs
  | .nilptr :: o, rs => rowsMC o rs
  | .self :: o, rs => rowsMC o rs
def origMC : List (List AV) → List (List OV) → List (Nat × List Nat) → List (Nat × MC)
  | cells :: cs, o :: os, (n, rs) :: ns => (n, .obj cells false) :: (rowsMC o rs ++ origMC cs os ns)
  | _, _, _ => []

def CellsOK (me : Nat) (m : Nat → Option MC) (cells : List AV) (o : List OV) (rs : List Nat) : Prop :=
    cells.length = o.length ∧ rs.length = nOwn o ∧ (∀ q c, (q, c) ∈ rowsMC o rs → m q = some c) ∧ keys (rowsMC o rs) = rs ∧
    ∀ (ρ : Ren) (ns : List Nat) (me' : Nat), ρ.src me' = some me → ns.length = nOwn o → (∀ p ∈ ns.zip rs, ρ.src p.1 = some p.2) →
      (∀ (i : Nat) (x y : AV), cells[i]? = some x → (backCells me' o ns).1[i]? = some y → AM ρ x y) ∧ Al (fun x y => CM ρ (some x.2) (some y.2)) (rowsMC o rs) (backCells me' o ns).2
/-- A cell that names nothing of its own. -/
theorem CellsOK.plain {me : Nat} {m : Nat → Option MC} {cells : List AV} {o : List OV} {rs : List Nat} (h : CellsOK me m cells o rs) {x : AV} {y : OV}
    (hn : nOwn (y :: o) = nOwn o) (hr : rowsMC (y :: o) rs = rowsMC o rs) (hb : ∀ me' ns, ∃ v, backCells me' (y :: o) ns = (v :: (backCells me' o ns).1, (backCells me' o ns).2) ∧ ∀ ρ : Ren, ρ.src me' = some me → AM ρ x v) : CellsOK me m (x :: cells) (y :: o) rs := by
  obtain ⟨b1, b2, b3, b4, b5⟩ := h
  refine ⟨by simp [b1], by rw [hn]; exact b2, by rw [hr]; exact b3, by rw [hr]; exact b4, fun ρ ns me' h0 n1 n2 => ?_⟩
  obtain ⟨d1, d2⟩ := b5 ρ ns me' h0 (by rw [← hn]; exact n1) n2
  obtain ⟨v, hv, ha⟩ := hb me' ns
  rw [hr, hv]
  refine ⟨fun i x' y e1 e2 => ?_, d2⟩
  cases i with
  | zero => simp at e1 e2; subst e1; subst e2; exact ha ρ h0
  | succ i => exact d1 i x' y (by simpa using e1) (by simpa using e2)

theorem cellsE_inv {m : Nat → Option MC} (me : Nat) : ∀ (cells : List AV) (o : List OV) (rs : List Nat) (l : List Nat), (cellsE me cells).run m = some ((o, rs), l) → CellsOK me m cells o rs
  | [], o, rs, l, h => by
    obtain ⟨e, _⟩ := EP.ret_inv h
    cases e
    exact ⟨rfl, rfl, fun q c h => by simp [rowsMC] at h, rfl, fun ρ ns me' _ _ _ => ⟨fun i x y h => by simp at h, .nil⟩⟩
  | x :: cells, o, rs, l, h => by
    simp only [cellsE] at h
    split at h
    · rename_i r z rows
      obtain ⟨l', h, _⟩ := EP.ask_inv h
      split at h
      · rename_i z' fr hm
        split at h
        · rename_i hfr
          obtain ⟨hz, hfr⟩ := hfr
          subst hz; subst hfr
          obtain ⟨⟨o', rs'⟩, l1, l2, h1, h2, _⟩ := EP.bind_inv h
          obtain ⟨e, _⟩ := EP.ret_inv h2
          cases e
          obtain ⟨b1, b2, b3, b4, b5⟩ := cellsE_inv me cells o' rs' l1 h1
          refine ⟨by simp [b1], by simp [nOwn, b2], fun q c hq => ?_, ?_, fun ρ ns me' h0 n1 n2 => ?_⟩
          · simp only [rowsMC, List.mem_cons] at hq
            rcases hq with hq | hq
            · cases hq; exact hm
            · exact b3 q c hq
          · simp only [rowsMC, keys, List.map_cons, List.cons.injEq, true_and]; exact b4
          · cases ns with
            | nil => simp [nOwn] at n1
            | cons n ns =>
              obtain ⟨d1, d2⟩ := b5 ρ ns me' h0 (by simpa [nOwn] using n1) (fun p hp => n2 p (by simp [hp]))
              refine ⟨fun i x' y e1 e2 => ?_, .cons _ _ _ _ ⟨rfl, rfl⟩ d2⟩
              cases i with
              | zero => simp [backCells] at e1 e2; subst e1; subst e2; exact .own r n _ rows (n2 (n, r) (by simp))
              | succ i => exact d1 i x' y (by simpa using e1) (by simpa [backCells] using e2)
        · exact EP.fail_inv h
      · exact EP.fail_inv h
    · rename_i r
      obtain ⟨l', h, _⟩ := EP.ask_inv h
      split at h
      · rename_i ag es hm
        obtain ⟨⟨o', rs'⟩, l1, l2, h1, h2, _⟩ := EP.bind_inv h
        obtain ⟨e, _⟩ := EP.ret_inv h2
        cases e
        obtain ⟨b1, b2, b3, b4, b5⟩ := cellsE_inv me cells o' rs' l1 h1
        refine ⟨by simp [b1], by simp [nOwn, b2], fun q c hq => ?_, ?_, fun ρ ns me' h0 n1 n2 => ?_⟩
        · simp only [rowsMC, List.mem_cons] at hq
          rcases hq with hq | hq
          · cases hq; exact hm
          · exact b3 q c hq
        · simp only [rowsMC, keys, List.map_cons, List.cons.injEq, true_and]; exact b4
        · cases ns with
          | nil => simp [nOwn] at n1
          | cons n ns =>
            obtain ⟨d1, d2⟩ := b5 ρ ns me' h0 (by simpa [nOwn] using n1) (fun p hp => n2 p (by simp [hp]))
            refine ⟨fun i x' y e1 e2 => ?_, .cons _ _ _ _ ⟨rfl, rfl⟩ d2⟩
            cases i with
            | zero => simp [backCells] at e1 e2; subst e1; subst e2; exact .mp r n (n2 (n, r) (by simp))
            | succ i => exact d1 i x' y (by simpa using e1) (by simpa [backCells] using e2)
      · exact EP.fail_inv h
    · obtain ⟨⟨o', rs'⟩, l1, l2, h1, h2, _⟩ := EP.bind_inv h
      obtain ⟨e, _⟩ := EP.ret_inv h2
      cases e
      exact (cellsE_inv me cells o' rs' l1 h1).plain rfl rfl (fun me' ns => ⟨.nilmp, rfl, fun _ _ => .nilmp⟩)
    · obtain ⟨⟨o', rs'⟩, l1, l2, h1, h2, _⟩ := EP.bind_inv h
      obtain ⟨e, _⟩ := EP.ret_inv h2
      cases e
      exact (cellsE_inv me cells o' rs' l1 h1).plain rfl rfl (fun me' ns => ⟨.nilptr, rfl, fun _ _ => .nilptr⟩)
    · rename_i r
      split at h
      · rename_i hr
        subst hr
        obtain ⟨⟨o', rs'⟩, l1, l2, h1, h2, _⟩ := EP.bind_inv h
        obtain ⟨e, _⟩ := EP.ret_inv h2
        cases e
        exact (cellsE_inv r cells o' rs' l1 h1).plain rfl rfl (fun me' ns => ⟨.ptr me' 0, rfl, fun _ h0 => .ptr _ _ 0 h0⟩)
      · exact EP.fail_inv h
    · split at h
      · rename_i c hc
        obtain ⟨⟨o', rs'⟩, l1, l2, h1, h2, _⟩ := EP.bind_inv h
        obtain ⟨e, _⟩ := EP.ret_inv h2
        cases e
        refine (cellsE_inv me cells o' rs' l1 h1).plain rfl rfl (fun me' ns => ⟨.c c, rfl, fun _ _ => ?_⟩)
        cases x <;> simp only [AV.toPC, Option.some.injEq, reduceCtorEq] at hc
        · subst hc; exact .c _
        · subst hc; exact .nilc
        · subst hc; exact .ownc _ _ _
      · exact EP.fail_inv h


theorem objsE_inv {m : Nat → Option MC} (M : MRel E G m w) : ∀ (ns : List Nat) (os : List (List OV)) (nm : List (Nat × List Nat)) (l : List Nat), (objsE ns).run m = some ((os, nm), l) →
    ∃ css : List (List AV), nm.map (·.1) = ns ∧ Fit nm os ∧ (∀ q c, (q, c) ∈ origMC css os nm → m q = some c) ∧ keys (origMC css os nm) = allNames nm ∧
    ∀ (ρ : Ren) (nm' : List (Nat × List Nat)), Fit nm' os → (∀ p ∈ (allNames nm').zip (allNames nm), ρ.src p.1 = some p.2) → Al (fun x y => CM ρ (some x.2) (some y.2)) (origMC css os nm) (backObjs nm' os)
  | [], os, nm, l, h => by
    obtain ⟨e, _⟩ := EP.ret_inv h
    cases e
    refine ⟨[], rfl, trivial, fun q c h => by simp [origMC] at h, rfl, fun ρ nm' hf _ => ?_⟩
    cases nm' with
    | nil => exact .nil
    | cons => exact hf.elim
  | n :: ns, os, nm, l, h => by
    unfold objsE at h
    obtain ⟨l', h, _⟩ := EP.ask_inv h
    split at h
    · rename_i cells hm
      obtain ⟨⟨o, rs⟩, l1, l2, h1, h2, _⟩ := EP.bind_inv h
      obtain ⟨⟨os', nm'⟩, l3, l4, h3, h4, _⟩ := EP.bind_inv h2
      obtain ⟨e, _⟩ := EP.ret_inv h4
      cases e
      obtain ⟨b1, b2, b3, b4, b5⟩ := cellsE_inv n cells o rs l1 h1
      obtain ⟨css, c1, c2, c3, c4, c5⟩ := objsE_inv M ns os' nm' l3 h3
      refine ⟨cells :: css, by simp [c1], ⟨b2, c2⟩, fun q c hq => ?_, ?_, fun ρ nm2 hf H => ?_⟩
      · simp only [origMC, List.mem_cons, List.mem_append] at hq
        rcases hq with hq | hq | hq
        · cases hq; exact hm
        · exact b3 q c hq
        · exact c3 q c hq
      · simp only [keys] at b4 c4
        simp only [origMC, allNames, keys, List.map_cons, List.map_append, b4, c4]
      · cases nm2 with
        | nil => exact hf.elim
        | cons p nm2 =>
          obtain ⟨n2, rs2⟩ := p
          obtain ⟨f1, f2⟩ := hf
          have hz : (allNames ((n2, rs2) :: nm2)).zip (allNames ((n, rs) :: nm')) = (n2, n) :: (rs2.zip rs ++ (allNames nm2).zip (allNames nm')) := by
            simp only [allNames, List.zip_cons_cons]
            rw [List.zip_append (by rw [f1]; exact b2.symm)]
          rw [hz] at H
          obtain ⟨d1, d2⟩ := b5 ρ rs2 n2 (H (n2, n) (by simp)) f1 (fun p hp => H p (by simp [hp]))
          refine .cons _ _ _ _ ⟨rfl, ?_, d1⟩ (d2.append (c5 ρ nm2 f2 fun p hp => H p (by simp [hp])))
          rw [back_length, b1]
    · exact EP.fail_inv h

theorem argsE_inv : ∀ (xs : List AV) (i : Nat) (as : List AV) (ns : List Nat), argsE xs i = some (as, ns) →
    as.length = xs.length ∧ ∀ (G' : Gh), G'.K = G.K → (∀ k n, ns[k]? = some n → ∃ b, G'.h (inObj (i + k)) = some b ∧ G.h n = some b) →
      ∀ (k : Nat) (x y : AV) (v : Value), xs[k]? = some x → as[k]? = some y → AR G x v → AR G' y v
  | [], i, as, ns, h => by
    simp only [argsE, Option.some.injEq, Prod.mk.injEq] at h
    obtain ⟨rfl, rfl⟩ := h
    exact ⟨rfl, fun _ _ _ k x y v h => by simp at h⟩
  | x :: xs, i, as, ns, h => by
    simp only [argsE] at h
    split at h
    · rename_i n
      split at h
      · rename_i as' ns' h1
        simp only [Option.some.injEq, Prod.mk.injEq] at h
        obtain ⟨rfl, rfl⟩ := h
        obtain ⟨a1, a2⟩ := argsE_inv xs (i + 1) as' ns' h1
        refine ⟨by simp [a1], fun G' hK hh k x y v e1 e2 hx => ?_⟩
        cases k with
        | zero =>
          simp at e1 e2
          subst e1; subst e2
          cases hx with
          | ptr _ _ b hb =>
          obtain ⟨c, g1, g2⟩ := hh 0 n rfl
          rw [hb] at g2
          cases g2
          exact .ptr _ _ b g1
        | succ k => exact a2 G' hK (fun j n hj => by have := hh (j + 1) n (by simpa using hj); rwa [show i + (j + 1) = i + 1 + j from by omega] at this) k x y v (by simpa using e1) (by simpa using e2) hx
      · cases h
    · rename_i n off len ex
      split at h
      · rename_i as' ns' h1
        simp only [Option.some.injEq, Prod.mk.injEq] at h
        obtain ⟨rfl, rfl⟩ := h
        obtain ⟨a1, a2⟩ := argsE_inv xs (i + 1) as' ns' h1
        refine ⟨by simp [a1], fun G' hK hh k x y v e1 e2 hx => ?_⟩
        cases k with
        | zero =>
          simp at e1 e2
          subst e1; subst e2
          cases hx with
          | msl _ _ _ b cap _ hb hc he =>
          obtain ⟨c, g1, g2⟩ := hh 0 n rfl
          rw [hb] at g2
          cases g2
          exact .msl _ _ _ b cap _ g1 hc he
        | succ k => exact a2 G' hK (fun j n hj => by have := hh (j + 1) n (by simpa using hj); rwa [show i + (j + 1) = i + 1 + j from by omega] at this) k x y v (by simpa using e1) (by simpa using e2) hx
      · cases h
    · split at h
      · rename_i y' as' ns' hp h1
        simp only [Option.some.injEq, Prod.mk.injEq] at h
        obtain ⟨rfl, rfl⟩ := h
        obtain ⟨a1, a2⟩ := argsE_inv xs i as' ns' h1
        refine ⟨by simp [a1], fun G' hK hh k x2 y v e1 e2 hx => ?_⟩
        cases k with
        | zero =>
          simp at e1 e2
          subst e1; subst e2
          obtain ⟨g1, g2⟩ := AR.pure (E := cEnv default (fun _ => False) G.K) hx hp
          have := (g2.am ⟨fun _ => none, fun _ => none⟩).rel g1
          exact this.mono ⟨by rw [hK]; exact Know.le_refl _, fun n h e => by simp [Ren.gh] at e⟩
        | succ k => exact a2 G' hK hh k x2 y v (by simpa using e1) (by simpa using e2) hx
      · cases h


theorem freeE_inv {m : Nat → Option MC} : ∀ (ns : List Nat) (l : List Nat), (freeE ns).run m = some ((), l) → ∀ n ∈ ns, m n = none
  | [], l, h, n, hn => by simp at hn
  | n0 :: ns, l, h, n, hn => by
    simp only [freeE] at h
    obtain ⟨l', h, _⟩ := EP.ask_inv h
    split at h
    · rename_i hm
      rcases List.mem_cons.1 hn with rfl | hn
      · exact hm
      · exact freeE_inv ns l' h n hn
    · exact EP.fail_inv h

theorem zip_look : ∀ {ks qs : List Nat}, ks.Nodup → ∀ p ∈ ks.zip qs, look (ks.zip qs) p.1 = some p.2
  | [], _, _, p, h => by simp at h
  | _ :: _, [], _, p, h => by simp at h
  | k :: ks, q :: qs, nd, p, h => by
    simp only [List.nodup_cons] at nd
    simp only [List.zip_cons_cons, List.mem_cons] at h
    simp only [List.zip_cons_cons, look]
    rcases h with h | h
    · subst h; simp
    · have hk : k ≠ p.1 := fun e => by subst e; exact nd.1 (List.of_mem_zip h).1
      rw [if_neg hk]
      exact zip_look nd.2 p h

def SoundG (P : Program) (Γ : FuncId → Contract) : Prop := ∀ f args objs r, Γ f args objs = some r → SoundC P f (Γ f)

theorem inName (os : List (List OV)) : ∀ (nm : List (Nat × List Nat)) (i k n : Nat), Fit nm os → (nm.map (·.1))[k]? = some n → (inObj (i + k), n) ∈ (allNames (entryNames i os)).zip (allNames nm) := by
  induction os with
  | nil => intro nm i k n hf h; cases nm with | nil => simp at h | cons => exact hf.elim
  | cons o os ih =>
    intro nm i k n hf h
    cases nm with
    | nil => exact hf.elim
    | cons p nm =>
      obtain ⟨n0, rs⟩ := p
      obtain ⟨f1, f2⟩ := hf
      simp only [entryNames, allNames, List.zip_cons_cons]
      rw [List.zip_append (by rw [rowNames_length]; exact f1.symm)]
      cases k with
      | zero => simp at h; subst h; simp
      | succ k =>
        have := ih nm (i + 1) k n f2 (by simpa using h)
        rw [show i + 1 + k = i + (k + 1) from by omega] at this
        simp [this]

theorem look2_inv {C : Contract} {as : List AV} {os : List (List OV)} {r : CRes} (h : look2 C as os = some r) :
    ∃ as', C as' os = some r ∧ as'.length = as.length ∧ ∀ (G' : Gh) (k : Nat) (y : AV) (v : Value), as'[k]? = some y → (∀ y0, as[k]? = some y0 → AR G' y0 v) → AR G' y v := by
  unfold look2 at h
  split at h
  · rename_i r' h1
    cases h
    refine ⟨as.map denil, h1, by simp, fun G' k y v e1 e2 => ?_⟩
    simp only [List.getElem?_map, Option.map_eq_some_iff] at e1
    obtain ⟨y0, e1, rfl⟩ := e1
    have := e2 y0 e1
    unfold denil
    split
    · cases this; exact .c _ _ .nil
    · exact this
  · exact ⟨as, h, rfl, fun G' k y v e1 e2 => e2 y e1⟩

theorem call_core (R : Rel E G s a w) {d : Nat} {f : FuncId} {us : List Value} (hexec : (execOp a.eval o).run P w = .ok (.enter f us.toArray) w)
    {ns : List Nat} {os : List (List OV)} {nm : List (Nat × List Nat)} {l1 l3 : List Nat} {r : CRes} (h1 : (objsE ns).run s.mem = some ((os, nm), l1))
    (c1 : r.objs.map shapeOf = os.map shapeOf) (c2 : (keys (entryMem 0 os)).Nodup) (c3 : (keys (exitMem r)).Nodup) (c4 : (keys (backObjs nm r.objs ++ (resAt (resName d) (resCell d) ns 0 r.res).2)).Nodup)
    (h3 : (freeE (keys (resAt (resName d) (resCell d) ns 0 r.res).2)).run s.mem = some ((), l3)) (hpure : r.pure)
    (hcon : ∀ ρ1 : Ren, (∀ p ∈ (allNames (entryNames 0 os)).zip (allNames nm), ρ1.src p.1 = some p.2) → MRel (cEnv w (fun b => ∃ n h, (ρ1.gh G).h n = some h ∧ h.blk = some b) (ρ1.gh G).K) (ρ1.gh G) (look (entryMem 0 os)) w →
      Calls P f us.toArray w (CallPost (cEnv w (fun b => ∃ n h, (ρ1.gh G).h n = some h ∧ h.blk = some b) (ρ1.gh G).K) (ρ1.gh G) r))
    (K : Post E G s o ⟨oneE (resAt (resName d) (resCell d) ns 0 r.res).1, backObjs nm r.objs ++ (resAt (resName d) (resCell d) ns 0 r.res).2⟩ a next) : o.wp P a w next Q := by
  obtain ⟨css, d1, d2, d3, d4, d5⟩ := objsE_inv R.mem ns os nm l1 h1
  have d2' : Fit nm r.objs := d2.shape c1
  have hfree := freeE_inv _ _ h3
  -- into the callee's names
  have kin : keys (entryMem 0 os) = allNames (entryNames 0 os) := by rw [entry_back]; exact objs_keys _ _ (Fit.entry 0 os)
  have kback : keys (backObjs nm r.objs) = allNames nm := objs_keys nm r.objs d2'
  have ndin : (allNames (entryNames 0 os)).Nodup := by rw [← kin]; exact c2
  have ndnm : (allNames nm).Nodup := by
    rw [keys, List.map_append, List.nodup_append] at c4
    rw [← kback]; exact c4.1
  let ρ1 := pren (origMC css os nm) (entryMem 0 os)
  have hsrc1 : ∀ p ∈ (allNames (entryNames 0 os)).zip (allNames nm), ρ1.src p.1 = some p.2 := by
    intro p hp
    show look (pairs (origMC css os nm) (entryMem 0 os)) p.1 = some p.2
    unfold pairs
    rw [kin, d4]
    exact zip_look ndin p hp
  have al1 := d5 ρ1 (entryNames 0 os) (Fit.entry 0 os) hsrc1
  rw [← entry_back] at al1
  have ren1 : RenOK ρ1 s.mem (look (entryMem 0 os)) := RenOK.of al1 (by rw [d4]; exact ndnm) (fun q c h => d3 q c (look_mem h))
  have M1 := (R.mem.rename ren1).focus
  unfold Oper.wp
  rw [hexec]
  refine Calls.mono (hcon ρ1 hsrc1 M1) ?_
  rintro e w' ⟨G', v, rfl, hle, M', hv⟩
  -- back into the caller's names
  let rc := resAt (resName d) (resCell d) ns 0 r.res
  let ro := resAt outName outCell (inNames 0 r.objs) 0 r.res
  let wr := backObjs nm r.objs ++ rc.2
  let ρ2 := pren (exitMem r) wr
  have kex : keys (entryMem 0 r.objs) = allNames (entryNames 0 r.objs) := by rw [entry_back]; exact objs_keys _ _ (Fit.entry 0 r.objs)
  have hlen1 : (keys (backObjs nm r.objs)).length = (keys (entryMem 0 r.objs)).length := by rw [kback, kex]; exact allNames_length nm _ r.objs d2' (Fit.entry 0 r.objs)
  have hz2 : pairs (exitMem r) wr = (allNames nm).zip (allNames (entryNames 0 r.objs)) ++ (keys rc.2).zip (keys ro.2) := by
    unfold pairs exitMem
    show (keys (backObjs nm r.objs ++ rc.2)).zip (keys (entryMem 0 r.objs ++ ro.2)) = _
    simp only [keys, List.map_append] at *
    rw [List.zip_append hlen1, kback, kex]
  have ndwr : (keys wr).Nodup := c4
  have hsrc2 : ∀ p ∈ pairs (exitMem r) wr, ρ2.src p.1 = some p.2 := fun p hp => zip_look ndwr p hp
  have hnm : ∀ (nm : List (Nat × List Nat)) (i : Nat) (os : List (List OV)), Fit nm os → (nm.map (·.1)).length = (inNames i os).length ∧ ∀ p ∈ (nm.map (·.1)).zip (inNames i os), p ∈ (allNames nm).zip (allNames (entryNames i os)) := by
    intro nm
    induction nm with
    | nil => intro i os hf; cases os with | nil => exact ⟨rfl, fun p hp => by simp at hp⟩ | cons => exact hf.elim
    | cons x nm ih =>
      intro i os hf
      cases os with
      | nil => exact hf.elim
      | cons o os =>
        obtain ⟨n0, rs⟩ := x
        obtain ⟨f1, f2⟩ := hf
        obtain ⟨i1, i2⟩ := ih (i + 1) os f2
        refine ⟨by simp only [List.map_cons, List.length_cons, inNames]; rw [i1], fun p hp => ?_⟩
        simp only [List.map_cons, inNames, List.zip_cons_cons, List.mem_cons] at hp
        simp only [allNames, entryNames, List.zip_cons_cons, List.mem_cons]
        rcases hp with hp | hp
        · exact .inl hp
        · right
          rw [List.zip_append (by rw [rowNames_length]; exact f1)]
          exact List.mem_append_right _ (i2 p hp)
  obtain ⟨hn1, hn2⟩ := hnm nm 0 r.objs d2'
  rw [d1] at hn1 hn2
  obtain ⟨q1, q2, q3⟩ := res_am (ρ := ρ2) (no := inNames 0 r.objs) (no' := ns) hn1.symm (fun p hp => hsrc2 p (by rw [hz2]; exact List.mem_append_left _ (hn2 p hp))) (nr := outName) (nr' := resName d) (nc := outCell) (nc' := resCell d) r.res 0 (fun x hx y hy => (hpure y (hy ▸ hx)).am ρ2) (fun p hp => hsrc2 p (by rw [hz2]; exact List.mem_append_right _ hp))
  have al2 : Al (fun x y => CM ρ2 (some x.2) (some y.2)) (exitMem r) wr := by
    refine Al.append ?_ q3
    rw [entry_back]
    exact objs_am _ nm r.objs (Fit.entry 0 r.objs) d2' (fun p hp => hsrc2 p (by rw [hz2]; exact List.mem_append_left _ hp))
  have ren2 : RenOK ρ2 (look (exitMem r)) (look wr) := RenOK.of al2 c3 (fun q c h => h)
  have M2 := M'.rename ren2
  have hmem : ∀ n, look wr n ≠ none → n ∈ allNames nm ∨ n ∈ keys rc.2 := by
    intro n hn
    cases hc : look wr n with
    | none => exact absurd hc hn
    | some c =>
      have := List.mem_map_of_mem (f := (·.1)) (look_mem hc)
      simp only [wr, List.map_append, List.mem_append] at this
      rcases this with h | h
      · left; rw [← kback]; exact h
      · exact .inr h
  -- who is who
  have hpair : ∀ n ∈ allNames nm, ∃ q, (q, n) ∈ (allNames (entryNames 0 os)).zip (allNames nm) ∧ (n, q) ∈ (allNames nm).zip (allNames (entryNames 0 r.objs)) := by
    have hnn : allNames (entryNames 0 os) = allNames (entryNames 0 r.objs) := by
      have : ∀ (i : Nat) (os os' : List (List OV)), os'.map shapeOf = os.map shapeOf → allNames (entryNames i os) = allNames (entryNames i os') := by
        have rn : ∀ (nm : Nat → Nat) (o o' : List OV) (j : Nat), shapeOf o' = shapeOf o → rowNames nm j o = rowNames nm j o' := by
          have rs : ∀ (nm : Nat → Nat) (o : List OV) (j : Nat), rowNames nm j o = ((shapeOf o).zipIdx j).filterMap fun p => p.1.map fun _ => nm p.2 := by
            intro nm o
            induction o with
            | nil => intro j; rfl
            | cons x o ih => intro j; cases x <;> simp [rowNames, shapeOf, ih (j + 1)]
          intro nm o o' j h
          rw [rs, rs, h]
        intro i os
        induction os generalizing i with
        | nil => intro os' h; cases os' with | nil => rfl | cons => simp at h
        | cons o os ih =>
          intro os' h
          cases os' with
          | nil => simp at h
          | cons o' os' =>
            simp only [List.map_cons, List.cons.injEq] at h
            simp only [entryNames, allNames, rn (inRow i) o o' 0 h.1, ih (i + 1) os' h.2]
      exact this 0 os r.objs c1
    intro n hn
    rw [← hnn]
    have hlenE : (allNames (entryNames 0 os)).length = (allNames nm).length := allNames_length _ _ os (Fit.entry 0 os) d2
    obtain ⟨k, hk⟩ := List.mem_iff_getElem?.1 hn
    have hkl : k < (allNames (entryNames 0 os)).length := by have := (List.getElem?_eq_some_iff.1 hk).1; omega
    refine ⟨(allNames (entryNames 0 os))[k], ?_, ?_⟩
    · refine List.mem_of_getElem? (i := k) ?_
      simp [List.getElem?_zip_eq_some, hk, hkl]
    · refine List.mem_of_getElem? (i := k) ?_
      simp [List.getElem?_zip_eq_some, hk, hkl]
  obtain ⟨z1, z2, z3⟩ := R.mem.merge M2 (by
    rintro b ⟨q, x, e1, e2⟩
    simp only [Ren.gh] at e1
    cases hs : ρ1.src q with
    | none => rw [hs] at e1; cases e1
    | some n =>
      rw [hs] at e1
      refine ⟨n, x, e1, e2, fun hn => ?_⟩
      have hm := look_mem (show look (pairs (origMC css os nm) (entryMem 0 os)) q = some n from hs)
      have hn' : n ∈ allNames nm := by rw [← d4]; exact (List.of_mem_zip hm).2
      have : n ∈ wr.map (·.1) := by
        simp only [wr, List.map_append, List.mem_append]
        left; rw [← kback] at hn'; exact hn'
      obtain ⟨c, hc⟩ := look_some this
      rw [hn] at hc; cases hc) (by
    intro n x e1 hn
    rcases hmem n hn with h | h
    · obtain ⟨q, p1, p2⟩ := hpair n h
      have s1 := hsrc1 _ p1
      have s2 := hsrc2 (n, q) (by rw [hz2]; exact List.mem_append_left _ p2)
      have e1' : (ρ1.gh G).h q = some x := by simp only [Ren.gh, s1]; exact e1
      obtain ⟨x', e2, l2⟩ := hle.h q x e1'
      exact ⟨x', by simp only [Ren.gh, s2]; exact e2, l2⟩
    · have := hfree n h
      have h0 := R.mem.home n
      rw [this, e1] at h0
      exact h0.elim)
  refine K _ v w' z1 ?_ (z3.congr fun i => AS.mem_wr s wr i)
  refine AR.mono z2 ?_
  refine AM.rel (ρ := ρ2) (x := oneE (exitVals r)) ?_ hv
  have hone : ∀ {l l' : List AV}, l.length = l'.length → (∀ (k : Nat) (x y : AV), l[k]? = some x → l'[k]? = some y → AM ρ2 x y) → AM ρ2 (oneE l) (oneE l') := by
    intro l l' hl h
    match l, l', hl, h with
    | [x], [y], _, h => exact h 0 x y rfl rfl
    | [], [], hl, h => exact .tup _ _ hl h
    | _ :: _ :: _, _ :: _ :: _, hl, h => exact .tup _ _ hl h
    | [], _ :: _, hl, _ => simp at hl
    | _ :: _, [], hl, _ => simp at hl
    | [_], _ :: _ :: _, hl, _ => simp at hl
    | _ :: _ :: _, [_], hl, _ => simp at hl
  exact hone q1 q2

/-- Who is handed over has a home. -/
theorem objs_home (R : Rel E G s a w) {ns : List Nat} {os : List (List OV)} {nm : List (Nat × List Nat)} {l1 : List Nat} (h1 : (objsE ns).run s.mem = some ((os, nm), l1)) {ρ1 : Ren}
    (hsrc1 : ∀ p ∈ (allNames (entryNames 0 os)).zip (allNames nm), ρ1.src p.1 = some p.2) : ∀ k n, ns[k]? = some n → ∃ b, (ρ1.gh G).h (inObj (0 + k)) = some b ∧ G.h n = some b := by
  intro k n hk
  obtain ⟨css, d1, d2, d3, d4, d5⟩ := objsE_inv R.mem ns os nm l1 h1
  rw [← d1] at hk
  have hp := inName os nm 0 k n d2 hk
  have hs := hsrc1 _ hp
  have hgn : ∃ b, G.h n = some b := by
    have hq : n ∈ keys (origMC css os nm) := by rw [d4]; exact (List.of_mem_zip hp).2
    obtain ⟨c, hc⟩ := look_some (l := origMC css os nm) hq
    have hm := d3 n c (look_mem hc)
    have := R.mem.home n
    rw [hm] at this
    cases hgh : G.h n with
    | none => rw [hgh] at this; cases c <;> exact this.elim
    | some b => exact ⟨b, rfl⟩
  obtain ⟨b, hb⟩ := hgn
  exact ⟨b, by simp only [Ren.gh, hs]; exact hb, hb⟩

theorem cellsA_inv : ∀ (xs : List AV) (i : Nat) (as : List AV) (ns : List Nat), cellsA xs i = some (as, ns) →
    as.length = xs.length ∧ ∀ (G' : Gh), G'.K = G.K → (∀ k n, ns[k]? = some n → ∃ b, G'.h (inObj (i + k)) = some b ∧ G.h n = some b) →
      ∀ (k : Nat) (x y : AV) (v : Value), xs[k]? = some x → as[k]? = some y → AR G x v → AR G' y v
  | [], i, as, ns, h => by
    simp only [cellsA, Option.some.injEq, Prod.mk.injEq] at h
    obtain ⟨rfl, rfl⟩ := h
    exact ⟨rfl, fun _ _ _ k x y v h => by simp at h⟩
  | x :: xs, i, as, ns, h => by
    simp only [cellsA] at h
    split at h
    · rename_i n off len ex
      split at h
      · rename_i as' ns' h1
        simp only [Option.some.injEq, Prod.mk.injEq] at h
        obtain ⟨rfl, rfl⟩ := h
        obtain ⟨a1, a2⟩ := cellsA_inv xs (i + 1) as' ns' h1
        refine ⟨by simp [a1], fun G' hK hh k x y v e1 e2 hx => ?_⟩
        cases k with
        | zero =>
          simp at e1 e2
          subst e1; subst e2
          cases hx with
          | msl _ _ _ b cap _ hb hc he =>
          obtain ⟨c, g1, g2⟩ := hh 0 n rfl
          rw [hb] at g2
          cases g2
          exact .msl _ _ _ b cap _ g1 hc he
        | succ k => exact a2 G' hK (fun j n hj => by have := hh (j + 1) n (by simpa using hj); rwa [show i + (j + 1) = i + 1 + j from by omega] at this) k x y v (by simpa using e1) (by simpa using e2) hx
      · cases h
    · split at h
      · rename_i c as' ns' hp h1
        simp only [Option.some.injEq, Prod.mk.injEq] at h
        obtain ⟨rfl, rfl⟩ := h
        obtain ⟨a1, a2⟩ := cellsA_inv xs i as' ns' h1
        refine ⟨by simp [a1], fun G' hK hh k x2 y v e1 e2 hx => ?_⟩
        cases k with
        | zero =>
          simp at e1 e2
          subst e1; subst e2
          exact .c _ _ (by rw [hK]; exact hx.toPC hp)
        | succ k => exact a2 G' hK hh k x2 y v (by simpa using e1) (by simpa using e2) hx
      · cases h

theorem argsA_inv : ∀ (xs : List AV) (i : Nat) (as : List AV) (ns : List Nat), argsA xs i = some (as, ns) →
    as.length = xs.length ∧ ∀ (G' : Gh), G'.K = G.K → (∀ k n, ns[k]? = some n → ∃ b, G'.h (inObj (i + k)) = some b ∧ G.h n = some b) →
      ∀ (k : Nat) (x y : AV) (v : Value), xs[k]? = some x → as[k]? = some y → AR G x v → AR G' y v
  | [], i, as, ns, h => by
    simp only [argsA, Option.some.injEq, Prod.mk.injEq] at h
    obtain ⟨rfl, rfl⟩ := h
    exact ⟨rfl, fun _ _ _ k x y v h => by simp at h⟩
  | x :: xs, i, as, ns, h => by
    simp only [argsA] at h
    split at h
    · rename_i n
      split at h
      · rename_i as' ns' h1
        simp only [Option.some.injEq, Prod.mk.injEq] at h
        obtain ⟨rfl, rfl⟩ := h
        obtain ⟨a1, a2⟩ := argsA_inv xs (i + 1) as' ns' h1
        refine ⟨by simp [a1], fun G' hK hh k x y v e1 e2 hx => ?_⟩
        cases k with
        | zero =>
          simp at e1 e2
          subst e1; subst e2
          cases hx with
          | ptr _ _ b hb =>
          obtain ⟨c, g1, g2⟩ := hh 0 n rfl
          rw [hb] at g2
          cases g2
          exact .ptr _ _ b g1
        | succ k => exact a2 G' hK (fun j n hj => by have := hh (j + 1) n (by simpa using hj); rwa [show i + (j + 1) = i + 1 + j from by omega] at this) k x y v (by simpa using e1) (by simpa using e2) hx
      · cases h
    · rename_i n off len ex
      split at h
      · rename_i as' ns' h1
        simp only [Option.some.injEq, Prod.mk.injEq] at h
        obtain ⟨rfl, rfl⟩ := h
        obtain ⟨a1, a2⟩ := argsA_inv xs (i + 1) as' ns' h1
        refine ⟨by simp [a1], fun G' hK hh k x y v e1 e2 hx => ?_⟩
        cases k with
        | zero =>
          simp at e1 e2
          subst e1; subst e2
          cases hx with
          | msl _ _ _ b cap _ hb hc he =>
          obtain ⟨c, g1, g2⟩ := hh 0 n rfl
          rw [hb] at g2
          cases g2
          exact .msl _ _ _ b cap _ g1 hc he
        | succ k => exact a2 G' hK (fun j n hj => by have := hh (j + 1) n (by simpa using hj); rwa [show i + (j + 1) = i + 1 + j from by omega] at this) k x y v (by simpa using e1) (by simpa using e2) hx
      · cases h
    · rename_i cs
      split at h
      · rename_i bs ms h0
        split at h
        · rename_i as' ns' h1
          simp only [Option.some.injEq, Prod.mk.injEq] at h
          obtain ⟨rfl, rfl⟩ := h
          obtain ⟨a1, a2⟩ := argsA_inv xs (i + ms.length) as' ns' h1
          obtain ⟨b1, b2⟩ := cellsA_inv (G := G) cs i bs ms h0
          refine ⟨by simp [a1], fun G' hK hh k x y v e1 e2 hx => ?_⟩
          cases k with
          | zero =>
            simp at e1 e2
            subst e1; subst e2
            cases hx with
            | agg _ us hl hc =>
            refine .agg _ us (by omega) fun j x' u q1 q2 => ?_
            have hj : j < cs.length := by have := (List.getElem?_eq_some_iff.1 q1).1; omega
            exact b2 G' hK (fun k n hk => hh k n (by rw [List.getElem?_append_left (List.getElem?_eq_some_iff.1 hk).1]; exact hk)) j cs[j] x' u (by simp [hj]) q1 (hc j _ u (by simp [hj]) q2)
          | succ k => exact a2 G' hK (fun j n hj => by have := hh (ms.length + j) n (by rw [List.getElem?_append_right (by omega), Nat.add_sub_cancel_left]; exact hj); rwa [show i + (ms.length + j) = i + ms.length + j from by omega] at this) k x y v (by simpa using e1) (by simpa using e2) hx
        · cases h
      · cases h
    · split at h
      · rename_i y' as' ns' hp h1
        simp only [Option.some.injEq, Prod.mk.injEq] at h
        obtain ⟨rfl, rfl⟩ := h
        obtain ⟨a1, a2⟩ := argsA_inv xs i as' ns' h1
        refine ⟨by simp [a1], fun G' hK hh k x2 y v e1 e2 hx => ?_⟩
        cases k with
        | zero =>
          simp at e1 e2
          subst e1; subst e2
          obtain ⟨g1, g2⟩ := AR.pure (E := cEnv default (fun _ => False) G.K) hx hp
          have := (g2.am ⟨fun _ => none, fun _ => none⟩).rel g1
          exact this.mono ⟨by rw [hK]; exact Know.le_refl _, fun n h e => by simp [Ren.gh] at e⟩
        | succ k => exact a2 G' hK hh k x2 y v (by simpa using e1) (by simpa using e2) hx
      · cases h

theorem chunk_rows0 {K : Know} {b off z len : Nat} {cs : List PC} (h0 : 0 < z) (hl : off + len * z ≤ cs.length) (hk : ∀ i c, cs[i]? = some c → ∃ v, K b i = some v ∧ VR K c v) : Slice K z b off (chunks z len (cs.drop off)) := by
  refine ⟨fun r hr => ?_, fun j r hj i c hi => ?_⟩
  · obtain ⟨j, hj⟩ := List.mem_iff_getElem?.1 hr
    have hjl : j < len := by have := (List.getElem?_eq_some_iff.1 hj).1; rwa [chunks_length] at this
    have := chunks_get _ _ _ _ _ hj
    have h3 : j * z + z ≤ len * z := by rw [← Nat.succ_mul]; exact Nat.mul_le_mul_right z hjl
    rw [this]; simp; omega
  · have := chunks_get _ _ _ _ _ hj
    rw [this, List.getElem?_take] at hi
    split at hi
    · rw [List.getElem?_drop, List.getElem?_drop] at hi
      rw [show off + j * z + i = off + (j * z + i) from by omega]
      exact hk _ c hi
    · cases hi

/-- What is known while some blocks are lent. -/
def lentK (K : Know) (w : World) (Bs : List Nat) : Know := fun b o => if b ∈ Bs then w.cell? ⟨b, o, none⟩ else K b o
theorem lentK_le {E : Env} {G : Gh} {m : Nat → Option MC} {w : World} (M : MRel E G m w) (Bs : List Nat) : G.K.le (lentK G.K w Bs) := fun b o v h => by
  unfold lentK
  split
  · exact M.agree b o v h
  · exact h
theorem lentK_mono (K : Know) (w : World) {Bs Bs' : List Nat} (hK : ∀ b o v, K b o = some v → w.cell? ⟨b, o, none⟩ = some v) (h : ∀ b ∈ Bs, b ∈ Bs') : (lentK K w Bs).le (lentK K w Bs') := fun b o v e => by
  unfold lentK at e ⊢
  split at e
  · rename_i hb; rw [if_pos (h b hb)]; exact e
  · split
    · exact hK b o v e
    · exact e

theorem lendM_inv (M : MRel E G s.mem w) {n off len : Nat} {ex : Bool} {c : PC} {l : List Nat} (h : (lendM n off len).run s.mem = some (c, l)) {v : Value} (hv : AR G (.msl n off len ex) v) :
    ∃ b, b < w.heap.size ∧ VR (lentK G.K w [b]) c v := by
  unfold lendM at h
  obtain ⟨l', h2, _⟩ := EP.ask_inv h
  clear h
  have h := h2
  clear h2
  cases hm : s.mem n with
  | none => rw [hm] at h; exact EP.fail_inv h
  | some c0 =>
  cases c0 with
  | row => rw [hm] at h; exact EP.fail_inv h
  | mp => rw [hm] at h; exact EP.fail_inv h
  | obj cells fz =>
  cases fz with
  | true => rw [hm] at h; exact EP.fail_inv h
  | false =>
    rw [hm] at h
    dsimp only at h
    split at h
    · rename_i hoff
      subst hoff
      split at h
      · rename_i rows hr
        obtain ⟨e, _⟩ := EP.ret_inv h
        subst e
        obtain ⟨cs, hcs, hrows⟩ := Option.bind_eq_some_iff.1 hr
        cases hv with
        | msl _ _ _ b cap _ hb hc he =>
        have hom := M.home n
        rw [hm, hb] at hom
        obtain ⟨vs, ty, a1, a2, a3, a4, a5, a6⟩ := hom
        refine ⟨b, heap_some_lt a1, ?_⟩
        obtain ⟨t1, t2⟩ := toPCs_spec hcs
        unfold lendR at hrows
        split at hrows
        · rename_i hcnd
          obtain ⟨q1, q2⟩ := hcnd
          cases hrows
          have hcl : (chunks (cs.length / len) len cs).length = len := chunks_length _ _ _
          rcases Nat.eq_zero_or_pos len with h0 | h0
          · subst h0
            exact .at0 _ _
          · have hz : 0 < cs.length / len := by
              rcases Nat.eq_zero_or_pos (cs.length / len) with h | h
              · rw [h, Nat.mul_zero] at q1; omega
              · exact h
            have hsl : Slice (lentK G.K w [b]) (cs.length / len) b 0 (chunks (cs.length / len) len cs) := by
              have := chunk_rows0 (K := lentK G.K w [b]) (b := b) (z := cs.length / len) (len := len) (off := 0) (cs := cs) hz (by omega) (fun i c hi => by
                have hil : i < cells.length := by have := (List.getElem?_eq_some_iff.1 hi).1; omega
                have hiv : i < vs.size := by omega
                refine ⟨vs[i], ?_, ((a3 i _ _ (List.getElem?_eq_getElem hil) (Array.getElem?_eq_getElem hiv)).toPC (t2 i _ c (List.getElem?_eq_getElem hil) hi)).mono (lentK_le M _)⟩
                unfold lentK
                rw [if_pos (by simp)]
                simp only [World.cell?, a1]
                simp [hiv])
              simpa using this
            have := VR.of_slice (cap := cap) hsl (by rw [hcl]; exact hc)
            rw [hcl] at this
            exact this
        · cases hrows
      · exact EP.fail_inv h
    · exact EP.fail_inv h

theorem lendC_inv (M : MRel E G s.mem w) : ∀ (xs : List AV) (cs : List PC) (l : List Nat), (lendC xs).run s.mem = some (cs, l) → ∀ us : List Value, xs.length = us.length → (∀ (i : Nat) (x : AV) (u : Value), xs[i]? = some x → us[i]? = some u → AR G x u) →
    cs.length = xs.length ∧ ∃ Bs : List Nat, (∀ b ∈ Bs, b < w.heap.size) ∧ ∀ (i : Nat) (c : PC) (u : Value), cs[i]? = some c → us[i]? = some u → VR (lentK G.K w Bs) c u
  | [], cs, l, h, us, hl, hx => by
    obtain ⟨e, _⟩ := EP.ret_inv h
    subst e
    exact ⟨rfl, [], by simp, fun i c u h => by simp at h⟩
  | x :: xs, cs, l, h, us, hl, hx => by
    cases us with
    | nil => simp at hl
    | cons u us =>
    simp only [lendC] at h
    obtain ⟨c, l1, l2, h1, h2, _⟩ := EP.bind_inv h
    obtain ⟨cs', l3, l4, h3, h4, _⟩ := EP.bind_inv h2
    obtain ⟨e, _⟩ := EP.ret_inv h4
    subst e
    obtain ⟨k1, Bs, k2, k3⟩ := lendC_inv M xs cs' l3 h3 us (by simpa using hl) (fun i x u e1 e2 => hx (i + 1) x u (by simpa using e1) (by simpa using e2))
    have hx0 := hx 0 x u rfl rfl
    have key : ∃ Bs0 : List Nat, (∀ b ∈ Bs0, b < w.heap.size) ∧ VR (lentK G.K w Bs0) c u := by
      split at h1
      · obtain ⟨b, b1, b2⟩ := lendM_inv M h1 hx0
        exact ⟨[b], by simpa using b1, b2⟩
      · split at h1
        · rename_i c' hc
          obtain ⟨e, _⟩ := EP.ret_inv h1
          subst e
          exact ⟨[], by simp, (hx0.toPC hc).mono (lentK_le M _)⟩
        · exact EP.fail_inv h1
    obtain ⟨Bs0, m1, m2⟩ := key
    refine ⟨by simp [k1], Bs0 ++ Bs, fun b hb => ?_, fun i c' u' e1 e2 => ?_⟩
    · rcases List.mem_append.1 hb with h | h
      · exact m1 b h
      · exact k2 b h
    · cases i with
      | zero => simp at e1 e2; subst e1; subst e2; exact m2.mono (lentK_mono _ _ M.agree fun b hb => List.mem_append_left _ hb)
      | succ i => exact (k3 i c' u' (by simpa using e1) (by simpa using e2)).mono (lentK_mono _ _ M.agree fun b hb => List.mem_append_right _ hb)

theorem lendE_inv (M : MRel E G s.mem w) : ∀ (xs as : List AV) (l : List Nat), (lendE xs).run s.mem = some (as, l) → ∀ us : List Value, xs.length = us.length → (∀ (i : Nat) (x : AV) (u : Value), xs[i]? = some x → us[i]? = some u → AR G x u) →
    as.length = xs.length ∧ ∃ Bs : List Nat, (∀ b ∈ Bs, b < w.heap.size) ∧ ∀ (i : Nat) (y : AV) (u : Value), as[i]? = some y → us[i]? = some u → AR ⟨lentK G.K w Bs, fun _ => none⟩ y u
  | [], as, l, h, us, hl, hx => by
    obtain ⟨e, _⟩ := EP.ret_inv h
    subst e
    exact ⟨rfl, [], by simp, fun i c u h => by simp at h⟩
  | x :: xs, as, l, h, us, hl, hx => by
    cases us with
    | nil => simp at hl
    | cons u us =>
    simp only [lendE] at h
    obtain ⟨y, l1, l2, h1, h2, _⟩ := EP.bind_inv h
    obtain ⟨as', l3, l4, h3, h4, _⟩ := EP.bind_inv h2
    obtain ⟨e, _⟩ := EP.ret_inv h4
    subst e
    obtain ⟨k1, Bs, k2, k3⟩ := lendE_inv M xs as' l3 h3 us (by simpa using hl) (fun i x u e1 e2 => hx (i + 1) x u (by simpa using e1) (by simpa using e2))
    have hx0 := hx 0 x u rfl rfl
    have key : ∃ Bs0 : List Nat, (∀ b ∈ Bs0, b < w.heap.size) ∧ AR ⟨lentK G.K w Bs0, fun _ => none⟩ y u := by
      split at h1
      · obtain ⟨c, l5, l6, h5, h6, _⟩ := EP.bind_inv h1
        obtain ⟨e, _⟩ := EP.ret_inv h6
        subst e
        obtain ⟨b, b1, b2⟩ := lendM_inv M h5 hx0
        exact ⟨[b], by simpa using b1, .c _ _ b2⟩
      · rename_i cs
        obtain ⟨cs', l5, l6, h5, h6, _⟩ := EP.bind_inv h1
        obtain ⟨e, _⟩ := EP.ret_inv h6
        subst e
        cases hx0 with
        | agg _ us0 hl0 hc0 =>
        obtain ⟨j1, Bs0, j2, j3⟩ := lendC_inv M cs cs' l5 h5 us0.toList (by simpa using hl0) (fun i x u e1 e2 => hc0 i x u e1 (by simpa using e2))
        refine ⟨Bs0, j2, .agg _ _ (by simp; omega) fun i x u e1 e2 => ?_⟩
        simp only [List.getElem?_map, Option.map_eq_some_iff] at e1
        obtain ⟨c, e1, rfl⟩ := e1
        exact .c _ _ (j3 i c u e1 (by simpa using e2))
      · split at h1
        · rename_i y' hy
          obtain ⟨e, _⟩ := EP.ret_inv h1
          subst e
          obtain ⟨g1, g2⟩ := AR.pure (E := cEnv default (fun _ => False) G.K) hx0 hy
          have h3 := (g2.am ⟨fun _ => none, fun _ => none⟩).rel g1
          exact ⟨[], by simp, h3.mono (show Gh.le (Ren.gh ⟨fun _ => none, fun _ => none⟩ G) ⟨lentK G.K w [], fun _ => none⟩ from ⟨fun b o v h => lentK_le M [] b o v h, fun n h e => by simp [Ren.gh] at e⟩)⟩
        · exact EP.fail_inv h1
    obtain ⟨Bs0, m1, m2⟩ := key
    refine ⟨by simp [k1], Bs0 ++ Bs, fun b hb => ?_, fun i c' u' e1 e2 => ?_⟩
    · rcases List.mem_append.1 hb with h | h
      · exact m1 b h
      · exact k2 b h
    · cases i with
      | zero => simp at e1 e2; subst e1; subst e2; exact m2.mono ⟨lentK_mono _ _ M.agree fun b hb => List.mem_append_left _ hb, fun n h e => by cases e⟩
      | succ i => exact (k3 i c' u' (by simpa using e1) (by simpa using e2)).mono ⟨lentK_mono _ _ M.agree fun b hb => List.mem_append_right _ hb, fun n h e => by cases e⟩

theorem scPC_vr {K K' : Know} {c : PC} {v : Value} (hs : scPC c = true) (h : VR K c v) : VR K' c v := by
  cases h with
  | int k n => exact .int k n
  | bool b => exact .bool b
  | str s => exact .str s
  | nil => exact .nil
  | at0 a cap => exact .at0 a cap
  | sl rows z b off cap f hz hc hk hv =>
    cases rows with
    | nil => exact .at0 _ _
    | cons => cases hs
theorem scAV_ar {G G' : Gh} {x : AV} {v : Value} (hs : scAV x = true) (h : AR G x v) : AR G' x v := by
  unfold scAV at hs
  split at hs
  · cases h with
    | c _ _ h => exact .c _ _ (scPC_vr hs h)
  · rename_i cs
    rw [List.all_eq_true] at hs
    cases h with
    | agg _ us hl hc =>
    refine .agg _ _ hl fun i x u e1 e2 => ?_
    have := hs x (List.mem_of_getElem? e1)
    split at this
    · have h2 := hc i _ u e1 e2
      cases h2 with
      | c _ _ h => exact .c _ _ (scPC_vr this h)
    · cases this
  · cases h; exact .nilptr
  · cases h; exact .nilsl
  · cases h; exact .ubool _
  · cases hs
theorem scRows_mem : ∀ {rows : List (List PC)}, scRows rows = true → ∀ r ∈ rows, ∀ c ∈ r, scPC c = true
  | [], _, r, h => by simp at h
  | x :: l, hs, r, h => by
    simp only [scRows, Bool.and_eq_true, List.all_eq_true] at hs
    rcases List.mem_cons.1 h with rfl | h
    · exact hs.1
    · exact scRows_mem hs.2 r h

theorem scRes_row {nr : Nat → Nat} {nc : Nat → Nat → Nat} {no : List Nat} : ∀ (l : List RV) (i : Nat), scRes l = true → ∀ n c, look (resAt nr nc no i l).2 n = some c → ∃ z fr, c = .row z fr
  | [], i, _, n, c, h => by cases h
  | .pv _ :: l, i, hs, n, c, h => by
    simp only [scRes, Bool.and_eq_true] at hs
    exact scRes_row l (i + 1) hs.2 n c h
  | .fresh z rows :: l, i, hs, n, c, h => by
    simp only [scRes, Bool.and_eq_true] at hs
    simp only [resAt, look] at h
    split at h
    · cases h; exact ⟨_, _, rfl⟩
    · exact scRes_row l (i + 1) hs.2 n c h
  | .newobj _ :: l, i, hs, n, c, h => by cases hs
  | .ref _ :: l, i, hs, n, c, h => by cases hs

/-- Behind the call nothing is known of what was lent; what came back does not need it. -/
theorem unlend {K : Know} {w : World} {Bs : List Nat} (hB : ∀ b ∈ Bs, b < w.heap.size) {r : CRes} (hobj : r.objs = []) (hsc : scRes r.res = true) (hnd : (keys (exitMem r)).Nodup) {Ext : Nat → Prop} (hext : ∀ b, ¬ Ext b) (hK : ∀ b o v, K b o = some v → w.cell? ⟨b, o, none⟩ = some v) {e : Ending} {w' : World}
    (h : CallPost (cEnv w Ext (lentK K w Bs)) ⟨lentK K w Bs, fun _ => none⟩ r e w') : CallPost (cEnv w Ext K) ⟨K, fun _ => none⟩ r e w' := by
  obtain ⟨G', v, rfl, hle, M, hv⟩ := h
  have hin : exitVals r = (resAt outName outCell [] 0 r.res).1 := by unfold exitVals; rw [hobj]; rfl
  have hex : exitMem r = (resAt outName outCell [] 0 r.res).2 := by unfold exitMem; rw [hobj]; rfl
  let K2 : Know := fun b o => if b ∈ Bs then K b o else G'.K b o
  have hge : ∀ b o, ¬ b ∈ Bs → K2 b o = G'.K b o := fun b o h => if_neg h
  have hle1 : K.le (lentK K w Bs) := fun b o v h => by
    unfold lentK
    split
    · exact hK b o v h
    · exact h
  have hle2 : K.le G'.K := Know.le_trans hle1 hle.K
  have hK2 : K.le K2 := fun b o v h => by
    show (if b ∈ Bs then K b o else G'.K b o) = some v
    split
    · exact h
    · exact hle2 b o v h
  have hK3 : K2.le G'.K := fun b o v h => by
    have h : (if b ∈ Bs then K b o else G'.K b o) = some v := h
    split at h
    · exact hle2 b o v h
    · exact h
  have hmine : ∀ n x b, G'.h n = some x → x.blk = some b → ¬ b ∈ Bs := fun n x b e1 e2 hb => by
    have hom := M.home n
    have h1 := hB b hb
    cases hm : look (exitMem r) n with
    | none => rw [hm, e1] at hom; exact hom.elim
    | some c =>
      rw [hm, e1] at hom
      rcases hom.mine e2 with h | h
      · exact absurd h (Nat.not_le.2 h1)
      · exact hext b h
  -- every value that comes back
  have hrow : ∀ (n z : Nat) (rows : List (List PC)) (u : Value), scRows rows = true → look (exitMem r) n = some (.row z rows.length) → AR G' (.own n z rows) u → AR ⟨K2, G'.h⟩ (.own n z rows) u := by
    intro n z rows u hs hm h
    cases h with
    | own _ _ _ _ bk fr hh hl hr hv ha =>
    have hom := M.home n
    rw [hm, hh] at hom
    obtain ⟨_, hfr, _⟩ := hom
    have hu := ha hfr
    refine .own n z rows u bk fr hh hl hr ?_ ha
    rcases hv.slice_inv with ⟨rfl, A, cap, rfl, hA⟩ | ⟨z', b, off, cap, hu2, hc, hsl⟩
    · cases A with
      | none => rw [hA rfl]; exact .nil
      | some a => exact .at0 a cap
    · by_cases hrn : rows = []
      · subst hrn
        rw [hu2]
        exact .at0 _ _
      have hbk : bk.map (·.1) = some b := by
        rw [hu2] at hu
        cases bk with
        | none => cases hu
        | some p => obtain ⟨b', cap'⟩ := p; simp only [homeVal, Value.slice.injEq, Option.some.injEq, Addr.mk.injEq] at hu; rw [Option.map_some, hu.1.1]
      have hnb := hmine n _ b hh hbk
      rw [hu2]
      refine VR.of_slice ⟨hsl.1, fun j r hj i c hi => ?_⟩ hc
      obtain ⟨v', v1, v2⟩ := hsl.2 j r hj i c hi
      exact ⟨v', (hge _ _ hnb).trans v1, scPC_vr (scRows_mem hs r (List.mem_of_getElem? hj) c (List.mem_of_getElem? hi)) v2⟩
  have hrows : ∀ (l : List RV) (i k : Nat) (x : AV) (u : Value), scRes l = true → (∀ n c, look (resAt outName outCell [] i l).2 n = some c → look (exitMem r) n = some c) → (keys (resAt outName outCell [] i l).2).Nodup → (resAt outName outCell [] i l).1[k]? = some x → AR G' x u → AR ⟨K2, G'.h⟩ x u := by
    intro l
    induction l with
    | nil => intro i k x u _ _ _ h; simp [resAt] at h
    | cons y l ih =>
      intro i k x u hs hm nd h hx
      cases y with
      | pv y =>
        simp only [scRes, Bool.and_eq_true] at hs
        cases k with
        | zero => simp [resAt] at h; subst h; exact scAV_ar hs.1 hx
        | succ k => exact ih (i + 1) k x u hs.2 hm nd (by simpa [resAt] using h) hx
      | fresh z rows =>
        simp only [scRes, Bool.and_eq_true] at hs
        simp only [resAt, keys, List.map_cons, List.nodup_cons] at nd
        cases k with
        | zero =>
          simp [resAt] at h; subst h
          refine hrow _ _ _ _ hs.1 (hm _ _ ?_) hx
          simp [resAt, look]
        | succ k =>
          refine ih (i + 1) k x u hs.2 (fun n c hc => hm n c ?_) nd.2 (by simpa [resAt] using h) hx
          simp only [resAt, look]
          rw [if_neg (fun e => nd.1 (by subst e; exact List.mem_map_of_mem (f := (·.1)) (look_mem hc)))]
          exact hc
      | newobj => cases hs
      | ref => cases hs
  refine ⟨⟨K2, G'.h⟩, v, rfl, ⟨hK2, fun n h e => by cases e⟩, ⟨fun b o v h => M.agree b o v (hK3 b o v h), fun n => ?_, M.inj, M.os, M.tape, M.output, M.size0, M.sizeB, M.blk, hK2, fun b o hb he => ?_⟩, ?_⟩
  · have hom := M.home n
    cases hm : look (exitMem r) n with
    | none =>
      rw [hm] at hom
      have h0 := hom.none_of
      show HomeOK _ _ _ none (G'.h n)
      rw [h0]
      trivial
    | some c =>
      rw [hm] at hom
      obtain ⟨z, fr, rfl⟩ := scRes_row r.res 0 hsc n c (by rw [hex] at hm; exact hm)
      show HomeOK _ _ _ (some (.row z fr)) (G'.h n)
      cases hg : G'.h n with
      | none => rw [hg] at hom; exact hom.elim
      | some x =>
        rw [hg] at hom
        cases x with
        | obj => exact hom.elim
        | row z' bk fr' =>
          obtain ⟨e1, e2, hr⟩ := hom
          refine ⟨e1, e2, ?_⟩
          cases bk with
          | none => exact hr
          | some p =>
            obtain ⟨b, cap⟩ := p
            obtain ⟨vs, ty, a1, a2, a3, a4, a5, a6⟩ := hr
            exact ⟨vs, ty, a1, a2, a3, a4, a5, fun o ho => (hge b o (hmine n _ b hg rfl)).trans (a6 o ho)⟩
  · show (if b ∈ Bs then K b o else G'.K b o) = K b o
    split
    · rfl
    · rename_i hnb
      have h1 : G'.K b o = lentK K w Bs b o := M.kfr b o hb he
      rw [h1]
      unfold lentK
      rw [if_neg hnb]
  · have hall : ∀ (k : Nat) (x : AV) (u : Value), (exitVals r)[k]? = some x → AR G' x u → AR ⟨K2, G'.h⟩ x u := fun k x u h hx => by
      refine hrows r.res 0 k x u hsc (fun n c h => by rw [hex]; exact h) (by rw [← hex]; exact hnd) ?_ hx
      rw [← hin]
      exact h
    generalize exitVals r = ys at hv hall
    match ys, hv, hall with
    | [x], hv, hall => exact hall 0 x v rfl hv
    | [], hv, hall =>
      cases hv with
      | tup _ us hl hc => exact .tup _ us hl fun i x u e1 e2 => hall i x u e1 (hc i x u e1 e2)
    | _ :: _ :: _, hv, hall =>
      cases hv with
      | tup _ us hl hc => exact .tup _ us hl fun i x u e1 e2 => hall i x u e1 (hc i x u e1 e2)

theorem sound_callB {Γ : FuncId → Contract} (hΓ : SoundG P Γ) (R : Rel E G s a w) {d : Nat} {f : FuncId} {xs : List AV} {us : List Value} (hl : xs.length = us.length) (hx : ∀ (i : Nat) (x : AV) (u : Value), xs[i]? = some x → us[i]? = some u → AR G x u)
    (hexec : EnterOK P f → (execOp a.eval o).run P w = .ok (.enter f us.toArray) w)
    {e : Eff} {l : List Nat} (h : (callB Γ d f xs).run s.mem = some (e, l)) (K : Post E G s o e a next) : o.wp P a w next Q := by
  unfold callB at h
  obtain ⟨as, l1, l2, h1, h2, _⟩ := EP.bind_inv h
  split at h2
  · exact EP.fail_inv h2
  · rename_i r hr
    split at h2
    · rename_i hc
      obtain ⟨c1, c2, c3, c4⟩ := hc
      obtain ⟨⟨⟩, l3, l4, h3, h4, _⟩ := EP.bind_inv h2
      obtain ⟨rfl, _⟩ := EP.ret_inv h4
      obtain ⟨as', hr', hasl, hden⟩ := look2_inv hr
      obtain ⟨enter, hcon⟩ := hΓ f as' [] r hr'
      obtain ⟨hpure, hcon⟩ := hcon as' [] r hr'
      obtain ⟨k1, Bs, k2, k3⟩ := lendE_inv R.mem xs as l1 h1 us hl hx
      have hb0 : backObjs [] r.objs = [] := by rw [c1]; rfl
      refine call_core R (hexec enter) (ns := []) (os := []) (nm := []) (l1 := []) (l3 := l3) (r := r) (d := d) rfl (by rw [c1]) (by simp [entryMem, keys]) c3 (by rw [hb0]; simpa using c4) h3 hpure ?_ (by rw [hb0]; simpa using K)
      intro ρ1 hsrc M1
      have hh : (ρ1.gh G).h = fun _ => none := by
        funext n
        exact (M1.home n).none_of
      have hg : ρ1.gh G = ⟨G.K, fun _ => none⟩ := by
        show (⟨G.K, (ρ1.gh G).h⟩ : Gh) = _
        rw [hh]
      rw [hg] at M1 ⊢
      have hx0 : ∀ b, ¬ (∃ n h, (⟨G.K, fun _ => none⟩ : Gh).h n = some h ∧ h.blk = some b) := by rintro b ⟨n, h, e, _⟩; cases e
      have M2 : MRel (cEnv w (fun b => ∃ n h, (⟨G.K, fun _ => none⟩ : Gh).h n = some h ∧ h.blk = some b) (lentK G.K w Bs)) ⟨lentK G.K w Bs, fun _ => none⟩ (look (entryMem 0 [])) w := by
        refine ⟨fun b o v h => ?_, fun n => trivial, fun n n' h h' b e => (by cases e), rfl, rfl, rfl, Nat.le_refl _, Nat.le_refl _, fun _ _ _ => rfl, Know.le_refl _, fun _ _ _ _ => rfl⟩
        have h : lentK G.K w Bs b o = some v := h
        unfold lentK at h
        split at h
        · exact h
        · exact R.mem.agree b o v h
      refine Calls.mono (hcon _ ⟨lentK G.K w Bs, fun _ => none⟩ w us M2 (by omega) (fun i y v e1 e2 => hden _ i y v e1 fun y0 e0 => k3 i y0 v e0 e2)) fun e w' hp => unlend k2 c1 c2 c3 hx0 R.mem.agree hp
    · exact EP.fail_inv h2

theorem sound_call {Γ : FuncId → Contract} (hΓ : SoundG P Γ) (R : Rel E G s a w) {d : Nat} {f : FuncId} {xs : List AV} {us : List Value} (hl : xs.length = us.length) (hx : ∀ (i : Nat) (x : AV) (u : Value), xs[i]? = some x → us[i]? = some u → AR G x u)
    (hexec : EnterOK P f → (execOp a.eval o).run P w = .ok (.enter f us.toArray) w)
    {e : Eff} {l : List Nat} (h : (callE Γ d f xs).run s.mem = some (e, l)) (K : Post E G s o e a next) : o.wp P a w next Q := by
  unfold callE at h
  split at h
  · unfold callA at h
    split at h
    · exact sound_callB hΓ R hl hx hexec h K
    · rename_i as ns hargs
      obtain ⟨⟨os, nm⟩, l1, l2, h1, h2, _⟩ := EP.bind_inv h
      split at h2
      · exact sound_callB hΓ R hl hx hexec h2 K
      · rename_i r hr
        split at h2
        · rename_i hc
          obtain ⟨c1, c2, c3, c4⟩ := hc
          obtain ⟨⟨⟩, l3, l4, h3, h4, _⟩ := EP.bind_inv h2
          obtain ⟨rfl, _⟩ := EP.ret_inv h4
          obtain ⟨as', hr', hasl, hden⟩ := look2_inv hr
          obtain ⟨enter, hcon⟩ := hΓ f as' os r hr'
          obtain ⟨hpure, hcon⟩ := hcon as' os r hr'
          obtain ⟨g1, g2⟩ := argsA_inv (G := G) xs 0 as ns hargs
          refine call_core R (hexec enter) h1 c1 c2 c3 c4 h3 hpure ?_ K
          intro ρ1 hsrc M1
          refine hcon _ (ρ1.gh G) w us M1 (by omega) fun i y v e1 e2 => ?_
          have hi : i < xs.length := by have := (List.getElem?_eq_some_iff.1 e1).1; omega
          have hxi : xs[i]? = some xs[i] := by simp [hi]
          exact hden _ i y v e1 fun y e1 => g2 (ρ1.gh G) rfl (objs_home R h1 hsrc) i _ y v hxi e1 (hx i _ v hxi e2)
        · exact EP.fail_inv h2
  · rename_i as ns hargs
    obtain ⟨⟨os, nm⟩, l1, l2, h1, h2, _⟩ := EP.bind_inv h
    split at h2
    · exact sound_callB hΓ R hl hx hexec h2 K
    · rename_i r hr
      split at h2
      · rename_i hc
        obtain ⟨c1, c2, c3, c4⟩ := hc
        obtain ⟨⟨⟩, l3, l4, h3, h4, _⟩ := EP.bind_inv h2
        obtain ⟨rfl, _⟩ := EP.ret_inv h4
        obtain ⟨as', hr', hasl, hden⟩ := look2_inv hr
        obtain ⟨enter, hcon⟩ := hΓ f as' os r hr'
        obtain ⟨hpure, hcon⟩ := hcon as' os r hr'
        obtain ⟨g1, g2⟩ := argsE_inv (G := G) xs 0 as ns hargs
        refine call_core R (hexec enter) h1 c1 c2 c3 c4 h3 hpure ?_ K
        intro ρ1 hsrc M1
        refine hcon _ (ρ1.gh G) w us M1 (by omega) fun i y v e1 e2 => ?_
        have hi : i < xs.length := by have := (List.getElem?_eq_some_iff.1 e1).1; omega
        have hxi : xs[i]? = some xs[i] := by simp [hi]
        exact hden _ i y v e1 fun y e1 => g2 (ρ1.gh G) rfl (objs_home R h1 hsrc) i _ y v hxi e1 (hx i _ v hxi e2)
      · exact EP.fail_inv h2

end
end Go.Proofs.Ytldehcnaepgamaa.AM
