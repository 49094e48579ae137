/-
  THE ABSTRACT MACHINE, part 8: contracts, and the call of a function that has one.
-/
import Derived.Test.YtjdokoldiemobaaAm7
set_option linter.unusedVariables false
set_option linter.unusedSimpArgs false
namespace Go.Proofs.Ytjdokoldiemobaa.AM
open Go

inductive Al (R : Nat × MC → Nat × MC → Prop) : List (Nat × MC) → List (Nat × MC) → Prop
  | nil : Al R [] []
  | cons (x y : Nat × MC) (l l' : List (Nat × MC)) (h : R x y) (t : Al R l l') : Al R (x :: l) (y :: l')

theorem Al.append {R : Nat × MC → Nat × MC → Prop} {a b c d : List (Nat × MC)} (h : Al R a b) (h' : Al R c d) : Al R (a ++ c) (b ++ d) := by
  induction h with
  | nil => exact h'
  | cons x y l l' h t ih => exact .cons x y _ _ h ih
theorem Al.length {R : Nat × MC → Nat × MC → Prop} {a b : List (Nat × MC)} (h : Al R a b) : a.length = b.length := by
  induction h with
  | nil => rfl
  | cons x y l l' h t ih => simp [ih]
theorem Al.mono {R R' : Nat × MC → Nat × MC → Prop} {a b : List (Nat × MC)} (h : Al R a b) (hr : ∀ x y, R x y → R' x y) : Al R' a b := by
  induction h with
  | nil => exact .nil
  | cons x y l l' h t ih => exact .cons x y _ _ (hr _ _ h) ih

theorem look_mem {α : Type} {l : List (Nat × α)} {n : Nat} {c : α} (h : look l n = some c) : (n, c) ∈ l := by
  induction l with
  | nil => cases h
  | cons x l ih =>
    obtain ⟨j, y⟩ := x
    simp only [look] at h
    split at h
    · rename_i e; subst e; cases h; simp
    · exact List.mem_cons_of_mem _ (ih h)
theorem look_none {α : Type} {l : List (Nat × α)} {n : Nat} (h : n ∉ l.map (·.1)) : look l n = none := by
  induction l with
  | nil => rfl
  | cons x l ih =>
    obtain ⟨j, y⟩ := x
    simp only [List.map_cons, List.mem_cons, not_or] at h
    simp only [look]
    rw [if_neg (fun e => h.1 e.symm)]
    exact ih h.2
theorem look_some {α : Type} {l : List (Nat × α)} {n : Nat} (h : n ∈ l.map (·.1)) : ∃ c, look l n = some c := by
  induction l with
  | nil => simp at h
  | cons x l ih =>
    obtain ⟨j, y⟩ := x
    simp only [look]
    by_cases e : j = n
    · exact ⟨y, by rw [if_pos e]⟩
    · rw [if_neg e]
      refine ih ?_
      simp only [List.map_cons, List.mem_cons] at h
      rcases h with h | h
      · exact absurd h.symm e
      · exact h

def pairs (l1 l2 : List (Nat × MC)) : List (Nat × Nat) := (keys l2).zip (keys l1)

theorem Al.look {R : Nat × MC → Nat × MC → Prop} {l1 l2 : List (Nat × MC)} (h : Al R l1 l2) : (keys l1).Nodup → ∀ n q, AM.look (pairs l1 l2) n = some q →
    ∃ c1 c2, AM.look l1 q = some c1 ∧ AM.look l2 n = some c2 ∧ R (q, c1) (n, c2) := by
  induction h with
  | nil => intro _ n q h; simp [pairs, keys, AM.look] at h
  | cons x y l l' h t ih =>
    intro nd n q hq
    obtain ⟨q0, c1⟩ := x
    obtain ⟨n0, c2⟩ := y
    simp only [keys, List.map_cons, List.nodup_cons] at nd
    simp only [pairs, keys, List.map_cons, List.zip_cons_cons, AM.look] at hq
    split at hq
    · rename_i e
      cases hq
      subst e
      exact ⟨c1, c2, by simp [AM.look], by simp [AM.look], h⟩
    · rename_i e
      obtain ⟨d1, d2, e1, e2, e3⟩ := ih nd.2 n q hq
      have hne : q0 ≠ q := fun e' => by
        subst e'
        exact nd.1 (List.mem_map_of_mem (look_mem e1))
      exact ⟨d1, d2, by simp only [AM.look]; rw [if_neg hne]; exact e1, by simp only [AM.look]; rw [if_neg e]; exact e2, e3⟩

theorem pairs_inj {l1 l2 : List (Nat × MC)} (hl : l1.length = l2.length) (nd : (keys l1).Nodup) : ∀ n n' q, look (pairs l1 l2) n = some q → look (pairs l1 l2) n' = some q → n = n' := by
  induction l1 generalizing l2 with
  | nil => intro n n' q h; simp [pairs, keys, look] at h
  | cons x l1 ih =>
    cases l2 with
    | nil => simp at hl
    | cons y l2 =>
      intro n n' q h h'
      obtain ⟨q0, c1⟩ := x
      obtain ⟨n0, c2⟩ := y
      simp only [keys, List.map_cons, List.nodup_cons] at nd
      have key : ∀ n, look (pairs l1 l2) n = some q → q ∈ keys l1 := fun n h => by
        have := look_mem h
        exact (List.of_mem_zip this).2
      simp only [pairs, keys, List.map_cons, List.zip_cons_cons, look] at h h'
      split at h
      · rename_i e
        cases h
        split at h'
        · rename_i e'; exact e.symm.trans e'
        · exact absurd (key n' h') nd.1
      · split at h'
        · cases h'; exact absurd (key n h) nd.1
        · exact ih (by simpa using hl) nd.2 n n' q h h'

def pren (l1 l2 : List (Nat × MC)) : Ren := ⟨look (pairs l1 l2), fun _ => none⟩

theorem pairs_none {l1 l2 : List (Nat × MC)} (hl : l1.length = l2.length) {n : Nat} (h : look (pairs l1 l2) n = none) : look l2 n = none := by
  cases hc : look l2 n with
  | none => rfl
  | some c =>
    exfalso
    have hm : n ∈ (pairs l1 l2).map (·.1) := by
      have : (pairs l1 l2).map (·.1) = keys l2 := by
        unfold pairs
        rw [List.map_fst_zip]
        simp [keys, hl]
      rw [this]
      exact List.mem_map_of_mem (look_mem hc)
    obtain ⟨q, hq⟩ := look_some hm
    rw [h] at hq; cases hq

/-- Two lists of names and contents, one as the other but for the names. -/
theorem RenOK.of {m : Nat → Option MC} {l1 l2 : List (Nat × MC)} (h : Al (fun x y => CM (pren l1 l2) (some x.2) (some y.2)) l1 l2) (nd : (keys l1).Nodup) (hm : ∀ q c, look l1 q = some c → m q = some c) : RenOK (pren l1 l2) m (look l2) where
  inj := pairs_inj h.length nd
  src n q hs := by
    obtain ⟨c1, c2, e1, e2, e3⟩ := h.look nd n q hs
    rw [hm q c1 e1, e2]; exact e3
  ph n z _ hp := by cases hp
  none n hs _ := pairs_none h.length hs

/-! namings of objects -/
def nOwn : List OV → Nat
  | [] => 0
  | .c _ :: o => nOwn o
  | .own _ _ :: o => nOwn o + 1
def rowNames (nm : Nat → Nat) : Nat → List OV → List Nat
  | _, [] => []
  | j, .c _ :: o => rowNames nm (j + 1) o
  | j, .own _ _ :: o => nm j :: rowNames nm (j + 1) o
theorem rowNames_length (nm : Nat → Nat) : ∀ (j : Nat) (o : List OV), (rowNames nm j o).length = nOwn o
  | _, [] => rfl
  | j, .c _ :: o => rowNames_length nm (j + 1) o
  | j, .own _ _ :: o => by simp [rowNames, nOwn, rowNames_length nm (j + 1) o]
theorem cellsAt_back (nm : Nat → Nat) : ∀ (j : Nat) (o : List OV), cellsAt nm j o = backCells o (rowNames nm j o)
  | _, [] => rfl
  | j, .c _ :: o => by simp only [cellsAt, rowNames, backCells, cellsAt_back nm (j + 1) o]
  | j, .own _ _ :: o => by simp only [cellsAt, rowNames, backCells, cellsAt_back nm (j + 1) o]
def entryNames : Nat → List (List OV) → List (Nat × List Nat)
  | _, [] => []
  | i, o :: os => (inObj i, rowNames (inRow i) 0 o) :: entryNames (i + 1) os
theorem entry_back : ∀ (i : Nat) (os : List (List OV)), entryMem i os = backObjs (entryNames i os) os
  | _, [] => rfl
  | i, o :: os => by simp only [entryMem, entryNames, backObjs, cellsAt_back, entry_back (i + 1) os]

/-- Names that fit objects. -/
def Fit : List (Nat × List Nat) → List (List OV) → Prop
  | [], [] => True
  | (_, rs) :: ns, o :: os => rs.length = nOwn o ∧ Fit ns os
  | _, _ => False
theorem Fit.entry : ∀ (i : Nat) (os : List (List OV)), Fit (entryNames i os) os
  | _, [] => trivial
  | i, o :: os => ⟨rowNames_length _ _ _, Fit.entry (i + 1) os⟩
theorem nOwn_shape : ∀ {o o' : List OV}, shapeOf o = shapeOf o' → nOwn o = nOwn o'
  | [], [], _ => rfl
  | [], .c _ :: _, h => by simp [shapeOf] at h
  | [], .own _ _ :: _, h => by simp [shapeOf] at h
  | .c _ :: _, [], h => by simp [shapeOf] at h
  | .own _ _ :: _, [], h => by simp [shapeOf] at h
  | .c _ :: o, .c _ :: o', h => by
    have h' : shapeOf o = shapeOf o' := by simpa [shapeOf] using h
    simp only [nOwn]; exact nOwn_shape h'
  | .own _ _ :: o, .own _ _ :: o', h => by simp only [shapeOf, List.cons.injEq] at h; simp only [nOwn]; rw [nOwn_shape h.2]
  | .c _ :: o, .own _ _ :: o', h => by simp [shapeOf] at h
  | .own _ _ :: o, .c _ :: o', h => by simp [shapeOf] at h
theorem Fit.shape : ∀ {ns : List (Nat × List Nat)} {os os' : List (List OV)}, Fit ns os → os'.map shapeOf = os.map shapeOf → Fit ns os'
  | [], [], [], _, _ => trivial
  | [], [], _ :: _, _, h => by simp at h
  | [], _ :: _, _, h, _ => h.elim
  | _ :: _, [], _, h, _ => h.elim
  | (_, rs) :: ns, o :: os, [], _, h => by simp at h
  | (_, rs) :: ns, o :: os, o' :: os', ⟨h1, h2⟩, h => by
    simp only [List.map_cons, List.cons.injEq] at h
    exact ⟨h1.trans (nOwn_shape h.1).symm, Fit.shape h2 h.2⟩

theorem back_length : ∀ (o : List OV) (rs : List Nat), (backCells o rs).1.length = o.length
  | [], _ => rfl
  | .c _ :: o, rs => by simp [backCells, back_length o rs]
  | .own _ _ :: o, r :: rs => by simp [backCells, back_length o rs]
  | .own _ _ :: o, [] => by simp [backCells, back_length o []]

theorem back_keys : ∀ (o : List OV) (rs : List Nat), rs.length = nOwn o → keys (backCells o rs).2 = rs
  | [], rs, h => by cases rs with | nil => rfl | cons => simp [nOwn] at h
  | .c _ :: o, rs, h => back_keys o rs h
  | .own _ _ :: o, r :: rs, h => by simp only [backCells, keys, List.map_cons, List.cons.injEq, true_and]; exact back_keys o rs (by simpa [nOwn] using h)
  | .own _ _ :: o, [], h => by simp [nOwn] at h

/-- One object's cells under two namings. -/
theorem back_am {ρ : Ren} : ∀ (o : List OV) (rs ns : List Nat), rs.length = nOwn o → ns.length = nOwn o → (∀ p ∈ ns.zip rs, ρ.src p.1 = some p.2) →
    (∀ (i : Nat) (x y : AV), (backCells o rs).1[i]? = some x → (backCells o ns).1[i]? = some y → AM ρ x y) ∧ Al (fun x y => CM ρ (some x.2) (some y.2)) (backCells o rs).2 (backCells o ns).2
  | [], rs, ns, _, _, _ => ⟨fun i x y h => by simp [backCells] at h, .nil⟩
  | .c c :: o, rs, ns, h1, h2, H => by
    obtain ⟨a1, a2⟩ := back_am o rs ns h1 h2 H
    refine ⟨fun i x y e1 e2 => ?_, a2⟩
    cases i with
    | zero => simp [backCells] at e1 e2; subst e1; subst e2; exact .c c
    | succ i => exact a1 i x y (by simpa [backCells] using e1) (by simpa [backCells] using e2)
  | .own z rows :: o, [], _, h1, _, _ => by simp [nOwn] at h1
  | .own z rows :: o, _ :: _, [], _, h2, _ => by simp [nOwn] at h2
  | .own z rows :: o, r :: rs, n :: ns, h1, h2, H => by
    obtain ⟨a1, a2⟩ := back_am o rs ns (by simpa [nOwn] using h1) (by simpa [nOwn] using h2) (fun p hp => H p (by simp [hp]))
    refine ⟨fun i x y e1 e2 => ?_, .cons _ _ _ _ ⟨rfl, rfl⟩ a2⟩
    cases i with
    | zero => simp [backCells] at e1 e2; subst e1; subst e2; exact .own r n z rows (H (n, r) (by simp))
    | succ i => exact a1 i x y (by simpa [backCells] using e1) (by simpa [backCells] using e2)

def allNames : List (Nat × List Nat) → List Nat
  | [] => []
  | (n, rs) :: ns => n :: (rs ++ allNames ns)
theorem objs_keys : ∀ (ns : List (Nat × List Nat)) (os : List (List OV)), Fit ns os → keys (backObjs ns os) = allNames ns
  | [], [], _ => rfl
  | [], _ :: _, h => h.elim
  | _ :: _, [], h => h.elim
  | (n, rs) :: ns, o :: os, ⟨h1, h2⟩ => by
    have e1 := back_keys o rs h1
    have e2 := objs_keys ns os h2
    simp only [keys] at e1 e2
    simp only [backObjs, allNames, keys, List.map_cons, List.map_append, e1, e2]
theorem allNames_length : ∀ (ns ns' : List (Nat × List Nat)) (os : List (List OV)), Fit ns os → Fit ns' os → (allNames ns).length = (allNames ns').length
  | [], [], [], _, _ => rfl
  | (n, rs) :: ns, (n', rs') :: ns', o :: os, ⟨h1, h2⟩, ⟨h3, h4⟩ => by
    simp [allNames, allNames_length ns ns' os h2 h4, h1, h3]
  | [], _ :: _, [], _, h => h.elim
  | _ :: _, [], [], h, _ => h.elim
  | _ :: _, _ :: _, [], h, _ => h.elim
  | [], _, _ :: _, h, _ => h.elim
  | _ :: _, [], _ :: _, _, h => h.elim

theorem objs_am {ρ : Ren} : ∀ (ns ns' : List (Nat × List Nat)) (os : List (List OV)), Fit ns os → Fit ns' os → (∀ p ∈ (allNames ns').zip (allNames ns), ρ.src p.1 = some p.2) →
    Al (fun x y => CM ρ (some x.2) (some y.2)) (backObjs ns os) (backObjs ns' os)
  | [], [], [], _, _, _ => .nil
  | (n, rs) :: ns, (n', rs') :: ns', o :: os, ⟨h1, h2⟩, ⟨h3, h4⟩, H => by
    have hz : (allNames ((n', rs') :: ns')).zip (allNames ((n, rs) :: ns)) = (n', n) :: (rs'.zip rs ++ (allNames ns').zip (allNames ns)) := by
      simp only [allNames, List.zip_cons_cons]
      rw [List.zip_append (by omega)]
    rw [hz] at H
    obtain ⟨a1, a2⟩ := back_am (ρ := ρ) o rs rs' h1 h3 (fun p hp => H p (by simp [hp]))
    refine .cons _ _ _ _ ⟨rfl, by rw [back_length, back_length], a1⟩ (a2.append (objs_am ns ns' os h2 h4 fun p hp => H p (by simp [hp])))
  | [], _ :: _, [], _, h, _ => h.elim
  | _ :: _, [], [], h, _, _ => h.elim
  | _ :: _, _ :: _, [], h, _, _ => h.elim
  | [], _, _ :: _, h, _, _ => h.elim
  | _ :: _, [], _ :: _, _, h, _ => h.elim


/-! what a call hands back, under two namings -/
theorem res_am {ρ : Ren} {nr nr' : Nat → Nat} {nc nc' : Nat → Nat → Nat} : ∀ (l : List RV) (i : Nat), (∀ r ∈ l, ∀ x, r = .pv x → AM ρ x x) → (∀ p ∈ (keys (resAt nr' nc' i l).2).zip (keys (resAt nr nc i l).2), ρ.src p.1 = some p.2) →
    (resAt nr nc i l).1.length = (resAt nr' nc' i l).1.length ∧ (∀ (k : Nat) (x y : AV), (resAt nr nc i l).1[k]? = some x → (resAt nr' nc' i l).1[k]? = some y → AM ρ x y) ∧
      Al (fun x y => CM ρ (some x.2) (some y.2)) (resAt nr nc i l).2 (resAt nr' nc' i l).2
  | [], i, _, _ => ⟨rfl, fun k x y h => by simp [resAt] at h, .nil⟩
  | .pv x :: l, i, hp, H => by
    obtain ⟨a0, a1, a2⟩ := res_am (nr := nr) (nr' := nr') (nc := nc) (nc' := nc') l (i + 1) (fun r hr => hp r (by simp [hr])) H
    refine ⟨by simp [resAt, a0], fun k y z e1 e2 => ?_, a2⟩
    cases k with
    | zero => simp [resAt] at e1 e2; subst e1; subst e2; exact hp _ (by simp) x rfl
    | succ k => exact a1 k y z (by simpa [resAt] using e1) (by simpa [resAt] using e2)
  | .fresh z rows :: l, i, hp, H => by
    simp only [resAt, keys, List.map_cons, List.zip_cons_cons, List.mem_cons] at H
    obtain ⟨a0, a1, a2⟩ := res_am (nr := nr) (nr' := nr') (nc := nc) (nc' := nc') l (i + 1) (fun r hr => hp r (by simp [hr])) (fun p hp => H p (.inr hp))
    refine ⟨by simp [resAt, a0], fun k y w e1 e2 => ?_, .cons _ _ _ _ ⟨rfl, rfl⟩ a2⟩
    cases k with
    | zero => simp [resAt] at e1 e2; subst e1; subst e2; exact .own _ _ z rows (H _ (.inl rfl))
    | succ k => exact a1 k y w (by simpa [resAt] using e1) (by simpa [resAt] using e2)
  | .newobj o :: l, i, hp, H => by
    have k1 : keys (cellsAt (nc i) 0 o).2 = rowNames (nc i) 0 o := by rw [cellsAt_back]; exact back_keys _ _ (rowNames_length _ _ _)
    have k2 : keys (cellsAt (nc' i) 0 o).2 = rowNames (nc' i) 0 o := by rw [cellsAt_back]; exact back_keys _ _ (rowNames_length _ _ _)
    have hz : (keys (resAt nr' nc' i (.newobj o :: l)).2).zip (keys (resAt nr nc i (.newobj o :: l)).2) = (nr' i, nr i) :: ((rowNames (nc' i) 0 o).zip (rowNames (nc i) 0 o) ++ (keys (resAt nr' nc' (i + 1) l).2).zip (keys (resAt nr nc (i + 1) l).2)) := by
      rw [← k1, ← k2]
      simp only [resAt, keys, List.map_cons, List.map_append, List.zip_cons_cons]
      rw [List.zip_append]
      have e1 := k1; have e2 := k2
      simp only [keys] at e1 e2
      rw [e1, e2, rowNames_length, rowNames_length]
    rw [hz] at H
    obtain ⟨a0, a1, a2⟩ := res_am (nr := nr) (nr' := nr') (nc := nc) (nc' := nc') l (i + 1) (fun r hr => hp r (by simp [hr])) (fun p hp => H p (by simp [hp]))
    obtain ⟨b1, b2⟩ := back_am (ρ := ρ) o (rowNames (nc i) 0 o) (rowNames (nc' i) 0 o) (rowNames_length _ _ _) (rowNames_length _ _ _) (fun p hp => H p (by simp [hp]))
    refine ⟨by simp [resAt, a0], fun k y w e1 e2 => ?_, ?_⟩
    · cases k with
      | zero => simp [resAt] at e1 e2; subst e1; subst e2; exact .ptr _ _ 0 (H (nr' i, nr i) (by simp))
      | succ k => exact a1 k y w (by simpa [resAt] using e1) (by simpa [resAt] using e2)
    · simp only [resAt]
      refine .cons _ _ _ _ ⟨rfl, ?_, ?_⟩ (Al.append ?_ a2)
      · rw [cellsAt_back, cellsAt_back, back_length, back_length]
      · rw [cellsAt_back, cellsAt_back]; exact b1
      · rw [cellsAt_back, cellsAt_back]; exact b2

/-- What a call hands back by value is pure: it names nothing. -/
inductive Pure : AV → Prop
  | c (x : PC) : Pure (.c x)
  | agg (cs : List AV) (h : ∀ x ∈ cs, Pure x) : Pure (.agg cs)
  | nilptr : Pure .nilptr
  | nilsl : Pure .nilsl
  | rptr (cs : List PC) : Pure (.rptr cs)
  | clo (f : FuncId) (caps : List (List PC)) : Pure (.clo f caps)
  | ubool : Pure .ubool

theorem Pure.am {x : AV} (h : Pure x) (ρ : Ren) : AM ρ x x := by
  induction h with
  | c x => exact .c x
  | agg cs h ih =>
    refine .agg cs cs rfl fun i x y e1 e2 => ?_
    rw [e1] at e2; cases e2
    exact ih x (List.mem_of_getElem? e1)
  | nilptr => exact .nilptr
  | nilsl => exact .nilsl
  | rptr cs => exact .rptr cs
  | clo f caps => exact .clo f caps
  | ubool => exact .ubool

def CRes.pure (r : CRes) : Prop := ∀ x, RV.pv x ∈ r.res → Pure x

theorem AR.pure {E : Env} {G : Gh} {x y : AV} {v : Value} (h : AR G x v) (hp : x.pure? = some y) : AR G y v ∧ Pure y := by
  unfold AV.pure? at hp
  split at hp
  · rename_i cs
    obtain ⟨l, hl, rfl⟩ := Option.map_eq_some_iff.1 hp
    obtain ⟨t1, t2⟩ := toPCs_spec hl
    cases h with
    | agg _ us hl hc =>
    refine ⟨.agg _ _ (by simp; omega) (fun i x u e1 e2 => ?_), .agg _ (fun x hx => ?_)⟩
    · simp only [List.getElem?_map, Option.map_eq_some_iff] at e1
      obtain ⟨c, e1, rfl⟩ := e1
      have hi : i < cs.length := by have := (List.getElem?_eq_some_iff.1 e1).1; omega
      have hx : cs[i]? = some cs[i] := by simp [hi]
      exact .c _ _ ((hc i _ u hx e2).toPC (t2 i _ c hx e1))
    · simp only [List.mem_map] at hx
      obtain ⟨c, _, rfl⟩ := hx
      exact .c c
  · cases hp; exact ⟨h, .rptr _⟩
  · cases hp; exact ⟨h, .clo _ _⟩
  · cases hp; exact ⟨h, .nilptr⟩
  · cases hp; exact ⟨h, .nilsl⟩
  · obtain ⟨c, hc, rfl⟩ := Option.map_eq_some_iff.1 hp
    exact ⟨.c _ _ (h.toPC hc), .c c⟩

def EnterOK (P : Program) (f : FuncId) : Prop := ∃ fn, P.funcs[f]? = some fn ∧ (fn.name == "runtime.NumGoroutine") = false ∧ fn.body.isSome = true

def CallPost (E : Env) (G : Gh) (r : CRes) : Ending → World → Prop := fun e w' => ∃ (G' : Gh) (v : Value), e = .returned v ∧ G.le G' ∧ MRel E G' (look (exitMem r)) w' ∧ AR G' (oneE (exitVals r)) v

/-- What a function answers. -/
def SoundC (P : Program) (f : FuncId) (C : Contract) : Prop :=
  EnterOK P f ∧ ∀ (args : List AV) (objs : List (List OV)) (r : CRes), C args objs = some r → r.pure ∧
    ∀ (Ext : Nat → Prop) (G : Gh) (w : World) (vals : List Value), MRel (cEnv w Ext G.K) G (look (entryMem 0 objs)) w → args.length = vals.length →
      (∀ (i : Nat) (x : AV) (v : Value), args[i]? = some x → vals[i]? = some v → AR G x v) →
      Calls P f vals.toArray w (CallPost (cEnv w Ext G.K) G r)


section
variable {P : Program} {E : Env} {G : Gh} {s : AS} {a : Act} {w : World} {o : Oper} {next : Act → World → Prop} {Q : Exit → Act → World → Prop}

/-- The caller's own list of what it hands over. -/
def rowsMC : List OV → List Nat → List (Nat × MC)
  | [], _ => []
  | .c _ :: o, rs => rowsMC o rs
  | .own z rows :: o, r :: rs => (r, .row z rows.length) :: rowsMC o rs
  | .own _ _ :: o, [] => rowsMC o []
def origMC : List (List AV) → List (List OV) → List (Nat × List Nat) → List (Nat × MC)
  | cells :: cs, o :: os, (n, rs) :: ns => (n, .obj cells false) :: (rowsMC o rs ++ origMC cs os ns)
  | _, _, _ => []

theorem cellsE_inv {m : Nat → Option MC} (M : MRel E G m w) : ∀ (cells : List AV) (o : List OV) (rs : List Nat) (l : List Nat), (cellsE cells).run m = some ((o, rs), l) → (∀ b vs, AR G b vs → True) →
    cells.length = o.length ∧ rs.length = nOwn o ∧ (∀ q c, (q, c) ∈ rowsMC o rs → m q = some c) ∧ keys (rowsMC o rs) = rs ∧
    ∀ (ρ : Ren) (ns : List Nat), ns.length = nOwn o → (∀ p ∈ ns.zip rs, ρ.src p.1 = some p.2) →
      (∀ (i : Nat) (x y : AV), cells[i]? = some x → (backCells o ns).1[i]? = some y → AM ρ x y) ∧ Al (fun x y => CM ρ (some x.2) (some y.2)) (rowsMC o rs) (backCells o ns).2
  | [], o, rs, l, h, _ => by
    obtain ⟨e, _⟩ := EP.ret_inv h
    cases e
    exact ⟨rfl, rfl, fun q c h => by simp [rowsMC] at h, rfl, fun ρ ns _ _ => ⟨fun i x y h => by simp at h, .nil⟩⟩
  | x :: cells, o, rs, l, h, hT => by
    have pc : ∀ c, x.toPC = some c → (∃ l', ((cellsE cells).bind fun o => .ret (.c c :: o.1, o.2)).run m = some ((o, rs), l')) →
        (x :: cells).length = o.length ∧ rs.length = nOwn o ∧ (∀ q c, (q, c) ∈ rowsMC o rs → m q = some c) ∧ keys (rowsMC o rs) = rs ∧
        ∀ (ρ : Ren) (ns : List Nat), ns.length = nOwn o → (∀ p ∈ ns.zip rs, ρ.src p.1 = some p.2) →
          (∀ (i : Nat) (x' y : AV), (x :: cells)[i]? = some x' → (backCells o ns).1[i]? = some y → AM ρ x' y) ∧ Al (fun x y => CM ρ (some x.2) (some y.2)) (rowsMC o rs) (backCells o ns).2 := by
      rintro c hc ⟨l', h⟩
      obtain ⟨⟨o', rs'⟩, l1, l2, h1, h2, _⟩ := EP.bind_inv h
      obtain ⟨e, _⟩ := EP.ret_inv h2
      cases e
      obtain ⟨b1, b2, b3, b4, b5⟩ := cellsE_inv M cells o' rs' l1 h1 hT
      refine ⟨by simp [b1], b2, b3, b4, fun ρ ns n1 n2 => ?_⟩
      obtain ⟨d1, d2⟩ := b5 ρ ns n1 n2
      refine ⟨fun i x' y e1 e2 => ?_, d2⟩
      cases i with
      | zero =>
        simp [backCells] at e1 e2
        subst e1; subst e2
        cases x <;> simp only [AV.toPC, Option.some.injEq, reduceCtorEq] at hc
        · subst hc; exact .c _
        · subst hc; exact .nilc
        · subst hc; exact .ownc _ _ _
      | succ i => exact d1 i x' y (by simpa using e1) (by simpa [backCells] using e2)
    simp only [cellsE] at h
    split at h
    · rename_i r z rows
      obtain ⟨l', h, _⟩ := EP.ask_inv h
      split at h
      · rename_i z' fr hm
        split at h
        · rename_i hfr
          obtain ⟨hz, hfr⟩ := hfr
          subst hz; subst hfr
          obtain ⟨⟨o', rs'⟩, l1, l2, h1, h2, _⟩ := EP.bind_inv h
          obtain ⟨e, _⟩ := EP.ret_inv h2
          cases e
          obtain ⟨b1, b2, b3, b4, b5⟩ := cellsE_inv M cells o' rs' l1 h1 hT
          refine ⟨by simp [b1], by simp [nOwn, b2], fun q c hq => ?_, ?_, fun ρ ns n1 n2 => ?_⟩
          · simp only [rowsMC, List.mem_cons] at hq
            rcases hq with hq | hq
            · cases hq; exact hm
            · exact b3 q c hq
          · simp only [rowsMC, keys, List.map_cons, List.cons.injEq, true_and]; exact b4
          · cases ns with
            | nil => simp [nOwn] at n1
            | cons n ns =>
              obtain ⟨d1, d2⟩ := b5 ρ ns (by simpa [nOwn] using n1) (fun p hp => n2 p (by simp [hp]))
              refine ⟨fun i x' y e1 e2 => ?_, .cons _ _ _ _ ⟨rfl, rfl⟩ d2⟩
              cases i with
              | zero => simp [backCells] at e1 e2; subst e1; subst e2; exact .own r n _ rows (n2 (n, r) (by simp))
              | succ i => exact d1 i x' y (by simpa using e1) (by simpa [backCells] using e2)
        · exact EP.fail_inv h
      · exact EP.fail_inv h
    · split at h
      · rename_i c hc
        exact pc c hc ⟨_, h⟩
      · exact EP.fail_inv h


theorem objsE_inv {m : Nat → Option MC} (M : MRel E G m w) : ∀ (ns : List Nat) (os : List (List OV)) (nm : List (Nat × List Nat)) (l : List Nat), (objsE ns).run m = some ((os, nm), l) →
    ∃ css : List (List AV), nm.map (·.1) = ns ∧ Fit nm os ∧ (∀ q c, (q, c) ∈ origMC css os nm → m q = some c) ∧ keys (origMC css os nm) = allNames nm ∧
    ∀ (ρ : Ren) (nm' : List (Nat × List Nat)), Fit nm' os → (∀ p ∈ (allNames nm').zip (allNames nm), ρ.src p.1 = some p.2) → Al (fun x y => CM ρ (some x.2) (some y.2)) (origMC css os nm) (backObjs nm' os)
  | [], os, nm, l, h => by
    obtain ⟨e, _⟩ := EP.ret_inv h
    cases e
    refine ⟨[], rfl, trivial, fun q c h => by simp [origMC] at h, rfl, fun ρ nm' hf _ => ?_⟩
    cases nm' with
    | nil => exact .nil
    | cons => exact hf.elim
  | n :: ns, os, nm, l, h => by
    unfold objsE at h
    obtain ⟨l', h, _⟩ := EP.ask_inv h
    split at h
    · rename_i cells hm
      obtain ⟨⟨o, rs⟩, l1, l2, h1, h2, _⟩ := EP.bind_inv h
      obtain ⟨⟨os', nm'⟩, l3, l4, h3, h4, _⟩ := EP.bind_inv h2
      obtain ⟨e, _⟩ := EP.ret_inv h4
      cases e
      obtain ⟨b1, b2, b3, b4, b5⟩ := cellsE_inv M cells o rs l1 h1 (fun _ _ _ => trivial)
      obtain ⟨css, c1, c2, c3, c4, c5⟩ := objsE_inv M ns os' nm' l3 h3
      refine ⟨cells :: css, by simp [c1], ⟨b2, c2⟩, fun q c hq => ?_, ?_, fun ρ nm2 hf H => ?_⟩
      · simp only [origMC, List.mem_cons, List.mem_append] at hq
        rcases hq with hq | hq | hq
        · cases hq; exact hm
        · exact b3 q c hq
        · exact c3 q c hq
      · simp only [keys] at b4 c4
        simp only [origMC, allNames, keys, List.map_cons, List.map_append, b4, c4]
      · cases nm2 with
        | nil => exact hf.elim
        | cons p nm2 =>
          obtain ⟨n2, rs2⟩ := p
          obtain ⟨f1, f2⟩ := hf
          have hz : (allNames ((n2, rs2) :: nm2)).zip (allNames ((n, rs) :: nm')) = (n2, n) :: (rs2.zip rs ++ (allNames nm2).zip (allNames nm')) := by
            simp only [allNames, List.zip_cons_cons]
            rw [List.zip_append (by rw [f1]; exact b2.symm)]
          rw [hz] at H
          obtain ⟨d1, d2⟩ := b5 ρ rs2 f1 (fun p hp => H p (by simp [hp]))
          refine .cons _ _ _ _ ⟨rfl, ?_, d1⟩ (d2.append (c5 ρ nm2 f2 fun p hp => H p (by simp [hp])))
          rw [back_length, b1]
    · exact EP.fail_inv h

theorem argsE_inv : ∀ (xs : List AV) (i : Nat) (as : List AV) (ns : List Nat), argsE xs i = some (as, ns) →
    as.length = xs.length ∧ ∀ (G' : Gh), G'.K = G.K → (∀ k n, ns[k]? = some n → ∃ b, G'.h (inObj (i + k)) = some b ∧ G.h n = some b) →
      ∀ (k : Nat) (x y : AV) (v : Value), xs[k]? = some x → as[k]? = some y → AR G x v → AR G' y v
  | [], i, as, ns, h => by
    simp only [argsE, Option.some.injEq, Prod.mk.injEq] at h
    obtain ⟨rfl, rfl⟩ := h
    exact ⟨rfl, fun _ _ _ k x y v h => by simp at h⟩
  | x :: xs, i, as, ns, h => by
    simp only [argsE] at h
    split at h
    · rename_i n
      split at h
      · rename_i as' ns' h1
        simp only [Option.some.injEq, Prod.mk.injEq] at h
        obtain ⟨rfl, rfl⟩ := h
        obtain ⟨a1, a2⟩ := argsE_inv xs (i + 1) as' ns' h1
        refine ⟨by simp [a1], fun G' hK hh k x y v e1 e2 hx => ?_⟩
        cases k with
        | zero =>
          simp at e1 e2
          subst e1; subst e2
          cases hx with
          | ptr _ _ b hb =>
          obtain ⟨c, g1, g2⟩ := hh 0 n rfl
          rw [hb] at g2
          cases g2
          exact .ptr _ _ b g1
        | succ k => exact a2 G' hK (fun j n hj => by have := hh (j + 1) n (by simpa using hj); rwa [show i + (j + 1) = i + 1 + j from by omega] at this) k x y v (by simpa using e1) (by simpa using e2) hx
      · cases h
    · rename_i n off len ex
      split at h
      · rename_i as' ns' h1
        simp only [Option.some.injEq, Prod.mk.injEq] at h
        obtain ⟨rfl, rfl⟩ := h
        obtain ⟨a1, a2⟩ := argsE_inv xs (i + 1) as' ns' h1
        refine ⟨by simp [a1], fun G' hK hh k x y v e1 e2 hx => ?_⟩
        cases k with
        | zero =>
          simp at e1 e2
          subst e1; subst e2
          cases hx with
          | msl _ _ _ b cap _ hb hc he =>
          obtain ⟨c, g1, g2⟩ := hh 0 n rfl
          rw [hb] at g2
          cases g2
          exact .msl _ _ _ b cap _ g1 hc he
        | succ k => exact a2 G' hK (fun j n hj => by have := hh (j + 1) n (by simpa using hj); rwa [show i + (j + 1) = i + 1 + j from by omega] at this) k x y v (by simpa using e1) (by simpa using e2) hx
      · cases h
    · split at h
      · rename_i y' as' ns' hp h1
        simp only [Option.some.injEq, Prod.mk.injEq] at h
        obtain ⟨rfl, rfl⟩ := h
        obtain ⟨a1, a2⟩ := argsE_inv xs i as' ns' h1
        refine ⟨by simp [a1], fun G' hK hh k x2 y v e1 e2 hx => ?_⟩
        cases k with
        | zero =>
          simp at e1 e2
          subst e1; subst e2
          obtain ⟨g1, g2⟩ := AR.pure (E := cEnv default (fun _ => False) G.K) hx hp
          have := (g2.am ⟨fun _ => none, fun _ => none⟩).rel g1
          exact this.mono ⟨by rw [hK]; exact Know.le_refl _, fun n h e => by simp [Ren.gh] at e⟩
        | succ k => exact a2 G' hK hh k x2 y v (by simpa using e1) (by simpa using e2) hx
      · cases h


theorem freeE_inv {m : Nat → Option MC} : ∀ (ns : List Nat) (l : List Nat), (freeE ns).run m = some ((), l) → ∀ n ∈ ns, m n = none
  | [], l, h, n, hn => by simp at hn
  | n0 :: ns, l, h, n, hn => by
    simp only [freeE] at h
    obtain ⟨l', h, _⟩ := EP.ask_inv h
    split at h
    · rename_i hm
      rcases List.mem_cons.1 hn with rfl | hn
      · exact hm
      · exact freeE_inv ns l' h n hn
    · exact EP.fail_inv h

theorem nodup_look {l : List (Nat × MC)} (nd : (keys l).Nodup) {n : Nat} {c : MC} (h : (n, c) ∈ l) : look l n = some c := by
  induction l with
  | nil => cases h
  | cons x l ih =>
    obtain ⟨j, y⟩ := x
    simp only [keys, List.map_cons, List.nodup_cons] at nd
    simp only [look]
    rcases List.mem_cons.1 h with h | h
    · cases h; rw [if_pos rfl]
    · rw [if_neg (fun e => by subst e; exact nd.1 (List.mem_map_of_mem (f := (·.1)) h))]
      exact ih nd.2 h

theorem zip_look : ∀ {ks qs : List Nat}, ks.Nodup → ∀ p ∈ ks.zip qs, look (ks.zip qs) p.1 = some p.2
  | [], _, _, p, h => by simp at h
  | _ :: _, [], _, p, h => by simp at h
  | k :: ks, q :: qs, nd, p, h => by
    simp only [List.nodup_cons] at nd
    simp only [List.zip_cons_cons, List.mem_cons] at h
    simp only [List.zip_cons_cons, look]
    rcases h with h | h
    · subst h; simp
    · have hk : k ≠ p.1 := fun e => by subst e; exact nd.1 (List.of_mem_zip h).1
      rw [if_neg hk]
      exact zip_look nd.2 p h

def SoundG (P : Program) (Γ : FuncId → Contract) : Prop := ∀ f args objs r, Γ f args objs = some r → SoundC P f (Γ f)

theorem inName (os : List (List OV)) : ∀ (nm : List (Nat × List Nat)) (i k n : Nat), Fit nm os → (nm.map (·.1))[k]? = some n → (inObj (i + k), n) ∈ (allNames (entryNames i os)).zip (allNames nm) := by
  induction os with
  | nil => intro nm i k n hf h; cases nm with | nil => simp at h | cons => exact hf.elim
  | cons o os ih =>
    intro nm i k n hf h
    cases nm with
    | nil => exact hf.elim
    | cons p nm =>
      obtain ⟨n0, rs⟩ := p
      obtain ⟨f1, f2⟩ := hf
      simp only [entryNames, allNames, List.zip_cons_cons]
      rw [List.zip_append (by rw [rowNames_length]; exact f1.symm)]
      cases k with
      | zero => simp at h; subst h; simp
      | succ k =>
        have := ih nm (i + 1) k n f2 (by simpa using h)
        rw [show i + 1 + k = i + (k + 1) from by omega] at this
        simp [this]

theorem look2_inv {C : Contract} {as : List AV} {os : List (List OV)} {r : CRes} (h : look2 C as os = some r) :
    ∃ as', C as' os = some r ∧ as'.length = as.length ∧ ∀ (G' : Gh) (k : Nat) (y : AV) (v : Value), as'[k]? = some y → (∀ y0, as[k]? = some y0 → AR G' y0 v) → AR G' y v := by
  unfold look2 at h
  split at h
  · rename_i r' h1
    cases h
    refine ⟨as.map denil, h1, by simp, fun G' k y v e1 e2 => ?_⟩
    simp only [List.getElem?_map, Option.map_eq_some_iff] at e1
    obtain ⟨y0, e1, rfl⟩ := e1
    have := e2 y0 e1
    unfold denil
    split
    · cases this; exact .c _ _ .nil
    · exact this
  · exact ⟨as, h, rfl, fun G' k y v e1 e2 => e2 y e1⟩

theorem sound_call {Γ : FuncId → Contract} (hΓ : SoundG P Γ) (R : Rel E G s a w) {d : Nat} {f : FuncId} {xs : List AV} {us : List Value} (hl : xs.length = us.length) (hx : ∀ (i : Nat) (x : AV) (u : Value), xs[i]? = some x → us[i]? = some u → AR G x u)
    (hexec : EnterOK P f → (execOp a.eval o).run P w = .ok (.enter f us.toArray) w)
    {e : Eff} {l : List Nat} (h : (callE Γ d f xs).run s.mem = some (e, l)) (K : Post E G s o e a next) : o.wp P a w next Q := by
  unfold callE at h
  split at h
  · exact EP.fail_inv h
  · rename_i as ns hargs
    obtain ⟨⟨os, nm⟩, l1, l2, h1, h2, _⟩ := EP.bind_inv h
    split at h2
    · exact EP.fail_inv h2
    · rename_i r hr
      split at h2
      · rename_i hc
        obtain ⟨c1, c2, c3, c4⟩ := hc
        obtain ⟨⟨⟩, l3, l4, h3, h4, _⟩ := EP.bind_inv h2
        obtain ⟨rfl, _⟩ := EP.ret_inv h4
        obtain ⟨css, d1, d2, d3, d4, d5⟩ := objsE_inv R.mem ns os nm l1 h1
        have d2' : Fit nm r.objs := d2.shape c1
        have hfree := freeE_inv _ _ h3
        -- into the callee's names
        have kin : keys (entryMem 0 os) = allNames (entryNames 0 os) := by rw [entry_back]; exact objs_keys _ _ (Fit.entry 0 os)
        have kback : keys (backObjs nm r.objs) = allNames nm := objs_keys nm r.objs d2'
        have ndin : (allNames (entryNames 0 os)).Nodup := by rw [← kin]; exact c2
        have ndnm : (allNames nm).Nodup := by
          rw [keys, List.map_append, List.nodup_append] at c4
          rw [← kback]; exact c4.1
        let ρ1 := pren (origMC css os nm) (entryMem 0 os)
        have hsrc1 : ∀ p ∈ (allNames (entryNames 0 os)).zip (allNames nm), ρ1.src p.1 = some p.2 := by
          intro p hp
          show look (pairs (origMC css os nm) (entryMem 0 os)) p.1 = some p.2
          unfold pairs
          rw [kin, d4]
          exact zip_look ndin p hp
        have al1 := d5 ρ1 (entryNames 0 os) (Fit.entry 0 os) hsrc1
        rw [← entry_back] at al1
        have ren1 : RenOK ρ1 s.mem (look (entryMem 0 os)) := RenOK.of al1 (by rw [d4]; exact ndnm) (fun q c h => d3 q c (look_mem h))
        have M1 := (R.mem.rename ren1).focus
        obtain ⟨as', hr', hasl, hden⟩ := look2_inv hr
        obtain ⟨enter, hcon⟩ := hΓ f as' os r hr'
        obtain ⟨hpure, hcon⟩ := hcon as' os r hr'
        obtain ⟨g1, g2⟩ := argsE_inv (G := G) xs 0 as ns hargs
        have hcall := hcon (fun b => ∃ n h, (ρ1.gh G).h n = some h ∧ h.blk = some b) (ρ1.gh G) w us M1 (by omega) (by
          intro i y v e1 e2
          have hi : i < xs.length := by have := (List.getElem?_eq_some_iff.1 e1).1; omega
          have hxi : xs[i]? = some xs[i] := by simp [hi]
          refine hden _ i y v e1 fun y e1 => ?_
          refine g2 (ρ1.gh G) rfl ?_ i _ y v hxi e1 (hx i _ v hxi e2)
          intro k n hk
          rw [← d1] at hk
          have hp := inName os nm 0 k n d2 hk
          have hs := hsrc1 _ hp
          have hgn : ∃ b, G.h n = some b := by
            have hq : n ∈ keys (origMC css os nm) := by rw [d4]; exact (List.of_mem_zip hp).2
            obtain ⟨c, hc⟩ := look_some (l := origMC css os nm) hq
            have hm := d3 n c (look_mem hc)
            have := R.mem.home n
            rw [hm] at this
            cases hgh : G.h n with
            | none => rw [hgh] at this; cases c <;> exact this.elim
            | some b => exact ⟨b, rfl⟩
          obtain ⟨b, hb⟩ := hgn
          exact ⟨b, by simp only [Ren.gh, hs]; exact hb, hb⟩)
        unfold Oper.wp
        rw [hexec enter]
        refine Calls.mono hcall ?_
        rintro e w' ⟨G', v, rfl, hle, M', hv⟩
        -- back into the caller's names
        let rc := resAt (resName d) (resCell d) 0 r.res
        let ro := resAt outName outCell 0 r.res
        let wr := backObjs nm r.objs ++ rc.2
        let ρ2 := pren (exitMem r) wr
        have kex : keys (entryMem 0 r.objs) = allNames (entryNames 0 r.objs) := by rw [entry_back]; exact objs_keys _ _ (Fit.entry 0 r.objs)
        have hlen1 : (keys (backObjs nm r.objs)).length = (keys (entryMem 0 r.objs)).length := by rw [kback, kex]; exact allNames_length nm _ r.objs d2' (Fit.entry 0 r.objs)
        have hz2 : pairs (exitMem r) wr = (allNames nm).zip (allNames (entryNames 0 r.objs)) ++ (keys rc.2).zip (keys ro.2) := by
          unfold pairs exitMem
          show (keys (backObjs nm r.objs ++ rc.2)).zip (keys (entryMem 0 r.objs ++ ro.2)) = _
          simp only [keys, List.map_append] at *
          rw [List.zip_append hlen1, kback, kex]
        have ndwr : (keys wr).Nodup := c4
        have hsrc2 : ∀ p ∈ pairs (exitMem r) wr, ρ2.src p.1 = some p.2 := fun p hp => zip_look ndwr p hp
        obtain ⟨q1, q2, q3⟩ := res_am (ρ := ρ2) (nr := outName) (nr' := resName d) (nc := outCell) (nc' := resCell d) r.res 0 (fun x hx y hy => (hpure y (hy ▸ hx)).am ρ2) (fun p hp => hsrc2 p (by rw [hz2]; exact List.mem_append_right _ hp))
        have al2 : Al (fun x y => CM ρ2 (some x.2) (some y.2)) (exitMem r) wr := by
          refine Al.append ?_ q3
          rw [entry_back]
          exact objs_am _ nm r.objs (Fit.entry 0 r.objs) d2' (fun p hp => hsrc2 p (by rw [hz2]; exact List.mem_append_left _ hp))
        have ren2 : RenOK ρ2 (look (exitMem r)) (look wr) := RenOK.of al2 c3 (fun q c h => h)
        have M2 := M'.rename ren2
        have hmem : ∀ n, look wr n ≠ none → n ∈ allNames nm ∨ n ∈ keys rc.2 := by
          intro n hn
          cases hc : look wr n with
          | none => exact absurd hc hn
          | some c =>
            have := List.mem_map_of_mem (f := (·.1)) (look_mem hc)
            simp only [wr, List.map_append, List.mem_append] at this
            rcases this with h | h
            · left; rw [← kback]; exact h
            · exact .inr h
        -- who is who
        have hpair : ∀ n ∈ allNames nm, ∃ q, (q, n) ∈ (allNames (entryNames 0 os)).zip (allNames nm) ∧ (n, q) ∈ (allNames nm).zip (allNames (entryNames 0 r.objs)) := by
          have hnn : allNames (entryNames 0 os) = allNames (entryNames 0 r.objs) := by
            have : ∀ (i : Nat) (os os' : List (List OV)), os'.map shapeOf = os.map shapeOf → allNames (entryNames i os) = allNames (entryNames i os') := by
              have rn : ∀ (nm : Nat → Nat) (o o' : List OV) (j : Nat), shapeOf o' = shapeOf o → rowNames nm j o = rowNames nm j o' := by
                intro nm o
                induction o with
                | nil => intro o' j h; cases o' with | nil => rfl | cons x _ => cases x <;> simp [shapeOf] at h
                | cons x o ih =>
                  intro o' j h
                  cases o' with
                  | nil => cases x <;> simp [shapeOf] at h
                  | cons y o' =>
                    cases x <;> cases y <;> simp only [shapeOf, List.cons.injEq, true_and, reduceCtorEq, false_and] at h <;> simp only [rowNames]
                    · exact ih o' (j + 1) h
                    · rw [ih o' (j + 1) h.2]
              intro i os
              induction os generalizing i with
              | nil => intro os' h; cases os' with | nil => rfl | cons => simp at h
              | cons o os ih =>
                intro os' h
                cases os' with
                | nil => simp at h
                | cons o' os' =>
                  simp only [List.map_cons, List.cons.injEq] at h
                  simp only [entryNames, allNames, rn (inRow i) o o' 0 h.1, ih (i + 1) os' h.2]
            exact this 0 os r.objs c1
          intro n hn
          rw [← hnn]
          have hlenE : (allNames (entryNames 0 os)).length = (allNames nm).length := allNames_length _ _ os (Fit.entry 0 os) d2
          obtain ⟨k, hk⟩ := List.mem_iff_getElem?.1 hn
          have hkl : k < (allNames (entryNames 0 os)).length := by have := (List.getElem?_eq_some_iff.1 hk).1; omega
          refine ⟨(allNames (entryNames 0 os))[k], ?_, ?_⟩
          · refine List.mem_of_getElem? (i := k) ?_
            simp [List.getElem?_zip_eq_some, hk, hkl]
          · refine List.mem_of_getElem? (i := k) ?_
            simp [List.getElem?_zip_eq_some, hk, hkl]
        obtain ⟨z1, z2, z3⟩ := R.mem.merge M2 (by
          rintro b ⟨q, x, e1, e2⟩
          simp only [Ren.gh] at e1
          cases hs : ρ1.src q with
          | none => rw [hs] at e1; cases e1
          | some n =>
            rw [hs] at e1
            refine ⟨n, x, e1, e2, fun hn => ?_⟩
            have hm := look_mem (show look (pairs (origMC css os nm) (entryMem 0 os)) q = some n from hs)
            have hn' : n ∈ allNames nm := by rw [← d4]; exact (List.of_mem_zip hm).2
            have : n ∈ wr.map (·.1) := by
              simp only [wr, List.map_append, List.mem_append]
              left; rw [← kback] at hn'; exact hn'
            obtain ⟨c, hc⟩ := look_some this
            rw [hn] at hc; cases hc) (by
          intro n x e1 hn
          rcases hmem n hn with h | h
          · obtain ⟨q, p1, p2⟩ := hpair n h
            have s1 := hsrc1 _ p1
            have s2 := hsrc2 (n, q) (by rw [hz2]; exact List.mem_append_left _ p2)
            have e1' : (ρ1.gh G).h q = some x := by simp only [Ren.gh, s1]; exact e1
            obtain ⟨x', e2, l2⟩ := hle.h q x e1'
            exact ⟨x', by simp only [Ren.gh, s2]; exact e2, l2⟩
          · have := hfree n h
            have h0 := R.mem.home n
            rw [this, e1] at h0
            exact h0.elim)
        refine K _ v w' z1 ?_ (z3.congr fun i => AS.mem_wr s wr i)
        refine AR.mono z2 ?_
        refine AM.rel (ρ := ρ2) (x := oneE (exitVals r)) ?_ hv
        have hone : ∀ {l l' : List AV}, l.length = l'.length → (∀ (k : Nat) (x y : AV), l[k]? = some x → l'[k]? = some y → AM ρ2 x y) → AM ρ2 (oneE l) (oneE l') := by
          intro l l' hl h
          match l, l', hl, h with
          | [x], [y], _, h => exact h 0 x y rfl rfl
          | [], [], hl, h => exact .tup _ _ hl h
          | _ :: _ :: _, _ :: _ :: _, hl, h => exact .tup _ _ hl h
          | [], _ :: _, hl, _ => simp at hl
          | _ :: _, [], hl, _ => simp at hl
          | [_], _ :: _ :: _, hl, _ => simp at hl
          | _ :: _ :: _, [_], hl, _ => simp at hl
        exact hone q1 q2
      · exact EP.fail_inv h2

end
end Go.Proofs.Ytjdokoldiemobaa.AM
