/-
  QY: Fd4 Fd5.
-/
import Derived.Test.YtenmlgalcjkdbaaGreatQV
import Derived.Test.YtenmlgalcjkdbaaGreatQX
set_option linter.unusedVariables false
set_option linter.unusedSimpArgs false
namespace Go.Proofs.YtenmlgalcjkdbaaGreat.AM
open Go

variable {Γ : FuncId → Contract}

theorem con_gen {own : List Blk} {a b : List UInt8} (h : conS own a b = true) : a ≠ genS ∧ b ≠ genS := by
  unfold conS at h
  simp only [Bool.and_eq_true, Bool.not_eq_true'] at h
  obtain ⟨⟨⟨h1, h2⟩, h3⟩, h4⟩ := h
  constructor
  · rintro rfl
    unfold extS at h4
    rw [h2] at h4
    simp at h4
  · rintro rfl
    unfold extS at h3
    rw [h1] at h3
    simp at h3
theorem right_cert {c : Ct} {ro : List (List UInt8)} {q : Int} (h : ctS c ro q = 0) (hg : c.bl ≠ genS) : 1 ≤ q ∧ (c.vs.length : Int) = q ∧ ∀ i, i < c.vs.length → stepC c ro i = true := by
  unfold ctS at h
  rw [if_neg (by
    rintro ⟨_, h2⟩
    simp only [Mk.mk.injEq] at h2
    exact hg h2.2.2)] at h
  split at h
  · cases h
  · rename_i h1
    split at h
    · rename_i h2
      exact ⟨by omega, by omega, h2⟩
    · cases h
theorem step_parts {c : Ct} {ro : List (List UInt8)} {i : Nat} (h : stepC c ro i = true) : (c.vs.getD i zeroV).kd = 1 ∧ (i = 0 ∨ (c.vs.getD (i - 1) zeroV).sg < (c.vs.getD i zeroV).sg) ∧ 0 ≤ (c.vs.getD i zeroV).sg ∧ (c.vs.getD i zeroV).sg < (ro.length : Int) := by
  unfold stepC isV validV at h
  simp only [Bool.and_eq_true, Bool.or_eq_true, decide_eq_true_eq, beq_iff_eq] at h
  obtain ⟨⟨h1, _⟩, h2, ⟨h3, h4⟩, _⟩ := h
  obtain ⟨_, _, _, _, _, _, h5, _⟩ := h3
  exact ⟨h1, h2, h5.1, h4⟩
theorem signers_lt {c : Ct} {ro : List (List UInt8)} (h : ∀ i, i < c.vs.length → stepC c ro i = true) : (c.vs.map (·.sg)).Pairwise (· < ·) := by
  have key : ∀ j i, i < j → j < c.vs.length → (c.vs.getD i zeroV).sg < (c.vs.getD j zeroV).sg := by
    intro j
    induction j with
    | zero => intro i h1; omega
    | succ j ih =>
      intro i h1 h2
      have h3 := (step_parts (h (j + 1) h2)).2.1
      rw [Nat.add_sub_cancel] at h3
      have h4 : (c.vs.getD j zeroV).sg < (c.vs.getD (j + 1) zeroV).sg := h3.resolve_left (by omega)
      by_cases e : i = j
      · subst e; exact h4
      · exact Int.lt_trans (ih i (by omega) (by omega)) h4
  rw [List.pairwise_iff_getElem]
  intro i j hi hj hij
  rw [List.length_map] at hi hj
  have := key j i hij hj
  rw [List.getD_eq_getElem?_getD, List.getElem?_eq_getElem hi, List.getD_eq_getElem?_getD, List.getElem?_eq_getElem hj] at this
  simpa using this
theorem lt_nodup {l : List Int} (h : l.Pairwise (· < ·)) : l.Nodup := h.imp fun h e => by subst e; omega
theorem mem_step {c : Ct} {ro : List (List UInt8)} (h : ∀ i, i < c.vs.length → stepC c ro i = true) {v : Vt} (hv : v ∈ c.vs) : v.kd = 1 ∧ 0 ≤ v.sg ∧ v.sg < (ro.length : Int) := by
  obtain ⟨i, hi, rfl⟩ := List.getElem_of_mem hv
  have h1 := step_parts (h i hi)
  rw [List.getD_eq_getElem?_getD, List.getElem?_eq_getElem hi] at h1
  exact ⟨h1.1, h1.2.2⟩
/-- Two right certs that conflict have as many suspects as two quorums share, at least. -/
theorem fork_many {own : List Blk} {a b : Ct} {ro : List (List UInt8)} {q : Int} (ha : ctS a ro q = 0) (hb : ctS b ro q = 0) (hc : conS own a.bl b.bl = true) : fewS (ro.length : Int) q ≤ ((suspL a.vs b.vs).length : Int) := by
  obtain ⟨ga, gb⟩ := con_gen hc
  obtain ⟨qa, la, sa⟩ := right_cert ha ga
  obtain ⟨_, lb, sb⟩ := right_cert hb gb
  have h := share (S := suspL a.vs b.vs) (q := q.toNat) (r := ro.length) (lt_nodup (signers_lt sa)) (lt_nodup (signers_lt sb)) (by rw [List.length_map]; omega) (by rw [List.length_map]; omega)
    (fun x hx => by obtain ⟨v, hv, rfl⟩ := List.mem_map.1 hx; exact (mem_step sa hv).2) (fun x hx => by obtain ⟨v, hv, rfl⟩ := List.mem_map.1 hx; exact (mem_step sb hv).2)
    (fun x hx hy => by
      obtain ⟨v, hv, rfl⟩ := List.mem_map.1 hx
      obtain ⟨u, hu, e⟩ := List.mem_map.1 hy
      have hk := (mem_step sa hv).1
      refine (susp_mem _ _ _).2 ⟨v, hv, rfl, hk, ?_⟩
      have := idx_of_mem hu (mem_step sb hu).1
      rw [← e]
      exact this)
  unfold fewS
  split
  · omega
  · split <;> omega


variable {Γ : FuncId → Contract}

noncomputable def okC (ro : List (List UInt8)) (q : Int) (c : Ct) : Bool := decide (ctS c ro q = 0)
noncomputable def pr (own : List Blk) (ro : List (List UInt8)) (q : Int) (y x : Ct) : Bool := okC ro q x && (okC ro q y && conS own x.bl y.bl)
theorem find_fst (own : List Blk) (ro : List (List UInt8)) (q : Int) (l : List Ct) : ∀ k, k ≤ l.length → (findS own ro q (l.take k)).1 = (l.take k).filter (okC ro q)
  | 0, _ => by simp [findS]
  | k + 1, h => by
    rw [find_succ _ _ _ _ _ (by omega), List.take_add_one, List.getElem?_eq_getElem (by omega : k < l.length), List.filter_append, ← find_fst own ro q l k (by omega), List.getD_eq_getElem?_getD, List.getElem?_eq_getElem (by omega : k < l.length)]
    unfold stF
    simp only [Option.getD_some, Option.toList_some]
    by_cases hz : ctS l[k] ro q = 0
    · rw [if_pos hz, List.filter_cons_of_pos (by unfold okC; simpa using hz)]; rfl
    · rw [if_neg hz, List.filter_cons_of_neg (by unfold okC; simpa using hz)]; simp
theorem find_snd (own : List Blk) (ro : List (List UInt8)) (q : Int) (l : List Ct) (k : Nat) (h : k < l.length) : (findS own ro q (l.take (k + 1))).2 = (findS own ro q (l.take k)).2 ++ ((l.take k).filter (pr own ro q (l.getD k zeroC))).map fun x => (x, l.getD k zeroC) := by
  rw [find_succ _ _ _ _ _ h]
  have hf := find_fst own ro q l k (by omega)
  generalize l.getD k zeroC = y
  unfold stF
  by_cases hz : ctS y ro q = 0
  · rw [if_pos hz, hf]
    dsimp only
    rw [List.filter_filter]
    congr 2
    apply List.filter_congr
    intro x _
    unfold pr okC
    rw [decide_eq_true hz, Bool.true_and, Bool.and_comm]
  · rw [if_neg hz]
    have : (l.take k).filter (pr own ro q y) = [] := by
      rw [List.filter_eq_nil_iff]
      intro x _
      unfold pr okC
      rw [decide_eq_false hz]
      simp
    rw [this]
    simp
noncomputable def cnt (own : List Blk) (ro : List (List UInt8)) (q : Int) (l : List Ct) (k i : Nat) : Nat := (findS own ro q (l.take k)).2.length + ((l.take i).filter (pr own ro q (l.getD k zeroC))).length
theorem cnt_zero (own : List Blk) (ro : List (List UInt8)) (q : Int) (l : List Ct) (k : Nat) : cnt own ro q l k 0 = (findS own ro q (l.take k)).2.length := by simp [cnt]
theorem cnt_end (own : List Blk) (ro : List (List UInt8)) (q : Int) (l : List Ct) (k : Nat) (h : k < l.length) : cnt own ro q l k k = (findS own ro q (l.take (k + 1))).2.length := by
  rw [find_snd _ _ _ _ _ h]; simp [cnt]
theorem cnt_succ (own : List Blk) (ro : List (List UInt8)) (q : Int) (l : List Ct) (k i : Nat) (h : i < l.length) : cnt own ro q l k (i + 1) = cnt own ro q l k i + if pr own ro q (l.getD k zeroC) (l.getD i zeroC) = true then 1 else 0 := by
  unfold cnt
  rw [List.take_add_one, List.getElem?_eq_getElem h, List.filter_append, List.length_append, List.getD_eq_getElem?_getD (i := i), List.getElem?_eq_getElem h]
  simp only [Option.toList_some, Option.getD_some]
  by_cases hp : pr own ro q (l.getD k zeroC) l[i] = true
  · rw [if_pos hp, List.filter_cons_of_pos hp]; simp; omega
  · rw [if_neg hp, List.filter_cons_of_neg hp]; simp
theorem find_pre (own : List Blk) (ro : List (List UInt8)) (q : Int) (l : List Ct) (k : Nat) : ∀ m, k + m ≤ l.length → ∃ r, (findS own ro q (l.take (k + m))).2 = (findS own ro q (l.take k)).2 ++ r
  | 0, _ => ⟨[], by simp⟩
  | m + 1, h => by
    obtain ⟨r, hr⟩ := find_pre own ro q l k m (by omega)
    refine ⟨r ++ ((l.take (k+m)).filter (pr own ro q (l.getD (k+m) zeroC))).map fun x => (x, l.getD (k+m) zeroC), ?_⟩
    rw [show k + (m + 1) = k + m + 1 by omega, find_snd _ _ _ _ _ (by omega), hr, List.append_assoc]
theorem got_at (own : List Blk) (ro : List (List UInt8)) (q : Int) (l : List Ct) (k i : Nat) (hi : i < k) (hk : k < l.length) (hp : pr own ro q (l.getD k zeroC) (l.getD i zeroC) = true) : (findS own ro q l).2[cnt own ro q l k i]? = some (l.getD i zeroC, l.getD k zeroC) := by
  obtain ⟨r, hr⟩ := find_pre own ro q l (k + 1) (l.length - (k + 1)) (by omega)
  rw [show k + 1 + (l.length - (k + 1)) = l.length by omega, List.take_length, find_snd _ _ _ _ _ hk] at hr
  rw [hr]
  have hil : i < l.length := by omega
  have hg : l.getD i zeroC = l[i] := by rw [List.getD_eq_getElem?_getD, List.getElem?_eq_getElem hil]; rfl
  unfold cnt
  rw [hg] at hp ⊢
  generalize l.getD k zeroC = y at *
  have e1 : l.take k = l.take i ++ l[i] :: (l.take k).drop (i + 1) := by
    have := (List.take_append_drop i (l.take k)).symm
    rw [List.take_take, Nat.min_eq_left (by omega), List.drop_eq_getElem_cons (by rw [List.length_take]; omega), List.getElem_take] at this
    exact this
  rw [e1, List.filter_append, List.filter_cons_of_pos hp, List.map_append, List.append_assoc, List.append_assoc]
  rw [List.getElem?_append_right (by omega), Nat.add_sub_cancel_left, List.getElem?_append_right (by simp)]
  simp

end Go.Proofs.YtenmlgalcjkdbaaGreat.AM
