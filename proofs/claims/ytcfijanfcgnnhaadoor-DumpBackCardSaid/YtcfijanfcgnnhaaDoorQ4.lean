/-
  Q4: AmF.
-/
import Derived.Test.YtcfijanfcgnnhaaDoorQ3
import Derived.Test.YtcfijanfcgnnhaaDoorRows
import Derived.Carry
import Derived.OpenShut
import Derived.ChangeOld
set_option linter.unusedVariables false
set_option linter.unusedSimpArgs false
namespace Go.Proofs.YtcfijanfcgnnhaaDoor.AM
open Go Go.RowKit Go.ChangeShapes
open Go.Proofs.YtcfijanfcgnnhaaDoor.Rows (uptoBulk uptoBulkAll uptoSmall)

/-- All that a world holds. -/
def allK (w : World) : Know := fun b o => w.cell? ⟨b, o, none⟩

/-- Cells of a type: what they are made of; nothing is longer than N. -/
def PTn (P : Program) (N : Nat) : Nat → TypeId → List PC → Prop
  | 0, _, _ => False
  | n + 1, t, cs => match P.underlying t with
    | some .bool => ∃ b, cs = [.bool b]
    | some (.int k) => ∃ i, cs = [.int k i] ∧ (Lit.int k i).wf = true
    | some .string => ∃ s, cs = [.str s] ∧ s.length ≤ N
    | some (.slice e) => ∃ rows, cs = [.sl rows] ∧ rows.length ≤ N ∧ ∀ r ∈ rows, PTn P N n e r
    | some (.struct fs) => cs.length = P.cellsOf t ∧ ∀ f ∈ fs.toList, PTn P N n f.type ((cs.drop f.offset).take (P.cellsOf f.type))
    | _ => False
theorem bulk_mem {H : Type} : ∀ {l : List (DataW H)} {d : DataW H}, d ∈ l → uptoBulk d ≤ uptoBulkAll l
  | x :: l, d, h => by
    rw [uptoBulkAll]
    rcases List.mem_cons.1 h with rfl | h
    · omega
    · have := bulk_mem h; omega
theorem bulk_length {H : Type} : ∀ (l : List (DataW H)), l.length ≤ uptoBulkAll l
  | [] => Nat.zero_le _
  | x :: l => by
    have := bulk_length l
    have h1 : 1 ≤ uptoBulk x := by
      cases x with
      | lit l => cases l <;> simp [uptoBulk]
      | _ => simp [uptoBulk]
    rw [uptoBulkAll, List.length_cons]; omega

def contB (P : Program) (total : Nat) : Nat → List Field → Bool
  | pos, [] => pos == total
  | pos, f :: fs => f.offset == pos && contB P total (pos + P.cellsOf f.type) fs
/-- A type of scalars, texts, slices and structs of such, a struct's fields one behind the other. -/
def flatB (P : Program) : Nat → TypeId → Bool
  | 0, _ => false
  | n + 1, t => match P.underlying t with
    | some .bool | some (.int _) | some .string => P.cellsOf t == 1
    | some (.slice e) => P.cellsOf t == 1 && (decide (0 < P.cellsOf e) && flatB P n e)
    | some (.struct fs) => contB P (P.cellsOf t) 0 fs.toList && fs.toList.all fun f => flatB P n f.type
    | _ => false

theorem flatB_mono (P : Program) : ∀ (n : Nat) (t : TypeId), flatB P n t = true → flatB P (n + 1) t = true
  | 0, t, h => by simp [flatB] at h
  | n + 1, t, h => by
    rw [flatB] at h ⊢
    split at h
    · exact h
    · exact h
    · exact h
    · rename_i e hu
      rw [Bool.and_eq_true, Bool.and_eq_true] at h ⊢
      exact ⟨h.1, h.2.1, flatB_mono P n e h.2.2⟩
    · rename_i fs hu
      rw [Bool.and_eq_true, List.all_eq_true] at h ⊢
      exact ⟨h.1, fun f hf => flatB_mono P n f.type (h.2 f hf)⟩
    · cases h
theorem flatB_le {P : Program} {n m : Nat} {t : TypeId} (h : flatB P n t = true) (hl : n ≤ m) : flatB P m t = true := by
  induction hl with
  | refl => exact h
  | step _ ih => exact flatB_mono P _ t ih

variable {H : Type} {enc : TypeId × Value → H} {P : Program} {w : World}

/-- The cells of fields that lie one behind the other. -/
theorem fields_pcs {N n : Nat} {vs : List Value} {K : Know} {total : Nat} (hl : vs.length = total)  : ∀ (fs : List Field) (pos : Nat), contB P total pos fs = true → pos ≤ total →
    (∀ f ∈ fs, ∃ cs, VRs K cs ((vs.drop f.offset).take (P.cellsOf f.type)) ∧ PTn P N n f.type cs) →
    ∃ cs, VRs K cs (vs.drop pos) ∧ ∀ f ∈ fs, pos ≤ f.offset ∧ PTn P N n f.type ((cs.drop (f.offset - pos)).take (P.cellsOf f.type))
  | [], pos, h, hp, _ => by
    simp only [contB, beq_iff_eq] at h
    subst h
    refine ⟨[], ?_, fun f hf => by cases hf⟩
    rw [List.drop_of_length_le (by omega)]
    exact VRs.nil K
  | f :: fs, pos, h, hp, hf => by
    simp only [contB, Bool.and_eq_true, beq_iff_eq] at h
    obtain ⟨ho, h⟩ := h
    obtain ⟨c1, hv1, hp1⟩ := hf f (by simp)
    have hle : pos + P.cellsOf f.type ≤ total := by
      have : ∀ (fs : List Field) (pos : Nat), contB P total pos fs = true → pos ≤ total := by
        intro fs
        induction fs with
        | nil => intro pos h; simp only [contB, beq_iff_eq] at h; omega
        | cons f fs ih => intro pos h; simp only [contB, Bool.and_eq_true] at h; have := ih _ h.2; omega
      exact this _ _ h
    obtain ⟨c2, hv2, hp2⟩ := fields_pcs hl fs _ h hle (fun g hg => hf g (by simp [hg]))
    have hc1 : c1.length = P.cellsOf f.type := by
      have := hv1.1
      simp only [List.length_take, List.length_drop] at this
      omega
    refine ⟨c1 ++ c2, ?_, fun g hg => ?_⟩
    · have e : vs.drop pos = (vs.drop f.offset).take (P.cellsOf f.type) ++ vs.drop (pos + P.cellsOf f.type) := by
        rw [ho, ← List.drop_drop, List.take_append_drop]
      rw [e]
      refine ⟨by simp only [List.length_append, hv1.1, hv2.1], fun i c v hi hj => ?_⟩
      rw [List.getElem?_append] at hi hj
      rw [← hv1.1] at hj
      split at hi
      · rename_i hlt
        rw [if_pos hlt] at hj
        exact hv1.2 i c v hi hj
      · rename_i hlt
        rw [if_neg hlt] at hj
        exact hv2.2 _ c v hi hj
    · rcases List.mem_cons.1 hg with rfl | hg
      · refine ⟨by omega, ?_⟩
        rw [ho, Nat.sub_self, List.drop_zero, List.take_append_of_le_length (by omega), ← hc1, List.take_length]
        exact hp1
      · obtain ⟨a1, a2⟩ := hp2 g hg
        refine ⟨by omega, ?_⟩
        have e : (c1 ++ c2).drop (g.offset - pos) = c2.drop (g.offset - (pos + P.cellsOf f.type)) := by
          rw [List.drop_append, List.drop_of_length_le (by omega), List.nil_append]
          congr 1; omega
        rw [e]
        exact a2

theorem PTn.length {N n : Nat} {t : TypeId} {cs : List PC} (hf : flatB P n t = true) (h : PTn P N n t cs) : cs.length = P.cellsOf t := by
  cases n with
  | zero => exact h.elim
  | succ n =>
    rw [PTn] at h
    rw [flatB] at hf
    split at h
    · rename_i hu; simp only [hu, beq_iff_eq] at hf; obtain ⟨b, rfl⟩ := h; exact hf.symm
    · rename_i hu; simp only [hu, beq_iff_eq] at hf; obtain ⟨b, rfl, _⟩ := h; exact hf.symm
    · rename_i hu; simp only [hu, beq_iff_eq] at hf; obtain ⟨b, rfl, _⟩ := h; exact hf.symm
    · rename_i hu; simp only [hu, Bool.and_eq_true, beq_iff_eq] at hf; obtain ⟨b, rfl, _⟩ := h; exact hf.1.symm
    · exact h.1
    · exact h.elim

/-- What was read is pure values. -/
theorem trod_pcs {N : Nat} : ∀ (n : Nat) (t : TypeId) (vs : List Value) (d : DataW H) (ps : List MemPlace), DataW.trod enc P w 0 (fun _ => true) true n t vs = some (d, ps) → flatB P n t = true →
    (maxLen ≤ N ∨ uptoBulk d ≤ N) → ∃ cs, VRs (allK w) cs vs ∧ PTn P N n t cs
  | 0, _, _, _, _, h, _, _ => by simp [DataW.trod] at h
  | n + 1, t, vs, d, ps, h, hf, hN => by
    rw [flatB] at hf
    unfold DataW.trod at h
    split at hf
    · rename_i hu
      rw [hu] at h
      dsimp only at h
      split at h
      all_goals first | (rename_i h1 _; cases h1; done) | (rename_i h1; cases h1; done) | (cases h; done) | skip
      · rename_i b h1
        exact ⟨[.bool b], (VRs.nil _).cons (.bool b), by simp only [PTn, hu]; exact ⟨b, rfl⟩⟩
    · rename_i k hu
      rw [hu] at h
      dsimp only at h
      split at h
      all_goals first | (rename_i h1 _; cases h1; done) | (rename_i h1; cases h1; done) | (cases h; done) | skip
      · rename_i k0 k' i h1
        cases h1
        split at h
        · rename_i hc
          obtain ⟨rfl, hw⟩ := hc
          exact ⟨[.int k' i], (VRs.nil _).cons (.int k' i), by simp only [PTn, hu]; exact ⟨i, rfl, hw⟩⟩
        · cases h
    · rename_i hu
      rw [hu] at h
      dsimp only at h
      split at h
      all_goals first | (rename_i h1 _; cases h1; done) | (rename_i h1; cases h1; done) | (cases h; done) | skip
      · rename_i s h1
        split at h
        · rename_i hc
          have hle : s.data.toList.length ≤ N := by
            have hc' : s.data.toList.length ≤ maxLen := by simpa using hc
            cases h
            rcases hN with hN | hN
            · omega
            · rw [uptoBulk] at hN; omega
          refine ⟨[.str s.data.toList], (VRs.nil _).cons ?_, by simp only [PTn, hu]; exact ⟨_, rfl, hle⟩⟩
          have := VR.str (K := allK w) s.data.toList
          rwa [ba_eq] at this
        · cases h
    · rename_i e hu
      rw [Bool.and_eq_true, Bool.and_eq_true, decide_eq_true_eq] at hf
      rw [hu] at h
      dsimp only at h
      split at h
      all_goals first | (rename_i h1 _; cases h1; done) | (rename_i h1; cases h1; done) | (cases h; done) | skip
      · rename_i h1 _
        exact ⟨[.sl []], (VRs.nil _).cons .nil, by simp only [PTn, hu]; exact ⟨[], rfl, by simp, fun r hr => by cases hr⟩⟩
      · rename_i e' a len cap h1 
        cases h1
        split at h
        · rename_i hc
          obtain ⟨_, hlc, hcm⟩ := hc
          rw [Option.bind_eq_some_iff] at h
          obtain ⟨elems, h2, h⟩ := h
          rw [Option.map_eq_some_iff] at h
          obtain ⟨rest, _, h⟩ := h
          have hbulk : maxLen ≤ N ∨ uptoBulkAll (elems.map (·.1)) ≤ N := by
            cases h
            rcases hN with hN | hN
            · exact .inl hN
            · rw [uptoBulk] at hN; exact .inr (by omega)
          have hlenN : len ≤ N := by
            have hl := mapM_some_length h2
            rcases hbulk with hb | hb
            · omega
            · have := bulk_length (elems.map (·.1))
              simp at this hl; omega
          have hrow : ∀ i, i < len → ∃ (cs : List PC) (vs : List Value), w.cells? 0 (a.add (i * P.cellsOf e)) (P.cellsOf e) = some vs ∧ VRs (allK w) cs vs ∧ PTn P N n e cs := by
            intro i hi
            have h3 := mapM_some_get h2 i i (by simp [hi])
            have hl := mapM_some_length h2
            have h4 : ∃ y, elems[i]? = some y := ⟨elems[i]'(by simp at hl; omega), by simp⟩
            obtain ⟨y, hy⟩ := h4
            rw [hy, Option.bind_eq_some_iff] at h3
            obtain ⟨vs, h5, h6⟩ := h3
            obtain ⟨cs, h7, h8⟩ := trod_pcs n e vs y.1 y.2 h6 hf.2.2 (by
              rcases hbulk with hb | hb
              · exact .inl hb
              · have hm : y.1 ∈ elems.map (·.1) := List.mem_map_of_mem (List.mem_of_getElem? hy)
                have := bulk_mem hm
                exact .inr (by omega))
            exact ⟨cs, vs, h5, h7, h8⟩
          rcases Nat.eq_zero_or_pos len with h0 | hpos
          · subst h0
            exact ⟨[.sl []], (VRs.nil _).cons (.at0 a cap), by simp only [PTn, hu]; exact ⟨[], rfl, by simp, fun r hr => by cases hr⟩⟩
          · have hspot : a.spot = none := by
              obtain ⟨cs, vs, h5, h7, h8⟩ := hrow 0 hpos
              obtain ⟨_, hvl, hcell⟩ := World.cells?_some h5
              have := hcell 0 hf.2.1
              have hv0 : ∃ v, vs[0]? = some v := ⟨vs[0]'(by omega), by simp⟩
              obtain ⟨v, hv⟩ := hv0
              rw [hv] at this
              unfold World.cell? at this
              split at this
              · split at this
                · cases this
                · rename_i hs; simpa [Addr.add] using hs
              · cases this
            obtain ⟨b, off, spot⟩ := a
            cases hspot
            have hrow' : ∀ i, ∃ (cs : List PC) (vs : List Value), i < len → w.cells? 0 (Addr.add ⟨b, off, none⟩ (i * P.cellsOf e)) (P.cellsOf e) = some vs ∧ VRs (allK w) cs vs ∧ PTn P N n e cs := by
              intro i
              by_cases hi : i < len
              · obtain ⟨cs, vs, h⟩ := hrow i hi; exact ⟨cs, vs, fun _ => h⟩
              · exact ⟨[], [], fun h => absurd h hi⟩
            obtain ⟨fc, hfc⟩ := Classical.axiomOfChoice hrow'
            obtain ⟨fv, hfv⟩ := Classical.axiomOfChoice hfc
            refine ⟨[.sl ((List.range len).map fc)], (VRs.nil _).cons ?_, by
              simp only [PTn, hu]
              refine ⟨_, rfl, by simpa using hlenN, fun r hr => ?_⟩
              simp only [List.mem_map, List.mem_range] at hr
              obtain ⟨i, hi, rfl⟩ := hr
              exact (hfv i hi).2.2⟩
            have hlen : ∀ i, i < len → (fc i).length = P.cellsOf e := fun i hi => by
              have := (World.cells?_some (hfv i hi).1).2.1
              rw [(hfv i hi).2.1.1]; exact this
            have key : VR (allK w) (.sl ((List.range len).map fc)) (.slice (some ⟨b, off, none⟩) ((List.range len).map fc).length cap) := by
              refine VR.of_slice (z := P.cellsOf e) ⟨fun r hr => ?_, fun j r hj i c hi => ?_⟩ (by simpa using hlc)
              · simp only [List.mem_map, List.mem_range] at hr
                obtain ⟨i, hi, rfl⟩ := hr
                exact hlen i hi
              · have hjl : j < len := by
                  have := (List.getElem?_eq_some_iff.1 hj).1
                  simpa using this
                have : r = fc j := by simpa [hjl] using hj.symm
                subst this
                obtain ⟨g1, g2, g3⟩ := hfv j hjl
                obtain ⟨_, hvl, hcell⟩ := World.cells?_some g1
                have hil : i < P.cellsOf e := by rw [← hlen j hjl]; exact (List.getElem?_eq_some_iff.1 hi).1
                have hv0 : ∃ v, (fv j)[i]? = some v := ⟨(fv j)[i]'(by omega), by simp⟩
                obtain ⟨v, hv⟩ := hv0
                refine ⟨v, ?_, g2.2 i c v hi hv⟩
                have := hcell i hil
                rw [hv] at this
                show w.cell? ⟨b, off + j * P.cellsOf e + i, none⟩ = some v
                rw [← this, add_at, add_at]
            simpa using key
        · cases h
    · rename_i fs hu
      rw [Bool.and_eq_true, List.all_eq_true] at hf
      rw [hu] at h
      dsimp only at h
      split at h
      · rename_i hc
        rw [Option.map_eq_some_iff] at h
        obtain ⟨xs, h2, h⟩ := h
        have hbulk : maxLen ≤ N ∨ uptoBulkAll (xs.map (·.1)) ≤ N := by
          cases h
          rcases hN with hN | hN
          · exact .inl hN
          · rw [uptoBulk] at hN; exact .inr (by omega)
        obtain ⟨cs, h3, h4⟩ := fields_pcs (N := N) (n := n) (K := allK w) hc fs.toList 0 hf.1 (Nat.zero_le _) (fun f hf' => by
          obtain ⟨i, hi⟩ := List.mem_iff_getElem?.1 hf'
          have hy := mapM_some_get h2 i f hi
          have hl := mapM_some_length h2
          have hil := (List.getElem?_eq_some_iff.1 hi).1
          obtain ⟨y, hy'⟩ : ∃ y, xs[i]? = some y := ⟨xs[i]'(by omega), by simp⟩
          rw [hy'] at hy
          refine trod_pcs n f.type _ y.1 y.2 hy (hf.2 f hf') ?_
          rcases hbulk with hb | hb
          · exact .inl hb
          · have hm : y.1 ∈ xs.map (·.1) := List.mem_map_of_mem (List.mem_of_getElem? hy')
            have := bulk_mem hm
            exact .inr (by omega))
        rw [List.drop_zero] at h3
        refine ⟨cs, h3, ?_⟩
        simp only [PTn, hu]
        refine ⟨h3.1.trans hc, fun f hf' => ?_⟩
        have := (h4 f hf').2
        rwa [Nat.sub_zero] at this
      · cases h
    · cases hf

/-- A law's argument, as a contract takes it. -/
def AVTn (P : Program) (N : Nat) (t : TypeId) (x : AV) : Prop := ∃ n cs, PTn P N n t cs ∧ (match P.underlying t with
  | some (.struct _) => x = .agg (cs.map .c)
  | _ => ∃ c, cs = [c] ∧ x = .c c)
def AVTsn (P : Program) (N : Nat) : List TypeId → List AV → Prop
  | [], [] => True
  | t :: ts, x :: xs => AVTn P N t x ∧ AVTsn P N ts xs
  | _, _ => False
theorem arg_av {N : Nat} {t : TypeId} {v : Value} {d : DataW H} {ps : List MemPlace} (h : DataW.Trod enc P w 0 (fun _ => true) true t v d ps) (hf : flatB P 40 t = true) (hN : maxLen ≤ N ∨ uptoBulk d ≤ N) {base : Nat} (hv : Value.okWide P w .any base t v) :
    ∃ x, AVTn P N t x ∧ AR ⟨allK w, fun _ => none⟩ x v := by
  obtain ⟨fuel, h⟩ := h
  have h' := DataW.trod_le (m := max fuel 40) (by omega) h
  obtain ⟨cs, h1, h2⟩ := trod_pcs (max fuel 40) t _ d ps h' (flatB_le hf (by omega)) hN
  have hlen := PTn.length (flatB_le hf (by omega : 40 ≤ max fuel 40)) h2
  unfold Value.okWide at hv
  have hone : ∀ (v : Value), v.cells = #[v] → VRs (allK w) cs v.cells.toList → ∃ c, cs = [c] ∧ VR (allK w) c v := by
    intro v e hs
    rw [e] at hs
    obtain ⟨hl, hs⟩ := hs
    match cs, hl with
    | [c], _ => exact ⟨c, rfl, hs 0 c v rfl rfl⟩
  have hagg : ∀ us : Array Value, v = .agg us → AR ⟨allK w, fun _ => none⟩ (.agg (cs.map .c)) v := by
    rintro us rfl
    refine .agg _ _ (by simpa [Value.cells] using h1.1) fun i x u e1 e2 => ?_
    simp only [List.getElem?_map, Option.map_eq_some_iff] at e1
    obtain ⟨c, hc, rfl⟩ := e1
    exact .c _ _ (h1.2 i c u hc (by simpa [Value.cells] using e2))
  split at hv
  · rename_i fs hu
    obtain ⟨us, rfl, _⟩ := hv
    exact ⟨.agg (cs.map .c), ⟨_, cs, h2, by rw [hu]⟩, hagg us rfl⟩
  · rename_i n e hu
    exfalso
    rw [flatB] at hf
    simp [hu] at hf
  · rename_i hns _
    have hc : ∃ c, cs = [c] ∧ VR (allK w) c v := by
      refine hone v ?_ h1
      unfold Cell.okWide Cell.ok at hv
      cases v <;> first | rfl | skip
      exfalso
      split at hv <;> first | (rename_i h0; cases h0; done) | (rename_i h0 _; cases h0; done) | skip
      all_goals (split at hv <;> first | exact hv | (rename_i h0 _; cases h0; done) | (rename_i h0; cases h0; done) | (rename_i h0 _ _; cases h0; done) | contradiction)
    obtain ⟨c, rfl, hc⟩ := hc
    refine ⟨.c c, ⟨_, [c], h2, ?_⟩, .c _ _ hc⟩
    split
    · rename_i fs hu; exact absurd hu (hns fs)
    · exact ⟨c, rfl, rfl⟩

theorem law_calls {N : Nat} {f : FuncId} {C : Contract} (hS : SoundC P f C) {args : Array Value} {ts : List TypeId} {ds : List (DataW H)} {p : List MemPlace}
    (hA : DataW.TrodAll enc P w 0 (fun _ => true) true ts args.toList ds p) {base : Nat}
    (hval : ∀ (j : Nat) (t : TypeId) (v : Value), ts[j]? = some t → args[j]? = some v → Value.okWide P w .any base t v)
    (hflat : ∀ t ∈ ts, flatB P 40 t = true) (hN : maxLen ≤ N ∨ uptoBulkAll ds ≤ N)
    (hC : ∀ xs, AVTsn P N ts xs → C xs [] = some ⟨[.pv (.c (.bool true))], []⟩) :
    Calls P f args w fun e W' => e = .returned (.bool true) ∧ Below w.heap.size w W' := by
  have key : ∀ (ts : List TypeId) (vs : List Value) (ds : List (DataW H)) (p : List MemPlace), DataW.TrodAll enc P w 0 (fun _ => true) true ts vs ds p →
      (∀ (j : Nat) (t : TypeId) (v : Value), ts[j]? = some t → vs[j]? = some v → Value.okWide P w .any base t v) → (∀ t ∈ ts, flatB P 40 t = true) → (maxLen ≤ N ∨ uptoBulkAll ds ≤ N) →
      ∃ xs, AVTsn P N ts xs ∧ xs.length = vs.length ∧ ∀ (i : Nat) (x : AV) (v : Value), xs[i]? = some x → vs[i]? = some v → AR ⟨allK w, fun _ => none⟩ x v := by
    intro ts
    induction ts with
    | nil =>
      intro vs ds p hA _ _ _
      obtain ⟨rfl, rfl, rfl⟩ : vs = [] ∧ ds = [] ∧ p = [] := by
        cases vs <;> cases ds <;> simp_all [DataW.TrodAll]
      exact ⟨[], trivial, rfl, fun i x v h => by simp at h⟩
    | cons t ts ih =>
      intro vs ds p hA hval hflat hN
      obtain ⟨v, vs', d, ds', p', q, rfl, rfl, rfl, h, hs⟩ := trodAll_cons hA
      rw [uptoBulkAll] at hN
      obtain ⟨x, h1, h2⟩ := arg_av (N := N) h (hflat t (by simp)) (by rcases hN with h | h <;> omega) (hval 0 t v rfl rfl)
      obtain ⟨xs, h3, h4, h5⟩ := ih vs' ds' q hs (fun j t v e1 e2 => hval (j + 1) t v (by simpa using e1) (by simpa using e2)) (fun t ht => hflat t (by simp [ht])) (by rcases hN with h | h <;> omega)
      refine ⟨x :: xs, ⟨h1, h3⟩, by simp [h4], fun i x' v' e1 e2 => ?_⟩
      cases i with
      | zero => simp at e1 e2; subst e1; subst e2; exact h2
      | succ i => exact h5 i x' v' (by simpa using e1) (by simpa using e2)
  obtain ⟨xs, h1, h2, h3⟩ := key ts args.toList ds p hA (fun j t v e1 e2 => hval j t v e1 (by simpa using e2)) hflat hN
  have M : MRel (cEnv w (fun _ => False) (allK w)) ⟨allK w, fun _ => none⟩ (look (entryMem 0 [])) w := by
    refine ⟨fun b o v h => h, fun n => ?_, fun n n' h h' b e => (by cases e), rfl, rfl, rfl, Nat.le_refl _, Nat.le_refl _, fun _ _ _ => rfl, Know.le_refl _, fun _ _ _ _ => rfl⟩
    show HomeOK _ _ _ none none
    exact trivial
  have := (hS.2 xs [] _ (hC xs h1)).2 (fun _ => False) ⟨allK w, fun _ => none⟩ w args.toList M h2 h3
  refine Calls.mono (by simpa using this) ?_
  rintro e W' ⟨G', v, rfl, _, M', hv⟩
  have : v = .bool true := by
    cases hv with
    | c x v h => cases h; rfl
  subst this
  exact ⟨rfl, M'.os, M'.tape, M'.output, M'.size0, fun k hk => M'.blk k hk (fun h => h)⟩

theorem law_doneN {N : Nat} {s : ChangeSpec} {fn : Func} (hl : laidOutB P = true) {f : FuncId} {C : Contract} (hS : SoundC P f C) (hvars : s.vars = []) {ts : List TypeId} (hts : fn.params.toList = ts) {tb : TypeId} (hrt : fn.resultTypes.toList = [tb])
    (hb : P.underlying tb = some .bool) (hflat : ∀ t ∈ ts, flatB P 40 t = true) (hrec : ∀ t ∈ ts, P.readableRec t = true ∧ t < P.types.size)
    (hspec : ∀ ds : List (DataW H), ds.length = ts.length → s.fn H ds = { results := [.lit (.bool true)], args := ds })
    (hC : ∀ xs, AVTsn P N ts xs → C xs [] = some ⟨[.pv (.c (.bool true))], []⟩)
    {args : Array Value} {ds gs : List (DataW H)} {before : List MemPlace} {base : Nat}
    (hval : ∀ (j : Nat) (t : TypeId) (v : Value), fn.params[j]? = some t → args[j]? = some v → Value.okWide P w .any base t v)
    (hW : DataW.Whole enc P fn.params.toList s.vars false w args.toList ds gs before) (hN : maxLen ≤ N ∨ uptoBulkAll ds ≤ N) :
    Calls P f args w fun e W' => ∃ v, e = .returned v ∧ s.post enc P fn false true false false w args v W' := by
  have hW' := hW
  obtain ⟨p, q, hA, hV, rfl, hfz, hnd⟩ := hW
  rw [hvars] at hV
  obtain ⟨rfl, rfl⟩ := trodVars_none hV
  rw [hts] at hA
  have key : ∀ (ts : List TypeId) (vs : List Value) (ds : List (DataW H)) (p : List MemPlace), DataW.TrodAll enc P w 0 (fun _ => true) true ts vs ds p → ds.length = ts.length := by
    intro ts
    induction ts with
    | nil => intro vs ds p h; cases vs <;> cases ds <;> simp_all [DataW.TrodAll]
    | cons t ts ih =>
      intro vs ds p h
      obtain ⟨v, vs', d, ds', p', q, rfl, rfl, rfl, h, hs⟩ := trodAll_cons h
      simp [ih _ _ _ hs]
  have hlen := key _ _ _ _ hA
  refine (law_calls hS hA (fun j t v e1 e2 => hval j t v (by rw [← hts] at e1; simpa using e1) e2) hflat hN hC).mono ?_
  rintro e W' ⟨rfl, bel⟩
  refine ⟨_, rfl, ds, [], p ++ [], [], p, [], hW', ?_, ?_, ?_, bel.frame _, fun h => by cases h⟩
  · rw [List.append_nil, hspec ds hlen, hrt]
    have hsz : fn.resultTypes.size = 1 := by rw [← Array.length_toList, hrt]; rfl
    rw [hsz]
    exact trodAll_mk1 (shut_bool hb _)
  · rw [List.append_nil, hspec ds hlen, hts]
    have back : ∀ (ts : List TypeId) (vs : List Value) (ds : List (DataW H)) (p : List MemPlace), DataW.TrodAll enc P w 0 (fun _ => true) true ts vs ds p → (∀ t ∈ ts, P.readableRec t = true ∧ t < P.types.size) →
        DataW.TrodAll enc P W' 0 (fun b => decide (b < w.heap.size)) true ts vs ds p := by
      intro ts
      induction ts with
      | nil => intro vs ds p h _; cases vs <;> cases ds <;> simp_all [DataW.TrodAll]
      | cons t ts ih =>
        intro vs ds p h hr
        obtain ⟨v, vs', d, ds', p', q, rfl, rfl, rfl, h, hs⟩ := trodAll_cons h
        obtain ⟨r1, r2⟩ := hr t (by simp)
        refine trodAll_cons_mk (Below.trod hl r1 r2 h bel fun x hx => ?_) (ih _ _ _ hs fun t ht => hr t (by simp [ht]))
        obtain ⟨m, hm⟩ := h
        exact DataW.trod_lt m _ _ _ hm x hx
    exact back _ _ _ _ hA hrec
  · rw [hvars, List.append_nil, hspec ds hlen]
    rfl

end Go.Proofs.YtcfijanfcgnnhaaDoor.AM
