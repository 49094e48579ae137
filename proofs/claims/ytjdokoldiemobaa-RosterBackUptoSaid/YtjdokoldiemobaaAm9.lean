/-
  THE ABSTRACT MACHINE, part 9: every operation; regions in the order of the text.
-/
import Derived.Test.YtjdokoldiemobaaAm8
set_option linter.unusedVariables false
set_option linter.unusedSimpArgs false
namespace Go.Proofs.Ytjdokoldiemobaa.AM
open Go

section
variable {P : Program} {E : Env} {G : Gh} {s : AS} {a : Act} {w : World} {o : Oper} {next : Act → World → Prop} {Q : Exit → Act → World → Prop}

theorem sound_builtin (R : Rel E G s a w) {c : Call} {b : Builtin} (ho : o.op = .call c) (hc : c.callee = .builtin b) {d : Nat} {e : Eff} {l : List Nat} (h : (builtinE P d b c.argTypes (c.args.toList.map s.eval)).run s.mem = some (e, l)) (K : Post E G s o e a next) : o.wp P a w next Q := by
  have hx : ∀ (i : Nat) (x : AV) (u : Value), (c.args.toList.map s.eval)[i]? = some x → (c.args.map a.eval)[i]? = some u → AR G x u := by
    intro i x u e1 e2
    simp only [List.getElem?_map, Option.map_eq_some_iff] at e1
    obtain ⟨y, e1, rfl⟩ := e1
    have e2' : (c.args.toList.map a.eval)[i]? = some u := by rw [← Array.toList_map]; simpa using e2
    simp only [List.getElem?_map, e1, Option.map_some, Option.some.injEq] at e2'
    subst e2'
    exact R.eval y
  unfold builtinE at h
  split at h
  · rename_i x hargs
    split at h
    · rename_i t ht
      have ha : ∃ u, c.args.map a.eval = #[u] ∧ AR G x u := by
        have hl : c.args.size = 1 := by
          have := congrArg List.length hargs
          simpa using this
        refine ⟨a.eval (c.args[0]'(by omega)), ?_, hx 0 x _ (by rw [hargs]; rfl) (by simp [hl])⟩
        apply Array.ext
        · simp [hl]
        · intro i h1 h2
          have : i = 0 := by simp at h2; omega
          subst this; simp
      obtain ⟨u, hu, hxu⟩ := ha
      refine sound_len R hxu (ts := c.argTypes) (ty := o.type) ht ?_ h K
      intro r hr
      simp [execOp, ho, resolve, hc, hu, invoke, builtin, hr]
    · exact EP.fail_inv h
  · rename_i x y hargs
    split at h
    · rename_i st xt h1 h2
      have ha : ∃ u v, c.args.map a.eval = #[u, v] ∧ AR G x u ∧ AR G y v := by
        have hl : c.args.size = 2 := by
          have := congrArg List.length hargs
          simpa using this
        refine ⟨a.eval (c.args[0]'(by omega)), a.eval (c.args[1]'(by omega)), ?_, hx 0 x _ (by rw [hargs]; rfl) (by simp [hl]), hx 1 y _ (by rw [hargs]; rfl) (by simp [hl])⟩
        apply Array.ext
        · simp [hl]
        · intro i h1 h2
          simp at h2
          match i, h2 with
          | 0, _ => simp
          | 1, _ => simp
      obtain ⟨u, v, hu, hxu, hyv⟩ := ha
      refine sound_append R (ty := o.type) hxu hyv ?_ h K
      intro r w' hr
      have hts : Builtin.append_ c.argTypes o.type #[u, v] = Builtin.append_ #[st, xt] o.type #[u, v] := by
        simp [Builtin.append_, h1, h2]
      simp [execOp, ho, resolve, hc, hu, invoke, builtin, hts, hr]
    · exact EP.fail_inv h
  · obtain ⟨y, hy, rfl⟩ := okE_inv h
    refine sound_mm R true (us := c.args.map a.eval) (by simp) hx (ts := c.argTypes) (ty := o.type) ?_ hy K
    intro r hr
    simp at hr
    simp [execOp, ho, resolve, hc, invoke, builtin, hr]
  · obtain ⟨y, hy, rfl⟩ := okE_inv h
    refine sound_mm R false (us := c.args.map a.eval) (by simp) hx (ts := c.argTypes) (ty := o.type) ?_ hy K
    intro r hr
    simp at hr
    simp [execOp, ho, resolve, hc, invoke, builtin, hr]
  · exact EP.fail_inv h

theorem sound_makeMap (R : Rel E G s a w) {t : TypeId} (ho : o.op = .makeMap t none) {n : Nat} {ag : Bool} (hm : s.mem n = none) (K : Post E G s o ⟨.mp n, [(n, .mp ag [])]⟩ a next) : o.wp P a w next Q := by
  obtain ⟨h1, h2, h3⟩ := R.mem.newMap hm ag
  exact wp_value (v := .map (some w.heap.size)) (w' := { w with heap := w.heap.push (.map #[] 0) }) (by simp [execOp, ho, Instr.makeMap]) (K _ _ _ h1 h2 (h3.congr (AS.mem_wr1 s n _)))

theorem op_sound {Γ : FuncId → Contract} (hΓ : SoundG P Γ) (R : Rel E G s a w) {e : Eff} {l : List Nat} {F : List Nat} (h : (opE Γ P F o s.eval).run s.mem = some (e, l)) (K : Post E G s o e a next) : o.wp P a w next Q := by
  unfold opE at h
  split at h
  · rename_i x ho
    obtain ⟨rfl, _⟩ := EP.ret_inv h
    exact sound_move R (.inl ho) K
  · rename_i x ho
    obtain ⟨rfl, _⟩ := EP.ret_inv h
    exact sound_move R (.inr ho) K
  · rename_i c x y ho
    split at h
    · rename_i b hb
      refine sound_pick R ho hb ?_
      cases b <;> simp only [ifE_true, ifE_false] at h <;> obtain ⟨rfl, _⟩ := EP.ret_inv h <;> exact K
    · exact EP.fail_inv h
  · rename_i t ho
    split at h
    · split at h
      · rename_i cells hz
        exact sound_alloc R ho hz h K
      · exact EP.fail_inv h
    · exact EP.fail_inv h
  · rename_i t x ho
    split at h
    · split at h
      · rename_i cells hz
        exact sound_box R ho hz h K
      · exact EP.fail_inv h
    · exact EP.fail_inv h
  · rename_i t parts ho
    obtain ⟨y, hy, rfl⟩ := okE_inv h
    obtain ⟨cs, hcs, rfl⟩ := Option.map_eq_some_iff.1 hy
    exact sound_build R ho hcs K
  · rename_i t n parts ho
    split at h
    · rename_i el hel
      split at h
      · rename_i zero z hzero hz
        split at h
        · rename_i hc
          obtain ⟨_, c1, c2, c3⟩ := hc
          cases hbF : hasN F (o.dst.getD 0) with
          | true =>
            simp only [hbF, ifE_true] at h
            split at h
            · rename_i out h1
              exact sound_buildMsl R ho hel hzero hz c1 c2 c3 h1 h K
            · exact EP.fail_inv h
          | false =>
            simp only [hbF, ifE_false] at h
            split at h
            · rename_i cs hcs
              obtain ⟨out, h1, h2⟩ := Option.bind_eq_some_iff.1 hcs
              exact sound_buildSlice R ho hel hzero hz c1 c2 c3 h1 h2 h K
            · exact EP.fail_inv h
        · exact EP.fail_inv h
      · exact EP.fail_inv h
    · exact EP.fail_inv h
  · rename_i t x ho
    exact sound_load R ho h K
  · rename_i t x y ho
    exact sound_store R ho h K
  · rename_i x ho
    split at h
    · rename_i n off e1
      obtain ⟨rfl, _⟩ := EP.ret_inv h
      rw [← e1] at K
      exact sound_nilCheck R ho (.inl ⟨n, off, e1⟩) K
    · rename_i cs e1
      obtain ⟨rfl, _⟩ := EP.ret_inv h
      rw [← e1] at K
      exact sound_nilCheck R ho (.inr (.inl ⟨cs, e1⟩)) K
    · rename_i f caps e1
      obtain ⟨rfl, _⟩ := EP.ret_inv h
      rw [← e1] at K
      exact sound_nilCheck R ho (.inr (.inr ⟨f, caps, e1⟩)) K
    · exact EP.fail_inv h
  · rename_i op t x y t' ho
    obtain ⟨z, hz, rfl⟩ := okE_inv h
    exact sound_binOp R ho hz K
  · rename_i op t x ho
    obtain ⟨z, hz, rfl⟩ := okE_inv h
    exact sound_unOp R ho hz K
  · rename_i src dst x ho
    unfold convO at h
    split at h
    · rename_i r z rows e1
      split at h
      · rename_i hsd
        subst hsd
        split at h
        · rename_i el hel
          split at h
          · rename_i hc
            obtain ⟨l', h, _⟩ := EP.ask_inv h
            split at h
            · rename_i z' fr hm
              split at h
              · rename_i hc2
                obtain ⟨rfl, rfl⟩ := hc2
                obtain ⟨rfl, _⟩ := EP.ret_inv h
                exact sound_convSame R ho e1 hel hc.1 hc.2 hm K
              · exact EP.fail_inv h
            · exact EP.fail_inv h
          · exact EP.fail_inv h
        · exact EP.fail_inv h
      · obtain ⟨z, hz, rfl⟩ := okE_inv h
        rw [← e1] at hz
        exact sound_convert R ho hz K
    · obtain ⟨z, hz, rfl⟩ := okE_inv h
      exact sound_convert R ho hz K
  · rename_i f first captured ho
    split at h
    · rename_i hf
      subst hf
      obtain ⟨r, l1, l2, h1, h2, _⟩ := EP.bind_inv h
      obtain ⟨rfl, _⟩ := EP.ret_inv h2
      exact sound_makeFunc R ho h1 K
    · exact EP.fail_inv h
  · rename_i t ho
    split at h
    · rename_i ag hag
      split at h
      · obtain ⟨l', h, _⟩ := EP.ask_inv h
        split at h
        · rename_i hm
          obtain ⟨rfl, _⟩ := EP.ret_inv h
          exact sound_makeMap R ho hm K
        · exact EP.fail_inv h
      · exact EP.fail_inv h
    · exact EP.fail_inv h
  · rename_i t lo co ho
    split at h
    · rename_i el n m hel e1 e2
      split at h
      · rename_i zero z by_ hzero hz hby
        split at h
        · rename_i zs hzs
          split at h
          · rename_i hc
            obtain ⟨_, c1, c2, c3, c4, c5, c6⟩ := hc
            cases hbF : hasN F (o.dst.getD 0) with
            | true =>
              simp only [hbF, ifE_true] at h
              split at h
              · rename_i hnm
                exact sound_makeMsl R ho hel e1 e2 hzero hz hby hzs c1 c2 hnm c4 (by omega) (by rw [hnm]; exact c6) h K
              · exact EP.fail_inv h
            | false =>
              simp only [hbF, ifE_false] at h
              exact sound_makeSlice R ho hel e1 e2 hzero hz hby hzs c1 c2 c3 c4 c5 c6 h K
          · exact EP.fail_inv h
        · exact EP.fail_inv h
      · exact EP.fail_inv h
    · exact EP.fail_inv h
  · rename_i t x lo hi mx ho
    obtain ⟨z, hz, rfl⟩ := okE_inv h
    exact sound_slice R ho hz K
  · rename_i t x i ho
    split at h
    · rename_i off ft z hf
      split at h
      · exact EP.fail_inv h
      · rename_i hz
        split at h
        · rename_i n q e1
          obtain ⟨rfl, _⟩ := EP.ret_inv h
          exact sound_fieldAddr R ho hf hz (.inl ⟨n, q, e1, rfl⟩) K
        · rename_i cs e1
          obtain ⟨rfl, _⟩ := EP.ret_inv h
          exact sound_fieldAddr R ho hf hz (.inr ⟨cs, e1, rfl⟩) K
        · exact EP.fail_inv h
    · exact EP.fail_inv h
  · rename_i t x i ho
    split at h
    · rename_i off ft z cs hf e1
      split at h
      · rename_i hag
        split at h
        · rename_i hle
          obtain ⟨rfl, _⟩ := EP.ret_inv h
          exact sound_field R ho hf e1 (.inl ⟨hag, hle, rfl⟩) K
        · exact EP.fail_inv h
      · rename_i hag
        split at h
        · rename_i v hv
          obtain ⟨rfl, _⟩ := EP.ret_inv h
          exact sound_field R ho hf e1 (.inr ⟨hag, hv⟩) K
        · exact EP.fail_inv h
      · exact EP.fail_inv h
    · exact EP.fail_inv h
  · rename_i t x i ho
    obtain ⟨z, hz, rfl⟩ := okE_inv h
    exact sound_indexAddr R ho hz K
  · rename_i t x i ho
    split at h
    · rename_i str k j e1 e2
      split at h
      · rename_i hc
        obtain ⟨c1, c2⟩ := hc
        split at h
        · rename_i b hb
          obtain ⟨rfl, _⟩ := EP.ret_inv h
          exact sound_index R ho e1 e2 c1 c2 hb K
        · exact EP.fail_inv h
      · exact EP.fail_inv h
    · rename_i cs k j e1 e2
      split at h
      · rename_i n e ht
        split at h
        · rename_i z hz hag
          split at h
          · rename_i hc
            split at h
            · rename_i v hv
              obtain ⟨rfl, _⟩ := EP.ret_inv h
              exact sound_indexA R ho e1 e2 ht hz hc.1 hc.2 (.inr ⟨hag, hv⟩) K
            · exact EP.fail_inv h
          · exact EP.fail_inv h
        · rename_i z hz hag
          split at h
          · rename_i hc
            obtain ⟨rfl, _⟩ := EP.ret_inv h
            exact sound_indexA R ho e1 e2 ht hz hc.1 hc.2.1 (.inl ⟨hag, hc.2.2, rfl⟩) K
          · exact EP.fail_inv h
        · exact EP.fail_inv h
      · exact EP.fail_inv h
    · exact EP.fail_inv h
  · rename_i x i ho
    split at h
    · rename_i vs e1
      obtain ⟨z, hz, rfl⟩ := okE_inv h
      exact sound_extract R ho e1 hz K
    · exact EP.fail_inv h
  · rename_i c ho
    split at h
    · rename_i b hc
      split at h
      · exact sound_builtin R ho hc h K
      · exact EP.fail_inv h
    · rename_i f hc
      split at h
      · rename_i fn caps e1
        split at h
        · have hf := R.eval f
          rw [e1] at hf
          generalize hfv : a.eval f = fv at hf
          cases hf with
          | clo _ _ bs hl hk =>
          refine sound_call hΓ R (us := (c.args.map a.eval).toList ++ bs.map fun b => Value.pointer (some ⟨b.1, b.2, none⟩)) ?_ ?_ ?_ h K
          · simp [hl]
          · intro i x u e2 e3
            rcases Nat.lt_or_ge i c.args.size with hi | hi
            · rw [List.getElem?_append_left (by simpa using hi)] at e2 e3
              simp only [List.getElem?_map, Option.map_eq_some_iff] at e2
              obtain ⟨y, e2, rfl⟩ := e2
              rw [Array.toList_map] at e3
              simp only [List.getElem?_map, e2, Option.map_some, Option.some.injEq] at e3
              subst e3
              exact R.eval y
            · rw [List.getElem?_append_right (by simpa using hi)] at e2 e3
              simp only [List.length_map, Array.length_toList, Array.size_map] at e2 e3
              simp only [List.getElem?_map, Option.map_eq_some_iff] at e2 e3
              obtain ⟨cs, e2, rfl⟩ := e2
              obtain ⟨b, e3, rfl⟩ := e3
              exact .rptr cs b.1 b.2 (hk _ cs b e2 e3)
          · rintro ⟨fn', hf1, hf2, hf3⟩
            have hb : ¬ fn'.body = none := by intro e; rw [e] at hf3; cases hf3
            have hn : ¬ fn'.name = "runtime.NumGoroutine" := by simpa using hf2
            have harr : ((c.args.map a.eval).toList ++ bs.map fun b => Value.pointer (some ⟨b.1, b.2, none⟩)).toArray = c.args.map a.eval ++ (bs.map fun b => Value.pointer (some ⟨b.1, b.2, none⟩)).toArray := by
              rw [← List.append_toArray, Array.toArray_toList]
            rw [harr]
            simp [execOp, ho, resolve, hc, hfv, Deferred.ofValue, invoke, callFunc, hf1, hn, hb]
        · exact EP.fail_inv h
      · exact EP.fail_inv h
    · exact EP.fail_inv h
  · exact EP.fail_inv h


/-! regions -/
theorem AS.get_put (s : AS) (d : Option Tmp) (x : AV) (i : Nat) : (s.put d x).get i = if d = some i then x else s.get i := by
  cases d with
  | none => simp [AS.put]
  | some j =>
    simp only [AS.put, AS.get, look]
    by_cases h : j = i
    · subst h; simp
    · have : ¬ (some j = some i) := fun e => h (by cases e; rfl)
      rw [if_neg h, if_neg this]

theorem Rel.put {G' : Gh} {w' : World} (R : Rel E G s a w) (hle : G.le G') {m : List (Nat × MC)} {x : AV} {v : Value} {d : Option Tmp} (hd : ∀ i, d = some i → i < E.N.n) (hx : AR G' x v) (hm : MRel E G' (s.wr m).mem w') :
    Rel E G' ((s.wr m).put d x) (a.put d v) w' where
  size := by cases d <;> simp [Act.put, R.size]
  defs := by cases d <;> simp [Act.put, R.defs]
  tmps i := by
    rw [AS.get_put]
    split
    · rename_i e
      subst e
      have hi := hd i rfl
      have : (a.put (some i) v).tmps.getD i Go.undef = v := by
        simp [Act.put, R.size, hi]
      rw [this]; exact hx
    · rename_i e
      have : (a.put d v).tmps.getD i Go.undef = a.tmps.getD i Go.undef := by
        cases d with
        | none => rfl
        | some j =>
          have hne : j ≠ i := fun h => e (by rw [h])
          simp [Act.put, Array.getElem?_setIfInBounds_ne hne]
      rw [this]
      exact (R.tmps i).mono hle
  mem := by
    have : ((s.wr m).put d x).mem = (s.wr m).mem := by cases d <;> rfl
    rw [this]; exact hm
  ent n hn := by
    obtain ⟨h, h', e1, e2, l⟩ := R.ent n hn
    obtain ⟨h2, e3, l2⟩ := hle.h n h' e2
    exact ⟨h, h2, e1, e3, Home.le_trans l l2⟩

theorem wr_nil_mem (s : AS) : (s.wr []).mem = s.mem := rfl

theorem guard_spec {ops : Array Oper} (R : Rel E G s a w) {b : Bool} (h : guardE ops o s = some b) : Region.wanted o (yielded ops a.tmps) = b := by
  unfold guardE at h
  unfold Region.wanted
  split at h
  · rename_i hg; cases h; rw [hg]
  · rename_i j want hg
    rw [hg]
    cases hd : (ops[j]?).bind (·.dst) with
    | none => rw [hd] at h; cases h
    | some d =>
      rw [hd] at h
      simp only [Option.map_some] at h
      split at h
      · rename_i c hc
        cases h
        simp only [Option.some.injEq] at hc
        have h1 := R.tmps d
        rw [hc] at h1
        have h2 := h1.bool_inv
        have : yielded ops a.tmps j = some c := by
          unfold yielded
          rw [hd]
          simp only [Option.bind_some]
          cases hq : a.tmps[d]? with
          | none =>
            have e : a.tmps.getD d Go.undef = Go.undef := by simp [hq]
            rw [e] at h2
            cases h2
          | some v =>
            have : a.tmps.getD d Go.undef = v := by simp [hq]
            rw [this] at h2
            rw [h2]
        simp [this]
      · rename_i hc
        cases h
        simp only [Option.some.injEq] at hc
        have h1 := R.tmps d
        rw [hc] at h1
        have h2 : a.tmps.getD d Go.undef = Go.undef := by
          generalize a.tmps.getD d Go.undef = v at h1
          cases h1 with
          | tup _ us hl _ =>
            have : us = #[] := Array.eq_empty_of_size_eq_zero hl.symm
            rw [this]; rfl
        have : yielded ops a.tmps j = none := by
          unfold yielded
          rw [hd]
          simp only [Option.bind_some]
          cases hq : a.tmps[d]? with
          | none => rfl
          | some v =>
            have : a.tmps.getD d Go.undef = v := by simp [hq]
            rw [this] at h2
            rw [h2]
            rfl
        simp [this]
      · cases h

theorem wpIn_of_wp (ro : Option Nat) {n : Nat} {o : Oper} {a : Act} {w : World} {K : Act → World → Prop} {Q : Exit → Act → World → Prop} (hd : ∀ c, o.op ≠ .defer c) (h : o.wp P a w K Q) : o.wpIn (rF ro) n P a w K Q := by
  refine ⟨fun _ _ => trivial, ?_⟩
  rw [Oper.semAt_eq _ _ _ hd]
  unfold Oper.wp at h
  generalize (execOp a.eval o).run P w = r at h
  cases r with
  | ok x w' =>
    cases x with
    | enter f args =>
      refine ⟨fun h => (by simp [rF, Fence.wide] at h), ?_⟩
      exact callsIn_wide.2 h
    | row r args =>
      refine ⟨fun h => (by simp [rF, Fence.wide] at h), fun c cs _ => ?_⟩
      obtain ⟨v, w2, h1, h2⟩ := h c cs
      exact ⟨v, w2, h1, stepsIn_wide.2 h2⟩
    | round => exact h.elim
    | _ => exact h
  | halt x w' => cases x <;> exact h

/-- One operation comes up. -/
theorem step_sound {Γ : FuncId → Contract} (hΓ : SoundG P Γ) {ops : Array Oper} (R : Rel E G s a w) {s' : AS} {fp : FP} (h : aStep Γ P E.N ops o s = some (s', fp)) {K : Act → World → Prop}
    (k : ∀ G' a' w', G.le G' → Rel E G' s' a' w' → K a' w') :
    if Region.wanted o (yielded ops a.tmps) then o.wpIn (rF E.ro) 0 P a w K Q else (∀ f, o.about P w a.eval = some f → (rF E.ro).fn f) ∧ K (a.put o.dst Go.undef) w := by
  unfold aStep at h
  split at h
  · rename_i hd
    have hd' : ∀ i, o.dst = some i → i < E.N.n := by
      intro i hi
      unfold dstOK at hd
      rw [hi] at hd
      simpa using hd
    split at h
    · rename_i b hb
      rw [guard_spec R hb]
      cases b with
      | true =>
        simp only [ifE_true] at h
        split at h
        · rename_i e rd hrun
          cases h
          refine wpIn_of_wp E.ro (fun c hc => ?_) (op_sound hΓ R hrun fun G' v w' h1 h2 h3 => k G' _ _ h1 (R.put h1 hd' h2 h3))
          simp [opE, hc, EP.run] at hrun
        · cases h
      | false =>
        simp only [ifE_false, Option.some.injEq, Prod.mk.injEq] at h
        obtain ⟨rfl, rfl⟩ := h
        exact ⟨fun _ _ => trivial, k G _ _ (Gh.le_refl G) (R.put (m := []) (Gh.le_refl G) hd' (.tup [] #[] rfl (fun i x u h => by simp at h)) R.mem)⟩
    · cases h
  · cases h

/-- The operations of a region, one behind the other, and what each has read and written. -/
def aOps (Γ : FuncId → Contract) (P : Program) (N : Lim) (ops : Array Oper) : List Oper → AS → Option (AS × List FP)
  | [], s => some (s, [])
  | o :: rest, s => match aStep Γ P N ops o s with
    | some (s', fp) => match aOps Γ P N ops rest s' with
      | some (s'', fps) => some (s'', fp :: fps)
      | none => none
    | none => none

theorem wpList_sound {Γ : FuncId → Contract} (hΓ : SoundG P Γ) {ops : Array Oper} : ∀ (l : List Oper) {s s' : AS} {fps : List FP} {G : Gh} {a : Act} {w : World}, Rel E G s a w → aOps Γ P E.N ops l s = some (s', fps) →
    (∀ G' a' w', G.le G' → Rel E G' s' a' w' → Q .normal a' w') → wpListIn (rF E.ro) 0 P ops Q l a w
  | [], s, s', fps, G, a, w, R, h, k => by
    simp only [aOps, Option.some.injEq, Prod.mk.injEq] at h
    obtain ⟨rfl, rfl⟩ := h
    exact k G a w (Gh.le_refl G) R
  | o :: rest, s, s', fps, G, a, w, R, h, k => by
    simp only [aOps] at h
    split at h
    · rename_i s1 fp h1
      split at h
      · rename_i s2 fps' h2
        cases h
        unfold wpListIn
        exact step_sound hΓ R h1 fun G' a' w' hle R' => wpList_sound hΓ rest R' h2 fun G2 a2 w2 hle2 R2 => k G2 a2 w2 (Gh.le_trans hle hle2) R2
      · cases h
    · cases h

theorem region_sound {Γ : FuncId → Contract} (hΓ : SoundG P Γ) {ops : Array Oper} {id : Nat} (R : Rel E G s a w) {s' : AS} {fps : List FP} (h : aOps Γ P E.N ops ops.toList s = some (s', fps))
    (k : ∀ G' a' w', G.le G' → Rel E G' s' a' w' → Q .normal a' w') : (Code.region id ops false).wpIn (rF E.ro) 0 P Q a w :=
  wpIn_region_list (wpList_sound hΓ ops.toList R h k)

end
end Go.Proofs.Ytjdokoldiemobaa.AM
