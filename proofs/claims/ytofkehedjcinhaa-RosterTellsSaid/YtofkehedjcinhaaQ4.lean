/-
  Q4: Am9 AmA AmB.
-/
import Derived.Test.YtofkehedjcinhaaQ3
import Derived.MapKept
set_option linter.unusedVariables false
set_option linter.unusedSimpArgs false
namespace Go.Proofs.Ytofkehedjcinhaa.AM
open Go

section
variable {P : Program} {E : Env} {G : Gh} {s : AS} {a : Act} {w : World} {o : Oper} {next : Act → World → Prop} {Q : Exit → Act → World → Prop}

theorem sound_builtin (R : Rel E G s a w) {c : Call} {b : Builtin} (ho : o.op = .call c) (hc : c.callee = .builtin b) {d : Nat} {e : Eff} {l : List Nat} (h : (builtinE P d b c.argTypes (c.args.toList.map s.eval)).run s.mem = some (e, l)) (K : Post E G s o e a next) : o.wp P a w next Q := by
  have hx : ∀ (i : Nat) (x : AV) (u : Value), (c.args.toList.map s.eval)[i]? = some x → (c.args.map a.eval)[i]? = some u → AR G x u := by
    intro i x u e1 e2
    simp only [List.getElem?_map, Option.map_eq_some_iff] at e1
    obtain ⟨y, e1, rfl⟩ := e1
    have e2' : (c.args.toList.map a.eval)[i]? = some u := by rw [← Array.toList_map]; simpa using e2
    simp only [List.getElem?_map, e1, Option.map_some, Option.some.injEq] at e2'
    subst e2'
    exact R.eval y
  unfold builtinE at h
  split at h
  · rename_i x hargs
    split at h
    · rename_i t ht
      have ha : ∃ u, c.args.map a.eval = #[u] ∧ AR G x u := by
        have hl : c.args.size = 1 := by
          have := congrArg List.length hargs
          simpa using this
        refine ⟨a.eval (c.args[0]'(by omega)), ?_, hx 0 x _ (by rw [hargs]; rfl) (by simp [hl])⟩
        apply Array.ext
        · simp [hl]
        · intro i h1 h2
          have : i = 0 := by simp at h2; omega
          subst this; simp
      obtain ⟨u, hu, hxu⟩ := ha
      refine sound_len R hxu (ts := c.argTypes) (ty := o.type) ht ?_ h K
      intro r hr
      simp [execOp, ho, resolve, hc, hu, invoke, builtin, hr]
    · exact EP.fail_inv h
  · rename_i x y hargs
    split at h
    · rename_i st xt h1 h2
      have ha : ∃ u v, c.args.map a.eval = #[u, v] ∧ AR G x u ∧ AR G y v := by
        have hl : c.args.size = 2 := by
          have := congrArg List.length hargs
          simpa using this
        refine ⟨a.eval (c.args[0]'(by omega)), a.eval (c.args[1]'(by omega)), ?_, hx 0 x _ (by rw [hargs]; rfl) (by simp [hl]), hx 1 y _ (by rw [hargs]; rfl) (by simp [hl])⟩
        apply Array.ext
        · simp [hl]
        · intro i h1 h2
          simp at h2
          match i, h2 with
          | 0, _ => simp
          | 1, _ => simp
      obtain ⟨u, v, hu, hxu, hyv⟩ := ha
      refine sound_append R (ty := o.type) hxu hyv ?_ h K
      intro r w' hr
      have hts : Builtin.append_ c.argTypes o.type #[u, v] = Builtin.append_ #[st, xt] o.type #[u, v] := by
        simp [Builtin.append_, h1, h2]
      simp [execOp, ho, resolve, hc, hu, invoke, builtin, hts, hr]
    · exact EP.fail_inv h
  · obtain ⟨y, hy, rfl⟩ := okE_inv h
    refine sound_mm R true (us := c.args.map a.eval) (by simp) hx (ts := c.argTypes) (ty := o.type) ?_ hy K
    intro r hr
    simp at hr
    simp [execOp, ho, resolve, hc, invoke, builtin, hr]
  · obtain ⟨y, hy, rfl⟩ := okE_inv h
    refine sound_mm R false (us := c.args.map a.eval) (by simp) hx (ts := c.argTypes) (ty := o.type) ?_ hy K
    intro r hr
    simp at hr
    simp [execOp, ho, resolve, hc, invoke, builtin, hr]
  · exact EP.fail_inv h

theorem sound_makeMap (R : Rel E G s a w) {t : TypeId} (ho : o.op = .makeMap t none) {n : Nat} {ag : Bool} (hm : s.mem n = none) (K : Post E G s o ⟨.mp n, [(n, .mp ag [])]⟩ a next) : o.wp P a w next Q := by
  obtain ⟨h1, h2, h3⟩ := R.mem.newMap hm ag
  exact wp_value (v := .map (some w.heap.size)) (w' := { w with heap := w.heap.push (.map #[] 0) }) (by simp [execOp, ho, Instr.makeMap]) (K _ _ _ h1 h2 (h3.congr (AS.mem_wr1 s n _)))

theorem sound_lookup (R : Rel E G s a w) {t : TypeId} {x k : Operand} {ok : Bool} (ho : o.op = .lookup t x k ok) {e : Eff} {l : List Nat} (h : (okM (lookupE P t (s.eval x) (s.eval k) ok)).run s.mem = some (e, l)) (K : Post E G s o e a next) : o.wp P a w next Q := by
  obtain ⟨y, l', h', rfl⟩ := okM_inv h
  exact EP.fail_inv h'

theorem keyI_inv {x : AV} {k : Int} (h : keyI x = some k) : x = .c (.int .i64 k) := by
  unfold keyI at h
  split at h
  · cases h; rfl
  · cases h
theorem sound_mapSet (R : Rel E G s a w) {t : TypeId} {m k x : Operand} (ho : o.op = .mapUpdate t m k x) {e : Eff} {l : List Nat} (h : (mapSetE P t (s.eval m) (s.eval k) (s.eval x)).run s.mem = some (e, l)) (K : Post E G s o e a next) : o.wp P a w next Q := by
  have hm := R.eval m
  have hk := R.eval k
  unfold mapSetE at h
  split at h
  · rename_i kt el key n hmt hkey ex
    rw [keyI_inv hkey] at hk
    have hk' : a.eval k = .int .i64 key := by
      generalize a.eval k = v at hk
      cases hk with
      | c _ _ h => cases h; rfl
    have hmt := tyMap_run hmt
    rw [ex] at hm
    cases hm' : a.eval m with
    | map b => ?_
    | _ => rw [hm'] at hm; cases hm
    rw [hm'] at hm
    cases hm with
    | mp _ b hb =>
    split at h
    · rename_i hc
      have hint : P.underlying kt = some (.int .i64) := by
        unfold tyI64 at hc
        split at hc
        · assumption
        · cases hc
      obtain ⟨l2, h, _⟩ := EP.ask_inv h
      split at h
      · rename_i ag es hmem
        obtain ⟨rfl, _⟩ := EP.ret_inv h
        have h0 := R.mem.home n
        rw [hmem, hb] at h0
        obtain ⟨ms, cl, a1, hks, a4⟩ := h0
        have hobj : (getObj b).run P w = .ok (.map ms cl) w := MapKept.run_getObj_map a1
        have hlt := heap_some_lt a1
        have hset : ∀ ob : Obj, (setObj b ob).run P w = .ok () (World.setBlock w b ob) := fun ob => MapKept.run_setObj_map ob a1
        have hkk : MapKept.IsKey (.int .i64) (.int .i64 key) := rfl
        have hck : (Instr.checkKey false 10000 kt (.int .i64 key)).run P w = .ok () w := MapKept.run_checkKey hint hkk false 9999
        rcases MapKept.findNow_spec hkk ms.toList 0 hks with ⟨h1, h2⟩ | ⟨j, en, h1, h2, h3⟩
        · have hf := MapKept.run_findKey (P := P) (w := w) hint h1
          refine wp_unit (w' := World.setBlock w b (.map (ms.push ⟨.int .i64 key, a.eval x, cl⟩) (cl + 1))) ?_ ?_
          · simp [execOp, ho, hm', hk', Instr.mapUpdate, run_underlying hmt, hck, hf, hobj, hset]
          · refine K G _ _ (Gh.le_refl G) (.undef _) ((R.mem.setMap hmem hb ?_).congr (AS.mem_wr1 s n _))
            intro y hy
            simp only [Array.toList_push, List.mem_append, List.mem_singleton] at hy
            rcases hy with hy | rfl
            · exact hks y hy
            · exact hkk
        · have hf := MapKept.run_findKey (P := P) (w := w) hint h1
          have hj : ms[j]? = some en := by simpa using h2
          have hstay : (Instr.keyThatStays (.int .i64 key) (.int .i64 key)).run P w = .ok (.int .i64 key) w := MapKept.run_keyThatStays hkk
          refine wp_unit (w' := World.setBlock w b (.map (ms.modify j fun e => { e with key := .int .i64 key, val := a.eval x }) cl)) ?_ ?_
          · simp [execOp, ho, hm', hk', Instr.mapUpdate, run_underlying hmt, hck, hf, hobj, hset, hj, h3, hstay]
          · refine K G _ _ (Gh.le_refl G) (.undef _) ((R.mem.setMap hmem hb ?_).congr (AS.mem_wr1 s n _))
            exact MapKept.isKey_modify hks _ _ (fun e' he' => by rw [hj] at he'; cases he'; exact h3.symm)
      · exact EP.fail_inv h
    · exact EP.fail_inv h
  · exact EP.fail_inv h

theorem op_sound {Γ : FuncId → Contract} (hΓ : SoundG P Γ) (R : Rel E G s a w) {e : Eff} {l : List Nat} {F : List Nat} (h : (opE Γ P F o s.eval).run s.mem = some (e, l)) (K : Post E G s o e a next) : o.wp P a w next Q := by
  unfold opE at h
  split at h
  · rename_i x ho
    obtain ⟨rfl, _⟩ := EP.ret_inv h
    exact sound_move R (.inl ho) K
  · rename_i x ho
    obtain ⟨rfl, _⟩ := EP.ret_inv h
    exact sound_move R (.inr ho) K
  · rename_i c x y ho
    split at h
    · rename_i b hb
      refine sound_pick R ho hb ?_
      cases b <;> simp only [ifE_true, ifE_false] at h <;> obtain ⟨rfl, _⟩ := EP.ret_inv h <;> exact K
    · exact EP.fail_inv h
  · rename_i t ho
    split at h
    · split at h
      · rename_i cells hz
        exact sound_alloc R ho hz h K
      · exact EP.fail_inv h
    · exact EP.fail_inv h
  · rename_i t x ho
    split at h
    · split at h
      · rename_i cells hz
        exact sound_box R ho hz h K
      · exact EP.fail_inv h
    · exact EP.fail_inv h
  · rename_i t parts ho
    obtain ⟨y, hy, rfl⟩ := okE_inv h
    obtain ⟨cs, hcs, rfl⟩ := Option.map_eq_some_iff.1 hy
    exact sound_build R ho hcs K
  · rename_i t n parts ho
    split at h
    · rename_i el hel
      split at h
      · rename_i zero z hzero hz
        split at h
        · rename_i hc
          obtain ⟨_, c1, c2, c3⟩ := hc
          cases hbF : hasN F (o.dst.getD 0) with
          | true =>
            simp only [hbF, ifE_true] at h
            split at h
            · rename_i out h1
              exact sound_buildMsl R ho hel hzero hz c1 c2 c3 h1 h K
            · exact EP.fail_inv h
          | false =>
            simp only [hbF, ifE_false] at h
            split at h
            · rename_i cs hcs
              obtain ⟨out, h1, h2⟩ := Option.bind_eq_some_iff.1 hcs
              exact sound_buildSlice R ho hel hzero hz c1 c2 c3 h1 h2 h K
            · exact EP.fail_inv h
        · exact EP.fail_inv h
      · exact EP.fail_inv h
    · exact EP.fail_inv h
  · rename_i t x ho
    exact sound_load R ho h K
  · rename_i t x y ho
    exact sound_store R ho h K
  · rename_i x ho
    split at h
    · rename_i n off e1
      obtain ⟨rfl, _⟩ := EP.ret_inv h
      rw [← e1] at K
      exact sound_nilCheck R ho (.inl ⟨n, off, e1⟩) K
    · rename_i cs e1
      obtain ⟨rfl, _⟩ := EP.ret_inv h
      rw [← e1] at K
      exact sound_nilCheck R ho (.inr (.inl ⟨cs, e1⟩)) K
    · rename_i f caps e1
      obtain ⟨rfl, _⟩ := EP.ret_inv h
      rw [← e1] at K
      exact sound_nilCheck R ho (.inr (.inr ⟨f, caps, e1⟩)) K
    · exact EP.fail_inv h
  · rename_i op t x y t' ho
    obtain ⟨z, hz, rfl⟩ := okE_inv h
    exact sound_binOp R ho hz K
  · rename_i op t x ho
    obtain ⟨z, hz, rfl⟩ := okE_inv h
    exact sound_unOp R ho hz K
  · rename_i src dst x ho
    unfold convO at h
    split at h
    · rename_i r z rows e1
      split at h
      · rename_i hsd
        subst hsd
        split at h
        · rename_i el hel
          split at h
          · rename_i hc
            obtain ⟨l', h, _⟩ := EP.ask_inv h
            split at h
            · rename_i z' fr hm
              split at h
              · rename_i hc2
                obtain ⟨rfl, rfl⟩ := hc2
                obtain ⟨rfl, _⟩ := EP.ret_inv h
                exact sound_convSame R ho e1 hel hc.1 hc.2 hm K
              · exact EP.fail_inv h
            · exact EP.fail_inv h
          · exact EP.fail_inv h
        · exact EP.fail_inv h
      · obtain ⟨z, hz, rfl⟩ := okE_inv h
        rw [← e1] at hz
        exact sound_convert R ho hz K
    · obtain ⟨z, hz, rfl⟩ := okE_inv h
      exact sound_convert R ho hz K
  · rename_i f first captured ho
    split at h
    · rename_i hf
      subst hf
      obtain ⟨r, l1, l2, h1, h2, _⟩ := EP.bind_inv h
      obtain ⟨rfl, _⟩ := EP.ret_inv h2
      exact sound_makeFunc R ho h1 K
    · exact EP.fail_inv h
  · rename_i t ho
    split at h
    · rename_i ag hag
      split at h
      · obtain ⟨l', h, _⟩ := EP.ask_inv h
        split at h
        · rename_i hm
          obtain ⟨rfl, _⟩ := EP.ret_inv h
          exact sound_makeMap R ho hm K
        · exact EP.fail_inv h
      · exact EP.fail_inv h
    · exact EP.fail_inv h
  · rename_i t lo co ho
    split at h
    · rename_i el n m hel e1 e2
      split at h
      · rename_i zero z by_ hzero hz hby
        split at h
        · rename_i zs hzs
          split at h
          · rename_i hc
            obtain ⟨_, c1, c2, c3, c4, c5, c6⟩ := hc
            cases hbF : hasN F (o.dst.getD 0) with
            | true =>
              simp only [hbF, ifE_true] at h
              split at h
              · rename_i hnm
                exact sound_makeMsl R ho hel e1 e2 hzero hz hby hzs c1 c2 hnm c4 (by omega) (by rw [hnm]; exact c6) h K
              · exact EP.fail_inv h
            | false =>
              simp only [hbF, ifE_false] at h
              exact sound_makeSlice R ho hel e1 e2 hzero hz hby hzs c1 c2 c3 c4 c5 c6 h K
          · exact EP.fail_inv h
        · exact EP.fail_inv h
      · exact EP.fail_inv h
    · exact EP.fail_inv h
  · rename_i t x lo hi mx ho
    obtain ⟨z, hz, rfl⟩ := okE_inv h
    exact sound_slice R ho hz K
  · rename_i t x i ho
    split at h
    · rename_i off ft z hf
      split at h
      · exact EP.fail_inv h
      · rename_i hz
        split at h
        · rename_i n q e1
          obtain ⟨rfl, _⟩ := EP.ret_inv h
          exact sound_fieldAddr R ho hf hz (.inl ⟨n, q, e1, rfl⟩) K
        · rename_i cs e1
          obtain ⟨rfl, _⟩ := EP.ret_inv h
          exact sound_fieldAddr R ho hf hz (.inr ⟨cs, e1, rfl⟩) K
        · exact EP.fail_inv h
    · exact EP.fail_inv h
  · rename_i t x i ho
    split at h
    · rename_i off ft z cs hf e1
      split at h
      · rename_i hag
        split at h
        · rename_i hle
          obtain ⟨rfl, _⟩ := EP.ret_inv h
          exact sound_field R ho hf e1 (.inl ⟨hag, hle, rfl⟩) K
        · exact EP.fail_inv h
      · rename_i hag
        split at h
        · rename_i v hv
          obtain ⟨rfl, _⟩ := EP.ret_inv h
          exact sound_field R ho hf e1 (.inr ⟨hag, hv⟩) K
        · exact EP.fail_inv h
      · exact EP.fail_inv h
    · exact EP.fail_inv h
  · rename_i t x i ho
    obtain ⟨z, hz, rfl⟩ := okE_inv h
    exact sound_indexAddr R ho hz K
  · rename_i t x i ho
    split at h
    · rename_i str k j e1 e2
      split at h
      · rename_i hc
        obtain ⟨c1, c2⟩ := hc
        split at h
        · rename_i b hb
          obtain ⟨rfl, _⟩ := EP.ret_inv h
          exact sound_index R ho e1 e2 c1 c2 hb K
        · exact EP.fail_inv h
      · exact EP.fail_inv h
    · rename_i cs k j e1 e2
      split at h
      · rename_i n e ht
        split at h
        · rename_i z hz hag
          split at h
          · rename_i hc
            split at h
            · rename_i v hv
              obtain ⟨rfl, _⟩ := EP.ret_inv h
              exact sound_indexA R ho e1 e2 ht hz hc.1 hc.2 (.inr ⟨hag, hv⟩) K
            · exact EP.fail_inv h
          · exact EP.fail_inv h
        · rename_i z hz hag
          split at h
          · rename_i hc
            obtain ⟨rfl, _⟩ := EP.ret_inv h
            exact sound_indexA R ho e1 e2 ht hz hc.1 hc.2.1 (.inl ⟨hag, hc.2.2, rfl⟩) K
          · exact EP.fail_inv h
        · exact EP.fail_inv h
      · exact EP.fail_inv h
    · exact EP.fail_inv h
  · rename_i x i ho
    split at h
    · rename_i vs e1
      obtain ⟨z, hz, rfl⟩ := okE_inv h
      exact sound_extract R ho e1 hz K
    · exact EP.fail_inv h
  · rename_i c ho
    split at h
    · rename_i b hc
      split at h
      · exact sound_builtin R ho hc h K
      · exact EP.fail_inv h
    · rename_i f hc
      split at h
      · rename_i fn caps e1
        split at h
        · have hf := R.eval f
          rw [e1] at hf
          generalize hfv : a.eval f = fv at hf
          cases hf with
          | clo _ _ bs hl hk =>
          refine sound_call hΓ R (us := (c.args.map a.eval).toList ++ bs.map fun b => Value.pointer (some ⟨b.1, b.2, none⟩)) ?_ ?_ ?_ h K
          · simp [hl]
          · intro i x u e2 e3
            rcases Nat.lt_or_ge i c.args.size with hi | hi
            · rw [List.getElem?_append_left (by simpa using hi)] at e2 e3
              simp only [List.getElem?_map, Option.map_eq_some_iff] at e2
              obtain ⟨y, e2, rfl⟩ := e2
              rw [Array.toList_map] at e3
              simp only [List.getElem?_map, e2, Option.map_some, Option.some.injEq] at e3
              subst e3
              exact R.eval y
            · rw [List.getElem?_append_right (by simpa using hi)] at e2 e3
              simp only [List.length_map, Array.length_toList, Array.size_map] at e2 e3
              simp only [List.getElem?_map, Option.map_eq_some_iff] at e2 e3
              obtain ⟨cs, e2, rfl⟩ := e2
              obtain ⟨b, e3, rfl⟩ := e3
              exact .rptr cs b.1 b.2 (hk _ cs b e2 e3)
          · rintro ⟨fn', hf1, hf2, hf3⟩
            have hb : ¬ fn'.body = none := by intro e; rw [e] at hf3; cases hf3
            have hn : ¬ fn'.name = "runtime.NumGoroutine" := by simpa using hf2
            have harr : ((c.args.map a.eval).toList ++ bs.map fun b => Value.pointer (some ⟨b.1, b.2, none⟩)).toArray = c.args.map a.eval ++ (bs.map fun b => Value.pointer (some ⟨b.1, b.2, none⟩)).toArray := by
              rw [← List.append_toArray, Array.toArray_toList]
            rw [harr]
            simp [execOp, ho, resolve, hc, hfv, Deferred.ofValue, invoke, callFunc, hf1, hn, hb]
        · exact EP.fail_inv h
      · exact EP.fail_inv h
    · exact EP.fail_inv h
  · rename_i t x k ok ho
    exact sound_lookup R ho h K
  · rename_i t m k x ho
    exact sound_mapSet R ho h K
  · exact EP.fail_inv h


theorem AS.get_put (s : AS) (d : Option Tmp) (x : AV) (i : Nat) : (s.put d x).get i = if d = some i then x else s.get i := by
  cases d with
  | none => simp [AS.put]
  | some j =>
    simp only [AS.put, AS.get, look]
    by_cases h : j = i
    · subst h; simp
    · have : ¬ (some j = some i) := fun e => h (by cases e; rfl)
      rw [if_neg h, if_neg this]

theorem Rel.put {G' : Gh} {w' : World} (R : Rel E G s a w) (hle : G.le G') {m : List (Nat × MC)} {x : AV} {v : Value} {d : Option Tmp} (hd : ∀ i, d = some i → i < E.N.n) (hx : AR G' x v) (hm : MRel E G' (s.wr m).mem w') :
    Rel E G' ((s.wr m).put d x) (a.put d v) w' where
  size := by cases d <;> simp [Act.put, R.size]
  defs := by cases d <;> simp [Act.put, R.defs]
  tmps i := by
    rw [AS.get_put]
    split
    · rename_i e
      subst e
      have hi := hd i rfl
      have : (a.put (some i) v).tmps.getD i Go.undef = v := by
        simp [Act.put, R.size, hi]
      rw [this]; exact hx
    · rename_i e
      have : (a.put d v).tmps.getD i Go.undef = a.tmps.getD i Go.undef := by
        cases d with
        | none => rfl
        | some j =>
          have hne : j ≠ i := fun h => e (by rw [h])
          simp [Act.put, Array.getElem?_setIfInBounds_ne hne]
      rw [this]
      exact (R.tmps i).mono hle
  mem := by
    have : ((s.wr m).put d x).mem = (s.wr m).mem := by cases d <;> rfl
    rw [this]; exact hm
  ent n hn := by
    obtain ⟨h, h', e1, e2, l⟩ := R.ent n hn
    obtain ⟨h2, e3, l2⟩ := hle.h n h' e2
    exact ⟨h, h2, e1, e3, Home.le_trans l l2⟩

theorem guard_spec {ops : Array Oper} (R : Rel E G s a w) {b : Bool} (h : guardE ops o s = some b) : Region.wanted o (yielded ops a.tmps) = b := by
  unfold guardE at h
  unfold Region.wanted
  split at h
  · rename_i hg; cases h; rw [hg]
  · rename_i j want hg
    rw [hg]
    cases hd : (ops[j]?).bind (·.dst) with
    | none => rw [hd] at h; cases h
    | some d =>
      rw [hd] at h
      simp only [Option.map_some] at h
      split at h
      · rename_i c hc
        cases h
        simp only [Option.some.injEq] at hc
        have h1 := R.tmps d
        rw [hc] at h1
        have h2 := h1.bool_inv
        have : yielded ops a.tmps j = some c := by
          unfold yielded
          rw [hd]
          simp only [Option.bind_some]
          cases hq : a.tmps[d]? with
          | none =>
            have e : a.tmps.getD d Go.undef = Go.undef := by simp [hq]
            rw [e] at h2
            cases h2
          | some v =>
            have : a.tmps.getD d Go.undef = v := by simp [hq]
            rw [this] at h2
            rw [h2]
        simp [this]
      · rename_i hc
        cases h
        simp only [Option.some.injEq] at hc
        have h1 := R.tmps d
        rw [hc] at h1
        have h2 : a.tmps.getD d Go.undef = Go.undef := by
          generalize a.tmps.getD d Go.undef = v at h1
          cases h1 with
          | tup _ us hl _ =>
            have : us = #[] := Array.eq_empty_of_size_eq_zero hl.symm
            rw [this]; rfl
        have : yielded ops a.tmps j = none := by
          unfold yielded
          rw [hd]
          simp only [Option.bind_some]
          cases hq : a.tmps[d]? with
          | none => rfl
          | some v =>
            have : a.tmps.getD d Go.undef = v := by simp [hq]
            rw [this] at h2
            rw [h2]
            rfl
        simp [this]
      · cases h

theorem wpIn_of_wp (ro : Option Nat) {n : Nat} {o : Oper} {a : Act} {w : World} {K : Act → World → Prop} {Q : Exit → Act → World → Prop} (hd : ∀ c, o.op ≠ .defer c) (h : o.wp P a w K Q) : o.wpIn (rF ro) n P a w K Q := by
  refine ⟨fun _ _ => trivial, ?_⟩
  rw [Oper.semAt_eq _ _ _ hd]
  unfold Oper.wp at h
  generalize (execOp a.eval o).run P w = r at h
  cases r with
  | ok x w' =>
    cases x with
    | enter f args =>
      refine ⟨fun h => (by simp [rF, Fence.wide] at h), ?_⟩
      exact callsIn_wide.2 h
    | row r args =>
      refine ⟨fun h => (by simp [rF, Fence.wide] at h), fun c cs _ => ?_⟩
      obtain ⟨v, w2, h1, h2⟩ := h c cs
      exact ⟨v, w2, h1, stepsIn_wide.2 h2⟩
    | round => exact h.elim
    | _ => exact h
  | halt x w' => cases x <;> exact h

/-- One operation comes up. -/
theorem step_sound {Γ : FuncId → Contract} (hΓ : SoundG P Γ) {ops : Array Oper} (R : Rel E G s a w) {s' : AS} {fp : FP} (h : aStep Γ P E.N ops o s = some (s', fp)) {K : Act → World → Prop}
    (k : ∀ G' a' w', G.le G' → Rel E G' s' a' w' → K a' w') :
    if Region.wanted o (yielded ops a.tmps) then o.wpIn (rF E.ro) 0 P a w K Q else (∀ f, o.about P w a.eval = some f → (rF E.ro).fn f) ∧ K (a.put o.dst Go.undef) w := by
  unfold aStep at h
  split at h
  · rename_i hd
    have hd' : ∀ i, o.dst = some i → i < E.N.n := by
      intro i hi
      unfold dstOK at hd
      rw [hi] at hd
      simpa using hd
    split at h
    · rename_i b hb
      rw [guard_spec R hb]
      cases b with
      | true =>
        simp only [ifE_true] at h
        split at h
        · rename_i e rd hrun
          cases h
          refine wpIn_of_wp E.ro (fun c hc => ?_) (op_sound hΓ R hrun fun G' v w' h1 h2 h3 => k G' _ _ h1 (R.put h1 hd' h2 h3))
          simp [opE, hc, EP.run] at hrun
        · cases h
      | false =>
        simp only [ifE_false, Option.some.injEq, Prod.mk.injEq] at h
        obtain ⟨rfl, rfl⟩ := h
        exact ⟨fun _ _ => trivial, k G _ _ (Gh.le_refl G) (R.put (m := []) (Gh.le_refl G) hd' (.tup [] #[] rfl (fun i x u h => by simp at h)) R.mem)⟩
    · cases h
  · cases h

/-- The operations of a region, one behind the other, and what each has read and written. -/
def aOps (Γ : FuncId → Contract) (P : Program) (N : Lim) (ops : Array Oper) : List Oper → AS → Option (AS × List FP)
  | [], s => some (s, [])
  | o :: rest, s => match aStep Γ P N ops o s with
    | some (s', fp) => match aOps Γ P N ops rest s' with
      | some (s'', fps) => some (s'', fp :: fps)
      | none => none
    | none => none

theorem wpList_sound {Γ : FuncId → Contract} (hΓ : SoundG P Γ) {ops : Array Oper} : ∀ (l : List Oper) {s s' : AS} {fps : List FP} {G : Gh} {a : Act} {w : World}, Rel E G s a w → aOps Γ P E.N ops l s = some (s', fps) →
    (∀ G' a' w', G.le G' → Rel E G' s' a' w' → Q .normal a' w') → wpListIn (rF E.ro) 0 P ops Q l a w
  | [], s, s', fps, G, a, w, R, h, k => by
    simp only [aOps, Option.some.injEq, Prod.mk.injEq] at h
    obtain ⟨rfl, rfl⟩ := h
    exact k G a w (Gh.le_refl G) R
  | o :: rest, s, s', fps, G, a, w, R, h, k => by
    simp only [aOps] at h
    split at h
    · rename_i s1 fp h1
      split at h
      · rename_i s2 fps' h2
        cases h
        unfold wpListIn
        exact step_sound hΓ R h1 fun G' a' w' hle R' => wpList_sound hΓ rest R' h2 fun G2 a2 w2 hle2 R2 => k G2 a2 w2 (Gh.le_trans hle hle2) R2
      · cases h
    · cases h

theorem region_sound {Γ : FuncId → Contract} (hΓ : SoundG P Γ) {ops : Array Oper} {id : Nat} (R : Rel E G s a w) {s' : AS} {fps : List FP} (h : aOps Γ P E.N ops ops.toList s = some (s', fps))
    (k : ∀ G' a' w', G.le G' → Rel E G' s' a' w' → Q .normal a' w') : (Code.region id ops false).wpIn (rF E.ro) 0 P Q a w :=
  wpIn_region_list (wpList_sound hΓ ops.toList R h k)

end

/-- A state by what it answers. -/
structure FS where
  g : Nat → AV
  m : Nat → Option MC

def AS.fs (s : AS) : FS := ⟨s.get, s.mem⟩
def FS.eval (F : FS) : Operand → AV
  | .tmp t => F.g t
  | x => (AS.mk [] []).eval x
theorem fs_eval (s : AS) (x : Operand) : s.fs.eval x = s.eval x := by cases x <;> rfl

def FS.step (F : FS) (d : Option Tmp) (x : AV) (l : List (Nat × MC)) : FS := ⟨fun i => if d = some i then x else F.g i, wrs F.m l⟩
theorem fs_step (s : AS) (o : Oper) (e : Eff) : (s.step o e).fs = s.fs.step o.dst e.val e.wr := by
  unfold AS.fs AS.step FS.step
  congr 1
  · funext i; rw [AS.get_put]; rfl
  · have : ((s.wr e.wr).put o.dst e.val).mem = (s.wr e.wr).mem := by cases o.dst <;> rfl
    rw [this]; funext i; exact AS.mem_wr s e.wr i
theorem fs_put (s : AS) (o : Oper) (x : AV) : (s.put o.dst x).fs = s.fs.step o.dst x [] := by
  unfold AS.fs FS.step
  congr 1
  · funext i; rw [AS.get_put]
  · have : (s.put o.dst x).mem = s.mem := by cases o.dst <;> rfl
    rw [this]; rfl

def fGuard (ops : Array Oper) (o : Oper) (F : FS) : Option Bool :=
  match o.guard with
  | none => some true
  | some (j, want) => match ((ops[j]?).bind (·.dst)).map F.g with
    | some (.c (.bool b)) => some (b == want)
    | some (.tup []) => some false
    | _ => none
def fEff (Γ : FuncId → Contract) (P : Program) (N : Lim) (ops : Array Oper) (o : Oper) (F : FS) : Option (AV × List (Nat × MC) × List Nat) :=
  if dstOK N o then
    match fGuard ops o F with
    | some b => ifE b (match (opE Γ P N.adv.mu o F.eval).run F.m with
        | some (e, rd) => some (e.val, e.wr, rd)
        | none => none) (some (.tup [], [], []))
    | none => none
  else none
def fStep (Γ : FuncId → Contract) (P : Program) (N : Lim) (ops : Array Oper) (o : Oper) (F : FS) : Option (FS × FP) :=
  (fEff Γ P N ops o F).map fun x => (F.step o.dst x.1 x.2.1, ⟨x.2.2, x.2.1.map (·.1)⟩)

theorem aStep_fs {Γ : FuncId → Contract} {P : Program} {N : Lim} {ops : Array Oper} {o : Oper} {s s' : AS} {fp : FP} (h : aStep Γ P N ops o s = some (s', fp)) : fStep Γ P N ops o s.fs = some (s'.fs, fp) := by
  unfold aStep at h
  unfold fStep fEff
  have he : s.fs.eval = s.eval := funext (fs_eval s)
  have hg : fGuard ops o s.fs = guardE ops o s := rfl
  split at h
  · rename_i hd
    rw [if_pos hd, hg, he]
    split at h
    · rename_i b hb
      rw [hb]
      cases b with
      | true =>
        simp only [ifE_true] at h ⊢
        split at h
        · rename_i e rd hrun
          cases h
          have : (opE Γ P N.adv.mu o s.eval).run s.fs.m = some (e, rd) := hrun
          simp only [this, Option.map_some, fs_step]
        · cases h
      | false =>
        simp only [ifE_false, Option.some.injEq, Prod.mk.injEq] at h ⊢
        obtain ⟨rfl, rfl⟩ := h
        simp only [Option.map_some, fs_put, List.map_nil]
    · cases h
  · cases h

theorem opE_congr {Γ : FuncId → Contract} {P : Program} {M : List Nat} {o : Oper} {ρ ρ' : Operand → AV} (h : ∀ x ∈ o.op.operands.toList, ρ x = ρ' x) : opE Γ P M o ρ = opE Γ P M o ρ' := by
  have mp : ∀ (l : List Operand), (∀ x ∈ l, ρ x = ρ' x) → l.map ρ = l.map ρ' := fun l hl => List.map_congr_left hl
  have mpp : ∀ (l : List (Nat × Operand)), (∀ x ∈ l.map (·.2), ρ x = ρ' x) → (l.map fun p => (p.1, ρ p.2)) = (l.map fun p => (p.1, ρ' p.2)) := fun l hl => by
    refine List.map_congr_left fun p hp => ?_
    rw [hl p.2 (List.mem_map_of_mem hp)]
  have mo : ∀ (x : Option Operand), (∀ y ∈ x.toList, ρ y = ρ' y) → x.map ρ = x.map ρ' := fun x hx => by
    cases x with
    | none => rfl
    | some y => simp [hx y (by simp)]
  unfold opE
  cases ho : o.op with
  | move x => rw [ho] at h; simp [Op.operands] at h; simp only [h]
  | assign x => rw [ho] at h; simp [Op.operands] at h; simp only [h]
  | pick c x y => rw [ho] at h; simp [Op.operands] at h; obtain ⟨h1, h2, h3⟩ := h; simp only [h1, h2, h3]
  | alloc t => rfl
  | box t x => rw [ho] at h; simp [Op.operands] at h; simp only [h]
  | build t parts => rw [ho] at h; simp only [Op.operands] at h; dsimp only; rw [mpp parts.toList (by simpa using h)]
  | buildSlice t n parts => rw [ho] at h; simp only [Op.operands] at h; dsimp only; rw [mpp parts.toList (by simpa using h)]
  | load t x => rw [ho] at h; simp [Op.operands] at h; simp only [h]
  | store t x y => rw [ho] at h; simp [Op.operands] at h; obtain ⟨h1, h2⟩ := h; simp only [h1, h2]
  | nilCheck x => rw [ho] at h; simp [Op.operands] at h; simp only [h]
  | binOp op t x y t' => rw [ho] at h; simp [Op.operands] at h; obtain ⟨h1, h2⟩ := h; simp only [h1, h2]
  | unOp op t x => rw [ho] at h; simp [Op.operands] at h; simp only [h]
  | convert src dst x => rw [ho] at h; simp [Op.operands] at h; simp only [h]
  | makeFunc fn first captured =>
    rw [ho] at h; simp only [Op.operands] at h
    cases fn with
    | func f => dsimp only; rw [mp captured.toList (fun x hx => h x (by simp [hx]))]
    | _ => rfl
  | makeMap t r => cases r <;> rfl
  | makeSlice t x y => rw [ho] at h; simp [Op.operands] at h; obtain ⟨h1, h2⟩ := h; simp only [h1, h2]
  | slice t x lo hi mx =>
    rw [ho] at h; simp only [Op.operands] at h
    have e0 := h x (by simp)
    have e1 := mo lo (fun y hy => h y (by cases lo <;> simp_all))
    have e2 := mo hi (fun y hy => h y (by cases hi <;> simp_all))
    have e3 := mo mx (fun y hy => h y (by cases mx <;> simp_all))
    dsimp only; rw [e0, e1, e2, e3]
  | fieldAddr t x i => rw [ho] at h; simp [Op.operands] at h; simp only [h]
  | field t x i => rw [ho] at h; simp [Op.operands] at h; simp only [h]
  | indexAddr t x i => rw [ho] at h; simp [Op.operands] at h; obtain ⟨h1, h2⟩ := h; simp only [h1, h2]
  | index t x i => rw [ho] at h; simp [Op.operands] at h; obtain ⟨h1, h2⟩ := h; simp only [h1, h2]
  | lookup t m k ok => rw [ho] at h; simp [Op.operands] at h; obtain ⟨h1, h2⟩ := h; simp only [h1, h2]
  | mapUpdate t m k x => rw [ho] at h; simp [Op.operands] at h; obtain ⟨h1, h2, h3⟩ := h; simp only [h1, h2, h3]
  | extract x i => rw [ho] at h; simp [Op.operands] at h; simp only [h]
  | call c =>
    rw [ho] at h; simp only [Op.operands, Call.operands] at h
    have e1 := mp c.args.toList (fun x hx => h x (by simp [hx]))
    dsimp only
    cases hc : c.callee with
    | builtin b => dsimp only; rw [e1]
    | value f =>
      have e2 := h f (by simp [hc])
      dsimp only; rw [e1, e2]
    | invoke r m => rfl
  | _ => rfl

def FP.apart (p q : FP) : Bool := p.wr.all (fun n => !q.rd.contains n && !q.wr.contains n) && q.wr.all (fun n => !p.rd.contains n)

theorem FP.apart_spec {p q : FP} (h : p.apart q = true) : (∀ n ∈ p.wr, n ∉ q.rd ∧ n ∉ q.wr) ∧ ∀ n ∈ q.wr, n ∉ p.rd := by
  simp only [FP.apart, Bool.and_eq_true, List.all_eq_true, Bool.not_eq_true', List.contains_eq_mem, decide_eq_false_iff_not] at h
  exact h

theorem wrs_other {m : Nat → Option MC} {l : List (Nat × MC)} {n : Nat} (h : n ∉ l.map (·.1)) : wrs m l n = m n := by
  simp only [wrs, look_none h]

theorem wrs_comm {m : Nat → Option MC} {l l' : List (Nat × MC)} (h : ∀ n ∈ l.map (·.1), n ∉ l'.map (·.1)) : wrs (wrs m l) l' = wrs (wrs m l') l := by
  funext n
  by_cases h1 : n ∈ l.map (·.1)
  · have h2 := h n h1
    rw [wrs_other h2]
    obtain ⟨c, hc⟩ := look_some h1
    simp only [wrs, hc]
  · rw [wrs_other h1]
    by_cases h2 : n ∈ l'.map (·.1)
    · obtain ⟨c, hc⟩ := look_some h2
      simp only [wrs, hc]
    · rw [wrs_other h2, wrs_other h2, wrs_other h1]

/-- An operation hangs on what it looks at alone. -/
theorem fEff_congr {Γ : FuncId → Contract} {P : Program} {N : Lim} {ops : Array Oper} {o : Oper} {F F' : FS} {v : AV} {wr : List (Nat × MC)} {rd : List Nat} (hg : ∀ t ∈ o.looksAt ops, F'.g t = F.g t) (hm : ∀ n ∈ rd, F'.m n = F.m n)
    (h : fEff Γ P N ops o F = some (v, wr, rd)) : fEff Γ P N ops o F' = some (v, wr, rd) := by
  have hop : ∀ y ∈ o.op.operands.toList, F'.eval y = F.eval y := fun y hy => by
    cases y with
    | tmp t =>
      simp only [FS.eval]
      exact hg t (List.mem_append_left _ (List.mem_filterMap.2 ⟨_, hy, rfl⟩))
    | _ => rfl
  have hgd : fGuard ops o F' = fGuard ops o F := by
    unfold fGuard
    cases hgu : o.guard with
    | none => rfl
    | some p =>
      obtain ⟨j, want⟩ := p
      dsimp only
      cases hb : (ops[j]?).bind (·.dst) with
      | none => rfl
      | some t =>
        have : F'.g t = F.g t := hg t (List.mem_append_right _ (by rw [hgu]; simp [hb]))
        simp only [Option.map_some, this]
  unfold fEff at h ⊢
  split at h
  · rename_i hdst
    rw [if_pos hdst, hgd]
    split at h
    · rename_i b hb
      cases b with
      | true =>
        simp only [ifE_true] at h ⊢
        split at h
        · rename_i e rd' hrun
          cases h
          rw [opE_congr hop, EP.run_agree _ _ _ hrun hm]
        · cases h
      | false => simp only [ifE_false] at h ⊢; exact h
    · cases h
  · cases h

/-- Two operations that are apart: in the other order they come to the same. -/
theorem fStep_swap {Γ : FuncId → Contract} {P : Program} {N : Lim} {ops : Array Oper} {oi oj : Oper} {F F1 F2 : FS} {p q : FP} (hap : oi.apart ops oj = true) (hfp : p.apart q = true)
    (h1 : fStep Γ P N ops oi F = some (F1, p)) (h2 : fStep Γ P N ops oj F1 = some (F2, q)) : ∃ F1', fStep Γ P N ops oj F = some (F1', q) ∧ fStep Γ P N ops oi F1' = some (F2, p) := by
  obtain ⟨a1, a2, a3⟩ := Oper.apart_spec hap
  obtain ⟨b1, b2⟩ := FP.apart_spec hfp
  obtain ⟨⟨v, wr, rd⟩, e1, e2⟩ := Option.map_eq_some_iff.1 h1
  cases e2
  obtain ⟨⟨v2, wr2, rd2⟩, e3, e4⟩ := Option.map_eq_some_iff.1 h2
  cases e4
  dsimp only at *
  have g : ∀ (F : FS) (d : Option Tmp) (x : AV) (l : List (Nat × MC)) (t : Nat), d ≠ some t → (F.step d x l).g t = F.g t := fun F d x l t h => if_neg h
  have f1 : fEff Γ P N ops oj F = some (v2, wr2, rd2) := fEff_congr (fun t ht => (g F oi.dst v wr t fun e => a1 t e ht).symm) (fun n hn => (wrs_other fun h => (b1 n h).1 hn).symm) e3
  have f2 : fEff Γ P N ops oi (F.step oj.dst v2 wr2) = some (v, wr, rd) := fEff_congr (fun t ht => g F oj.dst v2 wr2 t fun e => a3 t e ht) (fun n hn => wrs_other fun h => b2 n h hn) e1
  refine ⟨_, Option.map_eq_some_iff.2 ⟨_, f1, rfl⟩, Option.map_eq_some_iff.2 ⟨_, f2, ?_⟩⟩
  dsimp only
  congr 1
  unfold FS.step
  congr 1
  · funext t
    dsimp only
    by_cases h : oi.dst = some t
    · rw [if_pos h, if_neg (a2 t h), if_pos h]
    · rw [if_neg h, if_neg h]
  · exact wrs_comm fun n hn h => (b1 n h).2 hn

def fAny (Γ : FuncId → Contract) (P : Program) (N : Lim) (ops : Array Oper) (sf : FS) (fps : Nat → FP) : Nat → Array Bool → FS → Prop
  | 0, listed, F => Region.ready .any ops listed = [] ∧ F = sf
  | fuel + 1, listed, F => (Region.ready .any ops listed = [] → F = sf) ∧
    ∀ i ∈ Region.ready .any ops listed, ∀ o, ops[i]? = some o → ∃ F', fStep Γ P N ops o F = some (F', fps i) ∧ fAny Γ P N ops sf fps fuel (listed.setIfInBounds i true) F'

/-- What waits for what, through whatever stands between. -/
def waits (ops : Array Oper) (anc : Nat → Nat → Bool) : Prop := ∀ j o, ops[j]? = some o → ∀ i, anc j i = true → ∃ e ∈ o.after, Region.binds .any e = true ∧ (e.on = i ∨ (e.on < j ∧ anc e.on i = true))

def Closed (ops : Array Oper) (listed : Array Bool) : Prop := ∀ j o, ops[j]? = some o → listed.getD j false = true → ∀ e ∈ o.after, Region.binds .any e = true → listed.getD e.on false = true

theorem anc_listed {ops : Array Oper} {anc : Nat → Nat → Bool} (hw : waits ops anc) {listed : Array Bool} (hc : Closed ops listed) : ∀ (n j : Nat) (o : Oper), j < n → ops[j]? = some o → (∀ e ∈ o.after, Region.binds .any e = true → listed.getD e.on false = true) →
    ∀ i, anc j i = true → listed.getD i false = true
  | 0, j, o, h, _, _, _, _ => by omega
  | n + 1, j, o, hj, ho, hr, i, hi => by
    obtain ⟨e, he, hb, h⟩ := hw j o ho i hi
    have hl := hr e he hb
    rcases h with rfl | ⟨hlt, ha⟩
    · exact hl
    · cases hoe : ops[e.on]? with
      | none =>
        obtain ⟨e', _⟩ : ∃ x : Nat, x = x := ⟨0, rfl⟩
        have hlt2 : ¬ e.on < ops.size := by
          intro h; rw [Array.getElem?_eq_getElem h] at hoe; cases hoe
        have hjs : j < ops.size := (Array.getElem?_eq_some_iff.1 ho).1
        omega
      | some oe => exact anc_listed hw hc n e.on oe (by omega) hoe (hc e.on oe hoe hl) i ha

theorem fAny_first {Γ : FuncId → Contract} {P : Program} {N : Lim} {ops : Array Oper} {sf : FS} {i : Nat} {oi : Oper} (hi : ops[i]? = some oi) {anc : Nat → Nat → Bool} (hw : waits ops anc) (fps : Nat → FP) :
    ∀ (fuel : Nat) (listed : Array Bool) (F F1 : FS), Closed ops listed →
      (∀ j oj, ops[j]? = some oj → j ≠ i → listed.getD j true = false → anc j i = false → oi.apart ops oj = true ∧ (fps i).apart (fps j) = true) →
      i ∈ Region.ready .any ops listed → fStep Γ P N ops oi F = some (F1, fps i) →
      fAny Γ P N ops sf fps fuel (listed.setIfInBounds i true) F1 → fAny Γ P N ops sf fps (fuel + 1) listed F
  | 0, listed, F, F1, hc, hfree, hr, hst, H => by
    refine ⟨fun h => (by rw [h] at hr; cases hr), fun j hj oj hoj => ?_⟩
    by_cases hji : j = i
    · subst hji
      rw [hi] at hoj; cases hoj
      exact ⟨F1, hst, H⟩
    · have := ready_mono hj hji
      rw [H.1] at this
      cases this
  | fuel + 1, listed, F, F1, hc, hfree, hr, hst, H => by
    refine ⟨fun h => (by rw [h] at hr; cases hr), fun j hj oj hoj => ?_⟩
    by_cases hji : j = i
    · subst hji
      rw [hi] at hoj; cases hoj
      exact ⟨F1, hst, H⟩
    · obtain ⟨F2, h1, h2⟩ := H.2 j (ready_mono hj hji) oj hoj
      obtain ⟨hjun, oj', hoj', hall⟩ := mem_ready.1 hj
      rw [hoj] at hoj'; cases hoj'
      have hiun := (mem_ready.1 hr).1
      have hna : anc j i = false := by
        cases ha : anc j i with
        | false => rfl
        | true =>
          have := anc_listed hw hc (j + 1) j oj (by omega) hoj hall i ha
          rcases Nat.lt_or_ge i listed.size with h' | h'
          · simp [h'] at hiun this; rw [hiun] at this; cases this
          · simp [Array.getElem?_eq_none h'] at this
      obtain ⟨a1, a2⟩ := hfree j oj hoj hji hjun hna
      obtain ⟨F1', g1, g2⟩ := fStep_swap a1 a2 hst h1
      refine ⟨F1', g1, fAny_first hi hw fps fuel (listed.setIfInBounds j true) F1' F2 ?_ ?_ (ready_mono hr (Ne.symm hji)) g2 ?_⟩
      · intro k ok hk hl e he hb
        by_cases hkj : k = j
        · subst hkj
          rw [hoj] at hk; cases hk
          exact getD_set_true (hall e he hb)
        · have : listed.getD k false = true := by
            have := hl
            simp only [Array.getD_eq_getD_getElem?] at this ⊢
            rwa [Array.getElem?_setIfInBounds_ne (Ne.symm hkj)] at this
          exact getD_set_true (hc k ok hk this e he hb)
      · intro k ok hk hki hun hna'
        refine hfree k ok hk hki ?_ hna'
        by_cases hjk : j = k
        · subst hjk; exact hjun
        · rw [getD_set_ne true hjk] at hun; exact hun
      · rw [Array.setIfInBounds_comm _ _ hji]; exact h2

def direct (o : Oper) : List Nat := o.after.toList.filterMap fun e => if Region.binds .any e then some e.on else none
def maskOf (acc : List Nat) (l : List Nat) : Nat := l.foldl (fun s i => s ||| (2 ^ i ||| acc.getD i 0)) 0
def masks : List Oper → List Nat → List Nat
  | [], acc => acc
  | o :: rest, acc => masks rest (acc ++ [maskOf acc (direct o)])
def ancB (ms : List Nat) (j i : Nat) : Bool := (ms.getD j 0).testBit i

theorem mask_bit (acc : List Nat) (i : Nat) : ∀ (l : List Nat) (s0 : Nat), (l.foldl (fun s i => s ||| (2 ^ i ||| acc.getD i 0)) s0).testBit i = true → s0.testBit i = true ∨ ∃ k ∈ l, k = i ∨ (acc.getD k 0).testBit i = true
  | [], s0, h => .inl h
  | k :: l, s0, h => by
    rw [List.foldl_cons] at h
    rcases mask_bit acc i l _ h with h | ⟨k', hk, h⟩
    · rw [Nat.testBit_or, Nat.testBit_or, Bool.or_eq_true, Bool.or_eq_true] at h
      rcases h with h | h | h
      · exact .inl h
      · rw [Nat.testBit_two_pow] at h
        exact .inr ⟨k, by simp, .inl (by simpa using h)⟩
      · exact .inr ⟨k, by simp, .inr h⟩
    · exact .inr ⟨k', by simp [hk], h⟩

theorem masks_pre : ∀ (l : List Oper) (acc : List Nat), ∃ r, masks l acc = acc ++ r
  | [], acc => ⟨[], by simp [masks]⟩
  | o :: l, acc => by
    obtain ⟨r, h⟩ := masks_pre l (acc ++ [maskOf acc (direct o)])
    exact ⟨maskOf acc (direct o) :: r, by rw [masks, h]; simp⟩

theorem masks_get : ∀ (l : List Oper) (acc : List Nat) (k : Nat) (o : Oper), l[k]? = some o → ∃ pre, (∃ r, masks l acc = pre ++ maskOf pre (direct o) :: r) ∧ pre.length = acc.length + k
  | [], acc, k, o, h => by simp at h
  | o' :: l, acc, 0, o, h => by
    simp at h; subst h
    obtain ⟨r, h⟩ := masks_pre l (acc ++ [maskOf acc (direct o')])
    exact ⟨acc, ⟨r, by rw [masks, h]; simp⟩, by simp⟩
  | o' :: l, acc, k + 1, o, h => by
    obtain ⟨pre, ⟨r, h1⟩, h2⟩ := masks_get l (acc ++ [maskOf acc (direct o')]) k o (by simpa using h)
    exact ⟨pre, ⟨r, h1⟩, by rw [h2]; simp; omega⟩

theorem waits_masks (ops : Array Oper) : waits ops (ancB (masks ops.toList [])) := by
  intro j o ho i hi
  obtain ⟨pre, ⟨r, h1⟩, h2⟩ := masks_get ops.toList [] j o (by simpa using ho)
  simp only [List.length_nil, Nat.zero_add] at h2
  have hm : (masks ops.toList []).getD j 0 = maskOf pre (direct o) := by
    rw [h1, List.getD_eq_getElem?_getD, List.getElem?_append_right (by omega), h2]; simp
  unfold ancB at hi
  rw [hm] at hi
  rcases mask_bit pre i (direct o) 0 hi with h | ⟨k, hk, h⟩
  · simp at h
  · obtain ⟨e, he, heq⟩ := List.mem_filterMap.1 hk
    split at heq
    · rename_i hb
      cases heq
      refine ⟨e, by simpa using he, hb, ?_⟩
      rcases h with h | h
      · exact .inl h
      · refine .inr ?_
        have hlt : e.on < pre.length := by
          rcases Nat.lt_or_ge e.on pre.length with h' | h'
          · exact h'
          · rw [List.getD_eq_getElem?_getD, List.getElem?_eq_none h'] at h; simp at h
        refine ⟨by omega, ?_⟩
        unfold ancB
        rw [h1, List.getD_eq_getElem?_getD, List.getElem?_append_left hlt]
        rw [List.getD_eq_getElem?_getD] at h
        exact h
    · cases heq

def edgesB (l : List Oper) : Bool := l.zipIdx.all fun x => (direct x.1).all fun k => decide (k < x.2)
def apartB (ops : Array Oper) (ms : List Nat) : List (Oper × Nat) → Bool
  | [] => true
  | (oi, i) :: rest => (rest.all fun x => ancB ms x.2 i || oi.apart ops x.1) && apartB ops ms rest
def fpB (ms : List Nat) : List (FP × Nat) → Bool
  | [] => true
  | (p, i) :: rest => (rest.all fun x => ancB ms x.2 i || p.apart x.1) && fpB ms rest
def regionB (ops : Array Oper) : Bool := edgesB ops.toList && apartB ops (masks ops.toList []) ops.toList.zipIdx
def orderB (ops : Array Oper) (fps : List FP) : Bool := fpB (masks ops.toList []) fps.zipIdx

theorem apartB_spec {ops : Array Oper} {ms : List Nat} : ∀ {l : List (Oper × Nat)}, apartB ops ms l = true → ∀ (a b : Nat) (x y : Oper × Nat), a < b → l[a]? = some x → l[b]? = some y → ancB ms y.2 x.2 = false → x.1.apart ops y.1 = true
  | [], _, a, b, x, y, _, h, _, _ => by simp at h
  | (oi, i) :: rest, h, a, b, x, y, hab, h1, h2, hn => by
    simp only [apartB, Bool.and_eq_true, List.all_eq_true, Bool.or_eq_true] at h
    cases b with
    | zero => omega
    | succ b =>
      cases a with
      | zero =>
        simp at h1 h2; subst h1
        rcases h.1 y (List.mem_of_getElem? h2) with h | h
        · rw [hn] at h; cases h
        · exact h
      | succ a => exact apartB_spec h.2 a b x y (by omega) (by simpa using h1) (by simpa using h2) hn
theorem fpB_spec {ms : List Nat} : ∀ {l : List (FP × Nat)}, fpB ms l = true → ∀ (a b : Nat) (x y : FP × Nat), a < b → l[a]? = some x → l[b]? = some y → ancB ms y.2 x.2 = false → x.1.apart y.1 = true
  | [], _, a, b, x, y, _, h, _, _ => by simp at h
  | (oi, i) :: rest, h, a, b, x, y, hab, h1, h2, hn => by
    simp only [fpB, Bool.and_eq_true, List.all_eq_true, Bool.or_eq_true] at h
    cases b with
    | zero => omega
    | succ b =>
      cases a with
      | zero =>
        simp at h1 h2; subst h1
        rcases h.1 y (List.mem_of_getElem? h2) with h | h
        · rw [hn] at h; cases h
        · exact h
      | succ a => exact fpB_spec h.2 a b x y (by omega) (by simpa using h1) (by simpa using h2) hn

theorem fAny_lex {Γ : FuncId → Contract} {P : Program} {N : Lim} {ops : Array Oper} (fps : Nat → FP)
    (he : ∀ (j : Nat) (o : Oper), ops[j]? = some o → ∀ e ∈ o.after, Region.binds .any e = true → e.on < j)
    (hp : ∀ (i j : Nat) (oi oj : Oper), i < j → ops[i]? = some oi → ops[j]? = some oj → ancB (masks ops.toList []) j i = false → oi.apart ops oj = true ∧ (fps i).apart (fps j) = true) :
    ∀ (l : List Oper) (k : Nat) (s s' : AS) (fs : List FP), (∀ j, l[j]? = ops[k + j]?) → aOps Γ P N ops l s = some (s', fs) → (∀ j p, fs[j]? = some p → fps (k + j) = p) →
      ∀ (listed : Array Bool), listed.size = ops.size → (∀ j, j < ops.size → listed.getD j false = decide (j < k)) → fAny Γ P N ops s'.fs fps l.length listed s.fs
  | [], k, s, s', fs, hl, h, hf, listed, hs, hL => by
    simp only [aOps, Option.some.injEq, Prod.mk.injEq] at h
    obtain ⟨rfl, rfl⟩ := h
    refine ⟨?_, rfl⟩
    have hk : ops.size ≤ k := by
      have := hl 0
      simp at this
      omega
    cases hr : Region.ready .any ops listed with
    | nil => rfl
    | cons i r =>
      have : i ∈ Region.ready .any ops listed := by rw [hr]; simp
      obtain ⟨h1, o, ho, _⟩ := mem_ready.1 this
      have hi : i < ops.size := (Array.getElem?_eq_some_iff.1 ho).1
      have := hL i hi
      have e : listed.getD i true = listed.getD i false := by simp [hs, hi]
      rw [e, this] at h1
      simp at h1
      omega
  | o :: l, k, s, s', fs, hl, h, hf, listed, hs, hL => by
    have h0 : ops[k]? = some o := by simpa using (hl 0).symm
    have hk : k < ops.size := (Array.getElem?_eq_some_iff.1 h0).1
    simp only [aOps] at h
    split at h
    · rename_i s1 fp h1
      split at h
      · rename_i s2 fs' h2
        cases h
        have hfk : fps k = fp := hf 0 fp rfl
        have hst := aStep_fs h1
        rw [← hfk] at hst
        refine fAny_first h0 (waits_masks ops) fps l.length listed s.fs s1.fs ?_ ?_ ?_ hst ?_
        · intro j oj hj hlj e hee hb
          have hjs : j < ops.size := (Array.getElem?_eq_some_iff.1 hj).1
          rw [hL j hjs] at hlj
          have hjk : j < k := by simpa using hlj
          have hlt := he j oj hj e hee hb
          rw [hL e.on (by omega)]
          simp; omega
        · intro j oj hj hne hun hna
          have hjs : j < ops.size := (Array.getElem?_eq_some_iff.1 hj).1
          have := hL j hjs
          have hjk : ¬ j < k := by
            intro hlt
            simp [hs, hjs] at hun this
            rw [hun] at this
            simp at this
            omega
          exact hp k j o oj (by omega) h0 hj hna
        · refine mem_ready.2 ⟨?_, o, h0, fun e hee hb => ?_⟩
          · have := hL k hk
            simp [hs, hk] at this ⊢
            exact this
          · have hlt := he k o h0 e hee hb
            rw [hL e.on (by omega)]
            simp; exact hlt
        · refine fAny_lex fps he hp l (k + 1) s1 s' fs' (fun j => by have := hl (j + 1); simpa [Nat.add_assoc, Nat.add_comm 1 j] using this) h2 (fun j p hj => by
            have := hf (j + 1) p (by simpa using hj)
            rwa [show k + (j + 1) = k + 1 + j from by omega] at this) _ (by simp [hs]) ?_
          intro j hj
          by_cases e : j = k
          · subst e; simp [hs, hk]
          · have := hL j hj
            simp only [Array.getD_eq_getD_getElem?] at this ⊢
            rw [Array.getElem?_setIfInBounds_ne (Ne.symm e), this]
            congr 1
            simp; omega
      · cases h
    · cases h


section
variable {P : Program} {E : Env} {Q : Exit → Act → World → Prop}

theorem rel_of_fs {G : Gh} {s s' : AS} {a : Act} {w : World} (R : Rel E G s a w) (h : s'.fs = s.fs) : Rel E G s' a w := by
  have h1 : s'.get = s.get := congrArg FS.g h
  have h2 : s'.mem = s.mem := congrArg FS.m h
  exact ⟨R.size, R.defs, by rw [h1]; exact R.tmps, by rw [h2]; exact R.mem, R.ent⟩

theorem aStep_of_fs {Γ : FuncId → Contract} {N : Lim} {ops : Array Oper} {o : Oper} {s : AS} {F' : FS} {fp : FP} (h : fStep Γ P N ops o s.fs = some (F', fp)) : ∃ s', aStep Γ P N ops o s = some (s', fp) ∧ s'.fs = F' := by
  obtain ⟨⟨v, wr, rd⟩, e1, e2⟩ := Option.map_eq_some_iff.1 h
  cases e2
  unfold fEff at e1
  unfold aStep
  have he : s.fs.eval = s.eval := funext (fs_eval s)
  have hg : fGuard ops o s.fs = guardE ops o s := rfl
  split at e1
  · rename_i hd
    rw [if_pos hd]
    rw [hg] at e1
    split at e1
    · rename_i b hb
      rw [hb]
      cases b with
      | true =>
        simp only [ifE_true] at e1 ⊢
        rw [he] at e1
        split at e1
        · rename_i e rd' hrun
          cases e1
          have : (opE Γ P N.adv.mu o s.eval).run s.mem = some (e, rd) := hrun
          rw [this]
          exact ⟨_, rfl, fs_step s o e⟩
        · cases e1
      | false =>
        simp only [ifE_false] at e1 ⊢
        cases e1
        exact ⟨_, rfl, fs_put s o _⟩
    · cases e1
  · cases e1

theorem any_sound {Γ : FuncId → Contract} (hΓ : SoundG P Γ) {ops : Array Oper} {sf : FS} {fps : Nat → FP} : ∀ (fuel : Nat) (listed : Array Bool) (s : AS) (G : Gh) (a : Act) (w : World), fAny Γ P E.N ops sf fps fuel listed s.fs → Rel E G s a w →
    (∀ G' s' a' w', G.le G' → s'.fs = sf → Rel E G' s' a' w' → Q .normal a' w') → wpAnyIn (rF E.ro) 0 P .any ops Q fuel listed a w
  | 0, listed, s, G, a, w, h, R, k => ⟨h.1, k G s a w (Gh.le_refl G) h.2 R⟩
  | fuel + 1, listed, s, G, a, w, h, R, k => by
    refine ⟨fun h0 => k G s a w (Gh.le_refl G) (h.1 h0) R, fun i hi => ?_⟩
    obtain ⟨_, o, ho, _⟩ := mem_ready.1 hi
    obtain ⟨F', h1, h2⟩ := h.2 i hi o ho
    obtain ⟨s', h3, h4⟩ := aStep_of_fs h1
    unfold wpOpIn
    rw [ho]
    dsimp only
    refine step_sound hΓ R h3 fun G' a' w' hle R' => ?_
    rw [← h4] at h2
    exact any_sound hΓ fuel _ s' G' a' w' h2 R' fun G2 s2 a2 w2 hle2 e2 R2 => k G2 s2 a2 w2 (Gh.le_trans hle hle2) e2 R2

theorem drawn_sound {Γ : FuncId → Contract} (hΓ : SoundG P Γ) (hm : P.follows .mixedOrders = true) {ops : Array Oper} {id : Nat} {G : Gh} {s s' : AS} {a : Act} {w : World} {fs : List FP} (R : Rel E G s a w) (hB : regionB ops = true)
    (h : aOps Γ P E.N ops ops.toList s = some (s', fs)) (hO : orderB ops fs = true)
    (k : ∀ G' a' w', G.le G' → Rel E G' s' a' w' → Q .normal a' w') : (Code.region id ops true).wpIn (rF E.ro) 0 P Q a w := by
  simp only [regionB, Bool.and_eq_true] at hB
  obtain ⟨hE, hA⟩ := hB
  have he : ∀ (j : Nat) (o : Oper), ops[j]? = some o → ∀ e ∈ o.after, Region.binds .any e = true → e.on < j := by
    intro j o ho e hee hb
    unfold edgesB at hE
    rw [List.all_eq_true] at hE
    have h1 := hE (o, j) (by
      rw [List.mem_iff_getElem?]
      exact ⟨j, by simp [ho]⟩)
    rw [List.all_eq_true] at h1
    have h2 := h1 e.on (List.mem_filterMap.2 ⟨e, by simpa using hee, by rw [if_pos hb]⟩)
    simpa using h2
  have hfl : ∀ (l : List Oper) (s s' : AS) (fs : List FP), aOps Γ P E.N ops l s = some (s', fs) → fs.length = l.length := by
    intro l
    induction l with
    | nil => intro s s' fs h; simp only [aOps, Option.some.injEq, Prod.mk.injEq] at h; rw [← h.2]; rfl
    | cons o l ih =>
      intro s s' fs h
      simp only [aOps] at h
      split at h
      · split at h
        · rename_i h2; cases h; simp [ih _ _ _ h2]
        · cases h
      · cases h
  have hlen := hfl _ _ _ _ h
  refine wpIn_region_any hm ?_
  have hp : ∀ (i j : Nat) (oi oj : Oper), i < j → ops[i]? = some oi → ops[j]? = some oj → ancB (masks ops.toList []) j i = false → oi.apart ops oj = true ∧ (fs.getD i ⟨[], []⟩).apart (fs.getD j ⟨[], []⟩) = true := by
    intro i j oi oj hij h1 h2 hn
    have hj : j < fs.length := by
      have := (Array.getElem?_eq_some_iff.1 h2).1
      rw [hlen]; simpa using this
    refine ⟨apartB_spec hA i j (oi, i) (oj, j) hij (by simp [h1]) (by simp [h2]) hn, ?_⟩
    refine fpB_spec hO i j (fs.getD i ⟨[], []⟩, i) (fs.getD j ⟨[], []⟩, j) hij ?_ ?_ hn
    · have : i < fs.length := by omega
      simp [this]
    · simp [hj]
  have hany := fAny_lex (Γ := Γ) (P := P) (N := E.N) (fun i => fs.getD i ⟨[], []⟩) he hp ops.toList 0 s s' fs (by simp) h (by intro j p hj; simp [hj]) (Array.replicate ops.size false) (by simp) (by intro j hj; simp [hj])
  have := any_sound hΓ (Q := Q) ops.toList.length (Array.replicate ops.size false) s G a { w with drawn := w.drawn + 1 } hany ⟨R.size, R.defs, R.tmps, R.mem.drawn _, R.ent⟩
    (fun G' s2 a' w' hle e R' => k G' a' w' hle (rel_of_fs R' e.symm))
  simpa using this

end

def AWP (P : Program) (E : Env) (c : Code) (Q : Exit → AS → Prop) (s : AS) : Prop :=
  ∀ G a w, Rel E G s a w → c.wpIn (rF E.ro) 0 P (fun e a' w' => ∃ G' s', Q e s' ∧ Rel E G' s' a' w') a w

/-- What is at hand, then what follows. -/
def andThen {α : Type} (x : Option α) (f : α → Prop) : Prop := match x with | some a => f a | none => False
theorem andThen_some {α : Type} (a : α) (f : α → Prop) : andThen (some a) f = f a := Eq.trans (Eq.refl _) (Eq.refl _)
theorem andThen_none {α : Type} (f : α → Prop) : andThen none f = False := rfl
theorem andThen_iff {α : Type} {x : Option α} {f : α → Prop} : andThen x f ↔ ∃ a, x = some a ∧ f a := by
  cases x with
  | none => simp [andThen]
  | some a => simp [andThen]
@[congr] theorem andThen_congr {α : Type} {x x' : Option α} {f : α → Prop} (h : x = x') : andThen x f = andThen x' f := by rw [h]

/-- Two ways. -/
def branch (b : Bool) (X Y : Prop) : Prop := (b = true → X) ∧ (b = false → Y)
theorem branch_true (X Y : Prop) : branch true X Y = X := by simp [branch]
theorem branch_false (X Y : Prop) : branch false X Y = Y := by simp [branch]
@[congr] theorem branch_congr {b b' : Bool} {X Y : Prop} (h : b = b') : branch b X Y = branch b' X Y := by rw [h]
theorem branch_intro {b : Bool} {X Y : Prop} (h1 : b = true → X) (h2 : b = false → Y) : branch b X Y := ⟨h1, h2⟩
theorem andThen_ifE {α : Type} (b : Bool) (x y : Option α) (f : α → Prop) : andThen (ifE b x y) f = branch b (andThen x f) (andThen y f) := by
  cases b <;> simp [branch]

def thenA (K : AS → Prop) (Q : Exit → AS → Prop) : Exit → AS → Prop
  | .normal, s => K s
  | e, s => Q e s
def inBlockA (id : Nat) (Q : Exit → AS → Prop) : Exit → AS → Prop
  | .exit id', s => if id' = id then Q .normal s else Q (.exit id') s
  | e, s => Q e s

inductive Cnd where
  | b (t : Bool)
  | any
def cndE : AV → Option Cnd
  | .c (.bool t) => some (.b t)
  | .ubool => some .any
  | _ => none
def cndQ (c : Cnd) (X Y : Prop) : Prop := match c with | .b t => branch t X Y | .any => X ∧ Y

/-- A condition first: neither way is looked at before it is known. -/
@[congr] theorem cndQ_congr {c c' : Cnd} {X Y : Prop} (h : c = c') : cndQ c X Y = cndQ c' X Y := by rw [h]

/-! hints -/
def noName (n : Nat) : AV → Bool
  | .own r _ _ => r != n
  | .ptr r _ => r != n
  | .msl r _ _ _ => r != n
  | .mp r => r != n
  | .agg cs => cs.all fun
    | .own r _ _ => r != n
    | .ptr r _ => r != n
    | .msl r _ _ _ => r != n
    | .mp r => r != n
    | .agg _ | .tup _ => false
    | _ => true
  | .tup cs => cs.all fun
    | .own r _ _ => r != n
    | .ptr r _ => r != n
    | .msl r _ _ _ => r != n
    | .mp r => r != n
    | .agg _ | .tup _ => false
    | _ => true
  | _ => true
def dropT (n : Nat) : List (Nat × AV) → List (Nat × AV)
  | [] => []
  | (i, x) :: l => (i, if noName n x then x else .undef) :: dropT n l
def noMC (n : Nat) : MC → Bool
  | .obj cells _ => cells.all (noName n)
  | _ => true
def noNames (n : Nat) : List (Nat × MC) → Bool
  | [] => true
  | (k, c) :: l => (k == n || noMC n c) && noNames n l
/-- These slots alone. -/
def pickT (s : AS) : List Nat → List (Nat × AV)
  | [] => []
  | i :: l => (i, s.get i) :: pickT s l
def without (n : Nat) : List (Nat × MC) → List (Nat × MC)
  | [] => []
  | (k, c) :: l => if k = n then without n l else (k, c) :: without n l
/-- What is told twice is told once. -/
def once : List (Nat × MC) → List (Nat × MC)
  | [] => []
  | (k, c) :: l => (k, c) :: without k (once l)
def doHint (ns : List Nat) (h : Hint) (s : AS) : Option AS :=
  match h with
  | .frz d z => match s.get d with
    | .msl n off len _ => match s.mem n with
      | some (.obj cells _) => match toPCs cells with
        | some cs => if 0 < z ∧ off + len * z ≤ cs.length then some ⟨(d, .c (.sl (chunks z len (cs.drop off)))) :: s.t, (n, .obj cells true) :: s.m⟩ else none
        | none => none
      | _ => none
    | _ => none
  | .toOwn d z => match s.get d with
    | .msl n 0 len true => match s.mem n with
      | some (.obj cells false) => match toPCs cells with
        | some cs => if 0 < z ∧ len * z = cs.length ∧ hasN ns n = false ∧ noNames n s.m = true then some ⟨(d, .own n z (chunks z len cs)) :: dropT n s.t, (n, .row z len) :: s.m⟩ else none
        | none => none
      | _ => none
    | _ => none
  | .tidy l => some ⟨pickT s l, once s.m⟩
  | .frzAt p off z => match s.get p with
    | .ptr m 0 => match s.mem m with
      | some (.obj mc false) => match mc[off]? with
        | some (.msl n o len _) => match s.mem n with
          | some (.obj cells _) => match toPCs cells with
            | some cs => if 0 < z ∧ o + len * z ≤ cs.length ∧ m ≠ n then some ⟨s.t, (m, .obj (mc.set off (.c (.sl (chunks z len (cs.drop o))))) false) :: (n, .obj cells true) :: s.m⟩ else none
            | none => none
          | _ => none
        | _ => none
      | _ => none
    | _ => none
def hintP (ns : List Nat) (id : Nat) (K : AS → Prop) : List (Nat × Hint) → AS → Prop
  | [], s => K s
  | (i, h) :: l, s => if i = id then andThen (doHint ns h s) (hintP ns id K l) else hintP ns id K l s

def vc (Γ : FuncId → Contract) (P : Program) (E : Env) : Code → (Exit → AS → Prop) → AS → Prop
  | .skip, Q, s => Q .normal s
  | .region id ops false, Q, s => andThen (aOps Γ P E.N ops ops.toList s) fun r => hintP E.ns id (Q .normal) E.N.adv.hints r.1
  | .region id ops true, Q, s => regionB ops = true ∧ andThen (aOps Γ P E.N ops ops.toList s) fun r => orderB ops r.2 = true ∧ hintP E.ns id (Q .normal) E.N.adv.hints r.1
  | .seq a b, Q, s => vc Γ P E a (thenA (vc Γ P E b Q) Q) s
  | .cond c x y, Q, s => andThen (cndE (s.eval c)) fun c => cndQ c (vc Γ P E x Q s) (vc Γ P E y Q s)
  | .block id body, Q, s => vc Γ P E body (inBlockA id Q) s
  | .loop body, Q, s => AWP P E (.loop body) Q s
  | .exit id, Q, s => Q (.exit id) s
  | .label _, Q, s => Q .normal s
  | .ret, Q, s => Q .ret s
  | _, _, _ => False

section
variable {P : Program} {E : Env} {Γ : FuncId → Contract}

theorem AWP.mono {c : Code} {Q Q' : Exit → AS → Prop} {s : AS} (h : AWP P E c Q s) (hq : ∀ e s, Q e s → Q' e s) : AWP P E c Q' s :=
  fun G a w R => wpIn_mono (h G a w R) fun e a' w' ⟨G', s', h2, h3⟩ => ⟨G', s', hq e s' h2, h3⟩

theorem AWP.seq {x y : Code} {Q : Exit → AS → Prop} {s : AS} (h : AWP P E x (thenA (AWP P E y Q) Q) s) : AWP P E (.seq x y) Q s := by
  intro G a w R
  refine wpIn_seq (wpIn_mono (h G a w R) ?_)
  rintro e a' w' ⟨G', s', h2, h3⟩
  cases e with
  | normal =>
    refine wpIn_mono (h2 G' a' w' h3) ?_
    exact fun e a2 w2 h => h
  | _ => exact ⟨G', s', h2, h3⟩

theorem AWP.block {id : Nat} {c : Code} {Q : Exit → AS → Prop} {s : AS} (h : AWP P E c (inBlockA id Q) s) : AWP P E (.block id c) Q s := by
  intro G a w R
  refine wpIn_block (wpIn_mono (h G a w R) ?_)
  rintro e a' w' ⟨G', s', h2, h3⟩
  cases e with
  | exit id' =>
    simp only [inBlockA] at h2
    simp only [Exit.inBlock]
    by_cases e : id' = id
    · rw [if_pos e] at h2 ⊢; exact ⟨G', s', h2, h3⟩
    · rw [if_neg e] at h2 ⊢; exact ⟨G', s', h2, h3⟩
  | _ => exact ⟨G', s', h2, h3⟩

theorem hasN_mem : ∀ {l : List Nat} {n : Nat}, n ∈ l → hasN l n = true
  | x :: l, n, h => by
    simp only [hasN, Bool.or_eq_true, beq_iff_eq]
    rcases List.mem_cons.1 h with h | h
    · exact .inl h.symm
    · exact .inr (hasN_mem h)

/-- What does not say the name stays as it is. -/
theorem noName_rel {G G' : Gh} {n : Nat} (hK : G.K.le G'.K) (hh : ∀ i, i ≠ n → G'.h i = G.h i) {x : AV} {v : Value} (hx : noName n x = true) (h : AR G x v) : AR G' x v := by
  have one : ∀ {x : AV} {v : Value}, (match x with | .own r _ _ => r != n | .ptr r _ => r != n | .msl r _ _ _ => r != n | .mp r => r != n | .agg _ | .tup _ => false | _ => true) = true → AR G x v → AR G' x v := by
    intro x v hx h
    cases h with
    | undef v => exact .undef v
    | c x v hv => exact .c x v (hv.mono hK)
    | agg => cases hx
    | nilsl => exact .nilsl
    | own r z rows v bk fr h1 hl hr hv ha => exact .own r z rows v bk fr (by rw [hh r (by simpa using hx)]; exact h1) hl hr (hv.mono hK) ha
    | ptr r off b h1 => exact .ptr r off b (by rw [hh r (by simpa using hx)]; exact h1)
    | msl r off len b cap ex h1 hc he => exact .msl r off len b cap ex (by rw [hh r (by simpa using hx)]; exact h1) hc he
    | nilptr => exact .nilptr
    | rptr cs b off hk => exact .rptr cs b off (hk.mono hK)
    | clo f caps us hl hk => exact .clo f caps us hl (fun i cs b h1 h2 => (hk i cs b h1 h2).mono hK)
    | mp r b h1 => exact .mp r b (by rw [hh r (by simpa using hx)]; exact h1)
    | nilmp => exact .nilmp
    | ubool b => exact .ubool b
    | tup => cases hx
  cases h with
  | agg cs us hl hc =>
    refine .agg cs us hl fun i x u e1 e2 => ?_
    simp only [noName, List.all_eq_true] at hx
    exact one (hx x (List.mem_of_getElem? e1)) (hc i x u e1 e2)
  | tup cs us hl hc =>
    refine .tup cs us hl fun i x u e1 e2 => ?_
    simp only [noName, List.all_eq_true] at hx
    exact one (hx x (List.mem_of_getElem? e1)) (hc i x u e1 e2)
  | undef v => exact .undef v
  | c x v hv => exact .c x v (hv.mono hK)
  | nilsl => exact .nilsl
  | own r z rows v bk fr h1 hl hr hv ha => exact one (x := .own r z rows) hx (.own r z rows v bk fr h1 hl hr hv ha)
  | ptr r off b h1 => exact one (x := .ptr r off) hx (.ptr r off b h1)
  | msl r off len b cap ex h1 hc he => exact one (x := .msl r off len ex) hx (.msl r off len b cap ex h1 hc he)
  | nilptr => exact .nilptr
  | rptr cs b off hk => exact .rptr cs b off (hk.mono hK)
  | clo f caps us hl hk => exact .clo f caps us hl (fun i cs b h1 h2 => (hk i cs b h1 h2).mono hK)
  | mp r b h1 => exact one (x := .mp r) hx (.mp r b h1)
  | nilmp => exact .nilmp
  | ubool b => exact .ubool b

theorem dropT_get (n : Nat) : ∀ (l : List (Nat × AV)) (i : Nat), (look (dropT n l) i).getD .undef = (let x := (look l i).getD .undef; if noName n x then x else .undef)
  | [], i => rfl
  | (j, x) :: l, i => by
    simp only [dropT, look]
    split
    · rfl
    · exact dropT_get n l i

theorem noNames_look {n : Nat} : ∀ {l : List (Nat × MC)} {k : Nat} {c : MC}, noNames n l = true → look l k = some c → k ≠ n → noMC n c = true
  | (j, y) :: l, k, c, h, hl, hk => by
    simp only [noNames, Bool.and_eq_true, Bool.or_eq_true, beq_iff_eq] at h
    simp only [look] at hl
    split at hl
    · rename_i e; cases hl
      rcases h.1 with h1 | h1
      · exact absurd (e ▸ h1) hk
      · exact h1
    · exact noNames_look h.2 hl hk
  | [], k, c, h, hl, hk => by cases hl

theorem chunk_rows {K : Know} {b off z len : Nat} {cs : List PC} (h0 : 0 < z) (hl : off + len * z ≤ cs.length) (hk : ∀ i c, cs[i]? = some c → ∃ v, K b i = some v ∧ VR K c v) : Slice K z b off (chunks z len (cs.drop off)) := by
  refine ⟨fun r hr => ?_, fun j r hj i c hi => ?_⟩
  · obtain ⟨j, hj⟩ := List.mem_iff_getElem?.1 hr
    have hjl : j < len := by have := (List.getElem?_eq_some_iff.1 hj).1; rwa [chunks_length] at this
    have := chunks_get _ _ _ _ _ hj
    have h3 : j * z + z ≤ len * z := by rw [← Nat.succ_mul]; exact Nat.mul_le_mul_right z hjl
    rw [this]; simp; omega
  · have := chunks_get _ _ _ _ _ hj
    rw [this, List.getElem?_take] at hi
    split at hi
    · rw [List.getElem?_drop, List.getElem?_drop] at hi
      rw [show off + j * z + i = off + (j * z + i) from by omega]
      exact hk _ c hi
    · cases hi

theorem look_without (n : Nat) : ∀ (l : List (Nat × MC)) (i : Nat), i ≠ n → look (without n l) i = look l i
  | [], i, _ => rfl
  | (k, c) :: l, i, h => by
    simp only [without]
    split
    · rename_i e
      simp only [look]
      rw [if_neg (by omega), look_without n l i h]
    · simp only [look]
      split
      · rfl
      · exact look_without n l i h
theorem look_once : ∀ (l : List (Nat × MC)) (i : Nat), look (once l) i = look l i
  | [], i => rfl
  | (k, c) :: l, i => by
    simp only [once, look]
    split
    · rfl
    · rename_i h
      rw [look_without k _ i (Ne.symm h), look_once l i]
theorem pickT_get (s : AS) : ∀ (l : List Nat) (i : Nat), (look (pickT s l) i).getD .undef = s.get i ∨ (look (pickT s l) i).getD .undef = .undef
  | [], i => .inr rfl
  | j :: l, i => by
    simp only [pickT, look]
    split
    · rename_i e; subst e; exact .inl rfl
    · exact pickT_get s l i

theorem hint_sound {G : Gh} {s s' : AS} {a : Act} {w : World} (R : Rel E G s a w) {h : Hint} (hs : doHint E.ns h s = some s') : ∃ G', Rel E G' s' a w := by
  have ht := R.tmps
  cases h with
  | tidy l =>
    simp only [doHint, Option.some.injEq] at hs
    subst hs
    refine ⟨G, R.size, R.defs, fun i => ?_, R.mem.congr (fun i => look_once s.m i), R.ent⟩
    have := pickT_get s l i
    show AR G ((look (pickT s l) i).getD .undef) _
    rcases this with h | h
    · rw [h]; exact ht i
    · rw [h]; exact .undef _
  | frzAt p off z =>
    simp only [doHint] at hs
    split at hs
    · rename_i m hp
      split at hs
      · rename_i mc hmm
        split at hs
        · rename_i n o len ex hoff
          split at hs
          · rename_i cells fz hm
            split at hs
            · rename_i cs hcs
              split at hs
              · rename_i hc
                obtain ⟨c1, c2, c3⟩ := hc
                cases hs
                have hv := ht p
                rw [hp] at hv
                generalize hvv : a.tmps.getD p Go.undef = v at hv
                cases hv with
                | ptr _ _ bm hbm =>
                have hom := R.mem.home m
                rw [hmm, hbm] at hom
                obtain ⟨vs, ty, a1, a2, a3, a4, a5, a6⟩ := hom
                have hol : off < mc.length := (List.getElem?_eq_some_iff.1 hoff).1
                have hov : vs[off]? = some vs[off] := by simp
                have hr := a3 off _ _ hoff hov
                generalize vs[off] = vo at hr hov
                cases hr with
                | msl _ _ _ b cap _ hb hcap he =>
                obtain ⟨G', g1, g2, g3, g4⟩ := R.mem.freeze hm hb
                obtain ⟨t1, t2⟩ := toPCs_spec hcs
                have hom' := g4.home m
                have hme : mset s.mem n (.obj cells true) m = some (.obj mc false) := by unfold mset; rw [if_neg (Ne.symm c3)]; exact hmm
                have hbm' : G'.h m = some (.obj bm) := by rw [g2]; exact hbm
                rw [hme, hbm'] at hom'
                obtain ⟨vs', ty', a1', a2', a3', a4', a5', a6'⟩ := hom'
                rw [a1] at a1'
                cases a1'
                have hsl := chunk_rows (K := G'.K) (b := b) (cs := cs) c1 c2 (fun i c hi => by
                  have hil : i < cells.length := by have := (List.getElem?_eq_some_iff.1 hi).1; omega
                  obtain ⟨v, v1, v2⟩ := g3 i cells[i] (by simp [hil])
                  exact ⟨v, v1, v2.toPC (t2 i _ c (by simp [hil]) hi)⟩)
                have hvr := VR.of_slice hsl (cap := cap) (by rw [chunks_length]; exact hcap)
                rw [chunks_length] at hvr
                have g5 := g4.update (Gh.le_refl G') m (.obj (mc.set off (.c (.sl (chunks z len (cs.drop o))))) false) (.obj bm) g4.agree (fun _ _ => rfl) hbm'
                  ⟨vs, ty, a1, by rw [List.length_set]; exact a2, fun i x v e1 e2 => by
                    by_cases hi : i = off
                    · subst hi
                      rw [List.getElem?_set_self hol] at e1
                      cases e1
                      rw [hov] at e2
                      cases e2
                      exact .c _ _ hvr
                    · rw [List.getElem?_set_ne (Ne.symm hi)] at e1
                      exact a3' i x v e1 e2, a4, (fun e => by cases e), a6'⟩
                  (fun i x b' hi e1 e2 => ⟨rfl, fun _ => rfl, fun e => hi (g4.inj i m x (.obj bm) b' e1 hbm' e2 e)⟩) rfl rfl rfl (Nat.le_refl _) (fun _ _ _ => rfl) (fun _ _ _ _ => rfl)
                refine ⟨G', R.size, R.defs, fun i => (ht i).mono g1, g5.congr (fun i => rfl), fun k hk => ?_⟩
                obtain ⟨x, x', e1, e2, l⟩ := R.ent k hk
                exact ⟨x, x', e1, by rw [g2]; exact e2, l⟩
              · cases hs
            · cases hs
          · cases hs
        · cases hs
      · cases hs
    · cases hs
  | frz d z =>
    simp only [doHint] at hs
    split at hs
    · rename_i n off len ex hd
      split at hs
      · rename_i cells fz hm
        split at hs
        · rename_i cs hcs
          split at hs
          · rename_i hc
            cases hs
            have hv := ht d
            rw [hd] at hv
            generalize hvv : a.tmps.getD d Go.undef = v at hv
            cases hv with
            | msl _ _ _ b cap _ hb hcap he =>
            obtain ⟨G', g1, g2, g3, g4⟩ := R.mem.freeze hm hb
            obtain ⟨t1, t2⟩ := toPCs_spec hcs
            refine ⟨G', R.size, R.defs, fun i => ?_, g4.congr (fun i => AS.mem_wr1 ⟨s.t, s.m⟩ n _ i), fun k hk => ?_⟩
            · simp only [AS.get, look]
              split
              · rename_i e; subst e
                rw [hvv, Option.getD_some]
                have hsl := chunk_rows (K := G'.K) (b := b) (cs := cs) hc.1 hc.2 (fun i c hi => by
                  have hil : i < cells.length := by have := (List.getElem?_eq_some_iff.1 hi).1; omega
                  obtain ⟨v, v1, v2⟩ := g3 i cells[i] (by simp [hil])
                  exact ⟨v, v1, v2.toPC (t2 i _ c (by simp [hil]) hi)⟩)
                have := VR.of_slice hsl (cap := cap) (by rw [chunks_length]; exact hcap)
                rw [chunks_length] at this
                exact .c _ _ this
              · exact (ht i).mono g1
            · obtain ⟨x, x', e1, e2, l⟩ := R.ent k hk
              exact ⟨x, x', e1, by rw [g2]; exact e2, l⟩
          · cases hs
        · cases hs
      · cases hs
    · cases hs
  | toOwn d z =>
    simp only [doHint] at hs
    split at hs
    · rename_i n len hd
      split at hs
      · rename_i cells hm
        split at hs
        · rename_i cs hcs
          split at hs
          · rename_i hc
            obtain ⟨c1, c2, c3, c4⟩ := hc
            cases hs
            have hv := ht d
            rw [hd] at hv
            generalize hvv : a.tmps.getD d Go.undef = v at hv
            cases hv with
            | msl _ _ _ b cap _ hb hcap he =>
            have hcap' := he rfl
            subst hcap'
            obtain ⟨t1, t2⟩ := toPCs_spec hcs
            have h0 := R.mem.home n
            rw [hm, hb] at h0
            obtain ⟨vs, ty, a1, a2, a3, a4, a5, a6⟩ := h0
            obtain ⟨G1, g1, g2, g3, g4⟩ := R.mem.freeze hm hb
            let G2 : Gh := ⟨G1.K, fun i => if i = n then some (.row z (some (b, cap)) cap) else G1.h i⟩
            have hh : ∀ i, i ≠ n → G2.h i = G.h i := fun i hi => by show (if i = n then _ else G1.h i) = _; rw [if_neg hi, g2]
            have hhn : G2.h n = some (.row z (some (b, cap)) cap) := by show (if n = n then _ else _) = _; rw [if_pos rfl]
            have hKle : G.K.le G2.K := g1.K
            have hsl := chunk_rows (K := G2.K) (b := b) (off := 0) (len := cap) (cs := cs) c1 (by omega) (fun i c hi => by
              have hil : i < cells.length := by have := (List.getElem?_eq_some_iff.1 hi).1; omega
              obtain ⟨v, v1, v2⟩ := g3 i cells[i] (by simp [hil])
              exact ⟨v, v1, v2.toPC (t2 i _ c (by simp [hil]) hi)⟩)
            rw [List.drop_zero] at hsl
            have hKb : ∀ o, cap * z ≤ o → G2.K b o = none := by
              intro o ho
              cases hk : G2.K b o with
              | none => rfl
              | some v =>
                have := g4.agree b o v hk
                simp only [World.cell?, a1] at this
                have := (Array.getElem?_eq_some_iff.1 this).1
                omega
            refine ⟨G2, R.size, R.defs, fun i => ?_, ?_, fun k hk => ?_⟩
            · simp only [AS.get, look]
              split
              · rename_i e; subst e
                rw [hvv, Option.getD_some]
                have hl := chunks_length z cap cs
                have := VR.of_slice hsl (cap := cap) (by omega)
                rw [hl] at this
                exact .own n z (chunks z cap cs) _ (some (b, cap)) cap hhn (by omega) hsl.1 this (fun _ => by rw [hl]; rfl)
              · rw [dropT_get]
                dsimp only
                split
                · rename_i hn
                  exact noName_rel hKle hh hn (ht i)
                · exact .undef _
            · have M : MRel E G2 (mset s.mem n (.row z cap)) w := by
                refine ⟨g4.agree, fun i => ?_, fun i j x y b' e1 e2 e3 e4 => ?_, g4.os, g4.tape, g4.output, g4.size0, g4.sizeB, g4.blk, g4.k0, g4.kfr⟩
                · unfold mset
                  by_cases e : n = i
                  · subst e
                    rw [if_pos rfl, hhn]
                    exact ⟨rfl, rfl, vs, ty, ⟨_, a1, .inl rfl⟩, by omega, Nat.le_refl _, c1, a4, hKb⟩
                  · rw [if_neg e, hh i (Ne.symm e)]
                    have hi := R.mem.home i
                    have hi2 := g4.home i
                    unfold mset at hi2
                    rw [if_neg e, g2] at hi2
                    cases hgh : G.h i with
                    | none => rw [hgh] at hi; cases hmi : s.mem i with | none => trivial | some c => rw [hmi] at hi; cases c <;> exact hi.elim
                    | some x =>
                      rw [hgh] at hi2
                      cases hmi : s.mem i with
                      | none => rw [hmi] at hi2; exact hi2.elim
                      | some c =>
                        rw [hmi] at hi2
                        have hno := noNames_look c4 hmi (Ne.symm e)
                        cases c with
                        | obj cells' fz' =>
                          cases x with
                          | row => exact hi2.elim
                          | obj b' =>
                            rw [hgh, hmi] at hi
                            obtain ⟨vs', ty', q1, q2, q3, q4, q5, q6⟩ := hi2
                            obtain ⟨vs2, ty2, p1, p2, p3, _⟩ := hi
                            rw [q1] at p1
                            cases p1
                            simp only [noMC, List.all_eq_true] at hno
                            exact ⟨vs', ty', q1, q2, fun k x v e1 e2 => noName_rel hKle hh (hno x (List.mem_of_getElem? e1)) (p3 k x v e1 e2), q4, q5, q6⟩
                        | row z' fr' =>
                          cases x with
                          | obj => exact hi2.elim
                          | row z2 bk fr2 => exact hi2
                        | mp ag es =>
                          cases x with
                          | row => exact hi2.elim
                          | obj b' =>
                            exact hi2
                · have key : ∀ i x, G2.h i = some x → x.blk = some b' → ∃ x', G.h i = some x' ∧ x'.blk = some b' := by
                    intro i x e1 e3
                    by_cases e : i = n
                    · subst e; rw [hhn] at e1; cases e1
                      refine ⟨.obj b, hb, ?_⟩
                      simpa [Home.blk] using e3
                    · rw [hh i e] at e1; exact ⟨x, e1, e3⟩
                  obtain ⟨x', p1, p2⟩ := key i x e1 e3
                  obtain ⟨y', p3, p4⟩ := key j y e2 e4
                  exact R.mem.inj i j x' y' b' p1 p3 p2 p4
              exact M.congr (fun i => AS.mem_wr1 ⟨s.t, s.m⟩ n _ i)
            · obtain ⟨x, x', e1, e2, l⟩ := R.ent k hk
              have hkn : k ≠ n := fun e => by subst e; rw [hasN_mem hk] at c3; cases c3
              exact ⟨x, x', e1, by rw [hh k hkn]; exact e2, l⟩
          · cases hs
        · cases hs
      · cases hs
    · cases hs

theorem hintP_sound {id : Nat} {K : AS → Prop} {a : Act} {w : World} : ∀ {l : List (Nat × Hint)} {G : Gh} {s : AS}, Rel E G s a w → hintP E.ns id K l s → ∃ G' s', K s' ∧ Rel E G' s' a w
  | [], G, s, R, h => ⟨G, s, h, R⟩
  | (i, x) :: l, G, s, R, h => by
    simp only [hintP] at h
    split at h
    · obtain ⟨s1, h1, h2⟩ := andThen_iff.1 h
      obtain ⟨G1, R1⟩ := hint_sound R h1
      exact hintP_sound R1 h2
    · exact hintP_sound R h

theorem vc_sound (hΓ : SoundG P Γ) (hm : P.follows .mixedOrders = true) : ∀ (c : Code) (Q : Exit → AS → Prop) (s : AS), vc Γ P E c Q s → AWP P E c Q s
  | .skip, Q, s, h => fun G a w R => wpIn_skip ⟨G, s, h, R⟩
  | .region id ops false, Q, s, h => fun G a w R => by
    simp only [vc] at h
    obtain ⟨⟨s', fs⟩, h1, h2⟩ := andThen_iff.1 h
    exact region_sound hΓ R h1 fun G' a' w' hle R' => hintP_sound R' h2
  | .region id ops true, Q, s, h => fun G a w R => by
    simp only [vc] at h
    obtain ⟨hB, h⟩ := h
    obtain ⟨⟨s', fs⟩, h1, hO, h2⟩ := andThen_iff.1 h
    exact drawn_sound hΓ hm R hB h1 hO fun G' a' w' hle R' => hintP_sound R' h2
  | .seq x y, Q, s, h => by
    simp only [vc] at h
    refine AWP.seq ((vc_sound hΓ hm x _ s h).mono ?_)
    intro e s h
    cases e with
    | normal => exact vc_sound hΓ hm y Q s h
    | _ => exact h
  | .cond c x y, Q, s, h => fun G a w R => by
    simp only [vc] at h
    obtain ⟨t, h1, h2⟩ := andThen_iff.1 h
    have hc := R.eval c
    unfold cndE at h1
    split at h1
    · rename_i b e
      cases h1
      rw [e] at hc
      refine wpIn_cond_split hc.bool_inv (fun hb => ?_) (fun hb => ?_)
      · exact vc_sound hΓ hm x Q s (h2.1 hb) G a w R
      · exact vc_sound hΓ hm y Q s (h2.2 hb) G a w R
    · rename_i e
      cases h1
      rw [e] at hc
      generalize hv : a.eval c = v at hc
      cases hc with
      | ubool b =>
      refine wpIn_cond_split hv (fun hb => ?_) (fun hb => ?_)
      · exact vc_sound hΓ hm x Q s h2.1 G a w R
      · exact vc_sound hΓ hm y Q s h2.2 G a w R
    · cases h1
  | .block id c, Q, s, h => by
    simp only [vc] at h
    exact AWP.block (vc_sound hΓ hm c _ s h)
  | .loop c, Q, s, h => h
  | .exit id, Q, s, h => fun G a w R => wpIn_exit ⟨G, s, h, R⟩
  | .label l, Q, s, h => fun G a w R => wpIn_label ⟨G, s, h, R⟩
  | .ret, Q, s, h => fun G a w R => wpIn_ret ⟨G, s, h, R⟩
  | .rangeFunc _ _ _ _, _, _, h => h.elim
  | .scope _, _, _, h => h.elim
  | .goto _, _, _, h => h.elim
  | .refuse _, _, _, h => h.elim

def pcLe (x : PC) : PC → Prop
  | .junk => True
  | .int k n => x = .int k n
  | .bool b => x = .bool b
  | .str s => x = .str s
  | .sl r => x = .sl r
theorem pcLe_self (x : PC) : pcLe x x = True := by cases x <;> simp [pcLe]
theorem pcLe_junk (x : PC) : pcLe x .junk = True := rfl
theorem pcLe_int (x : PC) (k : IntKind) (n : Int) : pcLe x (.int k n) = (x = .int k n) := rfl
theorem pcLe_bool (x : PC) (b : Bool) : pcLe x (.bool b) = (x = .bool b) := rfl
theorem pcLe_str (x : PC) (s : List UInt8) : pcLe x (.str s) = (x = .str s) := rfl
theorem pcLe_sl (x : PC) (r : List (List PC)) : pcLe x (.sl r) = (x = .sl r) := rfl
theorem pcLe_or {x y : PC} (h : pcLe x y) : y = .junk ∨ x = y := by
  cases y with
  | junk => exact .inl rfl
  | _ => exact .inr h
def AMd (ρ : Ren) : AV → AV → Prop
  | _, .undef => True
  | .c x, .c y => pcLe x y
  | .nilsl, .c y => pcLe (.sl []) y
  | .own _ _ rows, .c y => pcLe (.sl rows) y
  | .nilsl, .nilsl => True
  | .nilsl, .own n z rows => rows = [] ∧ ρ.src n = none ∧ ρ.ph n = some z
  | .own r z rows, .own n z' rows' => ρ.src n = some r ∧ z = z' ∧ rows = rows'
  | .ptr q o, .ptr n o' => ρ.src n = some q ∧ o = o'
  | .msl q o l e, .msl n o' l' e' => ρ.src n = some q ∧ o = o' ∧ l = l' ∧ e = e'
  | .nilptr, .nilptr => True
  | .rptr cs, .rptr cs' => cs = cs'
  | .clo f caps, .clo f' caps' => f = f' ∧ caps = caps'
  | .mp q, .mp n => ρ.src n = some q
  | .nilmp, .nilmp => True
  | .ubool, .ubool => True
  | .agg cs, .agg cs' => cs.length = cs'.length ∧ ∀ p ∈ cs.zip cs', AMp p.1 p.2
  | .ptr _ _, .c y => y = .junk
  | .mp _, .c y => y = .junk
  | .nilptr, .c y => y = .junk
  | .nilmp, .c y => y = .junk
  | .msl _ _ _ _, .c y => y = .junk
  | _, _ => False
where AMp : AV → AV → Prop
  | _, .undef => True
  | .c x, .c y => pcLe x y
  | .nilsl, .c y => pcLe (.sl []) y
  | .own _ _ rows, .c y => pcLe (.sl rows) y
  | .nilsl, .nilsl => True
  | .ptr _ _, .c y => y = .junk
  | .mp _, .c y => y = .junk
  | .nilptr, .c y => y = .junk
  | .nilmp, .c y => y = .junk
  | _, _ => False
theorem AM.le {ρ : Ren} {x y : PC} (h : pcLe x y) : AM ρ (.c x) (.c y) := by
  rcases pcLe_or h with rfl | rfl
  · exact .junk _ rfl
  · exact .c _
theorem AM.nile {ρ : Ren} {y : PC} (h : pcLe (.sl []) y) : AM ρ .nilsl (.c y) := by
  rcases pcLe_or h with rfl | rfl
  · exact .junk _ rfl
  · exact .nilc
theorem AM.owne {ρ : Ren} {r z : Nat} {rows : List (List PC)} {y : PC} (h : pcLe (.sl rows) y) : AM ρ (.own r z rows) (.c y) := by
  rcases pcLe_or h with rfl | rfl
  · exact .junk _ rfl
  · exact .ownc _ _ _

theorem AMd.am {ρ : Ren} {x y : AV} (h : AMd ρ x y) : AM ρ x y := by
  unfold AMd at h
  split at h
  · exact .undef _
  · exact .le h
  · exact .nile h
  · exact .owne h
  · exact .nilsl
  · obtain ⟨rfl, h1, h2⟩ := h; exact .nilo _ _ h1 h2
  · obtain ⟨h1, rfl, rfl⟩ := h; exact .own _ _ _ _ h1
  · obtain ⟨h1, rfl⟩ := h; exact .ptr _ _ _ h1
  · obtain ⟨h1, rfl, rfl, rfl⟩ := h; exact .msl _ _ _ _ _ h1
  · exact .nilptr
  · subst h; exact .rptr _
  · obtain ⟨rfl, rfl⟩ := h; exact .clo _ _
  · exact .mp _ _ h
  · exact .nilmp
  · exact .ubool
  · obtain ⟨hl, h⟩ := h
    refine .agg _ _ hl fun i x y e1 e2 => ?_
    have this : AMd.AMp x y := h (x, y) (List.mem_of_getElem? (i := i) (by simp [List.getElem?_zip_eq_some, e1, e2]))
    unfold AMd.AMp at this
    split at this
    · exact .undef _
    · exact .le this
    · exact .nile this
    · exact .owne this
    · exact .nilsl
    · subst this; exact .junk _ rfl
    · subst this; exact .junk _ rfl
    · subst this; exact .junk _ rfl
    · subst this; exact .junk _ rfl
    · exact this.elim
  · subst h; exact .junk _ rfl
  · subst h; exact .junk _ rfl
  · subst h; exact .junk _ rfl
  · subst h; exact .junk _ rfl
  · subst h; exact .junk _ rfl
  · exact h.elim

def AMds (ρ : Ren) : List AV → List AV → Prop
  | [], [] => True
  | x :: xs, y :: ys => AMd ρ x y ∧ AMds ρ xs ys
  | _, _ => False
theorem AMds.am {ρ : Ren} : ∀ {xs ys : List AV}, AMds ρ xs ys → xs.length = ys.length ∧ ∀ (i : Nat) (x y : AV), xs[i]? = some x → ys[i]? = some y → AM ρ x y
  | [], [], _ => ⟨rfl, fun i x y h => by simp at h⟩
  | x :: xs, y :: ys, ⟨h1, h2⟩ => by
    obtain ⟨a1, a2⟩ := AMds.am h2
    refine ⟨by simp [a1], fun i u v e1 e2 => ?_⟩
    cases i with
    | zero => simp at e1 e2; subst e1; subst e2; exact h1.am
    | succ i => exact a2 i u v (by simpa using e1) (by simpa using e2)
  | [], _ :: _, h => h.elim
  | _ :: _, [], h => h.elim

def CMd (ρ : Ren) : MC → MC → Prop
  | .obj cells fz, .obj cells' fz' => fz = fz' ∧ AMds ρ cells cells'
  | .row z fr, .row z' fr' => z = z' ∧ fr = fr'
  | .mp ag es, .mp ag' es' => ag = ag' ∧ es = es'
  | _, _ => False
theorem CMd.cm {ρ : Ren} {x y : MC} (h : CMd ρ x y) : CM ρ (some x) (some y) := by
  unfold CMd at h
  split at h
  · obtain ⟨rfl, h⟩ := h; exact ⟨rfl, h.am⟩
  · exact h
  · exact h
  · exact h.elim

def wkRen (m : Nat → Option MC) (m2 : List (Nat × MC)) : Ren where
  src n := match look m2 n with | some _ => (m n).map fun _ => n | none => none
  ph n := match look m2 n with | some (.row z _) => some z | _ => none
def wkM (ρ : Ren) (m : Nat → Option MC) : List (Nat × MC) → Prop
  | [] => True
  | (n, c) :: l => (match m n with | some c0 => CMd ρ c0 c | none => match c with | .row _ fr => fr = 0 | _ => False) ∧ wkM ρ m l
def wkT (ρ : Ren) (s : AS) : List (Nat × AV) → Prop
  | [] => True
  | (i, y) :: l => AMd ρ (s.get i) y ∧ wkT ρ s l
/-- s2 says less than s. -/
def Weak (ns : List Nat) (s s2 : AS) : Prop := (∀ n ∈ ns, (look s2.m n).isSome = true) ∧ wkM (wkRen s.mem s2.m) s.mem s2.m ∧ wkT (wkRen s.mem s2.m) s s2.t

theorem wkM_spec {ρ : Ren} {m : Nat → Option MC} : ∀ {l : List (Nat × MC)} {n : Nat} {c : MC}, wkM ρ m l → look l n = some c → (match m n with | some c0 => CMd ρ c0 c | none => match c with | .row _ fr => fr = 0 | _ => False)
  | [], n, c, _, h => by cases h
  | (j, y) :: l, n, c, ⟨h1, h2⟩, h => by
    simp only [look] at h
    split at h
    · rename_i e; subst e; cases h; exact h1
    · exact wkM_spec h2 h

theorem Weak.rel {G : Gh} {s s2 : AS} {a : Act} {w : World} (R : Rel E G s a w) (h : Weak E.ns s s2) : ∃ G', G.K = G'.K ∧ Rel E G' s2 a w := by
  obtain ⟨h0, h1, h2⟩ := h
  have hren : RenOK (wkRen s.mem s2.m) s.mem (look s2.m) := by
    refine ⟨fun n n' q e1 e2 => ?_, fun n q e => ?_, fun n z e1 e2 => ?_, fun n e1 e2 => ?_⟩
    · simp only [wkRen] at e1 e2
      split at e1
      · split at e2
        · obtain ⟨_, _, rfl⟩ := Option.map_eq_some_iff.1 e1
          obtain ⟨_, _, rfl⟩ := Option.map_eq_some_iff.1 e2
          rfl
        · cases e2
      · cases e1
    · simp only [wkRen] at e
      split at e
      · rename_i c hc
        obtain ⟨c0, hc0, rfl⟩ := Option.map_eq_some_iff.1 e
        have := wkM_spec h1 hc
        rw [hc0] at this
        rw [hc0, hc]
        exact CMd.cm this
      · cases e
    · simp only [wkRen] at e1 e2
      split at e2
      · rename_i z' fr hc
        cases e2
        have := wkM_spec h1 hc
        rw [hc] at e1
        cases hm : s.mem n with
        | some c0 => rw [hm] at e1; simp at e1
        | none => rw [hm] at this; rw [hc]; dsimp only at this; rw [this]
      · cases e2
    · simp only [wkRen] at e1 e2
      cases hc : look s2.m n with
      | none => rfl
      | some c =>
        rw [hc] at e1 e2
        have := wkM_spec h1 hc
        cases hm : s.mem n with
        | some c0 => rw [hm] at e1; simp at e1
        | none =>
          rw [hm] at this
          cases c with
          | row z fr => simp at e2
          | obj => exact this.elim
          | mp => exact this.elim
  refine ⟨(wkRen s.mem s2.m).gh G, rfl, R.size, R.defs, fun i => ?_, R.mem.rename hren, fun n hn => ?_⟩
  case refine_2 =>
    obtain ⟨x, x', e1, e2, l⟩ := R.ent n hn
    obtain ⟨c, hc⟩ := Option.isSome_iff_exists.1 (h0 n hn)
    refine ⟨x, x', e1, ?_, l⟩
    have hm : ∃ c0, s.mem n = some c0 := by
      cases hm : s.mem n with
      | some c0 => exact ⟨c0, rfl⟩
      | none => have := R.mem.home n; rw [hm, e2] at this; exact this.elim
    obtain ⟨c0, hm⟩ := hm
    have hs : (wkRen s.mem s2.m).src n = some n := by simp only [wkRen, hc, hm, Option.map_some]
    simp only [Ren.gh, hs]; exact e2
  have : ∀ (l : List (Nat × AV)), wkT (wkRen s.mem s2.m) s l → AM (wkRen s.mem s2.m) (s.get i) ((look l i).getD .undef) := by
    intro l
    induction l with
    | nil => intro _; exact .undef _
    | cons p l ih =>
      obtain ⟨j, y⟩ := p
      rintro ⟨g1, g2⟩
      simp only [look]
      split
      · rename_i e; subst e; exact g1.am
      · exact ih g2
  exact (this s2.t h2).rel (R.tmps i)


/-- A loop: what holds at each round's head with so many rounds to come at most. -/
theorem AWP.loop {c : Code} {Q : Exit → AS → Prop} {s : AS} (I : Nat → AS → Prop) (h0 : ∃ n s1, Weak E.ns s s1 ∧ I n s1)
    (hr : ∀ n s, I n s → AWP P E c (thenA (fun s' => ∃ m s2, m < n ∧ Weak E.ns s' s2 ∧ I m s2) Q) s) : AWP P E (.loop c) Q s := by
  intro G a w R b k cs hro hb hrm
  have key : ∀ n s G a w, I n s → Rel E G s a w → ∃ e a' w', (∃ G' s', Q e s' ∧ Rel E G' s' a' w') ∧ ArrivesIn (Machine.fenced P (rF E.ro)) P (lone (b.atR a (.code c :: .inLoop c :: k)) cs w) b k cs e a' w' := by
    intro n
    induction n using Nat.strongRecOn with
    | _ n ih =>
      intro s G a w hI R
      obtain ⟨e, a₁, w₁, ⟨G1, s1, g2, g3⟩, harr⟩ := hr n s hI G a w R b (.inLoop c :: k) cs hro hb hrm
      cases e with
      | normal =>
        obtain ⟨m, s2, hlt, hw, hI2⟩ := g2
        obtain ⟨G2, _, R2⟩ := hw.rel g3
        obtain ⟨e₂, a₂, w₂, hq₂, harr₂⟩ := ih m hlt s2 G2 a₁ w₁ hI2 R2
        exact ⟨e₂, a₂, w₂, hq₂, .of_steps (StepsIn.trans harr (.one (fenced_calm hb hrm rfl) stepR_inLoop)) harr₂⟩
      | exit id => exact ⟨_, a₁, w₁, ⟨G1, s1, g2, g3⟩, .pass (x := .inLoop c) rfl (fun _ _ => .inl (by simp)) harr⟩
      | goto l => exact ⟨_, a₁, w₁, ⟨G1, s1, g2, g3⟩, .pass (x := .inLoop c) rfl (fun _ _ => .inl (by simp)) harr⟩
      | ret => exact ⟨_, a₁, w₁, ⟨G1, s1, g2, g3⟩, .pass (x := .inLoop c) rfl (fun _ _ => .inl (by simp)) harr⟩
      | panic ch => exact ⟨_, a₁, w₁, ⟨G1, s1, g2, g3⟩, .pass (x := .inLoop c) rfl (fun _ _ => .inl (by simp)) harr⟩
      | outgrown => exact ⟨_, a₁, w₁, ⟨G1, s1, g2, g3⟩, .pass (x := .inLoop c) rfl (fun _ _ => .inl (by simp)) harr⟩
  obtain ⟨n, s1, hw, hI⟩ := h0
  obtain ⟨G1, _, R1⟩ := hw.rel R
  obtain ⟨e, a', w', hq, harr⟩ := key n s1 G1 a w hI R1
  exact ⟨e, a', w', hq, .of_steps (.one (fenced_calm hb hrm rfl) stepR_loop) harr⟩

end
end Go.Proofs.Ytofkehedjcinhaa.AM
