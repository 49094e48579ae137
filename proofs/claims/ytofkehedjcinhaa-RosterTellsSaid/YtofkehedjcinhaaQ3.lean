/-
  Q3: Am6 Am7 Am8.
-/
import Derived.Test.YtofkehedjcinhaaQ2
set_option linter.unusedVariables false
set_option linter.unusedSimpArgs false
namespace Go.Proofs.Ytofkehedjcinhaa.AM
open Go

section
variable {P : Program} {E : Env} {G : Gh} {s : AS} {a : Act} {w : World} {o : Oper} {next : Act → World → Prop} {Q : Exit → Act → World → Prop}

theorem putAt_length {cells xs : List AV} {off : Nat} (h : off + xs.length ≤ cells.length) : (putAt cells off xs).length = cells.length := by
  simp [putAt]; omega

theorem putAt_get {cells xs : List AV} {off i : Nat} (h : off + xs.length ≤ cells.length) : (putAt cells off xs)[i]? = if off ≤ i ∧ i < off + xs.length then xs[i - off]? else cells[i]? := by
  have t1 : (cells.take off).length = off := by simp; omega
  unfold putAt
  rcases Nat.lt_or_ge i off with hi | hi
  · rw [List.append_assoc, List.getElem?_append_left (by omega), List.getElem?_take, if_pos hi, if_neg (by omega)]
  · rw [List.append_assoc, List.getElem?_append_right (by omega), t1]
    rcases Nat.lt_or_ge (i - off) xs.length with hj | hj
    · rw [List.getElem?_append_left hj, if_pos (by omega)]
    · rw [List.getElem?_append_right hj, List.getElem?_drop, if_neg (by omega)]
      congr 1; omega

/-- The model's own way of laying a part's cells. -/
theorem fold_get (off : Nat) : ∀ (us : List Value) (j : Nat) (cs : Array Value), off + j + us.length ≤ cs.size →
    ((us.zipIdx j).foldl (fun cs (x : Value × Nat) => cs.setIfInBounds (off + x.2) x.1) cs).size = cs.size ∧
    ∀ i, ((us.zipIdx j).foldl (fun cs (x : Value × Nat) => cs.setIfInBounds (off + x.2) x.1) cs)[i]? = if off + j ≤ i ∧ i < off + j + us.length then us[i - (off + j)]? else cs[i]?
  | [], j, cs, h => ⟨rfl, fun i => by simp; intro h1 h2; omega⟩
  | u :: us, j, cs, h => by
    simp only [List.length_cons] at h
    obtain ⟨h1, h2⟩ := fold_get off us (j + 1) (cs.setIfInBounds (off + j) u) (by simp; omega)
    simp only [List.zipIdx_cons, List.foldl_cons]
    refine ⟨by rw [h1]; simp, fun i => ?_⟩
    rw [h2]
    simp only [List.length_cons]
    by_cases e : i = off + j
    · subst e
      rw [if_neg (by omega), if_pos (by omega), Array.getElem?_setIfInBounds_self_of_lt (by omega)]
      simp
    · by_cases hr : off + (j + 1) ≤ i ∧ i < off + (j + 1) + us.length
      · rw [if_pos hr, if_pos (by omega)]
        have : i - (off + j) = (i - (off + (j + 1))) + 1 := by omega
        rw [this]; simp
      · rw [if_neg hr, if_neg (by omega), Array.getElem?_setIfInBounds_ne (by omega)]

theorem fill_run {place placeC : Nat → Option (Nat × Nat)} (hp : ∀ i off z, place i = some (off, z) → placeC i = some (off, z)) :
    ∀ (parts : List (Nat × AV)) (cparts : List (Nat × Value)) (cells out : List AV) (vs : Array Value), fillE place cells parts = some out →
      parts.length = cparts.length → (∀ (k : Nat) (p : Nat × AV) (q : Nat × Value), parts[k]? = some p → cparts[k]? = some q → p.1 = q.1 ∧ AR G p.2 q.2) →
      cells.length = vs.size → (∀ (i : Nat) (x : AV) (v : Value), cells[i]? = some x → vs[i]? = some v → AR G x v) →
      ∃ vs' : Array Value, Instr.fill placeC vs cparts = some vs' ∧ out.length = vs'.size ∧ ∀ (i : Nat) (x : AV) (v : Value), out[i]? = some x → vs'[i]? = some v → AR G x v := by
  intro parts
  induction parts with
  | nil =>
    intro cparts cells out vs h hl _ hs hr
    simp only [fillE, Option.some.injEq] at h
    subst h
    cases cparts with
    | nil => exact ⟨vs, rfl, hs, hr⟩
    | cons => simp at hl
  | cons p parts ih =>
    intro cparts cells out vs h hl hc hs hr
    cases cparts with
    | nil => simp at hl
    | cons q cparts =>
      obtain ⟨i, x⟩ := p
      obtain ⟨j, v⟩ := q
      obtain ⟨e, hxv⟩ := hc 0 (i, x) (j, v) rfl rfl
      simp only at e hxv
      subst e
      simp only [fillE] at h
      split at h
      · rename_i off z xs e1 e2
        split at h
        · rename_i hh
          obtain ⟨h1, h2⟩ := hh
          obtain ⟨f1, f2⟩ := flat_rel hxv e2
          have hvz : v.cells.size = z := by omega
          obtain ⟨g1, g2⟩ := fold_get off v.cells.toList 0 vs (by simp; omega)
          simp only [Nat.add_zero] at g2
          let vs1 := (v.cells.toList.zipIdx 0).foldl (fun cs (x : Value × Nat) => cs.setIfInBounds (off + x.2) x.1) vs
          obtain ⟨vs', r1, r2, r3⟩ := ih cparts (putAt cells off xs) out vs1 h (by simpa using hl) (fun k p q a1 a2 => hc (k + 1) p q (by simpa using a1) (by simpa using a2))
            (by rw [putAt_length (by omega)]; show _ = vs1.size; rw [g1]; exact hs)
            (fun i x u a1 a2 => by
              rw [putAt_get (by omega)] at a1
              have a2' : vs1[i]? = some u := a2
              rw [show vs1[i]? = _ from g2 i] at a2'
              split at a1
              · rename_i hin
                rw [if_pos (by simp; omega)] at a2'
                exact f2 (i - off) x u a1 (by simpa using a2')
              · rename_i hin
                rw [if_neg (by simp; omega)] at a2'
                exact hr i x u a1 a2')
          refine ⟨vs', ?_, r2, r3⟩
          have hz : (v.cells.zipIdx.foldl (fun cs (x : Value × Nat) => cs.setIfInBounds (off + x.2) x.1) vs) = vs1 := by
            rw [← Array.foldl_toList]
            congr 1
            simp [Array.toList_zipIdx]
          simp only [Instr.fill, hp _ _ _ e1]
          rw [if_neg (by simp; omega)]
          have e3 : (Array.foldl (fun cs x => match x with | (c, j) => cs.setIfInBounds (off + j) c) vs v.cells.zipIdx) = vs1 := hz
          rw [e3]; exact r1
        · cases h
      · cases h

theorem evals (R : Rel E G s a w) (parts : List (Nat × Operand)) : ∀ (k : Nat) (p : Nat × AV) (q : Nat × Value), (parts.map fun p => (p.1, s.eval p.2))[k]? = some p → (parts.map fun p => (p.1, a.eval p.2))[k]? = some q → p.1 = q.1 ∧ AR G p.2 q.2 := by
  intro k p q h1 h2
  simp only [List.getElem?_map, Option.map_eq_some_iff] at h1 h2
  obtain ⟨x, hx, rfl⟩ := h1
  obtain ⟨y, hy, rfl⟩ := h2
  rw [hx] at hy
  cases hy
  exact ⟨rfl, R.eval _⟩

theorem sound_build (R : Rel E G s a w) {t : TypeId} {parts : Array (Nat × Operand)} (ho : o.op = .build t parts) {cs : List AV} (hx : buildE P t (parts.toList.map fun p => (p.1, s.eval p.2)) = some cs) (K : Post E G s o ⟨.agg cs, []⟩ a next) : o.wp P a w next Q := by
  unfold buildE at hx
  split at hx
  · rename_i zero hzero
    obtain ⟨it, zv, hi, hz, hzl, hzr⟩ := zero_rel G hzero
    have key : ∀ (place : Nat → Option (Nat × Nat)), fillE place zero (parts.toList.map fun p => (p.1, s.eval p.2)) = some cs → (∀ vs : Array Value, Instr.fill place zv.cells (parts.map fun (i, x) => (i, a.eval x)).toList = some vs → P.built t (parts.map fun (i, x) => (i, a.eval x)).toList = some vs) → o.wp P a w next Q := by
      intro place hf hb
      obtain ⟨vs', r1, r2, r3⟩ := fill_run (G := G) (place := place) (placeC := place) (fun _ _ _ h => h) _ (parts.map fun (i, x) => (i, a.eval x)).toList zero cs zv.cells hf (by simp) (by simpa using evals R parts.toList) hzl hzr
      refine sound_val R (v := .agg vs') ?_ (.agg _ _ r2 r3) K
      have := run_build (P := P) w t (parts.map fun (i, x) => (i, a.eval x)) vs' (hb vs' r1)
      simp [execOp, ho, this]
    split at hx
    · rename_i ps hps
      unfold tyPlaces at hps
      split at hps
      · rename_i fs hu
        refine key _ hx fun vs hv => ?_
        simp only [Program.built, hi, hu, hz, hps]
        simpa using hv
      · cases hps
    · split at hx
      · rename_i n e he
        split at hx
        · rename_i z hz'
          obtain ⟨ie, h1, h2⟩ := tySize_info hz'
          refine key _ hx fun vs hv => ?_
          simp only [Program.built, hi, tyArr_run he, hz, h1, h2]
          exact hv
        · cases hx
      · cases hx
  · cases hx

theorem chunks_length (z : Nat) : ∀ (n : Nat) (l : List PC), (chunks z n l).length = n
  | 0, l => rfl
  | n + 1, l => by simp [chunks, chunks_length z n]
theorem chunks_get (z : Nat) : ∀ (n : Nat) (l : List PC) (j : Nat) (r : List PC), (chunks z n l)[j]? = some r → r = (l.drop (j * z)).take z
  | 0, l, j, r, h => by simp [chunks] at h
  | n + 1, l, 0, r, h => by simp [chunks] at h; simp [h]
  | n + 1, l, j + 1, r, h => by
    simp only [chunks, List.getElem?_cons_succ] at h
    have := chunks_get z n (l.drop z) j r h
    rw [this, List.drop_drop, Nat.add_mul, Nat.one_mul, Nat.add_comm]

theorem flat_rep {α : Type} (l : List α) (h0 : 0 < l.length) : ∀ (n i : Nat), (List.replicate n l).flatten[i]? = if i < n * l.length then l[i % l.length]? else none
  | 0, i => by simp
  | n + 1, i => by
    rw [List.replicate_succ, List.flatten_cons]
    rcases Nat.lt_or_ge i l.length with h | h
    · rw [List.getElem?_append_left h, Nat.mod_eq_of_lt h, if_pos]
      rw [Nat.add_mul]; omega
    · rw [List.getElem?_append_right h, flat_rep l h0 n, Nat.mod_eq_sub_mod h]
      have : (i - l.length < n * l.length) ↔ (i < (n + 1) * l.length) := by rw [Nat.add_mul]; omega
      simp only [this]

theorem newRow_out (R : Rel E G s a w) {n z cap : Nat} {rows : List (List PC)} {vs : Array Value} {ty : TypeId} {e : Eff} {l : List Nat} (h : (newRowE n z rows).run s.mem = some (e, l))
    (hrun : (execOp a.eval o).run P w = .ok (.value (.slice (some ⟨w.heap.size, 0, none⟩) rows.length cap)) (w.alloc (.cells vs ty)))
    (hz : 0 < z) (hr : ∀ r ∈ rows, r.length = z) (hcap : rows.length ≤ cap) (hsize : vs.size = cap * z)
    (hv : ∀ (j : Nat) (r : List PC) (i : Nat) (c : PC), rows[j]? = some r → r[i]? = some c → ∃ v, vs[j * z + i]? = some v ∧ VR G.K c v) (K : Post E G s o e a next) : o.wp P a w next Q := by
  unfold newRowE at h
  obtain ⟨l', h, _⟩ := EP.ask_inv h
  split at h
  · rename_i hm
    obtain ⟨rfl, _⟩ := EP.ret_inv h
    obtain ⟨G', g1, g2, g3⟩ := R.mem.newRow (w' := w.alloc (.cells vs ty)) hm (z := z) (cap := cap) (rows := rows) (vs := vs) (ty := ty) hz hr hcap hsize (by show (w.heap.push _)[w.heap.size]? = _; simp) hv
      (fun b hb => heap_push_old w w.drawn _ b hb) rfl rfl rfl (by show _ ≤ (w.heap.push _).size; simp)
    exact wp_value hrun (K G' _ _ g1 g2 (g3.congr (AS.mem_wr1 s _ _)))
  · exact EP.fail_inv h

theorem sound_buildSlice (R : Rel E G s a w) {t el : TypeId} {n : Nat} {parts : Array (Nat × Operand)} (ho : o.op = .buildSlice t n parts) (hel : tyElem P t = some el) {zero : List AV} {z : Nat} (hzero : tyZero P el = some zero) (hz : tySize P el = some z)
    (hzl : zero.length = z) (h0 : 0 < z) (hn : n * z ≤ 16777216) {out : List AV} (hf : fillE (fun i => some (i * z, z)) (List.replicate n zero).flatten (parts.toList.map fun p => (p.1, s.eval p.2)) = some out) {cs : List PC} (hcs : toPCs out = some cs)
    {nm : Nat} {e : Eff} {l : List Nat} (h : (newRowE nm z (chunks z n cs)).run s.mem = some (e, l)) (K : Post E G s o e a next) : o.wp P a w next Q := by
  obtain ⟨i, zv, hi, hzv, hzl', hzr⟩ := zero_rel G hzero
  have hisz : i.size = z := by obtain ⟨i', h1, h2⟩ := tySize_info hz; rw [hi] at h1; cases h1; exact h2
  have hzs : zv.cells.size = z := by omega
  let base : Array Value := (Array.range (n * z)).map (zv.cells[· % z]!)
  have hbl : base.size = n * z := by simp [base]
  have hfl : (List.replicate n zero).flatten.length = base.size := by rw [hbl]; simp [hzl]
  have hbr : ∀ (i : Nat) (x : AV) (v : Value), (List.replicate n zero).flatten[i]? = some x → base[i]? = some v → AR G x v := by
    intro i x v a1 a2
    rw [flat_rep zero (by omega), hzl] at a1
    split at a1
    · rename_i hlt
      have hm : i % z < z := Nat.mod_lt _ h0
      refine hzr (i % z) x v a1 ?_
      simp [base, hlt] at a2
      rw [← a2]
      simp [hzs, hm]
    · cases a1
  obtain ⟨vs', r1, r2, r3⟩ := fill_run (G := G) (place := fun i => some (i * z, z)) (placeC := fun i => some (i * z, z)) (fun _ _ _ h => h) _ (parts.map fun (i, x) => (i, a.eval x)).toList _ out base hf (by simp) (by simpa using evals R parts.toList) hfl hbr
  have hol : out.length = n * z := by
    have : ∀ (parts : List (Nat × AV)) (cells out : List AV), fillE (fun i => some (i * z, z)) cells parts = some out → out.length = cells.length := by
      intro parts
      induction parts with
      | nil => intro cells out h; simp only [fillE, Option.some.injEq] at h; rw [h]
      | cons p parts ih =>
        intro cells out h
        obtain ⟨i, x⟩ := p
        simp only [fillE] at h
        split at h
        · split at h
          · rename_i hh
            rw [ih _ _ h, putAt_length (by rename_i e1 e2; cases e1; omega)]
          · cases h
        · cases h
    rw [this _ _ _ hf, hfl, hbl]
  have vcs := toPCs_vrs (G := G) (us := vs'.toList) hcs (by simpa using r2) (fun i x u a1 a2 => r3 i x u a1 (by simpa using a2))
  have hcl : cs.length = n * z := by rw [← (toPCs_spec hcs).1, hol]
  have hlen := chunks_length z n cs
  refine newRow_out R (cap := n) (vs := vs') (ty := el) h ?_ h0 ?_ (by omega) (by omega) ?_ K
  · rw [hlen]
    have hge : ¬ (16777216 < n * z) := by omega
    have r1' : Instr.fill (fun i => some (i * z, z)) base (List.map (fun x => (x.1, a.eval x.2)) parts.toList) = some vs' := by simpa using r1
    by_cases e : n * z = 0
    · have hb0 : base = #[] := Array.eq_empty_of_size_eq_zero (by omega)
      rw [hb0] at r1'
      simp [execOp, ho, Instr.buildSlice, run_underlying (tyElem_run hel), tySize_run hz, e, Array.range_zero', r1', newRow]
    · have hb1 : Array.map (fun x => zv.cells[x % z]!) (Array.range (n * z)) = base := rfl
      simp [execOp, ho, Instr.buildSlice, run_underlying (tyElem_run hel), tySize_run hz, e, hge, zero_run hi hzv, hzs, newRow]
      simp [hb1, r1']
  · intro r hr
    obtain ⟨j, hj⟩ := List.mem_iff_getElem?.1 hr
    have := chunks_get z n cs j r hj
    have hjn : j < n := by have := (List.getElem?_eq_some_iff.1 hj).1; omega
    have h3 : j * z + z ≤ n * z := by rw [← Nat.succ_mul]; exact Nat.mul_le_mul_right z hjn
    rw [this]; simp; omega
  · intro j r i c hj hi
    have := chunks_get z n cs j r hj
    subst this
    rw [List.getElem?_take] at hi
    split at hi
    · rw [List.getElem?_drop] at hi
      have hlt : j * z + i < vs'.size := by have := (List.getElem?_eq_some_iff.1 hi).1; omega
      exact ⟨vs'[j * z + i], by simp [hlt], vcs.2 _ _ _ hi (by simp [hlt])⟩
    · cases hi


theorem sound_makeSlice (R : Rel E G s a w) {t el : TypeId} {lo co : Operand} (ho : o.op = .makeSlice t lo co) (hel : tyElem P t = some el) {n m : Int} (e1 : s.eval lo = .c (.int .i64 n)) (e2 : s.eval co = .c (.int .i64 m))
    {zero : List AV} {z by_ : Nat} (hzero : tyZero P el = some zero) (hz : tySize P el = some z) (hby : tyBytes P el = some by_) {zs : List PC} (hzs : toPCs zero = some zs) (hzl : zs.length = z) (h0 : 0 < z) (hnm : n ≤ m) (hn : 0 ≤ n) (hn2 : m ≤ 9223372036854775807)
    (hb : m * by_ ≤ 140737488355328) {nm : Nat} {e : Eff} {l : List Nat} (h : (newRowE nm z (List.replicate n.toNat zs)).run s.mem = some (e, l)) (K : Post E G s o e a next) : o.wp P a w next Q := by
  obtain ⟨i, zv, hi, hzv, hzl', hzr⟩ := zero_rel G hzero
  have hisz : i.size = z := by obtain ⟨i', h1, h2⟩ := tySize_info hz; rw [hi] at h1; cases h1; exact h2
  have hiby : i.bytes = by_ := by obtain ⟨i', h1, h2⟩ := tyBytes_info hby; rw [hi] at h1; cases h1; exact h2
  have hzz : zero.length = zs.length := (toPCs_spec hzs).1
  have hzvs : zv.cells.size = z := by omega
  have h1 := R.eval lo
  have h2 := R.eval co
  rw [e1] at h1; rw [e2] at h2
  have hrun := run_make (P := P) w t el i zv (tyElem_run hel) hi hzv .i64 .i64 n m hn hnm (by rw [hiby, Int.mul_comm]; omega) hn2
  have vz := toPCs_vrs (G := G) (us := zv.cells.toList) hzs (by simpa using hzl') (fun i x u a1 a2 => hzr i x u a1 (by simpa using a2))
  refine newRow_out R (cap := m.toNat) (vs := madeCells zv.cells (m.toNat * i.size)) (ty := el) h ?_ h0 ?_ (by simp; omega) (by rw [size_madeCells, hisz]) ?_ K
  · have hrl : (List.replicate n.toNat zs).length = n.toNat := by simp
    rw [hrl]
    simp [execOp, ho, h1.int_inv, h2.int_inv, hrun]
  · intro r hr
    rw [(List.mem_replicate.1 hr).2]; exact hzl
  · intro j r i' c hj hi'
    have hr : r = zs := (List.mem_replicate.1 (List.mem_of_getElem? hj)).2
    have hjn : j < n.toNat := by have := (List.getElem?_eq_some_iff.1 hj).1; simpa using this
    subst hr
    have hil : i' < z := by have := (List.getElem?_eq_some_iff.1 hi').1; omega
    have h3 : j * z + z ≤ m.toNat * z := by rw [← Nat.succ_mul]; exact Nat.mul_le_mul_right z (by omega)
    have hlt : j * z + i' < m.toNat * z := by omega
    have hmod : (j * z + i') % z = i' := by rw [Nat.mul_comm, Nat.mul_add_mod]; exact Nat.mod_eq_of_lt hil
    refine ⟨zv.cells[i']'(by omega), ?_, vz.2 i' c _ hi' (by simp [hzvs, hil])⟩
    rw [hisz]
    have : (madeCells zv.cells (m.toNat * z))[j * z + i']? = some (zv.cells[(j * z + i') % zv.cells.size]!) := by
      simp [madeCells, hlt]
    rw [this]
    simp [hzvs, hmod, hil]

theorem sound_buildMsl (R : Rel E G s a w) {t el : TypeId} {n : Nat} {parts : Array (Nat × Operand)} (ho : o.op = .buildSlice t n parts) (hel : tyElem P t = some el) {zero : List AV} {z : Nat} (hzero : tyZero P el = some zero) (hz : tySize P el = some z)
    (hzl : zero.length = z) (h0 : 0 < z) (hn : n * z ≤ 16777216) {out : List AV} (hf : fillE (fun i => some (i * z, z)) (List.replicate n zero).flatten (parts.toList.map fun p => (p.1, s.eval p.2)) = some out) {nm : Nat} {e : Eff} {l : List Nat} (h : (newMslE nm n out).run s.mem = some (e, l)) (K : Post E G s o e a next) : o.wp P a w next Q := by
  obtain ⟨i, zv, hi, hzv, hzl', hzr⟩ := zero_rel G hzero
  have hisz : i.size = z := by obtain ⟨i', h1, h2⟩ := tySize_info hz; rw [hi] at h1; cases h1; exact h2
  have hzs : zv.cells.size = z := by omega
  let base : Array Value := (Array.range (n * z)).map (zv.cells[· % z]!)
  have hbl : base.size = n * z := by simp [base]
  have hfl : (List.replicate n zero).flatten.length = base.size := by rw [hbl]; simp [hzl]
  have hbr : ∀ (i : Nat) (x : AV) (v : Value), (List.replicate n zero).flatten[i]? = some x → base[i]? = some v → AR G x v := by
    intro i x v a1 a2
    rw [flat_rep zero (by omega), hzl] at a1
    split at a1
    · rename_i hlt
      have hm : i % z < z := Nat.mod_lt _ h0
      refine hzr (i % z) x v a1 ?_
      simp [base, hlt] at a2
      rw [← a2]
      simp [hzs, hm]
    · cases a1
  obtain ⟨vs', r1, r2, r3⟩ := fill_run (G := G) (place := fun i => some (i * z, z)) (placeC := fun i => some (i * z, z)) (fun _ _ _ h => h) _ (parts.map fun (i, x) => (i, a.eval x)).toList _ out base hf (by simp) (by simpa using evals R parts.toList) hfl hbr
  have hol : out.length = n * z := by
    have : ∀ (parts : List (Nat × AV)) (cells out : List AV), fillE (fun i => some (i * z, z)) cells parts = some out → out.length = cells.length := by
      intro parts
      induction parts with
      | nil => intro cells out h; simp only [fillE, Option.some.injEq] at h; rw [h]
      | cons p parts ih =>
        intro cells out h
        obtain ⟨i, x⟩ := p
        simp only [fillE] at h
        split at h
        · split at h
          · rename_i hh
            rw [ih _ _ h, putAt_length (by rename_i e1 e2; cases e1; omega)]
          · cases h
        · cases h
    rw [this _ _ _ hf, hfl, hbl]
  refine sound_newMsl R (vs := vs') (ty := el) h ?_ (by omega) r3 K
  have hge : ¬ (16777216 < n * z) := by omega
  have r1' : Instr.fill (fun i => some (i * z, z)) base (List.map (fun x => (x.1, a.eval x.2)) parts.toList) = some vs' := by simpa using r1
  by_cases e : n * z = 0
  · have hb0 : base = #[] := Array.eq_empty_of_size_eq_zero (by omega)
    rw [hb0] at r1'
    simp [execOp, ho, Instr.buildSlice, run_underlying (tyElem_run hel), tySize_run hz, e, Array.range_zero', r1', newRow]
  · have hb1 : Array.map (fun x => zv.cells[x % z]!) (Array.range (n * z)) = base := rfl
    simp [execOp, ho, Instr.buildSlice, run_underlying (tyElem_run hel), tySize_run hz, e, hge, zero_run hi hzv, hzs, newRow]
    simp [hb1, r1']

theorem sound_makeMsl (R : Rel E G s a w) {t el : TypeId} {lo co : Operand} (ho : o.op = .makeSlice t lo co) (hel : tyElem P t = some el) {n m : Int} (e1 : s.eval lo = .c (.int .i64 n)) (e2 : s.eval co = .c (.int .i64 m))
    {zero : List AV} {z by_ : Nat} (hzero : tyZero P el = some zero) (hz : tySize P el = some z) (hby : tyBytes P el = some by_) {zs : List PC} (hzs : toPCs zero = some zs) (hzl : zs.length = z) (h0 : 0 < z) (hnm : n = m) (hn : 0 ≤ n) (hn2 : n ≤ 9223372036854775807)
    (hb : n * by_ ≤ 140737488355328) {nm : Nat} {e : Eff} {l : List Nat} (h : (newMslE nm n.toNat (List.replicate n.toNat zero).flatten).run s.mem = some (e, l)) (K : Post E G s o e a next) : o.wp P a w next Q := by
  subst hnm
  obtain ⟨i, zv, hi, hzv, hzl', hzr⟩ := zero_rel G hzero
  have hisz : i.size = z := by obtain ⟨i', h1, h2⟩ := tySize_info hz; rw [hi] at h1; cases h1; exact h2
  have hiby : i.bytes = by_ := by obtain ⟨i', h1, h2⟩ := tyBytes_info hby; rw [hi] at h1; cases h1; exact h2
  have hzz : zero.length = zs.length := (toPCs_spec hzs).1
  have hzvs : zv.cells.size = z := by omega
  have h1 := R.eval lo
  have h2 := R.eval co
  rw [e1] at h1; rw [e2] at h2
  have hrun := run_make (P := P) w t el i zv (tyElem_run hel) hi hzv .i64 .i64 n n hn (Int.le_refl _) (by rw [hiby, Int.mul_comm]; omega) hn2
  refine sound_newMsl R (vs := madeCells zv.cells (n.toNat * i.size)) (ty := el) h ?_ ?_ ?_ K
  · simp [execOp, ho, h1.int_inv, h2.int_inv, hrun]
  · rw [size_madeCells, hisz]; simp; rw [hzz, hzl]
  · intro i' x v a1 a2
    rw [flat_rep zero (by omega), hzz, hzl] at a1
    split at a1
    · rename_i hlt
      have hm : i' % z < z := Nat.mod_lt _ h0
      refine hzr (i' % z) x v a1 ?_
      have : (madeCells zv.cells (n.toNat * i.size))[i']? = some (zv.cells[i' % zv.cells.size]!) := by
        rw [hisz]; simp [madeCells, hlt]
      rw [this] at a2
      cases a2
      simp [hzvs, hm]
    · cases a1

def wrs (m : Nat → Option MC) (l : List (Nat × MC)) : Nat → Option MC := fun i => match look l i with | some c => some c | none => m i
theorem look_append {α : Type} : ∀ (l l' : List (Nat × α)) (i : Nat), look (l ++ l') i = match look l i with | some c => some c | none => look l' i
  | [], l', i => rfl
  | (j, x) :: l, l', i => by
    simp only [List.cons_append, look]
    split
    · rfl
    · exact look_append l l' i
theorem AS.mem_wr (s : AS) (l : List (Nat × MC)) : ∀ i, (s.wr l).mem i = wrs s.mem l i := fun i => by
  unfold wrs AS.mem AS.wr
  rw [look_append]
  cases look l i <;> rfl
theorem wrs_cons (m : Nat → Option MC) (n : Nat) (c : MC) (l : List (Nat × MC)) : wrs m ((n, c) :: l) = mset (wrs m l) n c := by
  funext i
  simp only [wrs, mset, look]
  by_cases h : n = i
  · rw [if_pos h, if_pos h]
  · rw [if_neg h, if_neg h]

theorem cap_sound {m : Nat → Option MC} (M : MRel E G m w) : ∀ (xs : List AV) (us : List Value) (caps : List (List PC)) (wr : List (Nat × MC)) (l : List Nat), (capE xs).run m = some ((caps, wr), l) →
    xs.length = us.length → (∀ (i : Nat) (x : AV) (u : Value), xs[i]? = some x → us[i]? = some u → AR G x u) →
    (∀ n c, look wr n = some c → ∃ cells fz, m n = some (.obj cells fz) ∧ c = .obj cells true) ∧
    ∃ G', G.le G' ∧ MRel E G' (wrs m wr) w ∧ G'.h = G.h ∧ ∃ bs : List (Nat × Nat), us = bs.map (fun b => Value.pointer (some ⟨b.1, b.2, none⟩)) ∧ caps.length = bs.length ∧ ∀ (i : Nat) (cs : List PC) (b : Nat × Nat), caps[i]? = some cs → bs[i]? = some b → Known G'.K b.1 b.2 cs := by
  intro xs
  induction xs with
  | nil =>
    intro us caps wr l h hl _
    obtain ⟨e, _⟩ := EP.ret_inv h
    cases e
    cases us with
    | cons => simp at hl
    | nil => exact ⟨fun n c h => by simp [look] at h, G, Gh.le_refl G, M, rfl, [], rfl, rfl, fun i cs b h => by simp at h⟩
  | cons x xs ih =>
    intro us caps wr l h hl hr
    cases us with
    | nil => simp at hl
    | cons u us =>
      have hx := hr 0 x u rfl rfl
      have hrest : ∀ (i : Nat) (x : AV) (u : Value), xs[i]? = some x → us[i]? = some u → AR G x u := fun i y v h1 h2 => hr (i + 1) y v (by simpa using h1) (by simpa using h2)
      simp only [capE] at h
      split at h
      · rename_i n
        obtain ⟨l', h, _⟩ := EP.ask_inv h
        split at h
        · rename_i cells fz hm
          split at h
          · rename_i cs hcs
            obtain ⟨r, l1, l2, h1, h2, _⟩ := EP.bind_inv h
            obtain ⟨e, _⟩ := EP.ret_inv h2
            cases e
            obtain ⟨i1, G1, i2, i3, i4, bs, i5, i6, i7⟩ := ih us r.1 r.2 l1 h1 (by simpa using hl) hrest
            cases hx with
            | ptr _ _ b hb =>
            have hb1 : G1.h n = some (.obj b) := by rw [i4]; exact hb
            have hm1 : ∃ fz', wrs m r.2 n = some (.obj cells fz') := by
              unfold wrs
              cases hk : look r.2 n with
              | none => exact ⟨fz, hm⟩
              | some c =>
                obtain ⟨cells', fz', a1, a2⟩ := i1 n c hk
                rw [hm] at a1
                cases a1
                exact ⟨true, by rw [a2]⟩
            obtain ⟨fz', hm1⟩ := hm1
            obtain ⟨G2, f1, f2, f3, f4⟩ := i3.freeze hm1 hb1
            refine ⟨?_, G2, Gh.le_trans i2 f1, by rw [wrs_cons]; exact f4, f2.trans i4, (b, 0) :: bs, by simp [i5], by simp [i6], ?_⟩
            · intro n' c hk
              simp only [look] at hk
              split at hk
              · rename_i e; subst e; cases hk; exact ⟨cells, fz, hm, rfl⟩
              · exact i1 n' c hk
            · intro i cs' b' a1 a2
              cases i with
              | zero =>
                simp at a1 a2
                subst a1; subst a2
                obtain ⟨t1, t2⟩ := toPCs_spec hcs
                intro k c hk
                have hkl : k < cells.length := by have := (List.getElem?_eq_some_iff.1 hk).1; omega
                have hck : cells[k]? = some cells[k] := by simp [hkl]
                obtain ⟨v, g1, g2⟩ := f3 k _ hck
                exact ⟨v, by rw [Nat.zero_add]; exact g1, g2.toPC (t2 k _ c hck hk)⟩
              | succ i => exact (i7 i cs' b' (by simpa using a1) (by simpa using a2)).mono f1.K
          · exact EP.fail_inv h
        · exact EP.fail_inv h
      · rename_i cs
        obtain ⟨r, l1, l2, h1, h2, _⟩ := EP.bind_inv h
        obtain ⟨e, _⟩ := EP.ret_inv h2
        cases e
        obtain ⟨i1, G1, i2, i3, i4, bs, i5, i6, i7⟩ := ih us r.1 r.2 l1 h1 (by simpa using hl) hrest
        cases hx with
        | rptr _ b off hk =>
        refine ⟨i1, G1, i2, i3, i4, (b, off) :: bs, by simp [i5], by simp [i6], ?_⟩
        intro i cs' b' a1 a2
        cases i with
        | zero => simp at a1 a2; subst a1; subst a2; exact hk.mono i2.K
        | succ i => exact i7 i cs' b' (by simpa using a1) (by simpa using a2)
      · exact EP.fail_inv h


theorem sound_makeFunc (R : Rel E G s a w) {f : FuncId} {captured : Array Operand} (ho : o.op = .makeFunc (.func f) #[] captured) {r : List (List PC) × List (Nat × MC)} {l : List Nat} (h : (capE (captured.toList.map s.eval)).run s.mem = some (r, l))
    (K : Post E G s o ⟨.clo f r.1, r.2⟩ a next) : o.wp P a w next Q := by
  obtain ⟨_, G', h1, h2, _, bs, h3, h4, h5⟩ := cap_sound R.mem _ (captured.toList.map a.eval) r.1 r.2 l h (by simp) (fun i x u a1 a2 => by
    simp only [List.getElem?_map, Option.map_eq_some_iff] at a1 a2
    obtain ⟨x', b1, rfl⟩ := a1
    obtain ⟨u', b2, rfl⟩ := a2
    rw [b1] at b2; cases b2
    exact R.eval _)
  have hc : captured.map a.eval = (bs.map fun b => Value.pointer (some ⟨b.1, b.2, none⟩)).toArray := by
    rw [← h3, ← Array.toList_map, Array.toArray_toList]
  refine wp_value (v := .func (.func f) #[] (captured.map a.eval)) (w' := w) (by simp [execOp, ho, Instr.makeFunc]) (K G' _ _ h1 ?_ (h2.congr (AS.mem_wr s r.2)))
  rw [hc]
  exact .clo f r.1 bs h4 h5

theorem sound_len (R : Rel E G s a w) {t : TypeId} {x : AV} {u : Value} (hx : AR G x u) {ts : Array TypeId} {ty : TypeId} (hts : ts[0]? = some t)
    (hexec : ∀ {r}, (Builtin.len_ ts ty #[u]).run P w = .ok r w → (execOp a.eval o).run P w = .ok (.value r) w)
    {e : Eff} {l : List Nat} (h : (okM (lenE P t x)).run s.mem = some (e, l)) (K : Post E G s o e a next) : o.wp P a w next Q := by
  obtain ⟨y, l', h1, rfl⟩ := okM_inv h
  unfold lenE at h1
  split at h1
  · rename_i str
    cases hx.str_inv
    split at h1
    · rename_i ht
      obtain ⟨rfl, _⟩ := EP.ret_inv h1
      refine sound_val R (v := .int .i64 str.length) (hexec ?_) (.int _ _) K
      have hsz : (ByteArray.mk str.toArray).size = str.length := rfl
      simp [Builtin.len_, hts, run_underlying (tyStr_run ht), goInt, hsz]
    · exact EP.fail_inv h1
  · rename_i n
    cases hx with
    | mp _ b hb =>
    obtain ⟨l2, h1, _⟩ := EP.ask_inv h1
    exact EP.fail_inv h1
  · cases hx
    split at h1
    · rename_i kt ht
      obtain ⟨rfl, _⟩ := EP.ret_inv h1
      obtain ⟨k1, k2⟩ := kt
      refine sound_val R (v := .int .i64 0) (hexec ?_) (.int _ _) K
      simp [Builtin.len_, hts, run_underlying (tyMap_run ht), goInt]
    · exact EP.fail_inv h1
  · rename_i n off len ex
    cases hx with
    | msl _ _ _ b cap _ hb hc he =>
    split at h1
    · rename_i e he
      obtain ⟨rfl, _⟩ := EP.ret_inv h1
      refine sound_val R (v := .int .i64 len) (hexec ?_) (.int _ _) K
      simp [Builtin.len_, hts, run_underlying (tyElem_run he), goInt]
    · exact EP.fail_inv h1
  · split at h1
    · rename_i e rows he hr
      obtain ⟨rfl, _⟩ := EP.ret_inv h1
      obtain ⟨A, cap, rfl, _⟩ := (hx.rows hr).slice_form
      refine sound_val R (v := .int .i64 rows.length) (hexec ?_) (.int _ _) K
      simp [Builtin.len_, hts, run_underlying (tyElem_run he), goInt]
    · exact EP.fail_inv h1

theorem sound_mm (R : Rel E G s a w) (mx : Bool) {xs : List AV} {us : Array Value} (hl : xs.length = us.size) (hx : ∀ (i : Nat) (x : AV) (u : Value), xs[i]? = some x → us[i]? = some u → AR G x u) {ts : Array TypeId} {ty : TypeId}
    (hexec : ∀ {r}, (if mx then Builtin.max_ ts ty us else Builtin.min_ ts ty us).run P w = .ok r w → (execOp a.eval o).run P w = .ok (.value r) w)
    {y : AV} (h : mm mx xs = some y) (K : Post E G s o ⟨y, []⟩ a next) : o.wp P a w next Q := by
  unfold mm at h
  split at h
  · rename_i k i k' j
    split at h
    · rename_i hk
      subst hk
      cases h
      have hus : us = #[.int k i, .int k j] := by
        apply Array.ext'
        obtain ⟨l⟩ := us
        match l, hl, hx with
        | [u, v], _, hx =>
          have e1 := (hx 0 _ u rfl rfl).int_inv
          have e2 := (hx 1 _ v rfl rfl).int_inv
          subst e1; subst e2; rfl
        | [], hl, _ => simp at hl
        | [_], hl, _ => simp at hl
        | _ :: _ :: _ :: _, hl, _ => simp at hl
      subst hus
      refine sound_val R (v := .int k (if mx then (if j > i then j else i) else (if j < i then j else i))) (hexec ?_) (.int _ _) K
      cases mx <;> simp [Builtin.max_, Builtin.min_, Builtin.max2, Builtin.min2]
    · cases h
  · cases h

end

/-- Target names: their sources; rows of nothing that are new. -/
structure Ren where
  src : Nat → Option Nat
  ph : Nat → Option Nat

inductive AM (ρ : Ren) : AV → AV → Prop
  | undef (x : AV) : AM ρ x .undef
  | c (x : PC) : AM ρ (.c x) (.c x)
  | junk (x : AV) (hx : x.scal = true) : AM ρ x (.c .junk)
  | agg (cs cs' : List AV) (hl : cs.length = cs'.length) (h : ∀ (i : Nat) (x y : AV), cs[i]? = some x → cs'[i]? = some y → AM ρ x y) : AM ρ (.agg cs) (.agg cs')
  | nilsl : AM ρ .nilsl .nilsl
  | nilc : AM ρ .nilsl (.c (.sl []))
  | nilo (n z : Nat) (hs : ρ.src n = none) (h : ρ.ph n = some z) : AM ρ .nilsl (.own n z [])
  | own (r n z : Nat) (rows : List (List PC)) (h : ρ.src n = some r) : AM ρ (.own r z rows) (.own n z rows)
  | ownc (r z : Nat) (rows : List (List PC)) : AM ρ (.own r z rows) (.c (.sl rows))
  | ptr (q n off : Nat) (h : ρ.src n = some q) : AM ρ (.ptr q off) (.ptr n off)
  | msl (q n off len : Nat) (ex : Bool) (h : ρ.src n = some q) : AM ρ (.msl q off len ex) (.msl n off len ex)
  | nilptr : AM ρ .nilptr .nilptr
  | rptr (cs : List PC) : AM ρ (.rptr cs) (.rptr cs)
  | clo (f : FuncId) (caps : List (List PC)) : AM ρ (.clo f caps) (.clo f caps)
  | mp (q n : Nat) (h : ρ.src n = some q) : AM ρ (.mp q) (.mp n)
  | nilmp : AM ρ .nilmp .nilmp
  | ubool : AM ρ .ubool .ubool
  | tup (cs cs' : List AV) (hl : cs.length = cs'.length) (h : ∀ (i : Nat) (x y : AV), cs[i]? = some x → cs'[i]? = some y → AM ρ x y) : AM ρ (.tup cs) (.tup cs')

/-- The ghost behind a renaming. -/
def Ren.gh (ρ : Ren) (G : Gh) : Gh := ⟨G.K, fun n => match ρ.src n with | some q => G.h q | none => (ρ.ph n).map fun z => .row z none 0⟩

theorem AM.rel {ρ : Ren} {G : Gh} {x y : AV} (h : AM ρ x y) : ∀ {v : Value}, AR G x v → AR (ρ.gh G) y v := by
  induction h with
  | undef x => exact fun _ => .undef _
  | c x => intro v h; cases h with | c _ _ h => exact .c _ _ h
  | junk x hx => intro v h; exact .c _ _ (.junk _ (scal_one h hx))
  | agg cs cs' hl _ ih =>
    intro v h
    cases h with
    | agg _ us hl' hc =>
      refine .agg _ _ (by omega) (fun i y u e1 e2 => ?_)
      have hi : i < cs.length := by have := (List.getElem?_eq_some_iff.1 e1).1; omega
      have hx : cs[i]? = some cs[i] := by simp [hi]
      exact ih i _ y hx e1 (hc i _ u hx e2)
  | nilsl => intro v h; cases h; exact .nilsl
  | nilc => intro v h; cases h; exact .c _ _ .nil
  | nilo n z hs hp =>
    intro v h; cases h
    exact .own n z [] _ none 0 (by simp only [Ren.gh, hs, hp]; rfl) (Nat.le_refl _) (by simp) .nil (fun _ => rfl)
  | own r n z rows hs =>
    intro v h
    cases h with
    | own _ _ _ _ bk fr hh hl hr hv ha => exact .own n z rows v bk fr (by simp only [Ren.gh, hs]; exact hh) hl hr hv ha
  | ownc r z rows => intro v h; cases h with | own _ _ _ _ bk fr hh hl hr hv ha => exact .c _ _ hv
  | ptr q n off hs => intro v h; cases h with | ptr _ _ b hb => exact .ptr n off b (by simp only [Ren.gh, hs]; exact hb)
  | msl q n off len ex hs => intro v h; cases h with | msl _ _ _ b cap _ hb hc he => exact .msl n off len b cap ex (by simp only [Ren.gh, hs]; exact hb) hc he
  | nilptr => intro v h; cases h; exact .nilptr
  | rptr cs => intro v h; cases h with | rptr _ b off hk => exact .rptr cs b off hk
  | clo f caps => intro v h; cases h with | clo _ _ us hl hk => exact .clo f caps us hl hk
  | mp q n hs => intro v h; cases h with | mp _ b hb => exact .mp n b (by simp only [Ren.gh, hs]; exact hb)
  | nilmp => intro v h; cases h; exact .nilmp
  | ubool => intro v h; cases h with | ubool b => exact .ubool b
  | tup cs cs' hl _ ih =>
    intro v h
    cases h with
    | tup _ us hl' hc =>
      refine .tup _ _ (by omega) (fun i y u e1 e2 => ?_)
      have hi : i < cs.length := by have := (List.getElem?_eq_some_iff.1 e1).1; omega
      have hx : cs[i]? = some cs[i] := by simp [hi]
      exact ih i _ y hx e1 (hc i _ u hx e2)

/-- A target's content out of its source's. -/
def CM (ρ : Ren) : Option MC → Option MC → Prop
  | some (.obj cells fz), some (.obj cells' fz') => fz = fz' ∧ cells.length = cells'.length ∧ ∀ (i : Nat) (x y : AV), cells[i]? = some x → cells'[i]? = some y → AM ρ x y
  | some (.row z fr), some (.row z' fr') => z = z' ∧ fr = fr'
  | some (.mp ag es), some (.mp ag' es') => ag = ag' ∧ es = es'
  | _, _ => False

structure RenOK (ρ : Ren) (m m2 : Nat → Option MC) : Prop where
  inj : ∀ n n' q, ρ.src n = some q → ρ.src n' = some q → n = n'
  src : ∀ n q, ρ.src n = some q → CM ρ (m q) (m2 n)
  ph : ∀ n z, ρ.src n = none → ρ.ph n = some z → m2 n = some (.row z 0)
  none : ∀ n, ρ.src n = none → ρ.ph n = none → m2 n = none

theorem MRel.rename {E : Env} {G : Gh} {m m2 : Nat → Option MC} {w : World} (M : MRel E G m w) {ρ : Ren} (h : RenOK ρ m m2) : MRel E (ρ.gh G) m2 w where
  agree := M.agree
  home n := by
    cases hs : ρ.src n with
    | some q =>
      have hm := h.src n q hs
      have h0 := M.home q
      have hg : (ρ.gh G).h n = G.h q := by simp only [Ren.gh, hs]
      rw [hg]
      generalize m q = c1 at hm h0
      generalize m2 n = c2 at hm
      generalize G.h q = hq at h0
      unfold CM at hm
      split at hm
      · obtain ⟨rfl, hl, hc⟩ := hm
        cases hq with
        | none => exact h0.elim
        | some x =>
          cases x with
          | row => exact h0.elim
          | obj b =>
            obtain ⟨vs, ty, a1, a2, a3, a4, a5, a6⟩ := h0
            refine ⟨vs, ty, a1, by omega, fun i y v e1 e2 => ?_, a4, a5, a6⟩
            rename_i cells fz cells'
            have hi : i < cells.length := by have := (List.getElem?_eq_some_iff.1 e1).1; omega
            have hx : cells[i]? = some cells[i] := by simp [hi]
            exact (hc i _ y hx e1).rel (a3 i _ v hx e2)
      · obtain ⟨rfl, rfl⟩ := hm
        cases hq with
        | none => exact h0.elim
        | some x =>
          cases x with
          | obj => exact h0.elim
          | row z bk fr => exact h0
      · obtain ⟨rfl, rfl⟩ := hm
        cases hq with
        | none => exact h0.elim
        | some x =>
          cases x with
          | row => exact h0.elim
          | obj b =>
            exact h0
      · exact hm.elim
    | none =>
      cases hp : ρ.ph n with
      | some z =>
        rw [h.ph n z hs hp]
        have hg : (ρ.gh G).h n = some (.row z none 0) := by simp only [Ren.gh, hs, hp]; rfl
        rw [hg]
        exact ⟨rfl, rfl, rfl⟩
      | none =>
        rw [h.none n hs hp]
        have hg : (ρ.gh G).h n = none := by simp only [Ren.gh, hs, hp]; rfl
        rw [hg]
        trivial
  inj n n' x y b e1 e2 e3 e4 := by
    cases hs : ρ.src n with
    | none =>
      simp only [Ren.gh, hs] at e1
      cases hp : ρ.ph n with
      | none => rw [hp] at e1; cases e1
      | some z => rw [hp] at e1; cases e1; simp [Home.blk] at e3
    | some q =>
      cases hs' : ρ.src n' with
      | none =>
        simp only [Ren.gh, hs'] at e2
        cases hp : ρ.ph n' with
        | none => rw [hp] at e2; cases e2
        | some z => rw [hp] at e2; cases e2; simp [Home.blk] at e4
      | some q' =>
        simp only [Ren.gh, hs] at e1
        simp only [Ren.gh, hs'] at e2
        have := M.inj q q' x y b e1 e2 e3 e4
        subst this
        exact h.inj n n' q hs hs'
  os := M.os
  tape := M.tape
  output := M.output
  size0 := M.size0
  sizeB := M.sizeB
  blk := M.blk
  k0 := M.k0
  kfr := M.kfr

/-- A callee's view: the world at the call, whatever is named may turn. -/
def callee (G : Gh) (w : World) : Env := cEnv w (fun b => ∃ n h, G.h n = some h ∧ h.blk = some b) G.K

theorem HomeOK.env {E E' : Env} {G : Gh} {w : World} {c : Option MC} {h : Option Home} (hh : HomeOK E G w c h) (hm : ∀ x b, h = some x → x.blk = some b → E'.mine b) : HomeOK E' G w c h := by
  cases h with
  | none => cases c with | none => trivial | some c => cases c <;> exact hh.elim
  | some h =>
    cases c with
    | none => exact hh.elim
    | some c =>
      cases c with
      | obj cells fz =>
        cases h with
        | row => exact hh.elim
        | obj b => obtain ⟨vs, ty, a1, a2, a3, a4, a5, a6⟩ := hh; exact ⟨vs, ty, a1, a2, a3, hm _ b rfl rfl, a5, a6⟩
      | row z fr =>
        cases h with
        | obj => exact hh.elim
        | row z' bk fr' =>
          obtain ⟨e1, e2, hr⟩ := hh
          refine ⟨e1, e2, ?_⟩
          cases bk with
          | none => exact hr
          | some p => obtain ⟨b, cap⟩ := p; obtain ⟨vs, ty, a1, a2, a3, a4, a5, a6⟩ := hr; exact ⟨vs, ty, a1, a2, a3, a4, hm _ b rfl rfl, a6⟩
      | mp ag es =>
        cases h with
        | row => exact hh.elim
        | obj b => obtain ⟨ms, cl, a1, a3, a4⟩ := hh; exact ⟨ms, cl, a1, a3, hm _ b rfl rfl⟩

theorem MRel.focus {E : Env} {G : Gh} {m : Nat → Option MC} {w : World} (M : MRel E G m w) : MRel (callee G w) G m w where
  agree := M.agree
  home n := (M.home n).env fun x b e1 e2 => .inr ⟨n, x, e1, e2⟩
  inj := M.inj
  os := rfl
  tape := rfl
  output := rfl
  size0 := Nat.le_refl _
  sizeB := Nat.le_refl _
  blk _ _ _ := rfl
  k0 := Know.le_refl _
  kfr _ _ _ _ := rfl


/-- Behind a call: what was named has turned, all else lies as it lay. -/
theorem MRel.merge {E : Env} {G : Gh} {m : Nat → Option MC} {w : World} (M : MRel E G m w) {Ext : Nat → Prop} {G' : Gh} {m' : Nat → Option MC} {w' : World}
    (M' : MRel (cEnv w Ext G.K) G' m' w') (hext : ∀ b, Ext b → ∃ n h, G.h n = some h ∧ h.blk = some b ∧ m' n ≠ none)
    (hle : ∀ n h, G.h n = some h → m' n ≠ none → ∃ h', G'.h n = some h' ∧ Home.le h h') :
    let G2 : Gh := ⟨G'.K, fun n => match m' n with | some _ => G'.h n | none => G.h n⟩
    G.le G2 ∧ G'.le G2 ∧ MRel E G2 (fun n => match m' n with | some c => some c | none => m n) w' := by
  intro G2
  have hnone : ∀ n, m' n = none → G'.h n = none := fun n h => by have := M'.home n; rw [h] at this; exact this.none_of
  have ht : ∀ n, m' n ≠ none → G2.h n = G'.h n := fun n h => by
    show (match m' n with | some _ => G'.h n | none => G.h n) = _
    cases hm : m' n with
    | none => exact absurd hm h
    | some c => rfl
  have hu : ∀ n, m' n = none → G2.h n = G.h n := fun n h => by
    show (match m' n with | some _ => G'.h n | none => G.h n) = _
    rw [h]
  have l1 : G.le G2 := ⟨M'.k0, fun n h e => by
    by_cases hm : m' n = none
    · exact ⟨h, (hu n hm).trans e, Home.le_refl h⟩
    · obtain ⟨h', e', l⟩ := hle n h e hm
      exact ⟨h', (ht n hm).trans e', l⟩⟩
  have l2 : G'.le G2 := ⟨Know.le_refl _, fun n h e => by
    by_cases hm : m' n = none
    · rw [hnone n hm] at e; cases e
    · exact ⟨h, (ht n hm).trans e, Home.le_refl h⟩⟩
  have hmine : ∀ b, (cEnv w Ext G.K).mine b → E.mine b := fun b hb => by
    rcases hb with h | h
    · exact .inl (Nat.le_trans M.sizeB h)
    · obtain ⟨n, x, e1, e2, _⟩ := hext b h
      exact (e1 ▸ M.home n).mine e2
  have hnext : ∀ n x b, m' n = none → G.h n = some x → x.blk = some b → ¬ Ext b := fun n x b hm e1 e2 he => by
    obtain ⟨n', x', e3, e4, h⟩ := hext b he
    have := M.inj n n' x x' b e1 e3 e2 e4
    subst this
    exact h hm
  have hold : ∀ n x b, m' n = none → G.h n = some x → x.blk = some b → w'.heap[b]? = w.heap[b]? ∧ ∀ o, G'.K b o = G.K b o := fun n x b hm e1 e2 => by
    have hlt := (e1 ▸ M.home n).lt e2
    have hn := hnext n x b hm e1 e2
    exact ⟨M'.blk b hlt hn, fun o => M'.kfr b o hlt hn⟩
  refine ⟨l1, l2, M'.agree, fun n => ?_, fun i j x y b e1 e2 e3 e4 => ?_, M'.os.trans M.os, M'.tape.trans M.tape, M'.output.trans M.output, Nat.le_trans M.size0 M'.sizeB, Nat.le_trans M.sizeB M'.sizeB, ?_, Know.le_trans M.k0 M'.k0, ?_⟩
  · by_cases hm : m' n = none
    · rw [hu n hm, hm]
      exact (M.home n).keep l1 fun x b e1 e2 => hold n x b hm e1 e2
    · rw [ht n hm]
      have h0 := M'.home n
      have : (match m' n with | some c => some c | none => m n) = m' n := by
        cases hq : m' n with
        | none => exact absurd hq hm
        | some c => rfl
      rw [this]
      exact (h0.keep l2 fun _ _ _ _ => ⟨rfl, fun _ => rfl⟩).env fun x b e1 e2 => hmine b ((e1 ▸ h0).mine e2)
  · have cross : ∀ i j x y b, m' i ≠ none → m' j = none → G'.h i = some x → G.h j = some y → x.blk = some b → y.blk = some b → False := fun i j x y b h1 h2 e1 e2 e3 e4 => by
      have hlt := (e2 ▸ M.home j).lt e4
      rcases (e1 ▸ M'.home i).mine e3 with h | h
      · have h' : w.heap.size ≤ b := h
        omega
      · exact hnext j y b h2 e2 e4 h
    by_cases hi : m' i = none
    · rw [hu i hi] at e1
      by_cases hj : m' j = none
      · rw [hu j hj] at e2; exact M.inj i j x y b e1 e2 e3 e4
      · rw [ht j hj] at e2; exact (cross j i y x b hj hi e2 e1 e4 e3).elim
    · rw [ht i hi] at e1
      by_cases hj : m' j = none
      · rw [hu j hj] at e2; exact (cross i j x y b hi hj e1 e2 e3 e4).elim
      · rw [ht j hj] at e2; exact M'.inj i j x y b e1 e2 e3 e4
  · intro k hk hx
    have hsz := M.sizeB
    refine (M'.blk k (by show k < w.heap.size; omega) ?_).trans (M.blk k hk hx)
    intro he
    obtain ⟨n, x, e1, e2, _⟩ := hext k he
    rcases (e1 ▸ M.home n).mine e2 with h | h
    · omega
    · exact hx h
  · intro b o hb hx
    have hsz := M.sizeB
    refine (M'.kfr b o (by show b < w.heap.size; omega) ?_).trans (M.kfr b o hb hx)
    intro he
    obtain ⟨n, x, e1, e2, _⟩ := hext b he
    rcases (e1 ▸ M.home n).mine e2 with h | h
    · omega
    · exact hx h


inductive Al (R : Nat × MC → Nat × MC → Prop) : List (Nat × MC) → List (Nat × MC) → Prop
  | nil : Al R [] []
  | cons (x y : Nat × MC) (l l' : List (Nat × MC)) (h : R x y) (t : Al R l l') : Al R (x :: l) (y :: l')

theorem Al.append {R : Nat × MC → Nat × MC → Prop} {a b c d : List (Nat × MC)} (h : Al R a b) (h' : Al R c d) : Al R (a ++ c) (b ++ d) := by
  induction h with
  | nil => exact h'
  | cons x y l l' h t ih => exact .cons x y _ _ h ih
theorem Al.length {R : Nat × MC → Nat × MC → Prop} {a b : List (Nat × MC)} (h : Al R a b) : a.length = b.length := by
  induction h with
  | nil => rfl
  | cons x y l l' h t ih => simp [ih]
theorem Al.mono {R R' : Nat × MC → Nat × MC → Prop} {a b : List (Nat × MC)} (h : Al R a b) (hr : ∀ x y, R x y → R' x y) : Al R' a b := by
  induction h with
  | nil => exact .nil
  | cons x y l l' h t ih => exact .cons x y _ _ (hr _ _ h) ih

theorem look_mem {α : Type} {l : List (Nat × α)} {n : Nat} {c : α} (h : look l n = some c) : (n, c) ∈ l := by
  induction l with
  | nil => cases h
  | cons x l ih =>
    obtain ⟨j, y⟩ := x
    simp only [look] at h
    split at h
    · rename_i e; subst e; cases h; simp
    · exact List.mem_cons_of_mem _ (ih h)
theorem look_none {α : Type} {l : List (Nat × α)} {n : Nat} (h : n ∉ l.map (·.1)) : look l n = none := by
  induction l with
  | nil => rfl
  | cons x l ih =>
    obtain ⟨j, y⟩ := x
    simp only [List.map_cons, List.mem_cons, not_or] at h
    simp only [look]
    rw [if_neg (fun e => h.1 e.symm)]
    exact ih h.2
theorem look_some {α : Type} {l : List (Nat × α)} {n : Nat} (h : n ∈ l.map (·.1)) : ∃ c, look l n = some c := by
  induction l with
  | nil => simp at h
  | cons x l ih =>
    obtain ⟨j, y⟩ := x
    simp only [look]
    by_cases e : j = n
    · exact ⟨y, by rw [if_pos e]⟩
    · rw [if_neg e]
      refine ih ?_
      simp only [List.map_cons, List.mem_cons] at h
      rcases h with h | h
      · exact absurd h.symm e
      · exact h

def pairs (l1 l2 : List (Nat × MC)) : List (Nat × Nat) := (keys l2).zip (keys l1)

theorem Al.look {R : Nat × MC → Nat × MC → Prop} {l1 l2 : List (Nat × MC)} (h : Al R l1 l2) : (keys l1).Nodup → ∀ n q, AM.look (pairs l1 l2) n = some q →
    ∃ c1 c2, AM.look l1 q = some c1 ∧ AM.look l2 n = some c2 ∧ R (q, c1) (n, c2) := by
  induction h with
  | nil => intro _ n q h; simp [pairs, keys, AM.look] at h
  | cons x y l l' h t ih =>
    intro nd n q hq
    obtain ⟨q0, c1⟩ := x
    obtain ⟨n0, c2⟩ := y
    simp only [keys, List.map_cons, List.nodup_cons] at nd
    simp only [pairs, keys, List.map_cons, List.zip_cons_cons, AM.look] at hq
    split at hq
    · rename_i e
      cases hq
      subst e
      exact ⟨c1, c2, by simp [AM.look], by simp [AM.look], h⟩
    · rename_i e
      obtain ⟨d1, d2, e1, e2, e3⟩ := ih nd.2 n q hq
      have hne : q0 ≠ q := fun e' => by
        subst e'
        exact nd.1 (List.mem_map_of_mem (look_mem e1))
      exact ⟨d1, d2, by simp only [AM.look]; rw [if_neg hne]; exact e1, by simp only [AM.look]; rw [if_neg e]; exact e2, e3⟩

theorem pairs_inj {l1 l2 : List (Nat × MC)} (hl : l1.length = l2.length) (nd : (keys l1).Nodup) : ∀ n n' q, look (pairs l1 l2) n = some q → look (pairs l1 l2) n' = some q → n = n' := by
  induction l1 generalizing l2 with
  | nil => intro n n' q h; simp [pairs, keys, look] at h
  | cons x l1 ih =>
    cases l2 with
    | nil => simp at hl
    | cons y l2 =>
      intro n n' q h h'
      obtain ⟨q0, c1⟩ := x
      obtain ⟨n0, c2⟩ := y
      simp only [keys, List.map_cons, List.nodup_cons] at nd
      have key : ∀ n, look (pairs l1 l2) n = some q → q ∈ keys l1 := fun n h => by
        have := look_mem h
        exact (List.of_mem_zip this).2
      simp only [pairs, keys, List.map_cons, List.zip_cons_cons, look] at h h'
      split at h
      · rename_i e
        cases h
        split at h'
        · rename_i e'; exact e.symm.trans e'
        · exact absurd (key n' h') nd.1
      · split at h'
        · cases h'; exact absurd (key n h) nd.1
        · exact ih (by simpa using hl) nd.2 n n' q h h'

def pren (l1 l2 : List (Nat × MC)) : Ren := ⟨look (pairs l1 l2), fun _ => none⟩

theorem pairs_none {l1 l2 : List (Nat × MC)} (hl : l1.length = l2.length) {n : Nat} (h : look (pairs l1 l2) n = none) : look l2 n = none := by
  cases hc : look l2 n with
  | none => rfl
  | some c =>
    exfalso
    have hm : n ∈ (pairs l1 l2).map (·.1) := by
      have : (pairs l1 l2).map (·.1) = keys l2 := by
        unfold pairs
        rw [List.map_fst_zip]
        simp [keys, hl]
      rw [this]
      exact List.mem_map_of_mem (look_mem hc)
    obtain ⟨q, hq⟩ := look_some hm
    rw [h] at hq; cases hq

/-- Two lists of names and contents, one as the other but for the names. -/
theorem RenOK.of {m : Nat → Option MC} {l1 l2 : List (Nat × MC)} (h : Al (fun x y => CM (pren l1 l2) (some x.2) (some y.2)) l1 l2) (nd : (keys l1).Nodup) (hm : ∀ q c, look l1 q = some c → m q = some c) : RenOK (pren l1 l2) m (look l2) where
  inj := pairs_inj h.length nd
  src n q hs := by
    obtain ⟨c1, c2, e1, e2, e3⟩ := h.look nd n q hs
    rw [hm q c1 e1, e2]; exact e3
  ph n z _ hp := by cases hp
  none n hs _ := pairs_none h.length hs

def nOwn : List OV → Nat
  | [] => 0
  | .c _ :: o => nOwn o
  | .own _ _ :: o => nOwn o + 1
  | .mp _ _ :: o => nOwn o + 1
  | .nilmp :: o => nOwn o
  | .nilptr :: o => nOwn o
  | .self :: o => nOwn o
def rowNames (nm : Nat → Nat) : Nat → List OV → List Nat
  | _, [] => []
  | j, .c _ :: o => rowNames nm (j + 1) o
  | j, .own _ _ :: o => nm j :: rowNames nm (j + 1) o
  | j, .mp _ _ :: o => nm j :: rowNames nm (j + 1) o
  | j, .nilmp :: o => rowNames nm (j + 1) o
  | j, .nilptr :: o => rowNames nm (j + 1) o
  | j, .self :: o => rowNames nm (j + 1) o
theorem rowNames_length (nm : Nat → Nat) : ∀ (j : Nat) (o : List OV), (rowNames nm j o).length = nOwn o
  | _, [] => rfl
  | j, .c _ :: o => rowNames_length nm (j + 1) o
  | j, .own _ _ :: o => by simp [rowNames, nOwn, rowNames_length nm (j + 1) o]
  | j, .mp _ _ :: o => by simp [rowNames, nOwn, rowNames_length nm (j + 1) o]
  | j, .nilmp :: o => rowNames_length nm (j + 1) o
  | j, .nilptr :: o => rowNames_length nm (j + 1) o
  | j, .self :: o => rowNames_length nm (j + 1) o
theorem cellsAt_back (nm : Nat → Nat) (me : Nat) : ∀ (j : Nat) (o : List OV), cellsAt nm me j o = backCells me o (rowNames nm j o)
  | _, [] => rfl
  | j, .c _ :: o => by simp only [cellsAt, rowNames, backCells, cellsAt_back nm me (j + 1) o]
  | j, .own _ _ :: o => by simp only [cellsAt, rowNames, backCells, cellsAt_back nm me (j + 1) o]
  | j, .mp _ _ :: o => by simp only [cellsAt, rowNames, backCells, cellsAt_back nm me (j + 1) o]
  | j, .nilmp :: o => by simp only [cellsAt, rowNames, backCells, cellsAt_back nm me (j + 1) o]
  | j, .nilptr :: o => by simp only [cellsAt, rowNames, backCells, cellsAt_back nm me (j + 1) o]
  | j, .self :: o => by simp only [cellsAt, rowNames, backCells, cellsAt_back nm me (j + 1) o]
def entryNames : Nat → List (List OV) → List (Nat × List Nat)
  | _, [] => []
  | i, o :: os => (inObj i, rowNames (inRow i) 0 o) :: entryNames (i + 1) os
theorem entry_back : ∀ (i : Nat) (os : List (List OV)), entryMem i os = backObjs (entryNames i os) os
  | _, [] => rfl
  | i, o :: os => by simp only [entryMem, entryNames, backObjs, cellsAt_back, entry_back (i + 1) os]

/-- Names that fit objects. -/
def Fit : List (Nat × List Nat) → List (List OV) → Prop
  | [], [] => True
  | (_, rs) :: ns, o :: os => rs.length = nOwn o ∧ Fit ns os
  | _, _ => False
theorem Fit.entry : ∀ (i : Nat) (os : List (List OV)), Fit (entryNames i os) os
  | _, [] => trivial
  | i, o :: os => ⟨rowNames_length _ _ _, Fit.entry (i + 1) os⟩
theorem nOwn_count : ∀ o : List OV, nOwn o = ((shapeOf o).filter Option.isSome).length
  | [] => rfl
  | .c _ :: o => by simp [nOwn, shapeOf, nOwn_count o]
  | .own _ _ :: o => by simp [nOwn, shapeOf, nOwn_count o]
  | .mp _ _ :: o => by simp [nOwn, shapeOf, nOwn_count o]
  | .nilmp :: o => by simp [nOwn, shapeOf, nOwn_count o]
  | .nilptr :: o => by simp [nOwn, shapeOf, nOwn_count o]
  | .self :: o => by simp [nOwn, shapeOf, nOwn_count o]
theorem nOwn_shape {o o' : List OV} (h : shapeOf o = shapeOf o') : nOwn o = nOwn o' := by rw [nOwn_count, nOwn_count, h]
theorem Fit.shape : ∀ {ns : List (Nat × List Nat)} {os os' : List (List OV)}, Fit ns os → os'.map shapeOf = os.map shapeOf → Fit ns os'
  | [], [], [], _, _ => trivial
  | [], [], _ :: _, _, h => by simp at h
  | [], _ :: _, _, h, _ => h.elim
  | _ :: _, [], _, h, _ => h.elim
  | (_, rs) :: ns, o :: os, [], _, h => by simp at h
  | (_, rs) :: ns, o :: os, o' :: os', ⟨h1, h2⟩, h => by
    simp only [List.map_cons, List.cons.injEq] at h
    exact ⟨h1.trans (nOwn_shape h.1).symm, Fit.shape h2 h.2⟩

theorem back_length (me : Nat) : ∀ (o : List OV) (rs : List Nat), (backCells me o rs).1.length = o.length
  | [], _ => rfl
  | .c _ :: o, rs => by simp [backCells, back_length me o rs]
  | .own _ _ :: o, r :: rs => by simp [backCells, back_length me o rs]
  | .own _ _ :: o, [] => by simp [backCells, back_length me o []]
  | .mp _ _ :: o, r :: rs => by simp [backCells, back_length me o rs]
  | .mp _ _ :: o, [] => by simp [backCells, back_length me o []]
  | .nilmp :: o, rs => by simp [backCells, back_length me o rs]
  | .nilptr :: o, rs => by simp [backCells, back_length me o rs]
  | .self :: o, rs => by simp [backCells, back_length me o rs]

theorem back_keys (me : Nat) : ∀ (o : List OV) (rs : List Nat), rs.length = nOwn o → keys (backCells me o rs).2 = rs
  | [], rs, h => by cases rs with | nil => rfl | cons => simp [nOwn] at h
  | .c _ :: o, rs, h => back_keys me o rs h
  | .own _ _ :: o, r :: rs, h => by simp only [backCells, keys, List.map_cons, List.cons.injEq, true_and]; exact back_keys me o rs (by simpa [nOwn] using h)
  | .own _ _ :: o, [], h => by simp [nOwn] at h
  | .mp _ _ :: o, r :: rs, h => by simp only [backCells, keys, List.map_cons, List.cons.injEq, true_and]; exact back_keys me o rs (by simpa [nOwn] using h)
  | .mp _ _ :: o, [], h => by simp [nOwn] at h
  | .nilmp :: o, rs, h => back_keys me o rs h
  | .nilptr :: o, rs, h => back_keys me o rs h
  | .self :: o, rs, h => back_keys me o rs h

/-- One object's cells under two namings. -/
theorem back_am {ρ : Ren} {me me' : Nat} (hme : ρ.src me' = some me) : ∀ (o : List OV) (rs ns : List Nat), rs.length = nOwn o → ns.length = nOwn o → (∀ p ∈ ns.zip rs, ρ.src p.1 = some p.2) →
    (∀ (i : Nat) (x y : AV), (backCells me o rs).1[i]? = some x → (backCells me' o ns).1[i]? = some y → AM ρ x y) ∧ Al (fun x y => CM ρ (some x.2) (some y.2)) (backCells me o rs).2 (backCells me' o ns).2
  | [], rs, ns, _, _, _ => ⟨fun i x y h => by simp [backCells] at h, .nil⟩
  | .c c :: o, rs, ns, h1, h2, H => by
    obtain ⟨a1, a2⟩ := back_am hme o rs ns h1 h2 H
    refine ⟨fun i x y e1 e2 => ?_, a2⟩
    cases i with
    | zero => simp [backCells] at e1 e2; subst e1; subst e2; exact .c c
    | succ i => exact a1 i x y (by simpa [backCells] using e1) (by simpa [backCells] using e2)
  | .nilmp :: o, rs, ns, h1, h2, H => by
    obtain ⟨a1, a2⟩ := back_am hme o rs ns h1 h2 H
    refine ⟨fun i x y e1 e2 => ?_, a2⟩
    cases i with
    | zero => simp [backCells] at e1 e2; subst e1; subst e2; exact .nilmp
    | succ i => exact a1 i x y (by simpa [backCells] using e1) (by simpa [backCells] using e2)
  | .nilptr :: o, rs, ns, h1, h2, H => by
    obtain ⟨a1, a2⟩ := back_am hme o rs ns h1 h2 H
    refine ⟨fun i x y e1 e2 => ?_, a2⟩
    cases i with
    | zero => simp [backCells] at e1 e2; subst e1; subst e2; exact .nilptr
    | succ i => exact a1 i x y (by simpa [backCells] using e1) (by simpa [backCells] using e2)
  | .self :: o, rs, ns, h1, h2, H => by
    obtain ⟨a1, a2⟩ := back_am hme o rs ns h1 h2 H
    refine ⟨fun i x y e1 e2 => ?_, a2⟩
    cases i with
    | zero => simp [backCells] at e1 e2; subst e1; subst e2; exact .ptr _ _ 0 hme
    | succ i => exact a1 i x y (by simpa [backCells] using e1) (by simpa [backCells] using e2)
  | .own z rows :: o, [], _, h1, _, _ => by simp [nOwn] at h1
  | .own z rows :: o, _ :: _, [], _, h2, _ => by simp [nOwn] at h2
  | .own z rows :: o, r :: rs, n :: ns, h1, h2, H => by
    obtain ⟨a1, a2⟩ := back_am hme o rs ns (by simpa [nOwn] using h1) (by simpa [nOwn] using h2) (fun p hp => H p (by simp [hp]))
    refine ⟨fun i x y e1 e2 => ?_, .cons _ _ _ _ ⟨rfl, rfl⟩ a2⟩
    cases i with
    | zero => simp [backCells] at e1 e2; subst e1; subst e2; exact .own r n z rows (H (n, r) (by simp))
    | succ i => exact a1 i x y (by simpa [backCells] using e1) (by simpa [backCells] using e2)
  | .mp ag es :: o, [], _, h1, _, _ => by simp [nOwn] at h1
  | .mp ag es :: o, _ :: _, [], _, h2, _ => by simp [nOwn] at h2
  | .mp ag es :: o, r :: rs, n :: ns, h1, h2, H => by
    obtain ⟨a1, a2⟩ := back_am hme o rs ns (by simpa [nOwn] using h1) (by simpa [nOwn] using h2) (fun p hp => H p (by simp [hp]))
    refine ⟨fun i x y e1 e2 => ?_, .cons _ _ _ _ ⟨rfl, rfl⟩ a2⟩
    cases i with
    | zero => simp [backCells] at e1 e2; subst e1; subst e2; exact .mp r n (H (n, r) (by simp))
    | succ i => exact a1 i x y (by simpa [backCells] using e1) (by simpa [backCells] using e2)

def allNames : List (Nat × List Nat) → List Nat
  | [] => []
  | (n, rs) :: ns => n :: (rs ++ allNames ns)
theorem objs_keys : ∀ (ns : List (Nat × List Nat)) (os : List (List OV)), Fit ns os → keys (backObjs ns os) = allNames ns
  | [], [], _ => rfl
  | [], _ :: _, h => h.elim
  | _ :: _, [], h => h.elim
  | (n, rs) :: ns, o :: os, ⟨h1, h2⟩ => by
    have e1 := back_keys n o rs h1
    have e2 := objs_keys ns os h2
    simp only [keys] at e1 e2
    simp only [backObjs, allNames, keys, List.map_cons, List.map_append, e1, e2]
theorem allNames_length : ∀ (ns ns' : List (Nat × List Nat)) (os : List (List OV)), Fit ns os → Fit ns' os → (allNames ns).length = (allNames ns').length
  | [], [], [], _, _ => rfl
  | (n, rs) :: ns, (n', rs') :: ns', o :: os, ⟨h1, h2⟩, ⟨h3, h4⟩ => by
    simp [allNames, allNames_length ns ns' os h2 h4, h1, h3]
  | [], _ :: _, [], _, h => h.elim
  | _ :: _, [], [], h, _ => h.elim
  | _ :: _, _ :: _, [], h, _ => h.elim
  | [], _, _ :: _, h, _ => h.elim
  | _ :: _, [], _ :: _, _, h => h.elim

theorem objs_am {ρ : Ren} : ∀ (ns ns' : List (Nat × List Nat)) (os : List (List OV)), Fit ns os → Fit ns' os → (∀ p ∈ (allNames ns').zip (allNames ns), ρ.src p.1 = some p.2) →
    Al (fun x y => CM ρ (some x.2) (some y.2)) (backObjs ns os) (backObjs ns' os)
  | [], [], [], _, _, _ => .nil
  | (n, rs) :: ns, (n', rs') :: ns', o :: os, ⟨h1, h2⟩, ⟨h3, h4⟩, H => by
    have hz : (allNames ((n', rs') :: ns')).zip (allNames ((n, rs) :: ns)) = (n', n) :: (rs'.zip rs ++ (allNames ns').zip (allNames ns)) := by
      simp only [allNames, List.zip_cons_cons]
      rw [List.zip_append (by omega)]
    rw [hz] at H
    obtain ⟨a1, a2⟩ := back_am (ρ := ρ) (H (n', n) (by simp)) o rs rs' h1 h3 (fun p hp => H p (by simp [hp]))
    refine .cons _ _ _ _ ⟨rfl, by rw [back_length, back_length], a1⟩ (a2.append (objs_am ns ns' os h2 h4 fun p hp => H p (by simp [hp])))
  | [], _ :: _, [], _, h, _ => h.elim
  | _ :: _, [], [], h, _, _ => h.elim
  | _ :: _, _ :: _, [], h, _, _ => h.elim
  | [], _, _ :: _, h, _, _ => h.elim
  | _ :: _, [], _ :: _, _, h, _ => h.elim


theorem refE_am {ρ : Ren} {k : Nat} : ∀ {no no' : List Nat}, no.length = no'.length → (∀ p ∈ no'.zip no, ρ.src p.1 = some p.2) → AM ρ (refE no k) (refE no' k) := by
  intro no no' hl H
  unfold refE
  cases h' : no'[k]? with
  | none => exact .undef _
  | some n' =>
    have hk : k < no.length := by have := (List.getElem?_eq_some_iff.1 h').1; omega
    have h : no[k]? = some no[k] := by simp [hk]
    rw [h]
    exact .ptr _ _ 0 (H (n', no[k]) (List.mem_of_getElem? (i := k) (by simp [List.getElem?_zip_eq_some, h', hk])))

theorem res_am {ρ : Ren} {nr nr' : Nat → Nat} {nc nc' : Nat → Nat → Nat} {no no' : List Nat} (hno : no.length = no'.length) (Ho : ∀ p ∈ no'.zip no, ρ.src p.1 = some p.2) : ∀ (l : List RV) (i : Nat), (∀ r ∈ l, ∀ x, r = .pv x → AM ρ x x) → (∀ p ∈ (keys (resAt nr' nc' no' i l).2).zip (keys (resAt nr nc no i l).2), ρ.src p.1 = some p.2) →
    (resAt nr nc no i l).1.length = (resAt nr' nc' no' i l).1.length ∧ (∀ (k : Nat) (x y : AV), (resAt nr nc no i l).1[k]? = some x → (resAt nr' nc' no' i l).1[k]? = some y → AM ρ x y) ∧
      Al (fun x y => CM ρ (some x.2) (some y.2)) (resAt nr nc no i l).2 (resAt nr' nc' no' i l).2
  | [], i, _, _ => ⟨rfl, fun k x y h => by simp [resAt] at h, .nil⟩
  | .pv x :: l, i, hp, H => by
    obtain ⟨a0, a1, a2⟩ := res_am (nr := nr) (nr' := nr') (nc := nc) (nc' := nc') hno Ho l (i + 1) (fun r hr => hp r (by simp [hr])) H
    refine ⟨by simp [resAt, a0], fun k y z e1 e2 => ?_, a2⟩
    cases k with
    | zero => simp [resAt] at e1 e2; subst e1; subst e2; exact hp _ (by simp) x rfl
    | succ k => exact a1 k y z (by simpa [resAt] using e1) (by simpa [resAt] using e2)
  | .ref q :: l, i, hp, H => by
    obtain ⟨a0, a1, a2⟩ := res_am (nr := nr) (nr' := nr') (nc := nc) (nc' := nc') hno Ho l (i + 1) (fun r hr => hp r (by simp [hr])) H
    refine ⟨by simp [resAt, a0], fun k y z e1 e2 => ?_, a2⟩
    cases k with
    | zero => simp [resAt] at e1 e2; subst e1; subst e2; exact refE_am hno Ho
    | succ k => exact a1 k y z (by simpa [resAt] using e1) (by simpa [resAt] using e2)
  | .fresh z rows :: l, i, hp, H => by
    simp only [resAt, keys, List.map_cons, List.zip_cons_cons, List.mem_cons] at H
    obtain ⟨a0, a1, a2⟩ := res_am (nr := nr) (nr' := nr') (nc := nc) (nc' := nc') hno Ho l (i + 1) (fun r hr => hp r (by simp [hr])) (fun p hp => H p (.inr hp))
    refine ⟨by simp [resAt, a0], fun k y w e1 e2 => ?_, .cons _ _ _ _ ⟨rfl, rfl⟩ a2⟩
    cases k with
    | zero => simp [resAt] at e1 e2; subst e1; subst e2; exact .own _ _ z rows (H _ (.inl rfl))
    | succ k => exact a1 k y w (by simpa [resAt] using e1) (by simpa [resAt] using e2)
  | .newobj o :: l, i, hp, H => by
    have k1 : keys (cellsAt (nc i) (nr i) 0 o).2 = rowNames (nc i) 0 o := by rw [cellsAt_back]; exact back_keys _ _ _ (rowNames_length _ _ _)
    have k2 : keys (cellsAt (nc' i) (nr' i) 0 o).2 = rowNames (nc' i) 0 o := by rw [cellsAt_back]; exact back_keys _ _ _ (rowNames_length _ _ _)
    have hz : (keys (resAt nr' nc' no' i (.newobj o :: l)).2).zip (keys (resAt nr nc no i (.newobj o :: l)).2) = (nr' i, nr i) :: ((rowNames (nc' i) 0 o).zip (rowNames (nc i) 0 o) ++ (keys (resAt nr' nc' no' (i + 1) l).2).zip (keys (resAt nr nc no (i + 1) l).2)) := by
      rw [← k1, ← k2]
      simp only [resAt, keys, List.map_cons, List.map_append, List.zip_cons_cons]
      rw [List.zip_append]
      have e1 := k1; have e2 := k2
      simp only [keys] at e1 e2
      rw [e1, e2, rowNames_length, rowNames_length]
    rw [hz] at H
    obtain ⟨a0, a1, a2⟩ := res_am (nr := nr) (nr' := nr') (nc := nc) (nc' := nc') hno Ho l (i + 1) (fun r hr => hp r (by simp [hr])) (fun p hp => H p (by simp [hp]))
    obtain ⟨b1, b2⟩ := back_am (ρ := ρ) (H (nr' i, nr i) (by simp)) o (rowNames (nc i) 0 o) (rowNames (nc' i) 0 o) (rowNames_length _ _ _) (rowNames_length _ _ _) (fun p hp => H p (by simp [hp]))
    refine ⟨by simp [resAt, a0], fun k y w e1 e2 => ?_, ?_⟩
    · cases k with
      | zero => simp [resAt] at e1 e2; subst e1; subst e2; exact .ptr _ _ 0 (H (nr' i, nr i) (by simp))
      | succ k => exact a1 k y w (by simpa [resAt] using e1) (by simpa [resAt] using e2)
    · simp only [resAt]
      refine .cons _ _ _ _ ⟨rfl, ?_, ?_⟩ (Al.append ?_ a2)
      · rw [cellsAt_back, cellsAt_back, back_length, back_length]
      · rw [cellsAt_back, cellsAt_back]; exact b1
      · rw [cellsAt_back, cellsAt_back]; exact b2

/-- What a call hands back by value is pure: it names nothing. -/
inductive Pure : AV → Prop
  | c (x : PC) : Pure (.c x)
  | agg (cs : List AV) (h : ∀ x ∈ cs, Pure x) : Pure (.agg cs)
  | nilptr : Pure .nilptr
  | nilsl : Pure .nilsl
  | rptr (cs : List PC) : Pure (.rptr cs)
  | clo (f : FuncId) (caps : List (List PC)) : Pure (.clo f caps)
  | ubool : Pure .ubool

theorem Pure.am {x : AV} (h : Pure x) (ρ : Ren) : AM ρ x x := by
  induction h with
  | c x => exact .c x
  | agg cs h ih =>
    refine .agg cs cs rfl fun i x y e1 e2 => ?_
    rw [e1] at e2; cases e2
    exact ih x (List.mem_of_getElem? e1)
  | nilptr => exact .nilptr
  | nilsl => exact .nilsl
  | rptr cs => exact .rptr cs
  | clo f caps => exact .clo f caps
  | ubool => exact .ubool

def CRes.pure (r : CRes) : Prop := ∀ x, RV.pv x ∈ r.res → Pure x

theorem AR.pure {E : Env} {G : Gh} {x y : AV} {v : Value} (h : AR G x v) (hp : x.pure? = some y) : AR G y v ∧ Pure y := by
  unfold AV.pure? at hp
  split at hp
  · rename_i cs
    obtain ⟨l, hl, rfl⟩ := Option.map_eq_some_iff.1 hp
    obtain ⟨t1, t2⟩ := toPCs_spec hl
    cases h with
    | agg _ us hl hc =>
    refine ⟨.agg _ _ (by simp; omega) (fun i x u e1 e2 => ?_), .agg _ (fun x hx => ?_)⟩
    · simp only [List.getElem?_map, Option.map_eq_some_iff] at e1
      obtain ⟨c, e1, rfl⟩ := e1
      have hi : i < cs.length := by have := (List.getElem?_eq_some_iff.1 e1).1; omega
      have hx : cs[i]? = some cs[i] := by simp [hi]
      exact .c _ _ ((hc i _ u hx e2).toPC (t2 i _ c hx e1))
    · simp only [List.mem_map] at hx
      obtain ⟨c, _, rfl⟩ := hx
      exact .c c
  · cases hp; exact ⟨h, .rptr _⟩
  · cases hp; exact ⟨h, .clo _ _⟩
  · cases hp; exact ⟨h, .nilptr⟩
  · cases hp; exact ⟨h, .nilsl⟩
  · obtain ⟨c, hc, rfl⟩ := Option.map_eq_some_iff.1 hp
    exact ⟨.c _ _ (h.toPC hc), .c c⟩

def EnterOK (P : Program) (f : FuncId) : Prop := ∃ fn, P.funcs[f]? = some fn ∧ (fn.name == "runtime.NumGoroutine") = false ∧ fn.body.isSome = true

def CallPost (E : Env) (G : Gh) (r : CRes) : Ending → World → Prop := fun e w' => ∃ (G' : Gh) (v : Value), e = .returned v ∧ G.le G' ∧ MRel E G' (look (exitMem r)) w' ∧ AR G' (oneE (exitVals r)) v

/-- What a function answers. -/
def SoundC (P : Program) (f : FuncId) (C : Contract) : Prop :=
  EnterOK P f ∧ ∀ (args : List AV) (objs : List (List OV)) (r : CRes), C args objs = some r → r.pure ∧
    ∀ (Ext : Nat → Prop) (G : Gh) (w : World) (vals : List Value), MRel (cEnv w Ext G.K) G (look (entryMem 0 objs)) w → args.length = vals.length →
      (∀ (i : Nat) (x : AV) (v : Value), args[i]? = some x → vals[i]? = some v → AR G x v) →
      Calls P f vals.toArray w (CallPost (cEnv w Ext G.K) G r)


section
variable {P : Program} {E : Env} {G : Gh} {s : AS} {a : Act} {w : World} {o : Oper} {next : Act → World → Prop} {Q : Exit → Act → World → Prop}

/-- The caller's own list of what it hands over. -/
def rowsMC : List OV → List Nat → List (Nat × MC)
  | [], _ => []
  | .c _ :: o, rs => rowsMC o rs
  | .own z rows :: o, r :: rs => (r, .row z rows.length) :: rowsMC o rs
  | .own _ _ :: o, [] => rowsMC o []
  | .mp ag es :: o, r :: rs => (r, .mp ag es) :: rowsMC o rs
  | .mp _ _ :: o, [] => rowsMC o []
  | .nilmp :: o, rs => rowsMC o rs
  | .nilptr :: o, rs => rowsMC o rs
  | .self :: o, rs => rowsMC o rs
def origMC : List (List AV) → List (List OV) → List (Nat × List Nat) → List (Nat × MC)
  | cells :: cs, o :: os, (n, rs) :: ns => (n, .obj cells false) :: (rowsMC o rs ++ origMC cs os ns)
  | _, _, _ => []

def CellsOK (me : Nat) (m : Nat → Option MC) (cells : List AV) (o : List OV) (rs : List Nat) : Prop :=
    cells.length = o.length ∧ rs.length = nOwn o ∧ (∀ q c, (q, c) ∈ rowsMC o rs → m q = some c) ∧ keys (rowsMC o rs) = rs ∧
    ∀ (ρ : Ren) (ns : List Nat) (me' : Nat), ρ.src me' = some me → ns.length = nOwn o → (∀ p ∈ ns.zip rs, ρ.src p.1 = some p.2) →
      (∀ (i : Nat) (x y : AV), cells[i]? = some x → (backCells me' o ns).1[i]? = some y → AM ρ x y) ∧ Al (fun x y => CM ρ (some x.2) (some y.2)) (rowsMC o rs) (backCells me' o ns).2
/-- A cell that names nothing of its own. -/
theorem CellsOK.plain {me : Nat} {m : Nat → Option MC} {cells : List AV} {o : List OV} {rs : List Nat} (h : CellsOK me m cells o rs) {x : AV} {y : OV}
    (hn : nOwn (y :: o) = nOwn o) (hr : rowsMC (y :: o) rs = rowsMC o rs) (hb : ∀ me' ns, ∃ v, backCells me' (y :: o) ns = (v :: (backCells me' o ns).1, (backCells me' o ns).2) ∧ ∀ ρ : Ren, ρ.src me' = some me → AM ρ x v) : CellsOK me m (x :: cells) (y :: o) rs := by
  obtain ⟨b1, b2, b3, b4, b5⟩ := h
  refine ⟨by simp [b1], by rw [hn]; exact b2, by rw [hr]; exact b3, by rw [hr]; exact b4, fun ρ ns me' h0 n1 n2 => ?_⟩
  obtain ⟨d1, d2⟩ := b5 ρ ns me' h0 (by rw [← hn]; exact n1) n2
  obtain ⟨v, hv, ha⟩ := hb me' ns
  rw [hr, hv]
  refine ⟨fun i x' y e1 e2 => ?_, d2⟩
  cases i with
  | zero => simp at e1 e2; subst e1; subst e2; exact ha ρ h0
  | succ i => exact d1 i x' y (by simpa using e1) (by simpa using e2)

theorem cellsE_inv {m : Nat → Option MC} (me : Nat) : ∀ (cells : List AV) (o : List OV) (rs : List Nat) (l : List Nat), (cellsE me cells).run m = some ((o, rs), l) → CellsOK me m cells o rs
  | [], o, rs, l, h => by
    obtain ⟨e, _⟩ := EP.ret_inv h
    cases e
    exact ⟨rfl, rfl, fun q c h => by simp [rowsMC] at h, rfl, fun ρ ns me' _ _ _ => ⟨fun i x y h => by simp at h, .nil⟩⟩
  | x :: cells, o, rs, l, h => by
    simp only [cellsE] at h
    split at h
    · rename_i r z rows
      obtain ⟨l', h, _⟩ := EP.ask_inv h
      split at h
      · rename_i z' fr hm
        split at h
        · rename_i hfr
          obtain ⟨hz, hfr⟩ := hfr
          subst hz; subst hfr
          obtain ⟨⟨o', rs'⟩, l1, l2, h1, h2, _⟩ := EP.bind_inv h
          obtain ⟨e, _⟩ := EP.ret_inv h2
          cases e
          obtain ⟨b1, b2, b3, b4, b5⟩ := cellsE_inv me cells o' rs' l1 h1
          refine ⟨by simp [b1], by simp [nOwn, b2], fun q c hq => ?_, ?_, fun ρ ns me' h0 n1 n2 => ?_⟩
          · simp only [rowsMC, List.mem_cons] at hq
            rcases hq with hq | hq
            · cases hq; exact hm
            · exact b3 q c hq
          · simp only [rowsMC, keys, List.map_cons, List.cons.injEq, true_and]; exact b4
          · cases ns with
            | nil => simp [nOwn] at n1
            | cons n ns =>
              obtain ⟨d1, d2⟩ := b5 ρ ns me' h0 (by simpa [nOwn] using n1) (fun p hp => n2 p (by simp [hp]))
              refine ⟨fun i x' y e1 e2 => ?_, .cons _ _ _ _ ⟨rfl, rfl⟩ d2⟩
              cases i with
              | zero => simp [backCells] at e1 e2; subst e1; subst e2; exact .own r n _ rows (n2 (n, r) (by simp))
              | succ i => exact d1 i x' y (by simpa using e1) (by simpa [backCells] using e2)
        · exact EP.fail_inv h
      · exact EP.fail_inv h
    · rename_i r
      obtain ⟨l', h, _⟩ := EP.ask_inv h
      split at h
      · rename_i ag es hm
        obtain ⟨⟨o', rs'⟩, l1, l2, h1, h2, _⟩ := EP.bind_inv h
        obtain ⟨e, _⟩ := EP.ret_inv h2
        cases e
        obtain ⟨b1, b2, b3, b4, b5⟩ := cellsE_inv me cells o' rs' l1 h1
        refine ⟨by simp [b1], by simp [nOwn, b2], fun q c hq => ?_, ?_, fun ρ ns me' h0 n1 n2 => ?_⟩
        · simp only [rowsMC, List.mem_cons] at hq
          rcases hq with hq | hq
          · cases hq; exact hm
          · exact b3 q c hq
        · simp only [rowsMC, keys, List.map_cons, List.cons.injEq, true_and]; exact b4
        · cases ns with
          | nil => simp [nOwn] at n1
          | cons n ns =>
            obtain ⟨d1, d2⟩ := b5 ρ ns me' h0 (by simpa [nOwn] using n1) (fun p hp => n2 p (by simp [hp]))
            refine ⟨fun i x' y e1 e2 => ?_, .cons _ _ _ _ ⟨rfl, rfl⟩ d2⟩
            cases i with
            | zero => simp [backCells] at e1 e2; subst e1; subst e2; exact .mp r n (n2 (n, r) (by simp))
            | succ i => exact d1 i x' y (by simpa using e1) (by simpa [backCells] using e2)
      · exact EP.fail_inv h
    · obtain ⟨⟨o', rs'⟩, l1, l2, h1, h2, _⟩ := EP.bind_inv h
      obtain ⟨e, _⟩ := EP.ret_inv h2
      cases e
      exact (cellsE_inv me cells o' rs' l1 h1).plain rfl rfl (fun me' ns => ⟨.nilmp, rfl, fun _ _ => .nilmp⟩)
    · obtain ⟨⟨o', rs'⟩, l1, l2, h1, h2, _⟩ := EP.bind_inv h
      obtain ⟨e, _⟩ := EP.ret_inv h2
      cases e
      exact (cellsE_inv me cells o' rs' l1 h1).plain rfl rfl (fun me' ns => ⟨.nilptr, rfl, fun _ _ => .nilptr⟩)
    · rename_i r
      split at h
      · rename_i hr
        subst hr
        obtain ⟨⟨o', rs'⟩, l1, l2, h1, h2, _⟩ := EP.bind_inv h
        obtain ⟨e, _⟩ := EP.ret_inv h2
        cases e
        exact (cellsE_inv r cells o' rs' l1 h1).plain rfl rfl (fun me' ns => ⟨.ptr me' 0, rfl, fun _ h0 => .ptr _ _ 0 h0⟩)
      · obtain ⟨⟨o', rs'⟩, l1, l2, h1, h2, _⟩ := EP.bind_inv h
        obtain ⟨e, _⟩ := EP.ret_inv h2
        cases e
        exact (cellsE_inv me cells o' rs' l1 h1).plain rfl rfl (fun me' ns => ⟨.c .junk, rfl, fun _ _ => .junk _ rfl⟩)
    · split at h
      · rename_i c hc
        obtain ⟨⟨o', rs'⟩, l1, l2, h1, h2, _⟩ := EP.bind_inv h
        obtain ⟨e, _⟩ := EP.ret_inv h2
        cases e
        refine (cellsE_inv me cells o' rs' l1 h1).plain rfl rfl (fun me' ns => ⟨.c c, rfl, fun _ _ => ?_⟩)
        cases x <;> simp only [AV.toPC, Option.some.injEq, reduceCtorEq] at hc
        · subst hc; exact .c _
        · subst hc; exact .nilc
        · subst hc; exact .ownc _ _ _
        all_goals (subst hc; exact .junk _ rfl)
      · exact EP.fail_inv h


theorem objsE_inv {m : Nat → Option MC} (M : MRel E G m w) : ∀ (ns : List Nat) (os : List (List OV)) (nm : List (Nat × List Nat)) (l : List Nat), (objsE ns).run m = some ((os, nm), l) →
    ∃ css : List (List AV), nm.map (·.1) = ns ∧ Fit nm os ∧ (∀ q c, (q, c) ∈ origMC css os nm → m q = some c) ∧ keys (origMC css os nm) = allNames nm ∧
    ∀ (ρ : Ren) (nm' : List (Nat × List Nat)), Fit nm' os → (∀ p ∈ (allNames nm').zip (allNames nm), ρ.src p.1 = some p.2) → Al (fun x y => CM ρ (some x.2) (some y.2)) (origMC css os nm) (backObjs nm' os)
  | [], os, nm, l, h => by
    obtain ⟨e, _⟩ := EP.ret_inv h
    cases e
    refine ⟨[], rfl, trivial, fun q c h => by simp [origMC] at h, rfl, fun ρ nm' hf _ => ?_⟩
    cases nm' with
    | nil => exact .nil
    | cons => exact hf.elim
  | n :: ns, os, nm, l, h => by
    unfold objsE at h
    obtain ⟨l', h, _⟩ := EP.ask_inv h
    split at h
    · rename_i cells hm
      obtain ⟨⟨o, rs⟩, l1, l2, h1, h2, _⟩ := EP.bind_inv h
      obtain ⟨⟨os', nm'⟩, l3, l4, h3, h4, _⟩ := EP.bind_inv h2
      obtain ⟨e, _⟩ := EP.ret_inv h4
      cases e
      obtain ⟨b1, b2, b3, b4, b5⟩ := cellsE_inv n cells o rs l1 h1
      obtain ⟨css, c1, c2, c3, c4, c5⟩ := objsE_inv M ns os' nm' l3 h3
      refine ⟨cells :: css, by simp [c1], ⟨b2, c2⟩, fun q c hq => ?_, ?_, fun ρ nm2 hf H => ?_⟩
      · simp only [origMC, List.mem_cons, List.mem_append] at hq
        rcases hq with hq | hq | hq
        · cases hq; exact hm
        · exact b3 q c hq
        · exact c3 q c hq
      · simp only [keys] at b4 c4
        simp only [origMC, allNames, keys, List.map_cons, List.map_append, b4, c4]
      · cases nm2 with
        | nil => exact hf.elim
        | cons p nm2 =>
          obtain ⟨n2, rs2⟩ := p
          obtain ⟨f1, f2⟩ := hf
          have hz : (allNames ((n2, rs2) :: nm2)).zip (allNames ((n, rs) :: nm')) = (n2, n) :: (rs2.zip rs ++ (allNames nm2).zip (allNames nm')) := by
            simp only [allNames, List.zip_cons_cons]
            rw [List.zip_append (by rw [f1]; exact b2.symm)]
          rw [hz] at H
          obtain ⟨d1, d2⟩ := b5 ρ rs2 n2 (H (n2, n) (by simp)) f1 (fun p hp => H p (by simp [hp]))
          refine .cons _ _ _ _ ⟨rfl, ?_, d1⟩ (d2.append (c5 ρ nm2 f2 fun p hp => H p (by simp [hp])))
          rw [back_length, b1]
    · exact EP.fail_inv h

theorem argsE_inv : ∀ (xs : List AV) (i : Nat) (as : List AV) (ns : List Nat), argsE xs i = some (as, ns) →
    as.length = xs.length ∧ ∀ (G' : Gh), G'.K = G.K → (∀ k n, ns[k]? = some n → ∃ b, G'.h (inObj (i + k)) = some b ∧ G.h n = some b) →
      ∀ (k : Nat) (x y : AV) (v : Value), xs[k]? = some x → as[k]? = some y → AR G x v → AR G' y v
  | [], i, as, ns, h => by
    simp only [argsE, Option.some.injEq, Prod.mk.injEq] at h
    obtain ⟨rfl, rfl⟩ := h
    exact ⟨rfl, fun _ _ _ k x y v h => by simp at h⟩
  | x :: xs, i, as, ns, h => by
    simp only [argsE] at h
    split at h
    · rename_i n
      split at h
      · rename_i as' ns' h1
        simp only [Option.some.injEq, Prod.mk.injEq] at h
        obtain ⟨rfl, rfl⟩ := h
        obtain ⟨a1, a2⟩ := argsE_inv xs (i + 1) as' ns' h1
        refine ⟨by simp [a1], fun G' hK hh k x y v e1 e2 hx => ?_⟩
        cases k with
        | zero =>
          simp at e1 e2
          subst e1; subst e2
          cases hx with
          | ptr _ _ b hb =>
          obtain ⟨c, g1, g2⟩ := hh 0 n rfl
          rw [hb] at g2
          cases g2
          exact .ptr _ _ b g1
        | succ k => exact a2 G' hK (fun j n hj => by have := hh (j + 1) n (by simpa using hj); rwa [show i + (j + 1) = i + 1 + j from by omega] at this) k x y v (by simpa using e1) (by simpa using e2) hx
      · cases h
    · rename_i n off len ex
      split at h
      · rename_i as' ns' h1
        simp only [Option.some.injEq, Prod.mk.injEq] at h
        obtain ⟨rfl, rfl⟩ := h
        obtain ⟨a1, a2⟩ := argsE_inv xs (i + 1) as' ns' h1
        refine ⟨by simp [a1], fun G' hK hh k x y v e1 e2 hx => ?_⟩
        cases k with
        | zero =>
          simp at e1 e2
          subst e1; subst e2
          cases hx with
          | msl _ _ _ b cap _ hb hc he =>
          obtain ⟨c, g1, g2⟩ := hh 0 n rfl
          rw [hb] at g2
          cases g2
          exact .msl _ _ _ b cap _ g1 hc he
        | succ k => exact a2 G' hK (fun j n hj => by have := hh (j + 1) n (by simpa using hj); rwa [show i + (j + 1) = i + 1 + j from by omega] at this) k x y v (by simpa using e1) (by simpa using e2) hx
      · cases h
    · split at h
      · rename_i y' as' ns' hp h1
        simp only [Option.some.injEq, Prod.mk.injEq] at h
        obtain ⟨rfl, rfl⟩ := h
        obtain ⟨a1, a2⟩ := argsE_inv xs i as' ns' h1
        refine ⟨by simp [a1], fun G' hK hh k x2 y v e1 e2 hx => ?_⟩
        cases k with
        | zero =>
          simp at e1 e2
          subst e1; subst e2
          obtain ⟨g1, g2⟩ := AR.pure (E := cEnv default (fun _ => False) G.K) hx hp
          have := (g2.am ⟨fun _ => none, fun _ => none⟩).rel g1
          exact this.mono ⟨by rw [hK]; exact Know.le_refl _, fun n h e => by simp [Ren.gh] at e⟩
        | succ k => exact a2 G' hK hh k x2 y v (by simpa using e1) (by simpa using e2) hx
      · cases h


theorem freeE_inv {m : Nat → Option MC} : ∀ (ns : List Nat) (l : List Nat), (freeE ns).run m = some ((), l) → ∀ n ∈ ns, m n = none
  | [], l, h, n, hn => by simp at hn
  | n0 :: ns, l, h, n, hn => by
    simp only [freeE] at h
    obtain ⟨l', h, _⟩ := EP.ask_inv h
    split at h
    · rename_i hm
      rcases List.mem_cons.1 hn with rfl | hn
      · exact hm
      · exact freeE_inv ns l' h n hn
    · exact EP.fail_inv h

theorem zip_look : ∀ {ks qs : List Nat}, ks.Nodup → ∀ p ∈ ks.zip qs, look (ks.zip qs) p.1 = some p.2
  | [], _, _, p, h => by simp at h
  | _ :: _, [], _, p, h => by simp at h
  | k :: ks, q :: qs, nd, p, h => by
    simp only [List.nodup_cons] at nd
    simp only [List.zip_cons_cons, List.mem_cons] at h
    simp only [List.zip_cons_cons, look]
    rcases h with h | h
    · subst h; simp
    · have hk : k ≠ p.1 := fun e => by subst e; exact nd.1 (List.of_mem_zip h).1
      rw [if_neg hk]
      exact zip_look nd.2 p h

def SoundG (P : Program) (Γ : FuncId → Contract) : Prop := ∀ f args objs r, Γ f args objs = some r → SoundC P f (Γ f)

theorem inName (os : List (List OV)) : ∀ (nm : List (Nat × List Nat)) (i k n : Nat), Fit nm os → (nm.map (·.1))[k]? = some n → (inObj (i + k), n) ∈ (allNames (entryNames i os)).zip (allNames nm) := by
  induction os with
  | nil => intro nm i k n hf h; cases nm with | nil => simp at h | cons => exact hf.elim
  | cons o os ih =>
    intro nm i k n hf h
    cases nm with
    | nil => exact hf.elim
    | cons p nm =>
      obtain ⟨n0, rs⟩ := p
      obtain ⟨f1, f2⟩ := hf
      simp only [entryNames, allNames, List.zip_cons_cons]
      rw [List.zip_append (by rw [rowNames_length]; exact f1.symm)]
      cases k with
      | zero => simp at h; subst h; simp
      | succ k =>
        have := ih nm (i + 1) k n f2 (by simpa using h)
        rw [show i + 1 + k = i + (k + 1) from by omega] at this
        simp [this]

theorem look2_inv {C : Contract} {as : List AV} {os : List (List OV)} {r : CRes} (h : look2 C as os = some r) :
    ∃ as', C as' os = some r ∧ as'.length = as.length ∧ ∀ (G' : Gh) (k : Nat) (y : AV) (v : Value), as'[k]? = some y → (∀ y0, as[k]? = some y0 → AR G' y0 v) → AR G' y v := by
  unfold look2 at h
  split at h
  · rename_i r' h1
    cases h
    refine ⟨as.map denil, h1, by simp, fun G' k y v e1 e2 => ?_⟩
    simp only [List.getElem?_map, Option.map_eq_some_iff] at e1
    obtain ⟨y0, e1, rfl⟩ := e1
    have := e2 y0 e1
    unfold denil
    split
    · cases this; exact .c _ _ .nil
    · exact this
  · exact ⟨as, h, rfl, fun G' k y v e1 e2 => e2 y e1⟩

theorem sound_call {Γ : FuncId → Contract} (hΓ : SoundG P Γ) (R : Rel E G s a w) {d : Nat} {f : FuncId} {xs : List AV} {us : List Value} (hl : xs.length = us.length) (hx : ∀ (i : Nat) (x : AV) (u : Value), xs[i]? = some x → us[i]? = some u → AR G x u)
    (hexec : EnterOK P f → (execOp a.eval o).run P w = .ok (.enter f us.toArray) w)
    {e : Eff} {l : List Nat} (h : (callE Γ d f xs).run s.mem = some (e, l)) (K : Post E G s o e a next) : o.wp P a w next Q := by
  unfold callE at h
  split at h
  · exact EP.fail_inv h
  · rename_i as ns hargs
    obtain ⟨⟨os, nm⟩, l1, l2, h1, h2, _⟩ := EP.bind_inv h
    split at h2
    · exact EP.fail_inv h2
    · rename_i r hr
      split at h2
      · rename_i hc
        obtain ⟨c1, c2, c3, c4⟩ := hc
        obtain ⟨⟨⟩, l3, l4, h3, h4, _⟩ := EP.bind_inv h2
        obtain ⟨rfl, _⟩ := EP.ret_inv h4
        obtain ⟨css, d1, d2, d3, d4, d5⟩ := objsE_inv R.mem ns os nm l1 h1
        have d2' : Fit nm r.objs := d2.shape c1
        have hfree := freeE_inv _ _ h3
        -- into the callee's names
        have kin : keys (entryMem 0 os) = allNames (entryNames 0 os) := by rw [entry_back]; exact objs_keys _ _ (Fit.entry 0 os)
        have kback : keys (backObjs nm r.objs) = allNames nm := objs_keys nm r.objs d2'
        have ndin : (allNames (entryNames 0 os)).Nodup := by rw [← kin]; exact c2
        have ndnm : (allNames nm).Nodup := by
          rw [keys, List.map_append, List.nodup_append] at c4
          rw [← kback]; exact c4.1
        let ρ1 := pren (origMC css os nm) (entryMem 0 os)
        have hsrc1 : ∀ p ∈ (allNames (entryNames 0 os)).zip (allNames nm), ρ1.src p.1 = some p.2 := by
          intro p hp
          show look (pairs (origMC css os nm) (entryMem 0 os)) p.1 = some p.2
          unfold pairs
          rw [kin, d4]
          exact zip_look ndin p hp
        have al1 := d5 ρ1 (entryNames 0 os) (Fit.entry 0 os) hsrc1
        rw [← entry_back] at al1
        have ren1 : RenOK ρ1 s.mem (look (entryMem 0 os)) := RenOK.of al1 (by rw [d4]; exact ndnm) (fun q c h => d3 q c (look_mem h))
        have M1 := (R.mem.rename ren1).focus
        obtain ⟨as', hr', hasl, hden⟩ := look2_inv hr
        obtain ⟨enter, hcon⟩ := hΓ f as' os r hr'
        obtain ⟨hpure, hcon⟩ := hcon as' os r hr'
        obtain ⟨g1, g2⟩ := argsE_inv (G := G) xs 0 as ns hargs
        have hcall := hcon (fun b => ∃ n h, (ρ1.gh G).h n = some h ∧ h.blk = some b) (ρ1.gh G) w us M1 (by omega) (by
          intro i y v e1 e2
          have hi : i < xs.length := by have := (List.getElem?_eq_some_iff.1 e1).1; omega
          have hxi : xs[i]? = some xs[i] := by simp [hi]
          refine hden _ i y v e1 fun y e1 => ?_
          refine g2 (ρ1.gh G) rfl ?_ i _ y v hxi e1 (hx i _ v hxi e2)
          intro k n hk
          rw [← d1] at hk
          have hp := inName os nm 0 k n d2 hk
          have hs := hsrc1 _ hp
          have hgn : ∃ b, G.h n = some b := by
            have hq : n ∈ keys (origMC css os nm) := by rw [d4]; exact (List.of_mem_zip hp).2
            obtain ⟨c, hc⟩ := look_some (l := origMC css os nm) hq
            have hm := d3 n c (look_mem hc)
            have := R.mem.home n
            rw [hm] at this
            cases hgh : G.h n with
            | none => rw [hgh] at this; cases c <;> exact this.elim
            | some b => exact ⟨b, rfl⟩
          obtain ⟨b, hb⟩ := hgn
          exact ⟨b, by simp only [Ren.gh, hs]; exact hb, hb⟩)
        unfold Oper.wp
        rw [hexec enter]
        refine Calls.mono hcall ?_
        rintro e w' ⟨G', v, rfl, hle, M', hv⟩
        -- back into the caller's names
        let rc := resAt (resName d) (resCell d) ns 0 r.res
        let ro := resAt outName outCell (inNames 0 r.objs) 0 r.res
        let wr := backObjs nm r.objs ++ rc.2
        let ρ2 := pren (exitMem r) wr
        have kex : keys (entryMem 0 r.objs) = allNames (entryNames 0 r.objs) := by rw [entry_back]; exact objs_keys _ _ (Fit.entry 0 r.objs)
        have hlen1 : (keys (backObjs nm r.objs)).length = (keys (entryMem 0 r.objs)).length := by rw [kback, kex]; exact allNames_length nm _ r.objs d2' (Fit.entry 0 r.objs)
        have hz2 : pairs (exitMem r) wr = (allNames nm).zip (allNames (entryNames 0 r.objs)) ++ (keys rc.2).zip (keys ro.2) := by
          unfold pairs exitMem
          show (keys (backObjs nm r.objs ++ rc.2)).zip (keys (entryMem 0 r.objs ++ ro.2)) = _
          simp only [keys, List.map_append] at *
          rw [List.zip_append hlen1, kback, kex]
        have ndwr : (keys wr).Nodup := c4
        have hsrc2 : ∀ p ∈ pairs (exitMem r) wr, ρ2.src p.1 = some p.2 := fun p hp => zip_look ndwr p hp
        have hnm : ∀ (nm : List (Nat × List Nat)) (i : Nat) (os : List (List OV)), Fit nm os → (nm.map (·.1)).length = (inNames i os).length ∧ ∀ p ∈ (nm.map (·.1)).zip (inNames i os), p ∈ (allNames nm).zip (allNames (entryNames i os)) := by
          intro nm
          induction nm with
          | nil => intro i os hf; cases os with | nil => exact ⟨rfl, fun p hp => by simp at hp⟩ | cons => exact hf.elim
          | cons x nm ih =>
            intro i os hf
            cases os with
            | nil => exact hf.elim
            | cons o os =>
              obtain ⟨n0, rs⟩ := x
              obtain ⟨f1, f2⟩ := hf
              obtain ⟨i1, i2⟩ := ih (i + 1) os f2
              refine ⟨by simp only [List.map_cons, List.length_cons, inNames]; rw [i1], fun p hp => ?_⟩
              simp only [List.map_cons, inNames, List.zip_cons_cons, List.mem_cons] at hp
              simp only [allNames, entryNames, List.zip_cons_cons, List.mem_cons]
              rcases hp with hp | hp
              · exact .inl hp
              · right
                rw [List.zip_append (by rw [rowNames_length]; exact f1)]
                exact List.mem_append_right _ (i2 p hp)
        obtain ⟨hn1, hn2⟩ := hnm nm 0 r.objs d2'
        rw [d1] at hn1 hn2
        obtain ⟨q1, q2, q3⟩ := res_am (ρ := ρ2) (no := inNames 0 r.objs) (no' := ns) hn1.symm (fun p hp => hsrc2 p (by rw [hz2]; exact List.mem_append_left _ (hn2 p hp))) (nr := outName) (nr' := resName d) (nc := outCell) (nc' := resCell d) r.res 0 (fun x hx y hy => (hpure y (hy ▸ hx)).am ρ2) (fun p hp => hsrc2 p (by rw [hz2]; exact List.mem_append_right _ hp))
        have al2 : Al (fun x y => CM ρ2 (some x.2) (some y.2)) (exitMem r) wr := by
          refine Al.append ?_ q3
          rw [entry_back]
          exact objs_am _ nm r.objs (Fit.entry 0 r.objs) d2' (fun p hp => hsrc2 p (by rw [hz2]; exact List.mem_append_left _ hp))
        have ren2 : RenOK ρ2 (look (exitMem r)) (look wr) := RenOK.of al2 c3 (fun q c h => h)
        have M2 := M'.rename ren2
        have hmem : ∀ n, look wr n ≠ none → n ∈ allNames nm ∨ n ∈ keys rc.2 := by
          intro n hn
          cases hc : look wr n with
          | none => exact absurd hc hn
          | some c =>
            have := List.mem_map_of_mem (f := (·.1)) (look_mem hc)
            simp only [wr, List.map_append, List.mem_append] at this
            rcases this with h | h
            · left; rw [← kback]; exact h
            · exact .inr h
        -- who is who
        have hpair : ∀ n ∈ allNames nm, ∃ q, (q, n) ∈ (allNames (entryNames 0 os)).zip (allNames nm) ∧ (n, q) ∈ (allNames nm).zip (allNames (entryNames 0 r.objs)) := by
          have hnn : allNames (entryNames 0 os) = allNames (entryNames 0 r.objs) := by
            have : ∀ (i : Nat) (os os' : List (List OV)), os'.map shapeOf = os.map shapeOf → allNames (entryNames i os) = allNames (entryNames i os') := by
              have rn : ∀ (nm : Nat → Nat) (o o' : List OV) (j : Nat), shapeOf o' = shapeOf o → rowNames nm j o = rowNames nm j o' := by
                have rs : ∀ (nm : Nat → Nat) (o : List OV) (j : Nat), rowNames nm j o = ((shapeOf o).zipIdx j).filterMap fun p => p.1.map fun _ => nm p.2 := by
                  intro nm o
                  induction o with
                  | nil => intro j; rfl
                  | cons x o ih => intro j; cases x <;> simp [rowNames, shapeOf, ih (j + 1)]
                intro nm o o' j h
                rw [rs, rs, h]
              intro i os
              induction os generalizing i with
              | nil => intro os' h; cases os' with | nil => rfl | cons => simp at h
              | cons o os ih =>
                intro os' h
                cases os' with
                | nil => simp at h
                | cons o' os' =>
                  simp only [List.map_cons, List.cons.injEq] at h
                  simp only [entryNames, allNames, rn (inRow i) o o' 0 h.1, ih (i + 1) os' h.2]
            exact this 0 os r.objs c1
          intro n hn
          rw [← hnn]
          have hlenE : (allNames (entryNames 0 os)).length = (allNames nm).length := allNames_length _ _ os (Fit.entry 0 os) d2
          obtain ⟨k, hk⟩ := List.mem_iff_getElem?.1 hn
          have hkl : k < (allNames (entryNames 0 os)).length := by have := (List.getElem?_eq_some_iff.1 hk).1; omega
          refine ⟨(allNames (entryNames 0 os))[k], ?_, ?_⟩
          · refine List.mem_of_getElem? (i := k) ?_
            simp [List.getElem?_zip_eq_some, hk, hkl]
          · refine List.mem_of_getElem? (i := k) ?_
            simp [List.getElem?_zip_eq_some, hk, hkl]
        obtain ⟨z1, z2, z3⟩ := R.mem.merge M2 (by
          rintro b ⟨q, x, e1, e2⟩
          simp only [Ren.gh] at e1
          cases hs : ρ1.src q with
          | none => rw [hs] at e1; cases e1
          | some n =>
            rw [hs] at e1
            refine ⟨n, x, e1, e2, fun hn => ?_⟩
            have hm := look_mem (show look (pairs (origMC css os nm) (entryMem 0 os)) q = some n from hs)
            have hn' : n ∈ allNames nm := by rw [← d4]; exact (List.of_mem_zip hm).2
            have : n ∈ wr.map (·.1) := by
              simp only [wr, List.map_append, List.mem_append]
              left; rw [← kback] at hn'; exact hn'
            obtain ⟨c, hc⟩ := look_some this
            rw [hn] at hc; cases hc) (by
          intro n x e1 hn
          rcases hmem n hn with h | h
          · obtain ⟨q, p1, p2⟩ := hpair n h
            have s1 := hsrc1 _ p1
            have s2 := hsrc2 (n, q) (by rw [hz2]; exact List.mem_append_left _ p2)
            have e1' : (ρ1.gh G).h q = some x := by simp only [Ren.gh, s1]; exact e1
            obtain ⟨x', e2, l2⟩ := hle.h q x e1'
            exact ⟨x', by simp only [Ren.gh, s2]; exact e2, l2⟩
          · have := hfree n h
            have h0 := R.mem.home n
            rw [this, e1] at h0
            exact h0.elim)
        refine K _ v w' z1 ?_ (z3.congr fun i => AS.mem_wr s wr i)
        refine AR.mono z2 ?_
        refine AM.rel (ρ := ρ2) (x := oneE (exitVals r)) ?_ hv
        have hone : ∀ {l l' : List AV}, l.length = l'.length → (∀ (k : Nat) (x y : AV), l[k]? = some x → l'[k]? = some y → AM ρ2 x y) → AM ρ2 (oneE l) (oneE l') := by
          intro l l' hl h
          match l, l', hl, h with
          | [x], [y], _, h => exact h 0 x y rfl rfl
          | [], [], hl, h => exact .tup _ _ hl h
          | _ :: _ :: _, _ :: _ :: _, hl, h => exact .tup _ _ hl h
          | [], _ :: _, hl, _ => simp at hl
          | _ :: _, [], hl, _ => simp at hl
          | [_], _ :: _ :: _, hl, _ => simp at hl
          | _ :: _ :: _, [_], hl, _ => simp at hl
        exact hone q1 q2
      · exact EP.fail_inv h2

end
end Go.Proofs.Ytofkehedjcinhaa.AM
