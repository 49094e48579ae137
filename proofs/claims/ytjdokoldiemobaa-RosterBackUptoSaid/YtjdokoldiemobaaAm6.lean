/-
  THE ABSTRACT MACHINE, part 6: make, literals, closures, maps; len, min, max.
-/
import Derived.Test.YtjdokoldiemobaaAm5
set_option linter.unusedVariables false
set_option linter.unusedSimpArgs false
namespace Go.Proofs.Ytjdokoldiemobaa.AM
open Go

section
variable {P : Program} {E : Env} {G : Gh} {s : AS} {a : Act} {w : World} {o : Oper} {next : Act → World → Prop} {Q : Exit → Act → World → Prop}

theorem putAt_length {cells xs : List AV} {off : Nat} (h : off + xs.length ≤ cells.length) : (putAt cells off xs).length = cells.length := by
  simp [putAt]; omega

theorem putAt_get {cells xs : List AV} {off i : Nat} (h : off + xs.length ≤ cells.length) : (putAt cells off xs)[i]? = if off ≤ i ∧ i < off + xs.length then xs[i - off]? else cells[i]? := by
  have t1 : (cells.take off).length = off := by simp; omega
  unfold putAt
  rcases Nat.lt_or_ge i off with hi | hi
  · rw [List.append_assoc, List.getElem?_append_left (by omega), List.getElem?_take, if_pos hi, if_neg (by omega)]
  · rw [List.append_assoc, List.getElem?_append_right (by omega), t1]
    rcases Nat.lt_or_ge (i - off) xs.length with hj | hj
    · rw [List.getElem?_append_left hj, if_pos (by omega)]
    · rw [List.getElem?_append_right hj, List.getElem?_drop, if_neg (by omega)]
      congr 1; omega

/-- The model's own way of laying a part's cells. -/
theorem fold_get (off : Nat) : ∀ (us : List Value) (j : Nat) (cs : Array Value), off + j + us.length ≤ cs.size →
    ((us.zipIdx j).foldl (fun cs (x : Value × Nat) => cs.setIfInBounds (off + x.2) x.1) cs).size = cs.size ∧
    ∀ i, ((us.zipIdx j).foldl (fun cs (x : Value × Nat) => cs.setIfInBounds (off + x.2) x.1) cs)[i]? = if off + j ≤ i ∧ i < off + j + us.length then us[i - (off + j)]? else cs[i]?
  | [], j, cs, h => ⟨rfl, fun i => by simp; intro h1 h2; omega⟩
  | u :: us, j, cs, h => by
    simp only [List.length_cons] at h
    obtain ⟨h1, h2⟩ := fold_get off us (j + 1) (cs.setIfInBounds (off + j) u) (by simp; omega)
    simp only [List.zipIdx_cons, List.foldl_cons]
    refine ⟨by rw [h1]; simp, fun i => ?_⟩
    rw [h2]
    simp only [List.length_cons]
    by_cases e : i = off + j
    · subst e
      rw [if_neg (by omega), if_pos (by omega), Array.getElem?_setIfInBounds_self_of_lt (by omega)]
      simp
    · by_cases hr : off + (j + 1) ≤ i ∧ i < off + (j + 1) + us.length
      · rw [if_pos hr, if_pos (by omega)]
        have : i - (off + j) = (i - (off + (j + 1))) + 1 := by omega
        rw [this]; simp
      · rw [if_neg hr, if_neg (by omega), Array.getElem?_setIfInBounds_ne (by omega)]

theorem fill_run {place placeC : Nat → Option (Nat × Nat)} (hp : ∀ i off z, place i = some (off, z) → placeC i = some (off, z)) :
    ∀ (parts : List (Nat × AV)) (cparts : List (Nat × Value)) (cells out : List AV) (vs : Array Value), fillE place cells parts = some out →
      parts.length = cparts.length → (∀ (k : Nat) (p : Nat × AV) (q : Nat × Value), parts[k]? = some p → cparts[k]? = some q → p.1 = q.1 ∧ AR G p.2 q.2) →
      cells.length = vs.size → (∀ (i : Nat) (x : AV) (v : Value), cells[i]? = some x → vs[i]? = some v → AR G x v) →
      ∃ vs' : Array Value, Instr.fill placeC vs cparts = some vs' ∧ out.length = vs'.size ∧ ∀ (i : Nat) (x : AV) (v : Value), out[i]? = some x → vs'[i]? = some v → AR G x v := by
  intro parts
  induction parts with
  | nil =>
    intro cparts cells out vs h hl _ hs hr
    simp only [fillE, Option.some.injEq] at h
    subst h
    cases cparts with
    | nil => exact ⟨vs, rfl, hs, hr⟩
    | cons => simp at hl
  | cons p parts ih =>
    intro cparts cells out vs h hl hc hs hr
    cases cparts with
    | nil => simp at hl
    | cons q cparts =>
      obtain ⟨i, x⟩ := p
      obtain ⟨j, v⟩ := q
      obtain ⟨e, hxv⟩ := hc 0 (i, x) (j, v) rfl rfl
      simp only at e hxv
      subst e
      simp only [fillE] at h
      split at h
      · rename_i off z xs e1 e2
        split at h
        · rename_i hh
          obtain ⟨h1, h2⟩ := hh
          obtain ⟨f1, f2⟩ := flat_rel hxv e2
          have hvz : v.cells.size = z := by omega
          obtain ⟨g1, g2⟩ := fold_get off v.cells.toList 0 vs (by simp; omega)
          simp only [Nat.add_zero] at g2
          let vs1 := (v.cells.toList.zipIdx 0).foldl (fun cs (x : Value × Nat) => cs.setIfInBounds (off + x.2) x.1) vs
          obtain ⟨vs', r1, r2, r3⟩ := ih cparts (putAt cells off xs) out vs1 h (by simpa using hl) (fun k p q a1 a2 => hc (k + 1) p q (by simpa using a1) (by simpa using a2))
            (by rw [putAt_length (by omega)]; show _ = vs1.size; rw [g1]; exact hs)
            (fun i x u a1 a2 => by
              rw [putAt_get (by omega)] at a1
              have a2' : vs1[i]? = some u := a2
              rw [show vs1[i]? = _ from g2 i] at a2'
              split at a1
              · rename_i hin
                rw [if_pos (by simp; omega)] at a2'
                exact f2 (i - off) x u a1 (by simpa using a2')
              · rename_i hin
                rw [if_neg (by simp; omega)] at a2'
                exact hr i x u a1 a2')
          refine ⟨vs', ?_, r2, r3⟩
          have hz : (v.cells.zipIdx.foldl (fun cs (x : Value × Nat) => cs.setIfInBounds (off + x.2) x.1) vs) = vs1 := by
            rw [← Array.foldl_toList]
            congr 1
            simp [Array.toList_zipIdx]
          simp only [Instr.fill, hp _ _ _ e1]
          rw [if_neg (by simp; omega)]
          have e3 : (Array.foldl (fun cs x => match x with | (c, j) => cs.setIfInBounds (off + j) c) vs v.cells.zipIdx) = vs1 := hz
          rw [e3]; exact r1
        · cases h
      · cases h

theorem evals (R : Rel E G s a w) (parts : List (Nat × Operand)) : ∀ (k : Nat) (p : Nat × AV) (q : Nat × Value), (parts.map fun p => (p.1, s.eval p.2))[k]? = some p → (parts.map fun p => (p.1, a.eval p.2))[k]? = some q → p.1 = q.1 ∧ AR G p.2 q.2 := by
  intro k p q h1 h2
  simp only [List.getElem?_map, Option.map_eq_some_iff] at h1 h2
  obtain ⟨x, hx, rfl⟩ := h1
  obtain ⟨y, hy, rfl⟩ := h2
  rw [hx] at hy
  cases hy
  exact ⟨rfl, R.eval _⟩

theorem sound_build (R : Rel E G s a w) {t : TypeId} {parts : Array (Nat × Operand)} (ho : o.op = .build t parts) {cs : List AV} (hx : buildE P t (parts.toList.map fun p => (p.1, s.eval p.2)) = some cs) (K : Post E G s o ⟨.agg cs, []⟩ a next) : o.wp P a w next Q := by
  unfold buildE at hx
  split at hx
  · rename_i zero hzero
    obtain ⟨it, zv, hi, hz, hzl, hzr⟩ := zero_rel G hzero
    have key : ∀ (place : Nat → Option (Nat × Nat)), fillE place zero (parts.toList.map fun p => (p.1, s.eval p.2)) = some cs → (∀ vs : Array Value, Instr.fill place zv.cells (parts.map fun (i, x) => (i, a.eval x)).toList = some vs → P.built t (parts.map fun (i, x) => (i, a.eval x)).toList = some vs) → o.wp P a w next Q := by
      intro place hf hb
      obtain ⟨vs', r1, r2, r3⟩ := fill_run (G := G) (place := place) (placeC := place) (fun _ _ _ h => h) _ (parts.map fun (i, x) => (i, a.eval x)).toList zero cs zv.cells hf (by simp) (by simpa using evals R parts.toList) hzl hzr
      refine sound_val R (v := .agg vs') ?_ (.agg _ _ r2 r3) K
      have := run_build (P := P) w t (parts.map fun (i, x) => (i, a.eval x)) vs' (hb vs' r1)
      simp [execOp, ho, this]
    split at hx
    · rename_i ps hps
      unfold tyPlaces at hps
      split at hps
      · rename_i fs hu
        refine key _ hx fun vs hv => ?_
        simp only [Program.built, hi, hu, hz, hps]
        simpa using hv
      · cases hps
    · split at hx
      · rename_i n e he
        split at hx
        · rename_i z hz'
          obtain ⟨ie, h1, h2⟩ := tySize_info hz'
          refine key _ hx fun vs hv => ?_
          simp only [Program.built, hi, tyArr_run he, hz, h1, h2]
          exact hv
        · cases hx
      · cases hx
  · cases hx

/-! rows laid out of literals, and made -/
theorem chunks_length (z : Nat) : ∀ (n : Nat) (l : List PC), (chunks z n l).length = n
  | 0, l => rfl
  | n + 1, l => by simp [chunks, chunks_length z n]
theorem chunks_get (z : Nat) : ∀ (n : Nat) (l : List PC) (j : Nat) (r : List PC), (chunks z n l)[j]? = some r → r = (l.drop (j * z)).take z
  | 0, l, j, r, h => by simp [chunks] at h
  | n + 1, l, 0, r, h => by simp [chunks] at h; simp [h]
  | n + 1, l, j + 1, r, h => by
    simp only [chunks, List.getElem?_cons_succ] at h
    have := chunks_get z n (l.drop z) j r h
    rw [this, List.drop_drop, Nat.add_mul, Nat.one_mul, Nat.add_comm]

theorem flat_rep {α : Type} (l : List α) (h0 : 0 < l.length) : ∀ (n i : Nat), (List.replicate n l).flatten[i]? = if i < n * l.length then l[i % l.length]? else none
  | 0, i => by simp
  | n + 1, i => by
    rw [List.replicate_succ, List.flatten_cons]
    rcases Nat.lt_or_ge i l.length with h | h
    · rw [List.getElem?_append_left h, Nat.mod_eq_of_lt h, if_pos]
      rw [Nat.add_mul]; omega
    · rw [List.getElem?_append_right h, flat_rep l h0 n, Nat.mod_eq_sub_mod h]
      have : (i - l.length < n * l.length) ↔ (i < (n + 1) * l.length) := by rw [Nat.add_mul]; omega
      simp only [this]

theorem newRow_out (R : Rel E G s a w) {n z cap : Nat} {rows : List (List PC)} {vs : Array Value} {ty : TypeId} {e : Eff} {l : List Nat} (h : (newRowE n z rows).run s.mem = some (e, l))
    (hrun : (execOp a.eval o).run P w = .ok (.value (.slice (some ⟨w.heap.size, 0, none⟩) rows.length cap)) (w.alloc (.cells vs ty)))
    (hz : 0 < z) (hr : ∀ r ∈ rows, r.length = z) (hcap : rows.length ≤ cap) (hsize : vs.size = cap * z)
    (hv : ∀ (j : Nat) (r : List PC) (i : Nat) (c : PC), rows[j]? = some r → r[i]? = some c → ∃ v, vs[j * z + i]? = some v ∧ VR G.K c v) (K : Post E G s o e a next) : o.wp P a w next Q := by
  unfold newRowE at h
  obtain ⟨l', h, _⟩ := EP.ask_inv h
  split at h
  · rename_i hm
    obtain ⟨rfl, _⟩ := EP.ret_inv h
    obtain ⟨G', g1, g2, g3⟩ := R.mem.newRow (w' := w.alloc (.cells vs ty)) hm (z := z) (cap := cap) (rows := rows) (vs := vs) (ty := ty) hz hr hcap hsize (by show (w.heap.push _)[w.heap.size]? = _; simp) hv
      (fun b hb => heap_push_old w w.drawn _ b hb) rfl rfl rfl (by show _ ≤ (w.heap.push _).size; simp)
    exact wp_value hrun (K G' _ _ g1 g2 (g3.congr (AS.mem_wr1 s _ _)))
  · exact EP.fail_inv h

theorem sound_buildSlice (R : Rel E G s a w) {t el : TypeId} {n : Nat} {parts : Array (Nat × Operand)} (ho : o.op = .buildSlice t n parts) (hel : tyElem P t = some el) {zero : List AV} {z : Nat} (hzero : tyZero P el = some zero) (hz : tySize P el = some z)
    (hzl : zero.length = z) (h0 : 0 < z) (hn : n * z ≤ 16777216) {out : List AV} (hf : fillE (fun i => some (i * z, z)) (List.replicate n zero).flatten (parts.toList.map fun p => (p.1, s.eval p.2)) = some out) {cs : List PC} (hcs : toPCs out = some cs)
    {nm : Nat} {e : Eff} {l : List Nat} (h : (newRowE nm z (chunks z n cs)).run s.mem = some (e, l)) (K : Post E G s o e a next) : o.wp P a w next Q := by
  obtain ⟨i, zv, hi, hzv, hzl', hzr⟩ := zero_rel G hzero
  have hisz : i.size = z := by obtain ⟨i', h1, h2⟩ := tySize_info hz; rw [hi] at h1; cases h1; exact h2
  have hzs : zv.cells.size = z := by omega
  let base : Array Value := (Array.range (n * z)).map (zv.cells[· % z]!)
  have hbl : base.size = n * z := by simp [base]
  have hfl : (List.replicate n zero).flatten.length = base.size := by rw [hbl]; simp [hzl]
  have hbr : ∀ (i : Nat) (x : AV) (v : Value), (List.replicate n zero).flatten[i]? = some x → base[i]? = some v → AR G x v := by
    intro i x v a1 a2
    rw [flat_rep zero (by omega), hzl] at a1
    split at a1
    · rename_i hlt
      have hm : i % z < z := Nat.mod_lt _ h0
      refine hzr (i % z) x v a1 ?_
      simp [base, hlt] at a2
      rw [← a2]
      simp [hzs, hm]
    · cases a1
  obtain ⟨vs', r1, r2, r3⟩ := fill_run (G := G) (place := fun i => some (i * z, z)) (placeC := fun i => some (i * z, z)) (fun _ _ _ h => h) _ (parts.map fun (i, x) => (i, a.eval x)).toList _ out base hf (by simp) (by simpa using evals R parts.toList) hfl hbr
  have hol : out.length = n * z := by
    have : ∀ (parts : List (Nat × AV)) (cells out : List AV), fillE (fun i => some (i * z, z)) cells parts = some out → out.length = cells.length := by
      intro parts
      induction parts with
      | nil => intro cells out h; simp only [fillE, Option.some.injEq] at h; rw [h]
      | cons p parts ih =>
        intro cells out h
        obtain ⟨i, x⟩ := p
        simp only [fillE] at h
        split at h
        · split at h
          · rename_i hh
            rw [ih _ _ h, putAt_length (by rename_i e1 e2; cases e1; omega)]
          · cases h
        · cases h
    rw [this _ _ _ hf, hfl, hbl]
  have vcs := toPCs_vrs (G := G) (us := vs'.toList) hcs (by simpa using r2) (fun i x u a1 a2 => r3 i x u a1 (by simpa using a2))
  have hcl : cs.length = n * z := by rw [← (toPCs_spec hcs).1, hol]
  have hlen := chunks_length z n cs
  refine newRow_out R (cap := n) (vs := vs') (ty := el) h ?_ h0 ?_ (by omega) (by omega) ?_ K
  · rw [hlen]
    have hge : ¬ (16777216 < n * z) := by omega
    have r1' : Instr.fill (fun i => some (i * z, z)) base (List.map (fun x => (x.1, a.eval x.2)) parts.toList) = some vs' := by simpa using r1
    by_cases e : n * z = 0
    · have hb0 : base = #[] := Array.eq_empty_of_size_eq_zero (by omega)
      rw [hb0] at r1'
      simp [execOp, ho, Instr.buildSlice, run_underlying (tyElem_run hel), tySize_run hz, e, Array.range_zero', r1', newRow]
    · have hb1 : Array.map (fun x => zv.cells[x % z]!) (Array.range (n * z)) = base := rfl
      simp [execOp, ho, Instr.buildSlice, run_underlying (tyElem_run hel), tySize_run hz, e, hge, zero_run hi hzv, hzs, newRow]
      simp [hb1, r1']
  · intro r hr
    obtain ⟨j, hj⟩ := List.mem_iff_getElem?.1 hr
    have := chunks_get z n cs j r hj
    have hjn : j < n := by have := (List.getElem?_eq_some_iff.1 hj).1; omega
    have h3 : j * z + z ≤ n * z := by rw [← Nat.succ_mul]; exact Nat.mul_le_mul_right z hjn
    rw [this]; simp; omega
  · intro j r i c hj hi
    have := chunks_get z n cs j r hj
    subst this
    rw [List.getElem?_take] at hi
    split at hi
    · rw [List.getElem?_drop] at hi
      have hlt : j * z + i < vs'.size := by have := (List.getElem?_eq_some_iff.1 hi).1; omega
      exact ⟨vs'[j * z + i], by simp [hlt], vcs.2 _ _ _ hi (by simp [hlt])⟩
    · cases hi


theorem sound_makeSlice (R : Rel E G s a w) {t el : TypeId} {lo co : Operand} (ho : o.op = .makeSlice t lo co) (hel : tyElem P t = some el) {n m : Int} (e1 : s.eval lo = .c (.int .i64 n)) (e2 : s.eval co = .c (.int .i64 m))
    {zero : List AV} {z by_ : Nat} (hzero : tyZero P el = some zero) (hz : tySize P el = some z) (hby : tyBytes P el = some by_) {zs : List PC} (hzs : toPCs zero = some zs) (hzl : zs.length = z) (h0 : 0 < z) (hnm : n ≤ m) (hn : 0 ≤ n) (hn2 : m ≤ 9223372036854775807)
    (hb : m * by_ ≤ 140737488355328) {nm : Nat} {e : Eff} {l : List Nat} (h : (newRowE nm z (List.replicate n.toNat zs)).run s.mem = some (e, l)) (K : Post E G s o e a next) : o.wp P a w next Q := by
  obtain ⟨i, zv, hi, hzv, hzl', hzr⟩ := zero_rel G hzero
  have hisz : i.size = z := by obtain ⟨i', h1, h2⟩ := tySize_info hz; rw [hi] at h1; cases h1; exact h2
  have hiby : i.bytes = by_ := by obtain ⟨i', h1, h2⟩ := tyBytes_info hby; rw [hi] at h1; cases h1; exact h2
  have hzz : zero.length = zs.length := (toPCs_spec hzs).1
  have hzvs : zv.cells.size = z := by omega
  have h1 := R.eval lo
  have h2 := R.eval co
  rw [e1] at h1; rw [e2] at h2
  have hrun := run_make (P := P) w t el i zv (tyElem_run hel) hi hzv .i64 .i64 n m hn hnm (by rw [hiby, Int.mul_comm]; omega) hn2
  have vz := toPCs_vrs (G := G) (us := zv.cells.toList) hzs (by simpa using hzl') (fun i x u a1 a2 => hzr i x u a1 (by simpa using a2))
  refine newRow_out R (cap := m.toNat) (vs := madeCells zv.cells (m.toNat * i.size)) (ty := el) h ?_ h0 ?_ (by simp; omega) (by rw [size_madeCells, hisz]) ?_ K
  · have hrl : (List.replicate n.toNat zs).length = n.toNat := by simp
    rw [hrl]
    simp [execOp, ho, h1.int_inv, h2.int_inv, hrun]
  · intro r hr
    rw [(List.mem_replicate.1 hr).2]; exact hzl
  · intro j r i' c hj hi'
    have hr : r = zs := (List.mem_replicate.1 (List.mem_of_getElem? hj)).2
    have hjn : j < n.toNat := by have := (List.getElem?_eq_some_iff.1 hj).1; simpa using this
    subst hr
    have hil : i' < z := by have := (List.getElem?_eq_some_iff.1 hi').1; omega
    have h3 : j * z + z ≤ m.toNat * z := by rw [← Nat.succ_mul]; exact Nat.mul_le_mul_right z (by omega)
    have hlt : j * z + i' < m.toNat * z := by omega
    have hmod : (j * z + i') % z = i' := by rw [Nat.mul_comm, Nat.mul_add_mod]; exact Nat.mod_eq_of_lt hil
    refine ⟨zv.cells[i']'(by omega), ?_, vz.2 i' c _ hi' (by simp [hzvs, hil])⟩
    rw [hisz]
    have : (madeCells zv.cells (m.toNat * z))[j * z + i']? = some (zv.cells[(j * z + i') % zv.cells.size]!) := by
      simp [madeCells, hlt]
    rw [this]
    simp [hzvs, hmod, hil]

theorem sound_buildMsl (R : Rel E G s a w) {t el : TypeId} {n : Nat} {parts : Array (Nat × Operand)} (ho : o.op = .buildSlice t n parts) (hel : tyElem P t = some el) {zero : List AV} {z : Nat} (hzero : tyZero P el = some zero) (hz : tySize P el = some z)
    (hzl : zero.length = z) (h0 : 0 < z) (hn : n * z ≤ 16777216) {out : List AV} (hf : fillE (fun i => some (i * z, z)) (List.replicate n zero).flatten (parts.toList.map fun p => (p.1, s.eval p.2)) = some out) {nm : Nat} {e : Eff} {l : List Nat} (h : (newMslE nm n out).run s.mem = some (e, l)) (K : Post E G s o e a next) : o.wp P a w next Q := by
  obtain ⟨i, zv, hi, hzv, hzl', hzr⟩ := zero_rel G hzero
  have hisz : i.size = z := by obtain ⟨i', h1, h2⟩ := tySize_info hz; rw [hi] at h1; cases h1; exact h2
  have hzs : zv.cells.size = z := by omega
  let base : Array Value := (Array.range (n * z)).map (zv.cells[· % z]!)
  have hbl : base.size = n * z := by simp [base]
  have hfl : (List.replicate n zero).flatten.length = base.size := by rw [hbl]; simp [hzl]
  have hbr : ∀ (i : Nat) (x : AV) (v : Value), (List.replicate n zero).flatten[i]? = some x → base[i]? = some v → AR G x v := by
    intro i x v a1 a2
    rw [flat_rep zero (by omega), hzl] at a1
    split at a1
    · rename_i hlt
      have hm : i % z < z := Nat.mod_lt _ h0
      refine hzr (i % z) x v a1 ?_
      simp [base, hlt] at a2
      rw [← a2]
      simp [hzs, hm]
    · cases a1
  obtain ⟨vs', r1, r2, r3⟩ := fill_run (G := G) (place := fun i => some (i * z, z)) (placeC := fun i => some (i * z, z)) (fun _ _ _ h => h) _ (parts.map fun (i, x) => (i, a.eval x)).toList _ out base hf (by simp) (by simpa using evals R parts.toList) hfl hbr
  have hol : out.length = n * z := by
    have : ∀ (parts : List (Nat × AV)) (cells out : List AV), fillE (fun i => some (i * z, z)) cells parts = some out → out.length = cells.length := by
      intro parts
      induction parts with
      | nil => intro cells out h; simp only [fillE, Option.some.injEq] at h; rw [h]
      | cons p parts ih =>
        intro cells out h
        obtain ⟨i, x⟩ := p
        simp only [fillE] at h
        split at h
        · split at h
          · rename_i hh
            rw [ih _ _ h, putAt_length (by rename_i e1 e2; cases e1; omega)]
          · cases h
        · cases h
    rw [this _ _ _ hf, hfl, hbl]
  refine sound_newMsl R (vs := vs') (ty := el) h ?_ (by omega) r3 K
  have hge : ¬ (16777216 < n * z) := by omega
  have r1' : Instr.fill (fun i => some (i * z, z)) base (List.map (fun x => (x.1, a.eval x.2)) parts.toList) = some vs' := by simpa using r1
  by_cases e : n * z = 0
  · have hb0 : base = #[] := Array.eq_empty_of_size_eq_zero (by omega)
    rw [hb0] at r1'
    simp [execOp, ho, Instr.buildSlice, run_underlying (tyElem_run hel), tySize_run hz, e, Array.range_zero', r1', newRow]
  · have hb1 : Array.map (fun x => zv.cells[x % z]!) (Array.range (n * z)) = base := rfl
    simp [execOp, ho, Instr.buildSlice, run_underlying (tyElem_run hel), tySize_run hz, e, hge, zero_run hi hzv, hzs, newRow]
    simp [hb1, r1']

theorem sound_makeMsl (R : Rel E G s a w) {t el : TypeId} {lo co : Operand} (ho : o.op = .makeSlice t lo co) (hel : tyElem P t = some el) {n m : Int} (e1 : s.eval lo = .c (.int .i64 n)) (e2 : s.eval co = .c (.int .i64 m))
    {zero : List AV} {z by_ : Nat} (hzero : tyZero P el = some zero) (hz : tySize P el = some z) (hby : tyBytes P el = some by_) {zs : List PC} (hzs : toPCs zero = some zs) (hzl : zs.length = z) (h0 : 0 < z) (hnm : n = m) (hn : 0 ≤ n) (hn2 : n ≤ 9223372036854775807)
    (hb : n * by_ ≤ 140737488355328) {nm : Nat} {e : Eff} {l : List Nat} (h : (newMslE nm n.toNat (List.replicate n.toNat zero).flatten).run s.mem = some (e, l)) (K : Post E G s o e a next) : o.wp P a w next Q := by
  subst hnm
  obtain ⟨i, zv, hi, hzv, hzl', hzr⟩ := zero_rel G hzero
  have hisz : i.size = z := by obtain ⟨i', h1, h2⟩ := tySize_info hz; rw [hi] at h1; cases h1; exact h2
  have hiby : i.bytes = by_ := by obtain ⟨i', h1, h2⟩ := tyBytes_info hby; rw [hi] at h1; cases h1; exact h2
  have hzz : zero.length = zs.length := (toPCs_spec hzs).1
  have hzvs : zv.cells.size = z := by omega
  have h1 := R.eval lo
  have h2 := R.eval co
  rw [e1] at h1; rw [e2] at h2
  have hrun := run_make (P := P) w t el i zv (tyElem_run hel) hi hzv .i64 .i64 n n hn (Int.le_refl _) (by rw [hiby, Int.mul_comm]; omega) hn2
  refine sound_newMsl R (vs := madeCells zv.cells (n.toNat * i.size)) (ty := el) h ?_ ?_ ?_ K
  · simp [execOp, ho, h1.int_inv, h2.int_inv, hrun]
  · rw [size_madeCells, hisz]; simp; rw [hzz, hzl]
  · intro i' x v a1 a2
    rw [flat_rep zero (by omega), hzz, hzl] at a1
    split at a1
    · rename_i hlt
      have hm : i' % z < z := Nat.mod_lt _ h0
      refine hzr (i' % z) x v a1 ?_
      have : (madeCells zv.cells (n.toNat * i.size))[i']? = some (zv.cells[i' % zv.cells.size]!) := by
        rw [hisz]; simp [madeCells, hlt]
      rw [this] at a2
      cases a2
      simp [hzvs, hm]
    · cases a1

/-! closures -/
def wrs (m : Nat → Option MC) (l : List (Nat × MC)) : Nat → Option MC := fun i => match look l i with | some c => some c | none => m i
theorem look_append {α : Type} : ∀ (l l' : List (Nat × α)) (i : Nat), look (l ++ l') i = match look l i with | some c => some c | none => look l' i
  | [], l', i => rfl
  | (j, x) :: l, l', i => by
    simp only [List.cons_append, look]
    split
    · rfl
    · exact look_append l l' i
theorem AS.mem_wr (s : AS) (l : List (Nat × MC)) : ∀ i, (s.wr l).mem i = wrs s.mem l i := fun i => by
  unfold wrs AS.mem AS.wr
  rw [look_append]
  cases look l i <;> rfl
theorem wrs_nil (m : Nat → Option MC) : wrs m [] = m := rfl
theorem wrs_cons (m : Nat → Option MC) (n : Nat) (c : MC) (l : List (Nat × MC)) : wrs m ((n, c) :: l) = mset (wrs m l) n c := by
  funext i
  simp only [wrs, mset, look]
  by_cases h : n = i
  · rw [if_pos h, if_pos h]
  · rw [if_neg h, if_neg h]

theorem cap_sound {m : Nat → Option MC} (M : MRel E G m w) : ∀ (xs : List AV) (us : List Value) (caps : List (List PC)) (wr : List (Nat × MC)) (l : List Nat), (capE xs).run m = some ((caps, wr), l) →
    xs.length = us.length → (∀ (i : Nat) (x : AV) (u : Value), xs[i]? = some x → us[i]? = some u → AR G x u) →
    (∀ n c, look wr n = some c → ∃ cells fz, m n = some (.obj cells fz) ∧ c = .obj cells true) ∧
    ∃ G', G.le G' ∧ MRel E G' (wrs m wr) w ∧ G'.h = G.h ∧ ∃ bs : List (Nat × Nat), us = bs.map (fun b => Value.pointer (some ⟨b.1, b.2, none⟩)) ∧ caps.length = bs.length ∧ ∀ (i : Nat) (cs : List PC) (b : Nat × Nat), caps[i]? = some cs → bs[i]? = some b → Known G'.K b.1 b.2 cs := by
  intro xs
  induction xs with
  | nil =>
    intro us caps wr l h hl _
    obtain ⟨e, _⟩ := EP.ret_inv h
    cases e
    cases us with
    | cons => simp at hl
    | nil => exact ⟨fun n c h => by simp [look] at h, G, Gh.le_refl G, M, rfl, [], rfl, rfl, fun i cs b h => by simp at h⟩
  | cons x xs ih =>
    intro us caps wr l h hl hr
    cases us with
    | nil => simp at hl
    | cons u us =>
      have hx := hr 0 x u rfl rfl
      have hrest : ∀ (i : Nat) (x : AV) (u : Value), xs[i]? = some x → us[i]? = some u → AR G x u := fun i y v h1 h2 => hr (i + 1) y v (by simpa using h1) (by simpa using h2)
      simp only [capE] at h
      split at h
      · rename_i n
        obtain ⟨l', h, _⟩ := EP.ask_inv h
        split at h
        · rename_i cells fz hm
          split at h
          · rename_i cs hcs
            obtain ⟨r, l1, l2, h1, h2, _⟩ := EP.bind_inv h
            obtain ⟨e, _⟩ := EP.ret_inv h2
            cases e
            obtain ⟨i1, G1, i2, i3, i4, bs, i5, i6, i7⟩ := ih us r.1 r.2 l1 h1 (by simpa using hl) hrest
            cases hx with
            | ptr _ _ b hb =>
            have hb1 : G1.h n = some (.obj b) := by rw [i4]; exact hb
            have hm1 : ∃ fz', wrs m r.2 n = some (.obj cells fz') := by
              unfold wrs
              cases hk : look r.2 n with
              | none => exact ⟨fz, hm⟩
              | some c =>
                obtain ⟨cells', fz', a1, a2⟩ := i1 n c hk
                rw [hm] at a1
                cases a1
                exact ⟨true, by rw [a2]⟩
            obtain ⟨fz', hm1⟩ := hm1
            obtain ⟨G2, f1, f2, f3, f4⟩ := i3.freeze hm1 hb1
            refine ⟨?_, G2, Gh.le_trans i2 f1, by rw [wrs_cons]; exact f4, f2.trans i4, (b, 0) :: bs, by simp [i5], by simp [i6], ?_⟩
            · intro n' c hk
              simp only [look] at hk
              split at hk
              · rename_i e; subst e; cases hk; exact ⟨cells, fz, hm, rfl⟩
              · exact i1 n' c hk
            · intro i cs' b' a1 a2
              cases i with
              | zero =>
                simp at a1 a2
                subst a1; subst a2
                obtain ⟨t1, t2⟩ := toPCs_spec hcs
                intro k c hk
                have hkl : k < cells.length := by have := (List.getElem?_eq_some_iff.1 hk).1; omega
                have hck : cells[k]? = some cells[k] := by simp [hkl]
                obtain ⟨v, g1, g2⟩ := f3 k _ hck
                exact ⟨v, by rw [Nat.zero_add]; exact g1, g2.toPC (t2 k _ c hck hk)⟩
              | succ i => exact (i7 i cs' b' (by simpa using a1) (by simpa using a2)).mono f1.K
          · exact EP.fail_inv h
        · exact EP.fail_inv h
      · rename_i cs
        obtain ⟨r, l1, l2, h1, h2, _⟩ := EP.bind_inv h
        obtain ⟨e, _⟩ := EP.ret_inv h2
        cases e
        obtain ⟨i1, G1, i2, i3, i4, bs, i5, i6, i7⟩ := ih us r.1 r.2 l1 h1 (by simpa using hl) hrest
        cases hx with
        | rptr _ b off hk =>
        refine ⟨i1, G1, i2, i3, i4, (b, off) :: bs, by simp [i5], by simp [i6], ?_⟩
        intro i cs' b' a1 a2
        cases i with
        | zero => simp at a1 a2; subst a1; subst a2; exact hk.mono i2.K
        | succ i => exact i7 i cs' b' (by simpa using a1) (by simpa using a2)
      · exact EP.fail_inv h


theorem sound_makeFunc (R : Rel E G s a w) {f : FuncId} {captured : Array Operand} (ho : o.op = .makeFunc (.func f) #[] captured) {r : List (List PC) × List (Nat × MC)} {l : List Nat} (h : (capE (captured.toList.map s.eval)).run s.mem = some (r, l))
    (K : Post E G s o ⟨.clo f r.1, r.2⟩ a next) : o.wp P a w next Q := by
  obtain ⟨_, G', h1, h2, _, bs, h3, h4, h5⟩ := cap_sound R.mem _ (captured.toList.map a.eval) r.1 r.2 l h (by simp) (fun i x u a1 a2 => by
    simp only [List.getElem?_map, Option.map_eq_some_iff] at a1 a2
    obtain ⟨x', b1, rfl⟩ := a1
    obtain ⟨u', b2, rfl⟩ := a2
    rw [b1] at b2; cases b2
    exact R.eval _)
  have hc : captured.map a.eval = (bs.map fun b => Value.pointer (some ⟨b.1, b.2, none⟩)).toArray := by
    rw [← h3, ← Array.toList_map, Array.toArray_toList]
  refine wp_value (v := .func (.func f) #[] (captured.map a.eval)) (w' := w) (by simp [execOp, ho, Instr.makeFunc]) (K G' _ _ h1 ?_ (h2.congr (AS.mem_wr s r.2)))
  rw [hc]
  exact .clo f r.1 bs h4 h5

/-! len, max, min -/
theorem sound_len (R : Rel E G s a w) {t : TypeId} {x : AV} {u : Value} (hx : AR G x u) {ts : Array TypeId} {ty : TypeId} (hts : ts[0]? = some t)
    (hexec : ∀ {r}, (Builtin.len_ ts ty #[u]).run P w = .ok r w → (execOp a.eval o).run P w = .ok (.value r) w)
    {e : Eff} {l : List Nat} (h : (okM (lenE P t x)).run s.mem = some (e, l)) (K : Post E G s o e a next) : o.wp P a w next Q := by
  obtain ⟨y, l', h1, rfl⟩ := okM_inv h
  unfold lenE at h1
  split at h1
  · rename_i str
    cases hx.str_inv
    split at h1
    · rename_i ht
      obtain ⟨rfl, _⟩ := EP.ret_inv h1
      refine sound_val R (v := .int .i64 str.length) (hexec ?_) (.int _ _) K
      have hsz : (ByteArray.mk str.toArray).size = str.length := rfl
      simp [Builtin.len_, hts, run_underlying (tyStr_run ht), goInt, hsz]
    · exact EP.fail_inv h1
  · rename_i n
    cases hx with
    | mp _ b hb =>
    obtain ⟨l2, h1, _⟩ := EP.ask_inv h1
    split at h1
    · rename_i ag es hm
      split at h1
      · rename_i kt ht
        obtain ⟨rfl, _⟩ := EP.ret_inv h1
        have h0 := R.mem.home n
        rw [hm, hb] at h0
        obtain ⟨ms, cl, a1, a2, _⟩ := h0
        refine sound_val R (v := .int .i64 es.length) (hexec ?_) (.int _ _) K
        have hg : (getObj b).run P w = .ok (.map ms cl) w := by simp [getObj, Sem.run, a1]
        obtain ⟨k1, k2⟩ := kt
        simp [Builtin.len_, hts, run_underlying (tyMap_run ht), goInt, hg, a2]
      · exact EP.fail_inv h1
    · exact EP.fail_inv h1
  · cases hx
    split at h1
    · rename_i kt ht
      obtain ⟨rfl, _⟩ := EP.ret_inv h1
      obtain ⟨k1, k2⟩ := kt
      refine sound_val R (v := .int .i64 0) (hexec ?_) (.int _ _) K
      simp [Builtin.len_, hts, run_underlying (tyMap_run ht), goInt]
    · exact EP.fail_inv h1
  · rename_i n off len ex
    cases hx with
    | msl _ _ _ b cap _ hb hc he =>
    split at h1
    · rename_i e he
      obtain ⟨rfl, _⟩ := EP.ret_inv h1
      refine sound_val R (v := .int .i64 len) (hexec ?_) (.int _ _) K
      simp [Builtin.len_, hts, run_underlying (tyElem_run he), goInt]
    · exact EP.fail_inv h1
  · split at h1
    · rename_i e rows he hr
      obtain ⟨rfl, _⟩ := EP.ret_inv h1
      obtain ⟨A, cap, rfl, _⟩ := (hx.rows hr).slice_form
      refine sound_val R (v := .int .i64 rows.length) (hexec ?_) (.int _ _) K
      simp [Builtin.len_, hts, run_underlying (tyElem_run he), goInt]
    · exact EP.fail_inv h1

theorem sound_mm (R : Rel E G s a w) (mx : Bool) {xs : List AV} {us : Array Value} (hl : xs.length = us.size) (hx : ∀ (i : Nat) (x : AV) (u : Value), xs[i]? = some x → us[i]? = some u → AR G x u) {ts : Array TypeId} {ty : TypeId}
    (hexec : ∀ {r}, (if mx then Builtin.max_ ts ty us else Builtin.min_ ts ty us).run P w = .ok r w → (execOp a.eval o).run P w = .ok (.value r) w)
    {y : AV} (h : mm mx xs = some y) (K : Post E G s o ⟨y, []⟩ a next) : o.wp P a w next Q := by
  unfold mm at h
  split at h
  · rename_i k i k' j
    split at h
    · rename_i hk
      subst hk
      cases h
      have hus : us = #[.int k i, .int k j] := by
        apply Array.ext'
        obtain ⟨l⟩ := us
        match l, hl, hx with
        | [u, v], _, hx =>
          have e1 := (hx 0 _ u rfl rfl).int_inv
          have e2 := (hx 1 _ v rfl rfl).int_inv
          subst e1; subst e2; rfl
        | [], hl, _ => simp at hl
        | [_], hl, _ => simp at hl
        | _ :: _ :: _ :: _, hl, _ => simp at hl
      subst hus
      refine sound_val R (v := .int k (if mx then (if j > i then j else i) else (if j < i then j else i))) (hexec ?_) (.int _ _) K
      cases mx <;> simp [Builtin.max_, Builtin.min_, Builtin.max2, Builtin.min2]
    · cases h
  · cases h

end
end Go.Proofs.Ytjdokoldiemobaa.AM
