/-
  Q3: Am5 Am6 Am7.
-/
import Derived.Test.YtldehcnaepgamaaQ2
import Derived.Laws.AppendOwn
import Derived.Laws.MakeOwn
set_option linter.unusedVariables false
set_option linter.unusedSimpArgs false
namespace Go.Proofs.Ytldehcnaepgamaa.AM
open Go

section
variable {P : Program} {E : Env} {G : Gh} {s : AS} {a : Act} {w : World} {o : Oper} {next : Act → World → Prop} {Q : Exit → Act → World → Prop}

theorem PC.one {K : Know} {c : PC} {v : Value} (h : VR K c v) : v.oneCell' = true := by cases h <;> rfl

/-- A row's cells, one behind the other. -/
theorem flat_rows {K : Know} {z : Nat} : ∀ {rows : List (List PC)} {us : List Value}, (∀ r ∈ rows, r.length = z) → us.length = rows.length * z →
    (∀ (j : Nat) (r : List PC) (i : Nat) (c : PC), rows[j]? = some r → r[i]? = some c → ∃ v, us[j * z + i]? = some v ∧ VR K c v) → 0 < z → ∀ u ∈ us, ∃ c, VR K c u := by
  intro rows us hz hl h h0 u hu
  obtain ⟨k, hk⟩ := List.mem_iff_getElem?.1 hu
  have hkl : k < us.length := (List.getElem?_eq_some_iff.1 hk).1
  have hj : k / z < rows.length := by rw [Nat.div_lt_iff_lt_mul h0]; omega
  have hi : k % z < z := Nat.mod_lt _ h0
  have hrz : rows[k / z].length = z := hz _ (List.getElem_mem hj)
  obtain ⟨v, h1, h2⟩ := h (k / z) rows[k / z] (k % z) (rows[k / z]'hj)[k % z] (by simp [hj]) (by simp)
  have e : k / z * z + k % z = k := by rw [Nat.mul_comm]; exact Nat.div_add_mod k z
  rw [e, hk] at h1
  cases h1
  exact ⟨_, h2⟩

/-- What append adds, read in whatever world holds what is known. -/
theorem added_run {t : TypeId} {x : AV} {v : Value} {ys : List (List PC)} {z : Nat} (hx : AR G x v) (h : addedE P t x = some ys) (hz : rowsOK z ys) (h0 : 0 < z) (hstr : ∀ str, x = .c (.str str) → z = 1) :
    (P.underlying t = some .string ∨ ∃ e, P.underlying t = some (.slice e)) ∧ (∀ w : World, (Builtin.lenOf v).run P w = .ok ys.length w) ∧
    ∃ news : List Value, news.length = ys.length * z ∧ (∀ (j : Nat) (r : List PC) (i : Nat) (c : PC), ys[j]? = some r → r[i]? = some c → ∃ u, news[j * z + i]? = some u ∧ VR G.K c u) ∧
      ∀ w : World, (∀ b o v, G.K b o = some v → w.cell? ⟨b, o, none⟩ = some v) → (Builtin.firstCells z ys.length v).run P w = .ok news.toArray w := by
  unfold addedE at h
  split at h
  · rename_i str
    have hz1 : z = 1 := hstr str rfl
    subst hz1
    cases hx.str_inv
    split at h
    · rename_i ht
      cases h
      refine ⟨.inl (tyStr_run ht), fun w => by simp [Builtin.lenOf, bytes, ByteArray.size], str.map (fun b => Value.int .u8 b.toNat), by simp [bytes], ?_, ?_⟩
      · intro j r i c hj hi
        obtain ⟨rfl, b, hb, rfl⟩ := bytes_of_string G str j r i c hj hi
        exact ⟨.int .u8 b.toNat, by simp [hb], .int _ _⟩
      · intro w _
        have e : (ByteArray.mk str.toArray).extract 0 (bytes str).length = ByteArray.mk str.toArray := by
          have := str_extract str 0 (bytes str).length (Nat.zero_le _) (by simp [bytes])
          rw [this]; simp [bytes]
        simp [Builtin.firstCells, e]
    · cases h
  · split at h
    · rename_i e he
      have hv := hx.rows h
      refine ⟨.inr ⟨e, tyElem_run he⟩, ?_, ?_⟩
      · intro w
        rcases hv.slice_inv with ⟨rfl, _, _, rfl, _⟩ | ⟨_, _, _, _, rfl, _⟩ <;> simp [Builtin.lenOf]
      · rcases hv.slice_inv with ⟨rfl, A, cap, rfl, hA⟩ | ⟨z', b, off, cap, rfl, hc, hs⟩
        · cases A with
          | none => exact ⟨[], by simp, by simp, fun w _ => by simp [Builtin.firstCells, hA rfl]⟩
          | some a0 =>
            refine ⟨[], by simp, by simp, fun w _ => ?_⟩
            exact run_firstCells_some (P := P) w z 0 _ _ _ [] (by simp) (by simp)
        · cases hys : ys with
          | nil =>
            refine ⟨[], by simp, by simp, fun w _ => ?_⟩
            exact run_firstCells_some (P := P) w z 0 _ _ _ [] (by simp) (by simp)
          | cons r0 rs =>
            rw [← hys]
            have hz' : z' = z := by
              rw [← hs.1 r0 (by simp [hys])]; exact hz r0 (by simp [hys])
            subst hz'
            let news : List Value := (List.range (ys.length * z')).map fun k => (G.K b (off + k)).getD (.bool false)
            have hnews : ∀ (j : Nat) (r : List PC) (i : Nat) (c : PC), ys[j]? = some r → r[i]? = some c → ∃ u, news[j * z' + i]? = some u ∧ VR G.K c u ∧ G.K b (off + (j * z' + i)) = some u := by
              intro j r i c hj hi
              obtain ⟨u, h1, h2⟩ := hs.2 j r hj i c hi
              have hjl : j < ys.length := (List.getElem?_eq_some_iff.1 hj).1
              have hil : i < z' := by
                have := (List.getElem?_eq_some_iff.1 hi).1
                rw [hz r (List.mem_of_getElem? hj)] at this; exact this
              have hlt : j * z' + i < ys.length * z' := by
                have h3 : j * z' + z' ≤ ys.length * z' := by rw [← Nat.succ_mul]; exact Nat.mul_le_mul_right z' hjl
                omega
              rw [Nat.add_assoc] at h1
              exact ⟨u, by simp [news, hlt, h1], h2, h1⟩
            refine ⟨news, by simp [news], fun j r i c hj hi => let ⟨u, h1, h2, _⟩ := hnews j r i c hj hi; ⟨u, h1, h2⟩, fun w hw => ?_⟩
            refine run_firstCells_some (P := P) w z' ys.length _ _ _ news (by simp [news]) ?_
            intro k u hk
            have hkl : k < ys.length * z' := by have := (List.getElem?_eq_some_iff.1 hk).1; simpa [news] using this
            have hj : k / z' < ys.length := by rw [Nat.div_lt_iff_lt_mul h0]; omega
            have hi : k % z' < z' := Nat.mod_lt _ h0
            have hrz : ys[k / z'].length = z' := hz _ (List.getElem_mem hj)
            obtain ⟨u', h1, _, h3⟩ := hnews (k / z') ys[k / z'] (k % z') (ys[k / z']'hj)[k % z'] (by simp [hj]) (by simp)
            have e : k / z' * z' + k % z' = k := by rw [Nat.mul_comm]; exact Nat.div_add_mod k z'
            rw [e] at h1 h3
            rw [hk] at h1
            cases h1
            rw [add_at]
            exact hw _ _ _ h3
    · cases h


theorem seg_rows {K : Know} {z : Nat} {rows ys : List (List PC)} {A B C : List Value} (hA : A.length = rows.length * z) (hz : ∀ r ∈ rows, r.length = z) (hzy : ∀ r ∈ ys, r.length = z)
    (h1 : ∀ (j : Nat) (r : List PC) (i : Nat) (c : PC), rows[j]? = some r → r[i]? = some c → ∃ v, A[j * z + i]? = some v ∧ VR K c v)
    (h2 : ∀ (j : Nat) (r : List PC) (i : Nat) (c : PC), ys[j]? = some r → r[i]? = some c → ∃ v, B[j * z + i]? = some v ∧ VR K c v) :
    ∀ (j : Nat) (r : List PC) (i : Nat) (c : PC), (rows ++ ys)[j]? = some r → r[i]? = some c → ∃ v, (A ++ B ++ C)[j * z + i]? = some v ∧ VR K c v := by
  intro j r i c hj hi
  rcases Nat.lt_or_ge j rows.length with h | h
  · rw [List.getElem?_append_left h] at hj
    obtain ⟨v, e, hv⟩ := h1 j r i c hj hi
    have := (List.getElem?_eq_some_iff.1 e).1
    exact ⟨v, by rw [List.append_assoc, List.getElem?_append_left this]; exact e, hv⟩
  · rw [List.getElem?_append_right h] at hj
    obtain ⟨v, e, hv⟩ := h2 _ r i c hj hi
    have hlt := (List.getElem?_eq_some_iff.1 e).1
    have e2 : j * z + i - A.length = (j - rows.length) * z + i := by
      rw [hA, Nat.sub_mul]
      have : rows.length * z ≤ j * z := Nat.mul_le_mul_right z h
      omega
    have hge : A.length ≤ j * z + i := by
      rw [hA]
      have : rows.length * z ≤ j * z := Nat.mul_le_mul_right z h
      omega
    exact ⟨v, by rw [List.append_assoc, List.getElem?_append_right hge, e2, List.getElem?_append_left hlt]; exact e, hv⟩

theorem heap_push_old (w : World) (d : Nat) (c : Obj) (b : Nat) (hb : b < w.heap.size) : ({ w with heap := w.heap.push c, drawn := d } : World).heap[b]? = w.heap[b]? := by
  show (w.heap.push _)[b]? = _
  rw [Array.getElem?_push, if_neg (by omega)]

/-- Growing: the run. -/
theorem grow_run {st xt ty e : TypeId} {i : TypeInfo} {zv : Value} {z by_ n m cap : Nat} {A : Option Addr} {x : Value} {olds news : List Value}
    (ht : P.underlying st = some (.slice e)) (hx : P.underlying xt = some .string ∨ ∃ e, P.underlying xt = some (.slice e)) (hi : P.info? e = some i) (hz : i.size = z) (hb : i.bytes = by_) (hzero : i.zero = some zv)
    (hb0 : 0 < by_) (hlen : ∀ w : World, (Builtin.lenOf x).run P w = .ok m w) (hgrow : cap < n + m) (hfit : (n + m) * by_ ≤ 140737488355328)
    (hold : (Builtin.firstCells z n (.slice A n cap)).run P w.drew = .ok olds.toArray w.drew) (hnew : (Builtin.firstCells z m x).run P w.drew = .ok news.toArray w.drew) :
    (Builtin.append_ #[st, xt] ty #[.slice A n cap, x]).run P w =
      .ok (.slice (some ⟨w.heap.size, 0, none⟩) (n + m) (grownCap w (n + m) cap e)) (w.drew.alloc (.cells (olds.toArray ++ news.toArray ++ Builtin.zeroCells zv.cells (grownCap w (n + m) cap e - (n + m))) e)) := by
  have h1 : ¬ (n + m ≤ cap) := by omega
  have h2 : ¬ (Builtin.nextslicecap (n + m) cap * by_ > 281474976710656) := by have := growslice_fits hgrow hfit; omega
  have h3 : by_ ≠ 0 := by omega
  rcases hx with hx | ⟨e', hx⟩
  all_goals
    simp [Builtin.append_, run_underlying ht, run_underlying hx, sizeOf, typeInfo, hi, hz, hb, hlen, h1, h2, h3, Question.forced, newRow, zeroValue, hzero]
    have hc : (Question.appendCap (n + m) cap e).cut (w.tape w.drawn (.appendCap (n + m) cap e)) = grownCap w (n + m) cap e := rfl
    simp [hold, hnew, hc]
    congr 2
    rw [← Array.append_assoc]
    simp


theorem storeCells_fr (P : Program) (g o : Nat) (t : TypeId) (p : Nat × Nat) (n : Nat) (hp : FrOK n p) : ∀ (vs : List Value) (i : Nat) (cur : Array Value) (w : World), cur.size = n → w.heap[g]? = some (.cells cur t p) → o + i + vs.length ≤ cur.size → (∀ v ∈ vs, v.oneCell' = true) →
    (storeCells ⟨g, o, none⟩ vs i).run P w = .ok () (w.setRow g (cur.toList.take (o + i) ++ vs ++ cur.toList.drop (o + i + vs.length)).toArray)
  | [], i, cur, w, hn, hg, _, _ => by
    simp only [storeCells, List.append_nil, List.length_nil, Nat.add_zero, List.take_append_drop, Array.toArray_toList]
    rw [setRow_self w g cur t p hg]
    rfl
  | v :: rest, i, cur, w, hn, hg, hl, h1 => by
    have hi : o + i < cur.size := by simp at hl; omega
    have hadd : (⟨g, o, none⟩ : Addr).add i = ⟨g, o + i, none⟩ := by unfold Addr.add; split <;> simp_all
    have hcell : w.cell? ⟨g, o + i, none⟩ = some cur[o + i] := by simp [World.cell?, hg, hi]
    have hfro : w.frozen? ⟨g, o + i, none⟩ = false := by
      rcases hp with rfl | rfl
      · simp [World.frozen?, hg]
      · simp only [World.frozen?, hg, Bool.and_eq_false_iff, decide_eq_false_iff_not]
        left; omega
    have hst : (store ((⟨g, o, none⟩ : Addr).add i) v).run P w = .ok () (w.setRow g (cur.setIfInBounds (o + i) v)) := by
      rw [hadd, run_store P w _ v _ (h1 v (by simp)), hcell]
      simp [hfro, setCell_eq_setRow w g (o + i) cur t p v hg]
    have ih := storeCells_fr P g o t p n hp rest (i + 1) (cur.setIfInBounds (o + i) v) (w.setRow g (cur.setIfInBounds (o + i) v)) (by simpa using hn) (setRow_heap w g cur _ t _ hg) (by simp at hl ⊢; omega) (fun x hx => h1 x (by simp [hx]))
    simp only [storeCells, Sem.run_bind, hst, Result.andThen_ok, ih, setRow_setRow]
    congr 3
    have e := list_seg_step cur.toList (o + i) v rest (by simp at hl ⊢; omega)
    simpa [Array.toList_setIfInBounds, Nat.add_assoc] using e

theorem room_run {pq : Nat × Nat} {st xt ty e et : TypeId} {i : TypeInfo} {z n m cap b : Nat} {x : Value} {news : List Value} {cur : Array Value}
    (ht : P.underlying st = some (.slice e)) (hx : P.underlying xt = some .string ∨ ∃ e, P.underlying xt = some (.slice e)) (hi : P.info? e = some i) (hz : i.size = z)
    (hlen : ∀ w : World, (Builtin.lenOf x).run P w = .ok m w) (hroom : n + m ≤ cap) (hsz : cap * z ≤ cur.size) (hnl : news.length = m * z)
    (hcur : w.heap[b]? = some (.cells cur et pq)) (hfz : FrOK cur.size pq) (hone : ∀ u ∈ news, u.oneCell' = true)
    (hnew : (Builtin.firstCells z m x).run P w = .ok news.toArray w) :
    (Builtin.append_ #[st, xt] ty #[.slice (some ⟨b, 0, none⟩) n cap, x]).run P w =
      .ok (.slice (some ⟨b, 0, none⟩) (n + m) cap) (w.setRow b (cur.toList.take (n * z) ++ news ++ cur.toList.drop (n * z + news.length)).toArray) := by
  have hfit : n * z + news.length ≤ cur.size := by rw [hnl, ← Nat.add_mul]; exact Nat.le_trans (Nat.mul_le_mul_right z hroom) hsz
  have hst := storeCells_fr P b (n * z) et pq cur.size hfz news 0 cur w rfl hcur (by simpa using hfit) hone
  simp only [Nat.add_zero] at hst
  rcases hx with hx | ⟨e', hx⟩
  all_goals
    simp [Builtin.append_, run_underlying ht, run_underlying hx, sizeOf, typeInfo, hi, hz, hlen, hroom, hnew, add_at, hst]

theorem chunks_length (z : Nat) : ∀ (n : Nat) (l : List PC), (chunks z n l).length = n
  | 0, l => rfl
  | n + 1, l => by simp [chunks, chunks_length z n]
theorem chunks_get (z : Nat) : ∀ (n : Nat) (l : List PC) (j : Nat) (r : List PC), (chunks z n l)[j]? = some r → r = (l.drop (j * z)).take z
  | 0, l, j, r, h => by simp [chunks] at h
  | n + 1, l, 0, r, h => by simp [chunks] at h; simp [h]
  | n + 1, l, j + 1, r, h => by
    simp only [chunks, List.getElem?_cons_succ] at h
    have := chunks_get z n (l.drop z) j r h
    rw [this, List.drop_drop, Nat.add_mul, Nat.one_mul, Nat.add_comm]

theorem flatten_len {z : Nat} : ∀ {ys : List (List PC)}, (∀ r ∈ ys, r.length = z) → ys.flatten.length = ys.length * z
  | [], _ => by simp
  | r :: ys, h => by
    rw [List.flatten_cons, List.length_append, h r (by simp), flatten_len (fun x hx => h x (by simp [hx])), List.length_cons, Nat.succ_mul]
    omega
theorem flatten_at {z : Nat} (h0 : 0 < z) : ∀ {ys : List (List PC)}, (∀ r ∈ ys, r.length = z) → ∀ (i : Nat) (c : PC), ys.flatten[i]? = some c → ∃ r, ys[i / z]? = some r ∧ r[i % z]? = some c
  | [], _, i, c, h => by simp at h
  | r :: ys, hz, i, c, h => by
    have hr : r.length = z := hz r (by simp)
    rw [List.flatten_cons] at h
    rcases Nat.lt_or_ge i z with hi | hi
    · rw [List.getElem?_append_left (by omega)] at h
      exact ⟨r, by rw [Nat.div_eq_of_lt hi]; rfl, by rw [Nat.mod_eq_of_lt hi]; exact h⟩
    · rw [List.getElem?_append_right (by omega), hr] at h
      obtain ⟨q, h1, h2⟩ := flatten_at h0 (fun x hx => hz x (by simp [hx])) (i - z) c h
      refine ⟨q, ?_, by rw [Nat.mod_eq_sub_mod hi]; exact h2⟩
      have : i / z = (i - z) / z + 1 := by rw [Nat.div_eq_sub_div h0 hi]
      rw [this]
      exact h1

/-- Append to nothing that has no room. -/
theorem sound_appendM (R : Rel E G s a w) {st xt el : TypeId} {i : TypeInfo} {zv : Value} {z by_ len b off cap : Nat} {ex : Bool} {v : Value} {d : Nat} {ty : TypeId} {ys : List (List PC)} {news : List Value}
    (hex0 : ex = true → cap = len)
    (hexec : ∀ {r w'}, (Builtin.append_ #[st, xt] ty #[.slice (some ⟨b, off, none⟩) len cap, v]).run P w = .ok r w' → (execOp a.eval o).run P w = .ok (.value r) w')
    (hst : P.underlying st = some (.slice el)) (hxt : P.underlying xt = some .string ∨ ∃ e, P.underlying xt = some (.slice e)) (hi : P.info? el = some i) (hisz : i.size = z) (hiby : i.bytes = by_) (hzv : i.zero = some zv) (hzcs : zv.cells.size = z)
    (c0 : 0 < z) (cb0 : 0 < by_) (crows : ∀ r ∈ ys, r.length = z) (hlen : ∀ w : World, (Builtin.lenOf v).run P w = .ok ys.length w) (hnl : news.length = ys.length * z)
    (hnv : ∀ (j : Nat) (r : List PC) (i : Nat) (c : PC), ys[j]? = some r → r[i]? = some c → ∃ u, news[j * z + i]? = some u ∧ VR G.K c u)
    (hnw : (Builtin.firstCells z ys.length v).run P w = .ok news.toArray w) (hnd : (Builtin.firstCells z ys.length v).run P w.drew = .ok news.toArray w.drew)
    {e : Eff} {l : List Nat} (h : (appendM d z by_ ys len ex).run s.mem = some (e, l)) (K : Post E G s o e a next) : o.wp P a w next Q := by
  unfold appendM at h
  split at h
  · rename_i hc
    obtain ⟨rfl, rfl, hfit⟩ := hc
    have hcap := hex0 rfl
    subst hcap
    rcases Nat.eq_zero_or_pos ys.length with h0 | hp
    · have hys : ys = [] := List.length_eq_zero_iff.1 h0
      subst hys
      rw [show decide (0 < ([] : List (List PC)).length) = false from rfl] at h
      obtain ⟨rfl, _⟩ := EP.ret_inv h
      have h1 := hlen w
      have hn0 : news = [] := List.length_eq_zero_iff.1 (by simpa using hnl)
      subst hn0
      refine sound_val R (v := .slice (some ⟨b, off, none⟩) 0 0) (hexec ?_) (.c _ _ (.at0 _ _)) K
      rcases hxt with hx | ⟨e', hx⟩ <;> simp [Builtin.append_, run_underlying hst, run_underlying hx, sizeOf, typeInfo, hi, h1, hnw, storeCells]
      all_goals (simp [hisz] at hnw ⊢; simp [hnw, storeCells])
    · rw [decide_eq_true hp] at h
      have hold : (Builtin.firstCells z 0 (.slice (some ⟨b, off, none⟩) 0 0)).run P w.drew = .ok ([] : List Value).toArray w.drew := run_firstCells_some (P := P) w.drew z 0 _ _ _ [] (by simp) (by simp)
      have hrun := hexec (grow_run (P := P) (w := w) (ty := ty) (A := some ⟨b, off, none⟩) (n := 0) (m := ys.length) (cap := 0) (olds := []) (news := news) (x := v) hst hxt hi hisz hiby hzv cb0 hlen (by omega) (by simpa using hfit) hold hnd)
      have hge := grownCap_ge w ys.length 0 el
      simp only [Nat.zero_add] at hrun
      refine sound_newLoose R (h : (newLooseE (objName d) ys.length (ys.flatten.map .c)).run s.mem = some (e, l)) hrun hge ?_ ?_ K
      · rw [List.length_map, flatten_len crows]
        simp only [Array.size_append, List.size_toArray, List.length_nil, Nat.zero_add, hnl]
        omega
      · intro i x u e1 e2
        rw [List.getElem?_map] at e1
        obtain ⟨c, hc, rfl⟩ := Option.map_eq_some_iff.1 e1
        obtain ⟨r, r1, r2⟩ := flatten_at c0 crows i c hc
        obtain ⟨q, q1, q2⟩ := hnv _ r _ c r1 r2
        have e3 : i / z * z + i % z = i := by rw [Nat.mul_comm]; exact Nat.div_add_mod i z
        rw [e3] at q1
        have hlt := (List.getElem?_eq_some_iff.1 q1).1
        rw [Array.getElem?_append_left (by simpa using hlt)] at e2
        have : news[i]? = some u := by simpa using e2
        rw [q1] at this
        cases this
        exact .c _ _ q2
  · exact EP.fail_inv h

theorem sound_appendX (R : Rel E G s a w) {st xt el : TypeId} {x y : AV} {u v : Value} {d : Nat} {ty : TypeId} (hst : P.underlying st = some (.slice el)) (hux : AR G x u) (hvy : AR G y v)
    (hexec : ∀ {r w'}, (Builtin.append_ #[st, xt] ty #[u, v]).run P w = .ok r w' → (execOp a.eval o).run P w = .ok (.value r) w')
    {e : Eff} {l : List Nat} (h : (appendX P d el xt x y).run s.mem = some (e, l)) (K : Post E G s o e a next) : o.wp P a w next Q := by
  unfold appendX at h
  split at h
  · rename_i n0 off0 len ex n off len' ex'
    split at h
    · rename_i e' z by_ zero he' hz hby hzero
      split at h
      · rename_i hc
        obtain ⟨c0, cb0, czl⟩ := hc
        obtain ⟨l', h, _⟩ := EP.ask_inv h
        split at h
        · rename_i cells fz hm
          split at h
          · rename_i hle
            split at h
            · rename_i cs hcs
              obtain ⟨i, zv, hi, hzv, hzl, _⟩ := zero_rel G hzero
              have hisz : i.size = z := by obtain ⟨i', h1, h2⟩ := tySize_info hz; rw [hi] at h1; cases h1; exact h2
              have hiby : i.bytes = by_ := by obtain ⟨i', h1, h2⟩ := tyBytes_info hby; rw [hi] at h1; cases h1; exact h2
              cases hux with
              | msl _ _ _ b0 cap0 _ hb0 hcap0 he0 =>
              cases hvy with
              | msl _ _ _ b cap _ hb hcap he =>
              have h0 := R.mem.home n
              rw [hm, hb] at h0
              obtain ⟨vs, ty', a1, a2, a3, _⟩ := h0
              obtain ⟨t1, t2⟩ := toPCs_spec hcs
              have hcl : cs.length = len' * z := by rw [← t1]; simp; omega
              have hcz : ∀ r ∈ chunks z len' cs, r.length = z := fun r hr => by
                obtain ⟨j, hj⟩ := List.mem_iff_getElem?.1 hr
                have hjl : j < len' := by have := (List.getElem?_eq_some_iff.1 hj).1; rwa [chunks_length] at this
                have := chunks_get _ _ _ _ _ hj
                have h3 : j * z + z ≤ len' * z := by rw [← Nat.succ_mul]; exact Nat.mul_le_mul_right z hjl
                rw [this]; simp; omega
              have hnews : ((vs.toList.drop off).take (len' * z)).length = len' * z := by simp; omega
              have hfc : ∀ w1 : World, w1.heap = w.heap → (Builtin.firstCells z len' (.slice (some ⟨b, off, none⟩) len' cap)).run P w1 = .ok ((vs.toList.drop off).take (len' * z)).toArray w1 := fun w1 hw1 =>
                run_firstCells_some (P := P) w1 z len' _ _ _ _ hnews (fun j u hj => by
                  rw [add_at]
                  simp only [World.cell?, hw1, a1]
                  rw [List.getElem?_take] at hj
                  split at hj
                  · rw [List.getElem?_drop] at hj
                    simpa using hj
                  · cases hj)
              refine sound_appendM (ys := chunks z len' cs) (news := (vs.toList.drop off).take (len' * z)) R he0 hexec hst (.inr ⟨e', tyElem_run he'⟩) hi hisz hiby hzv (by omega) c0 cb0 hcz ?_ ?_ ?_ ?_ ?_ h K
              · intro w1; simp [Builtin.lenOf, chunks_length]
              · rw [hnews, chunks_length]
              · intro j r i c hj hi
                have hjl : j < len' := by have := (List.getElem?_eq_some_iff.1 hj).1; rwa [chunks_length] at this
                have hr := chunks_get _ _ _ _ _ hj
                have h3 : j * z + z ≤ len' * z := by rw [← Nat.succ_mul]; exact Nat.mul_le_mul_right z hjl
                rw [hr, List.getElem?_take] at hi
                split at hi
                · rename_i hiz
                  rw [List.getElem?_drop] at hi
                  have hk : j * z + i < len' * z := by omega
                  have hvl : off + (j * z + i) < vs.size := by omega
                  have hcl2 : off + (j * z + i) < cells.length := by omega
                  have hx : ((cells.drop off).take (len' * z))[j * z + i]? = some cells[off + (j * z + i)] := by
                    rw [List.getElem?_take, if_pos hk, List.getElem?_drop]; simp [hcl2]
                  refine ⟨vs[off + (j * z + i)], by rw [List.getElem?_take, if_pos hk, List.getElem?_drop]; simp [hvl], ?_⟩
                  exact (a3 (off + (j * z + i)) _ _ (by simp [hcl2]) (by simp [hvl])).toPC (t2 _ _ c hx hi)
                · cases hi
              · rw [chunks_length]; exact hfc w rfl
              · rw [chunks_length]; exact hfc w.drew rfl
            · exact EP.fail_inv h
          · exact EP.fail_inv h
        · exact EP.fail_inv h
      · exact EP.fail_inv h
    · exact EP.fail_inv h
  · exact EP.fail_inv h

theorem sound_append (R : Rel E G s a w) {st xt : TypeId} {x y : AV} {u v : Value} {d : Nat} {ty : TypeId} (hux : AR G x u) (hvy : AR G y v)
    (hexec : ∀ {r w'}, (Builtin.append_ #[st, xt] ty #[u, v]).run P w = .ok r w' → (execOp a.eval o).run P w = .ok (.value r) w')
    {e : Eff} {l : List Nat} (h : (appendE P d st xt x y).run s.mem = some (e, l)) (K : Post E G s o e a next) : o.wp P a w next Q := by
  unfold appendE at h
  split at h
  · rename_i el ys hel hys
    split at h
    · rename_i z by_ zero hz hby hzero
      split at h
      · rename_i hc
        obtain ⟨c0, cb0, czl, crows, cstr⟩ := hc
        obtain ⟨i, zv, hi, hzv, hzl, _⟩ := zero_rel G hzero
        have hisz : i.size = z := by obtain ⟨i', h1, h2⟩ := tySize_info hz; rw [hi] at h1; cases h1; exact h2
        have hiby : i.bytes = by_ := by obtain ⟨i', h1, h2⟩ := tyBytes_info hby; rw [hi] at h1; cases h1; exact h2
        have hzcs : zv.cells.size = z := by omega
        obtain ⟨hxt, hlen, news, hnl, hnv, hnrun⟩ := added_run (P := P) hvy hys crows c0 (fun str e => by subst e; simpa [strz] using cstr)
        have hnewsone : ∀ u ∈ news, u.oneCell' = true := fun u hu => by
          obtain ⟨c, hc⟩ := flat_rows (K := G.K) crows hnl hnv c0 u hu
          exact PC.one hc
        have hst := tyElem_run hel
        have agd : ∀ b o v, G.K b o = some v → w.drew.cell? ⟨b, o, none⟩ = some v := R.mem.agree
        -- growing out of nothing
        have fromNil : ∀ (nm : Nat), u = .slice none 0 0 → (0 < ys.length → ys.length * by_ ≤ 140737488355328) →
            (0 < ys.length → (execOp a.eval o).run P w = .ok (.value (.slice (some ⟨w.heap.size, 0, none⟩) ys.length (grownCap w ys.length 0 el))) (w.drew.alloc (.cells (news.toArray ++ Builtin.zeroCells zv.cells (grownCap w ys.length 0 el - ys.length)) el))) ∧
            (ys = [] → (execOp a.eval o).run P w = .ok (.value (.slice none 0 0)) w) := by
          intro nm hu hfit
          subst hu
          refine ⟨fun hp => hexec ?_, fun h0 => hexec ?_⟩
          · have := grow_run (P := P) (w := w) (ty := ty) (A := none) (n := 0) (m := ys.length) (cap := 0) (olds := []) (news := news) (x := v) hst hxt hi hisz hiby hzv cb0 hlen (by omega) (by simpa using hfit hp) (by simp [Builtin.firstCells]) (hnrun _ agd)
            simpa using this
          · subst h0
            have h1 := hlen w
            rcases hxt with hx | ⟨e', hx⟩ <;> simp [Builtin.append_, run_underlying hst, run_underlying hx, sizeOf, typeInfo, hi, h1, hnrun w R.mem.agree]
            all_goals (have := hnrun w R.mem.agree; simp [hisz] at this ⊢; simp [this])
        have hnilcap : ys.length ≤ grownCap w ys.length 0 el := grownCap_ge w _ _ _
        split at h
        · -- nil
          cases hux
          split at h
          · rename_i hfit
            unfold newRowE at h
            obtain ⟨l', h, _⟩ := EP.ask_inv h
            split at h
            · rename_i hm
              obtain ⟨rfl, _⟩ := EP.ret_inv h
              obtain ⟨f1, f2⟩ := fromNil 0 rfl (fun _ => hfit)
              rcases Nat.eq_zero_or_pos ys.length with h0 | hp
              · have h0' : ys = [] := List.length_eq_zero_iff.1 h0
                subst h0'
                obtain ⟨G', g1, g2, g3⟩ := R.mem.nilRow hm z
                exact wp_value (f2 rfl) (K G' _ _ g1 g2 (g3.congr (AS.mem_wr1 s _ _)))
              · obtain ⟨G', g1, g2, g3⟩ := R.mem.newRow (w' := w.drew.alloc (.cells (news.toArray ++ Builtin.zeroCells zv.cells (grownCap w ys.length 0 el - ys.length)) el)) hm (z := z) (cap := grownCap w ys.length 0 el) (rows := ys)
                  (vs := news.toArray ++ Builtin.zeroCells zv.cells (grownCap w ys.length 0 el - ys.length)) (ty := el) c0 crows hnilcap
                  (by refine Nat.le_of_eq (Eq.symm ?_); simp only [Array.size_append, List.size_toArray, size_zeroCells, hzcs, hnl, ← Nat.add_mul]; congr 1; omega)
                  (by show (w.heap.push _)[w.heap.size]? = _; simp)
                  (fun j r i c hj hi => by
                    obtain ⟨q, q1, q2⟩ := hnv j r i c hj hi
                    have hlt := (List.getElem?_eq_some_iff.1 q1).1
                    exact ⟨q, by rw [Array.getElem?_append_left (by simpa using hlt)]; simpa using q1, q2⟩)
                  (fun b hb => heap_push_old w _ _ b hb) rfl rfl rfl (by show _ ≤ (w.heap.push _).size; simp)
                exact wp_value (f1 hp) (K G' _ _ g1 g2 (g3.congr (AS.mem_wr1 s _ _)))
            · exact EP.fail_inv h
          · exact EP.fail_inv h
        · rename_i r z' rows
          split at h
          · rename_i hc2
            obtain ⟨rfl, hfit⟩ := hc2
            obtain ⟨l', h, _⟩ := EP.ask_inv h
            split at h
            · rename_i z2 fr hm
              split at h
              · rename_i hfr
                subst hfr
                obtain ⟨rfl, _⟩ := EP.ret_inv h
                cases hux with
                | own _ _ _ _ bk fr hh hl hr hv ha =>
                have h0 := R.mem.home r
                rw [hm, hh] at h0
                obtain ⟨hz2, hfr, h0⟩ := h0
                subst hz2
                subst hfr
                have hu := ha rfl
                have hrows : ∀ x ∈ rows ++ ys, x.length = z2 := fun x hx => by
                  rcases List.mem_append.1 hx with h | h
                  · exact hr x h
                  · exact crows x h
                have hm' : s.mem r = some (.row z2 rows.length) := hm
                cases bk with
                | none =>
                  have hr0 : rows = [] := List.length_eq_zero_iff.1 h0
                  subst hr0
                  obtain ⟨f1, f2⟩ := fromNil 0 hu (fun _ => by simpa using hfit)
                  rcases Nat.eq_zero_or_pos ys.length with hy0 | hp
                  · have h0' : ys = [] := List.length_eq_zero_iff.1 hy0
                    subst h0'
                    refine wp_value (f2 rfl) (K G _ _ (Gh.le_refl G) ?_ (R.mem.congr fun i => ?_))
                    · rw [hu] at *
                      exact .own r z2 [] _ none 0 hh (Nat.le_refl _) (by simp) .nil (fun _ => rfl)
                    · rw [AS.mem_wr1]
                      unfold mset
                      split
                      · rename_i e; subst e; rw [hm']; rfl
                      · rfl
                  · obtain ⟨G', g1, g2, g3⟩ := R.mem.turnRow (w' := w.drew.alloc (.cells (news.toArray ++ Builtin.zeroCells zv.cells (grownCap w ys.length 0 el - ys.length)) el)) (rows := []) (ys := ys) (b' := w.heap.size) (cap' := grownCap w ys.length 0 el)
                      (vs' := news.toArray ++ Builtin.zeroCells zv.cells (grownCap w ys.length 0 el - ys.length)) (ty := el) hm' hh (.inr ⟨rfl, hp⟩) c0 hrows (by simpa using hnilcap)
                      (by refine Nat.le_of_eq (Eq.symm ?_); simp only [Array.size_append, List.size_toArray, size_zeroCells, hzcs, hnl, ← Nat.add_mul]; congr 1; omega)
                      ⟨(0, 0), by show (w.heap.push _)[w.heap.size]? = _; simp, .inl rfl⟩
                      (fun j r i c hj hi => by
                        obtain ⟨q, q1, q2⟩ := hnv j r i c (by simpa using hj) hi
                        have hlt := (List.getElem?_eq_some_iff.1 q1).1
                        exact ⟨q, by rw [Array.getElem?_append_left (by simpa using hlt)]; simpa using q1, q2⟩)
                      (fun o v hv => by rw [R.mem.k_new (Nat.le_refl _)] at hv; cases hv)
                      (fun b _ hb => heap_push_old w _ _ b hb) rfl rfl rfl (by show _ ≤ (w.heap.push _).size; simp)
                    refine wp_value (f1 hp) (K G' _ _ g1 (by simpa using g2) (g3.congr fun i => ?_))
                    rw [AS.mem_wr1]; simp
                | some p =>
                  obtain ⟨b, cap⟩ := p
                  obtain ⟨cur, et, ⟨pq, q1, qf⟩, q2, q3, q4, q5, q6⟩ := h0
                  have hu' : u = .slice (some ⟨b, 0, none⟩) rows.length cap := hu
                  subst hu'
                  have holdcells : ∀ (j : Nat) (r : List PC) (i : Nat) (c : PC), rows[j]? = some r → r[i]? = some c → ∃ v, cur[j * z2 + i]? = some v ∧ VR G.K c v ∧ j * z2 + i < rows.length * z2 := by
                    intro j r i c hj hi
                    rcases hv.slice_inv with ⟨h, _⟩ | ⟨z3, b3, off3, cap3, he3, _, hs3⟩
                    · subst h; simp at hj
                    · cases he3
                      have hz3 : z3 = z2 := by rw [← hs3.1 r (List.mem_of_getElem? hj)]; exact hr r (List.mem_of_getElem? hj)
                      subst hz3
                      obtain ⟨v, h1, h2⟩ := hs3.2 j r hj i c hi
                      have := R.mem.agree _ _ _ h1
                      simp only [World.cell?, q1, Nat.zero_add] at this
                      have hjl : j < rows.length := (List.getElem?_eq_some_iff.1 hj).1
                      have hil : i < z3 := by
                        have := (List.getElem?_eq_some_iff.1 hi).1
                        rw [hr r (List.mem_of_getElem? hj)] at this; exact this
                      have h3 : j * z3 + z3 ≤ rows.length * z3 := by rw [← Nat.succ_mul]; exact Nat.mul_le_mul_right z3 hjl
                      exact ⟨v, by simpa using this, h2, by omega⟩
                  have hkeepK : ∀ o v, G.K b o = some v → o < rows.length * z2 ∧ cur[o]? = some v := by
                    intro o v hk
                    have h1 := R.mem.agree _ _ _ hk
                    simp only [World.cell?, q1] at h1
                    refine ⟨?_, by simpa using h1⟩
                    rcases Nat.lt_or_ge o (rows.length * z2) with h | h
                    · exact h
                    · rw [q6 o h] at hk; cases hk
                  have hcurl : rows.length * z2 ≤ cur.size := Nat.le_trans (Nat.mul_le_mul_right z2 q3) q2
                  by_cases hroom : rows.length + ys.length ≤ cap
                  · have hrun := hexec (room_run (P := P) (w := w) (ty := ty) hst hxt hi hisz hlen hroom q2 hnl q1 qf hnewsone (hnrun w R.mem.agree))
                    have hcl : (cur.toList.take (rows.length * z2)).length = rows.length * z2 := by simp; omega
                    obtain ⟨G', g1, g2, g3⟩ := R.mem.turnRow (w' := w.setRow b (cur.toList.take (rows.length * z2) ++ news ++ cur.toList.drop (rows.length * z2 + news.length)).toArray) (rows := rows) (ys := ys) (b' := b) (cap' := cap)
                      (vs' := (cur.toList.take (rows.length * z2) ++ news ++ cur.toList.drop (rows.length * z2 + news.length)).toArray) (ty := et) hm' hh (.inl rfl) c0 hrows (by simpa using hroom)
                      (by
                        have h4 : rows.length * z2 + ys.length * z2 ≤ cur.size := Nat.le_trans (by rw [← Nat.add_mul]; exact Nat.mul_le_mul_right z2 hroom) q2
                        refine Nat.le_trans q2 (Nat.le_of_eq (Eq.symm ?_))
                        simp [hnl]
                        omega)
                      ⟨pq, setRow_heap w b cur _ et _ q1, by
                        have : (cur.toList.take (rows.length * z2) ++ news ++ cur.toList.drop (rows.length * z2 + news.length)).toArray.size = cur.size := by
                          have : rows.length * z2 + ys.length * z2 ≤ cur.size := Nat.le_trans (by rw [← Nat.add_mul]; exact Nat.mul_le_mul_right z2 hroom) q2
                          simp [hnl]; omega
                        rw [this]; exact qf⟩
                      (fun j r i c hj hi => by
                        have := seg_rows (K := G.K) (C := cur.toList.drop (rows.length * z2 + news.length)) hcl hr crows (fun j r i c hj hi => by
                          obtain ⟨v, h1, h2, h3⟩ := holdcells j r i c hj hi
                          exact ⟨v, by rw [List.getElem?_take, if_pos h3]; simpa using h1, h2⟩) hnv j r i c hj hi
                        simpa using this)
                      (fun o v hk => by
                        obtain ⟨h1, h2⟩ := hkeepK o v hk
                        simp only [List.getElem?_toArray]
                        rw [List.append_assoc, List.getElem?_append_left (by omega), List.getElem?_take, if_pos h1]
                        simpa using h2)
                      (fun k hk _ => setRow_other w b k _ hk) rfl rfl rfl (by simp [World.setRow])
                    refine wp_value hrun (K G' _ _ g1 (by simpa using g2) (g3.congr fun i => ?_))
                    rw [AS.mem_wr1]; simp
                  · have hgrow : cap < rows.length + ys.length := by omega
                    have hp : 0 < ys.length := by omega
                    have hold : (Builtin.firstCells z2 rows.length (.slice (some ⟨b, 0, none⟩) rows.length cap)).run P w.drew = .ok (cur.toList.take (rows.length * z2)).toArray w.drew := by
                      refine run_firstCells_some (P := P) w.drew z2 rows.length _ _ _ _ (by simp; omega) ?_
                      intro j v hj
                      rw [List.getElem?_take] at hj
                      split at hj
                      · rw [add_at]
                        simp only [World.cell?, Nat.zero_add]
                        have : w.drew.heap[b]? = some (.cells cur et pq) := q1
                        rw [this]; simpa using hj
                      · cases hj
                    have hrun := hexec (grow_run (P := P) (w := w) (ty := ty) (n := rows.length) (m := ys.length) hst hxt hi hisz hiby hzv cb0 hlen hgrow hfit hold (hnrun _ agd))
                    have hcl : (cur.toList.take (rows.length * z2)).length = rows.length * z2 := by simp; omega
                    obtain ⟨G', g1, g2, g3⟩ := R.mem.turnRow (w' := w.drew.alloc (.cells ((cur.toList.take (rows.length * z2)).toArray ++ news.toArray ++ Builtin.zeroCells zv.cells (grownCap w (rows.length + ys.length) cap el - (rows.length + ys.length))) el)) (rows := rows) (ys := ys) (b' := w.heap.size) (cap' := grownCap w (rows.length + ys.length) cap el)
                      (vs' := (cur.toList.take (rows.length * z2)).toArray ++ news.toArray ++ Builtin.zeroCells zv.cells (grownCap w (rows.length + ys.length) cap el - (rows.length + ys.length))) (ty := el) hm' hh (.inr ⟨rfl, hp⟩) c0 hrows
                      (by simpa using grownCap_ge w (rows.length + ys.length) cap el)
                      (by have hge := grownCap_ge w (rows.length + ys.length) cap el
                          refine Nat.le_of_eq (Eq.symm ?_); simp only [Array.size_append, List.size_toArray, size_zeroCells, hzcs, hnl, hcl, ← Nat.add_mul]; congr 1; omega)
                      ⟨(0, 0), by show (w.heap.push _)[w.heap.size]? = _; simp, .inl rfl⟩
                      (fun j r i c hj hi => by
                        have := seg_rows (K := G.K) (C := (Builtin.zeroCells zv.cells (grownCap w (rows.length + ys.length) cap el - (rows.length + ys.length))).toList) hcl hr crows (fun j r i c hj hi => by
                          obtain ⟨v, h1, h2, h3⟩ := holdcells j r i c hj hi
                          exact ⟨v, by rw [List.getElem?_take, if_pos h3]; simpa using h1, h2⟩) hnv j r i c hj hi
                        obtain ⟨v, h1, h2⟩ := this
                        refine ⟨v, ?_, h2⟩
                        rw [← h1, ← Array.getElem?_toList]
                        congr 1
                        simp)
                      (fun o v hv => by rw [R.mem.k_new (Nat.le_refl _)] at hv; cases hv)
                      (fun b _ hb => heap_push_old w _ _ b hb) rfl rfl rfl (by show _ ≤ (w.heap.push _).size; simp)
                    refine wp_value hrun (K G' _ _ g1 (by simpa using g2) (g3.congr fun i => ?_))
                    rw [AS.mem_wr1]; simp
              · exact EP.fail_inv h
            · exact EP.fail_inv h
          · exact EP.fail_inv h
        · rename_i n off len ex
          cases hux with
          | msl _ _ _ b cap _ hb hcap he =>
          exact sound_appendM R he hexec hst hxt hi hisz hiby hzv hzcs c0 cb0 crows hlen hnl hnv (hnrun w R.mem.agree) (hnrun w.drew agd) h K
        · exact EP.fail_inv h
      · exact EP.fail_inv h
    · exact EP.fail_inv h
  · rename_i el hel _
    exact sound_appendX R (tyElem_run hel) hux hvy hexec h K
  · exact EP.fail_inv h

end

section
variable {P : Program} {E : Env} {G : Gh} {s : AS} {a : Act} {w : World} {o : Oper} {next : Act → World → Prop} {Q : Exit → Act → World → Prop}

theorem putAt_length {cells xs : List AV} {off : Nat} (h : off + xs.length ≤ cells.length) : (putAt cells off xs).length = cells.length := by
  simp [putAt]; omega

theorem putAt_get {cells xs : List AV} {off i : Nat} (h : off + xs.length ≤ cells.length) : (putAt cells off xs)[i]? = if off ≤ i ∧ i < off + xs.length then xs[i - off]? else cells[i]? := by
  have t1 : (cells.take off).length = off := by simp; omega
  unfold putAt
  rcases Nat.lt_or_ge i off with hi | hi
  · rw [List.append_assoc, List.getElem?_append_left (by omega), List.getElem?_take, if_pos hi, if_neg (by omega)]
  · rw [List.append_assoc, List.getElem?_append_right (by omega), t1]
    rcases Nat.lt_or_ge (i - off) xs.length with hj | hj
    · rw [List.getElem?_append_left hj, if_pos (by omega)]
    · rw [List.getElem?_append_right hj, List.getElem?_drop, if_neg (by omega)]
      congr 1; omega

/-- The model's own way of laying a part's cells. -/
theorem fold_get (off : Nat) : ∀ (us : List Value) (j : Nat) (cs : Array Value), off + j + us.length ≤ cs.size →
    ((us.zipIdx j).foldl (fun cs (x : Value × Nat) => cs.setIfInBounds (off + x.2) x.1) cs).size = cs.size ∧
    ∀ i, ((us.zipIdx j).foldl (fun cs (x : Value × Nat) => cs.setIfInBounds (off + x.2) x.1) cs)[i]? = if off + j ≤ i ∧ i < off + j + us.length then us[i - (off + j)]? else cs[i]?
  | [], j, cs, h => ⟨rfl, fun i => by simp; intro h1 h2; omega⟩
  | u :: us, j, cs, h => by
    simp only [List.length_cons] at h
    obtain ⟨h1, h2⟩ := fold_get off us (j + 1) (cs.setIfInBounds (off + j) u) (by simp; omega)
    simp only [List.zipIdx_cons, List.foldl_cons]
    refine ⟨by rw [h1]; simp, fun i => ?_⟩
    rw [h2]
    simp only [List.length_cons]
    by_cases e : i = off + j
    · subst e
      rw [if_neg (by omega), if_pos (by omega), Array.getElem?_setIfInBounds_self_of_lt (by omega)]
      simp
    · by_cases hr : off + (j + 1) ≤ i ∧ i < off + (j + 1) + us.length
      · rw [if_pos hr, if_pos (by omega)]
        have : i - (off + j) = (i - (off + (j + 1))) + 1 := by omega
        rw [this]; simp
      · rw [if_neg hr, if_neg (by omega), Array.getElem?_setIfInBounds_ne (by omega)]

theorem fill_run {place placeC : Nat → Option (Nat × Nat)} (hp : ∀ i off z, place i = some (off, z) → placeC i = some (off, z)) :
    ∀ (parts : List (Nat × AV)) (cparts : List (Nat × Value)) (cells out : List AV) (vs : Array Value), fillE place cells parts = some out →
      parts.length = cparts.length → (∀ (k : Nat) (p : Nat × AV) (q : Nat × Value), parts[k]? = some p → cparts[k]? = some q → p.1 = q.1 ∧ AR G p.2 q.2) →
      cells.length = vs.size → (∀ (i : Nat) (x : AV) (v : Value), cells[i]? = some x → vs[i]? = some v → AR G x v) →
      ∃ vs' : Array Value, Instr.fill placeC vs cparts = some vs' ∧ out.length = vs'.size ∧ ∀ (i : Nat) (x : AV) (v : Value), out[i]? = some x → vs'[i]? = some v → AR G x v := by
  intro parts
  induction parts with
  | nil =>
    intro cparts cells out vs h hl _ hs hr
    simp only [fillE, Option.some.injEq] at h
    subst h
    cases cparts with
    | nil => exact ⟨vs, rfl, hs, hr⟩
    | cons => simp at hl
  | cons p parts ih =>
    intro cparts cells out vs h hl hc hs hr
    cases cparts with
    | nil => simp at hl
    | cons q cparts =>
      obtain ⟨i, x⟩ := p
      obtain ⟨j, v⟩ := q
      obtain ⟨e, hxv⟩ := hc 0 (i, x) (j, v) rfl rfl
      simp only at e hxv
      subst e
      simp only [fillE] at h
      split at h
      · rename_i off z xs e1 e2
        split at h
        · rename_i hh
          obtain ⟨h1, h2⟩ := hh
          obtain ⟨f1, f2⟩ := flat_rel hxv e2
          have hvz : v.cells.size = z := by omega
          obtain ⟨g1, g2⟩ := fold_get off v.cells.toList 0 vs (by simp; omega)
          simp only [Nat.add_zero] at g2
          let vs1 := (v.cells.toList.zipIdx 0).foldl (fun cs (x : Value × Nat) => cs.setIfInBounds (off + x.2) x.1) vs
          obtain ⟨vs', r1, r2, r3⟩ := ih cparts (putAt cells off xs) out vs1 h (by simpa using hl) (fun k p q a1 a2 => hc (k + 1) p q (by simpa using a1) (by simpa using a2))
            (by rw [putAt_length (by omega)]; show _ = vs1.size; rw [g1]; exact hs)
            (fun i x u a1 a2 => by
              rw [putAt_get (by omega)] at a1
              have a2' : vs1[i]? = some u := a2
              rw [show vs1[i]? = _ from g2 i] at a2'
              split at a1
              · rename_i hin
                rw [if_pos (by simp; omega)] at a2'
                exact f2 (i - off) x u a1 (by simpa using a2')
              · rename_i hin
                rw [if_neg (by simp; omega)] at a2'
                exact hr i x u a1 a2')
          refine ⟨vs', ?_, r2, r3⟩
          have hz : (v.cells.zipIdx.foldl (fun cs (x : Value × Nat) => cs.setIfInBounds (off + x.2) x.1) vs) = vs1 := by
            rw [← Array.foldl_toList]
            congr 1
            simp [Array.toList_zipIdx]
          simp only [Instr.fill, hp _ _ _ e1]
          rw [if_neg (by simp; omega)]
          have e3 : (Array.foldl (fun cs x => match x with | (c, j) => cs.setIfInBounds (off + j) c) vs v.cells.zipIdx) = vs1 := hz
          rw [e3]; exact r1
        · cases h
      · cases h

theorem evals (R : Rel E G s a w) (parts : List (Nat × Operand)) : ∀ (k : Nat) (p : Nat × AV) (q : Nat × Value), (parts.map fun p => (p.1, s.eval p.2))[k]? = some p → (parts.map fun p => (p.1, a.eval p.2))[k]? = some q → p.1 = q.1 ∧ AR G p.2 q.2 := by
  intro k p q h1 h2
  simp only [List.getElem?_map, Option.map_eq_some_iff] at h1 h2
  obtain ⟨x, hx, rfl⟩ := h1
  obtain ⟨y, hy, rfl⟩ := h2
  rw [hx] at hy
  cases hy
  exact ⟨rfl, R.eval _⟩

theorem sound_build (R : Rel E G s a w) {t : TypeId} {parts : Array (Nat × Operand)} (ho : o.op = .build t parts) {cs : List AV} (hx : buildE P t (parts.toList.map fun p => (p.1, s.eval p.2)) = some cs) (K : Post E G s o ⟨.agg cs, []⟩ a next) : o.wp P a w next Q := by
  unfold buildE at hx
  split at hx
  · rename_i zero hzero
    obtain ⟨it, zv, hi, hz, hzl, hzr⟩ := zero_rel G hzero
    have key : ∀ (place : Nat → Option (Nat × Nat)), fillE place zero (parts.toList.map fun p => (p.1, s.eval p.2)) = some cs → (∀ vs : Array Value, Instr.fill place zv.cells (parts.map fun (i, x) => (i, a.eval x)).toList = some vs → P.built t (parts.map fun (i, x) => (i, a.eval x)).toList = some vs) → o.wp P a w next Q := by
      intro place hf hb
      obtain ⟨vs', r1, r2, r3⟩ := fill_run (G := G) (place := place) (placeC := place) (fun _ _ _ h => h) _ (parts.map fun (i, x) => (i, a.eval x)).toList zero cs zv.cells hf (by simp) (by simpa using evals R parts.toList) hzl hzr
      refine sound_val R (v := .agg vs') ?_ (.agg _ _ r2 r3) K
      have := run_build (P := P) w t (parts.map fun (i, x) => (i, a.eval x)) vs' (hb vs' r1)
      simp [execOp, ho, this]
    split at hx
    · rename_i ps hps
      unfold tyPlaces at hps
      split at hps
      · rename_i fs hu
        refine key _ hx fun vs hv => ?_
        simp only [Program.built, hi, hu, hz, hps]
        simpa using hv
      · cases hps
    · split at hx
      · rename_i n e he
        split at hx
        · rename_i z hz'
          obtain ⟨ie, h1, h2⟩ := tySize_info hz'
          refine key _ hx fun vs hv => ?_
          simp only [Program.built, hi, tyArr_run he, hz, h1, h2]
          exact hv
        · cases hx
      · cases hx
  · cases hx

theorem flat_rep {α : Type} (l : List α) (h0 : 0 < l.length) : ∀ (n i : Nat), (List.replicate n l).flatten[i]? = if i < n * l.length then l[i % l.length]? else none
  | 0, i => by simp
  | n + 1, i => by
    rw [List.replicate_succ, List.flatten_cons]
    rcases Nat.lt_or_ge i l.length with h | h
    · rw [List.getElem?_append_left h, Nat.mod_eq_of_lt h, if_pos]
      rw [Nat.add_mul]; omega
    · rw [List.getElem?_append_right h, flat_rep l h0 n, Nat.mod_eq_sub_mod h]
      have : (i - l.length < n * l.length) ↔ (i < (n + 1) * l.length) := by rw [Nat.add_mul]; omega
      simp only [this]

theorem newRow_out (R : Rel E G s a w) {n z cap : Nat} {rows : List (List PC)} {vs : Array Value} {ty : TypeId} {e : Eff} {l : List Nat} (h : (newRowE n z rows).run s.mem = some (e, l))
    (hrun : (execOp a.eval o).run P w = .ok (.value (.slice (some ⟨w.heap.size, 0, none⟩) rows.length cap)) (w.alloc (.cells vs ty)))
    (hz : 0 < z) (hr : ∀ r ∈ rows, r.length = z) (hcap : rows.length ≤ cap) (hsize : vs.size = cap * z)
    (hv : ∀ (j : Nat) (r : List PC) (i : Nat) (c : PC), rows[j]? = some r → r[i]? = some c → ∃ v, vs[j * z + i]? = some v ∧ VR G.K c v) (K : Post E G s o e a next) : o.wp P a w next Q := by
  unfold newRowE at h
  obtain ⟨l', h, _⟩ := EP.ask_inv h
  split at h
  · rename_i hm
    obtain ⟨rfl, _⟩ := EP.ret_inv h
    obtain ⟨G', g1, g2, g3⟩ := R.mem.newRow (w' := w.alloc (.cells vs ty)) hm (z := z) (cap := cap) (rows := rows) (vs := vs) (ty := ty) hz hr hcap (Nat.le_of_eq hsize.symm) (by show (w.heap.push _)[w.heap.size]? = _; simp) hv
      (fun b hb => heap_push_old w w.drawn _ b hb) rfl rfl rfl (by show _ ≤ (w.heap.push _).size; simp)
    exact wp_value hrun (K G' _ _ g1 g2 (g3.congr (AS.mem_wr1 s _ _)))
  · exact EP.fail_inv h

theorem sound_buildSlice (R : Rel E G s a w) {t el : TypeId} {n : Nat} {parts : Array (Nat × Operand)} (ho : o.op = .buildSlice t n parts) (hel : tyElem P t = some el) {zero : List AV} {z : Nat} (hzero : tyZero P el = some zero) (hz : tySize P el = some z)
    (hzl : zero.length = z) (h0 : 0 < z) (hn : n * z ≤ 16777216) {out : List AV} (hf : fillE (fun i => some (i * z, z)) (List.replicate n zero).flatten (parts.toList.map fun p => (p.1, s.eval p.2)) = some out) {cs : List PC} (hcs : toPCs out = some cs)
    {nm : Nat} {e : Eff} {l : List Nat} (h : (newRowE nm z (chunks z n cs)).run s.mem = some (e, l)) (K : Post E G s o e a next) : o.wp P a w next Q := by
  obtain ⟨i, zv, hi, hzv, hzl', hzr⟩ := zero_rel G hzero
  have hisz : i.size = z := by obtain ⟨i', h1, h2⟩ := tySize_info hz; rw [hi] at h1; cases h1; exact h2
  have hzs : zv.cells.size = z := by omega
  let base : Array Value := (Array.range (n * z)).map (zv.cells[· % z]!)
  have hbl : base.size = n * z := by simp [base]
  have hfl : (List.replicate n zero).flatten.length = base.size := by rw [hbl]; simp [hzl]
  have hbr : ∀ (i : Nat) (x : AV) (v : Value), (List.replicate n zero).flatten[i]? = some x → base[i]? = some v → AR G x v := by
    intro i x v a1 a2
    rw [flat_rep zero (by omega), hzl] at a1
    split at a1
    · rename_i hlt
      have hm : i % z < z := Nat.mod_lt _ h0
      refine hzr (i % z) x v a1 ?_
      simp [base, hlt] at a2
      rw [← a2]
      simp [hzs, hm]
    · cases a1
  obtain ⟨vs', r1, r2, r3⟩ := fill_run (G := G) (place := fun i => some (i * z, z)) (placeC := fun i => some (i * z, z)) (fun _ _ _ h => h) _ (parts.map fun (i, x) => (i, a.eval x)).toList _ out base hf (by simp) (by simpa using evals R parts.toList) hfl hbr
  have hol : out.length = n * z := by
    have : ∀ (parts : List (Nat × AV)) (cells out : List AV), fillE (fun i => some (i * z, z)) cells parts = some out → out.length = cells.length := by
      intro parts
      induction parts with
      | nil => intro cells out h; simp only [fillE, Option.some.injEq] at h; rw [h]
      | cons p parts ih =>
        intro cells out h
        obtain ⟨i, x⟩ := p
        simp only [fillE] at h
        split at h
        · split at h
          · rename_i hh
            rw [ih _ _ h, putAt_length (by rename_i e1 e2; cases e1; omega)]
          · cases h
        · cases h
    rw [this _ _ _ hf, hfl, hbl]
  have vcs := toPCs_vrs (G := G) (us := vs'.toList) hcs (by simpa using r2) (fun i x u a1 a2 => r3 i x u a1 (by simpa using a2))
  have hcl : cs.length = n * z := by rw [← (toPCs_spec hcs).1, hol]
  have hlen := chunks_length z n cs
  refine newRow_out R (cap := n) (vs := vs') (ty := el) h ?_ h0 ?_ (by omega) (by omega) ?_ K
  · rw [hlen]
    have hge : ¬ (16777216 < n * z) := by omega
    have r1' : Instr.fill (fun i => some (i * z, z)) base (List.map (fun x => (x.1, a.eval x.2)) parts.toList) = some vs' := by simpa using r1
    by_cases e : n * z = 0
    · have hb0 : base = #[] := Array.eq_empty_of_size_eq_zero (by omega)
      rw [hb0] at r1'
      simp [execOp, ho, Instr.buildSlice, run_underlying (tyElem_run hel), tySize_run hz, e, Array.range_zero', r1', newRow]
    · have hb1 : Array.map (fun x => zv.cells[x % z]!) (Array.range (n * z)) = base := rfl
      simp [execOp, ho, Instr.buildSlice, run_underlying (tyElem_run hel), tySize_run hz, e, hge, zero_run hi hzv, hzs, newRow]
      simp [hb1, r1']
  · intro r hr
    obtain ⟨j, hj⟩ := List.mem_iff_getElem?.1 hr
    have := chunks_get z n cs j r hj
    have hjn : j < n := by have := (List.getElem?_eq_some_iff.1 hj).1; omega
    have h3 : j * z + z ≤ n * z := by rw [← Nat.succ_mul]; exact Nat.mul_le_mul_right z hjn
    rw [this]; simp; omega
  · intro j r i c hj hi
    have := chunks_get z n cs j r hj
    subst this
    rw [List.getElem?_take] at hi
    split at hi
    · rw [List.getElem?_drop] at hi
      have hlt : j * z + i < vs'.size := by have := (List.getElem?_eq_some_iff.1 hi).1; omega
      exact ⟨vs'[j * z + i], by simp [hlt], vcs.2 _ _ _ hi (by simp [hlt])⟩
    · cases hi


theorem sound_makeSlice (R : Rel E G s a w) {t el : TypeId} {lo co : Operand} (ho : o.op = .makeSlice t lo co) (hel : tyElem P t = some el) {n m : Int} (e1 : s.eval lo = .c (.int .i64 n)) (e2 : s.eval co = .c (.int .i64 m))
    {zero : List AV} {z by_ : Nat} (hzero : tyZero P el = some zero) (hz : tySize P el = some z) (hby : tyBytes P el = some by_) {zs : List PC} (hzs : toPCs zero = some zs) (hzl : zs.length = z) (h0 : 0 < z) (hnm : n ≤ m) (hn : 0 ≤ n) (hn2 : m ≤ 9223372036854775807)
    (hb : m * by_ ≤ 140737488355328) {nm : Nat} {e : Eff} {l : List Nat} (h : (newRowE nm z (List.replicate n.toNat zs)).run s.mem = some (e, l)) (K : Post E G s o e a next) : o.wp P a w next Q := by
  obtain ⟨i, zv, hi, hzv, hzl', hzr⟩ := zero_rel G hzero
  have hisz : i.size = z := by obtain ⟨i', h1, h2⟩ := tySize_info hz; rw [hi] at h1; cases h1; exact h2
  have hiby : i.bytes = by_ := by obtain ⟨i', h1, h2⟩ := tyBytes_info hby; rw [hi] at h1; cases h1; exact h2
  have hzz : zero.length = zs.length := (toPCs_spec hzs).1
  have hzvs : zv.cells.size = z := by omega
  have h1 := R.eval lo
  have h2 := R.eval co
  rw [e1] at h1; rw [e2] at h2
  have hrun := run_make (P := P) w t el i zv (tyElem_run hel) hi hzv .i64 .i64 n m hn hnm (by rw [hiby, Int.mul_comm]; omega) hn2
  have vz := toPCs_vrs (G := G) (us := zv.cells.toList) hzs (by simpa using hzl') (fun i x u a1 a2 => hzr i x u a1 (by simpa using a2))
  refine newRow_out R (cap := m.toNat) (vs := madeCells zv.cells (m.toNat * i.size)) (ty := el) h ?_ h0 ?_ (by simp; omega) (by rw [size_madeCells, hisz]) ?_ K
  · have hrl : (List.replicate n.toNat zs).length = n.toNat := by simp
    rw [hrl]
    simp [execOp, ho, h1.int_inv, h2.int_inv, hrun]
  · intro r hr
    rw [(List.mem_replicate.1 hr).2]; exact hzl
  · intro j r i' c hj hi'
    have hr : r = zs := (List.mem_replicate.1 (List.mem_of_getElem? hj)).2
    have hjn : j < n.toNat := by have := (List.getElem?_eq_some_iff.1 hj).1; simpa using this
    subst hr
    have hil : i' < z := by have := (List.getElem?_eq_some_iff.1 hi').1; omega
    have h3 : j * z + z ≤ m.toNat * z := by rw [← Nat.succ_mul]; exact Nat.mul_le_mul_right z (by omega)
    have hlt : j * z + i' < m.toNat * z := by omega
    have hmod : (j * z + i') % z = i' := by rw [Nat.mul_comm, Nat.mul_add_mod]; exact Nat.mod_eq_of_lt hil
    refine ⟨zv.cells[i']'(by omega), ?_, vz.2 i' c _ hi' (by simp [hzvs, hil])⟩
    rw [hisz]
    have : (madeCells zv.cells (m.toNat * z))[j * z + i']? = some (zv.cells[(j * z + i') % zv.cells.size]!) := by
      simp [madeCells, hlt]
    rw [this]
    simp [hzvs, hmod, hil]

theorem sound_buildMsl (R : Rel E G s a w) {t el : TypeId} {n : Nat} {parts : Array (Nat × Operand)} (ho : o.op = .buildSlice t n parts) (hel : tyElem P t = some el) {zero : List AV} {z : Nat} (hzero : tyZero P el = some zero) (hz : tySize P el = some z)
    (hzl : zero.length = z) (h0 : 0 < z) (hn : n * z ≤ 16777216) {out : List AV} (hf : fillE (fun i => some (i * z, z)) (List.replicate n zero).flatten (parts.toList.map fun p => (p.1, s.eval p.2)) = some out) {nm : Nat} {e : Eff} {l : List Nat} (h : (newMslE nm n out).run s.mem = some (e, l)) (K : Post E G s o e a next) : o.wp P a w next Q := by
  obtain ⟨i, zv, hi, hzv, hzl', hzr⟩ := zero_rel G hzero
  have hisz : i.size = z := by obtain ⟨i', h1, h2⟩ := tySize_info hz; rw [hi] at h1; cases h1; exact h2
  have hzs : zv.cells.size = z := by omega
  let base : Array Value := (Array.range (n * z)).map (zv.cells[· % z]!)
  have hbl : base.size = n * z := by simp [base]
  have hfl : (List.replicate n zero).flatten.length = base.size := by rw [hbl]; simp [hzl]
  have hbr : ∀ (i : Nat) (x : AV) (v : Value), (List.replicate n zero).flatten[i]? = some x → base[i]? = some v → AR G x v := by
    intro i x v a1 a2
    rw [flat_rep zero (by omega), hzl] at a1
    split at a1
    · rename_i hlt
      have hm : i % z < z := Nat.mod_lt _ h0
      refine hzr (i % z) x v a1 ?_
      simp [base, hlt] at a2
      rw [← a2]
      simp [hzs, hm]
    · cases a1
  obtain ⟨vs', r1, r2, r3⟩ := fill_run (G := G) (place := fun i => some (i * z, z)) (placeC := fun i => some (i * z, z)) (fun _ _ _ h => h) _ (parts.map fun (i, x) => (i, a.eval x)).toList _ out base hf (by simp) (by simpa using evals R parts.toList) hfl hbr
  have hol : out.length = n * z := by
    have : ∀ (parts : List (Nat × AV)) (cells out : List AV), fillE (fun i => some (i * z, z)) cells parts = some out → out.length = cells.length := by
      intro parts
      induction parts with
      | nil => intro cells out h; simp only [fillE, Option.some.injEq] at h; rw [h]
      | cons p parts ih =>
        intro cells out h
        obtain ⟨i, x⟩ := p
        simp only [fillE] at h
        split at h
        · split at h
          · rename_i hh
            rw [ih _ _ h, putAt_length (by rename_i e1 e2; cases e1; omega)]
          · cases h
        · cases h
    rw [this _ _ _ hf, hfl, hbl]
  refine sound_newMsl R (vs := vs') (ty := el) h ?_ (by omega) r3 K
  have hge : ¬ (16777216 < n * z) := by omega
  have r1' : Instr.fill (fun i => some (i * z, z)) base (List.map (fun x => (x.1, a.eval x.2)) parts.toList) = some vs' := by simpa using r1
  by_cases e : n * z = 0
  · have hb0 : base = #[] := Array.eq_empty_of_size_eq_zero (by omega)
    rw [hb0] at r1'
    simp [execOp, ho, Instr.buildSlice, run_underlying (tyElem_run hel), tySize_run hz, e, Array.range_zero', r1', newRow]
  · have hb1 : Array.map (fun x => zv.cells[x % z]!) (Array.range (n * z)) = base := rfl
    simp [execOp, ho, Instr.buildSlice, run_underlying (tyElem_run hel), tySize_run hz, e, hge, zero_run hi hzv, hzs, newRow]
    simp [hb1, r1']

theorem sound_makeMsl (R : Rel E G s a w) {t el : TypeId} {lo co : Operand} (ho : o.op = .makeSlice t lo co) (hel : tyElem P t = some el) {n m : Int} (e1 : s.eval lo = .c (.int .i64 n)) (e2 : s.eval co = .c (.int .i64 m))
    {zero : List AV} {z by_ : Nat} (hzero : tyZero P el = some zero) (hz : tySize P el = some z) (hby : tyBytes P el = some by_) {zs : List PC} (hzs : toPCs zero = some zs) (hzl : zs.length = z) (h0 : 0 < z) (hnm : n = m) (hn : 0 ≤ n) (hn2 : n ≤ 9223372036854775807)
    (hb : n * by_ ≤ 140737488355328) {nm : Nat} {e : Eff} {l : List Nat} (h : (newMslE nm n.toNat (List.replicate n.toNat zero).flatten).run s.mem = some (e, l)) (K : Post E G s o e a next) : o.wp P a w next Q := by
  subst hnm
  obtain ⟨i, zv, hi, hzv, hzl', hzr⟩ := zero_rel G hzero
  have hisz : i.size = z := by obtain ⟨i', h1, h2⟩ := tySize_info hz; rw [hi] at h1; cases h1; exact h2
  have hiby : i.bytes = by_ := by obtain ⟨i', h1, h2⟩ := tyBytes_info hby; rw [hi] at h1; cases h1; exact h2
  have hzz : zero.length = zs.length := (toPCs_spec hzs).1
  have hzvs : zv.cells.size = z := by omega
  have h1 := R.eval lo
  have h2 := R.eval co
  rw [e1] at h1; rw [e2] at h2
  have hrun := run_make (P := P) w t el i zv (tyElem_run hel) hi hzv .i64 .i64 n n hn (Int.le_refl _) (by rw [hiby, Int.mul_comm]; omega) hn2
  refine sound_newMsl R (vs := madeCells zv.cells (n.toNat * i.size)) (ty := el) h ?_ ?_ ?_ K
  · simp [execOp, ho, h1.int_inv, h2.int_inv, hrun]
  · rw [size_madeCells, hisz]; simp; rw [hzz, hzl]
  · intro i' x v a1 a2
    rw [flat_rep zero (by omega), hzz, hzl] at a1
    split at a1
    · rename_i hlt
      have hm : i' % z < z := Nat.mod_lt _ h0
      refine hzr (i' % z) x v a1 ?_
      have : (madeCells zv.cells (n.toNat * i.size))[i']? = some (zv.cells[i' % zv.cells.size]!) := by
        rw [hisz]; simp [madeCells, hlt]
      rw [this] at a2
      cases a2
      simp [hzvs, hm]
    · cases a1

def wrs (m : Nat → Option MC) (l : List (Nat × MC)) : Nat → Option MC := fun i => match look l i with | some c => some c | none => m i
theorem look_append {α : Type} : ∀ (l l' : List (Nat × α)) (i : Nat), look (l ++ l') i = match look l i with | some c => some c | none => look l' i
  | [], l', i => rfl
  | (j, x) :: l, l', i => by
    simp only [List.cons_append, look]
    split
    · rfl
    · exact look_append l l' i
theorem AS.mem_wr (s : AS) (l : List (Nat × MC)) : ∀ i, (s.wr l).mem i = wrs s.mem l i := fun i => by
  unfold wrs AS.mem AS.wr
  rw [look_append]
  cases look l i <;> rfl
theorem wrs_cons (m : Nat → Option MC) (n : Nat) (c : MC) (l : List (Nat × MC)) : wrs m ((n, c) :: l) = mset (wrs m l) n c := by
  funext i
  simp only [wrs, mset, look]
  by_cases h : n = i
  · rw [if_pos h, if_pos h]
  · rw [if_neg h, if_neg h]

theorem cap_sound {m : Nat → Option MC} (M : MRel E G m w) : ∀ (xs : List AV) (us : List Value) (caps : List (List PC)) (wr : List (Nat × MC)) (l : List Nat), (capE xs).run m = some ((caps, wr), l) →
    xs.length = us.length → (∀ (i : Nat) (x : AV) (u : Value), xs[i]? = some x → us[i]? = some u → AR G x u) →
    (∀ n c, look wr n = some c → ∃ cells fz, m n = some (.obj cells fz) ∧ c = .obj cells true) ∧
    ∃ G', G.le G' ∧ MRel E G' (wrs m wr) w ∧ G'.h = G.h ∧ ∃ bs : List (Nat × Nat), us = bs.map (fun b => Value.pointer (some ⟨b.1, b.2, none⟩)) ∧ caps.length = bs.length ∧ ∀ (i : Nat) (cs : List PC) (b : Nat × Nat), caps[i]? = some cs → bs[i]? = some b → Known G'.K b.1 b.2 cs := by
  intro xs
  induction xs with
  | nil =>
    intro us caps wr l h hl _
    obtain ⟨e, _⟩ := EP.ret_inv h
    cases e
    cases us with
    | cons => simp at hl
    | nil => exact ⟨fun n c h => by simp [look] at h, G, Gh.le_refl G, M, rfl, [], rfl, rfl, fun i cs b h => by simp at h⟩
  | cons x xs ih =>
    intro us caps wr l h hl hr
    cases us with
    | nil => simp at hl
    | cons u us =>
      have hx := hr 0 x u rfl rfl
      have hrest : ∀ (i : Nat) (x : AV) (u : Value), xs[i]? = some x → us[i]? = some u → AR G x u := fun i y v h1 h2 => hr (i + 1) y v (by simpa using h1) (by simpa using h2)
      simp only [capE] at h
      split at h
      · rename_i n
        obtain ⟨l', h, _⟩ := EP.ask_inv h
        split at h
        · rename_i cells fz hm
          split at h
          · rename_i cs hcs
            obtain ⟨r, l1, l2, h1, h2, _⟩ := EP.bind_inv h
            obtain ⟨e, _⟩ := EP.ret_inv h2
            cases e
            obtain ⟨i1, G1, i2, i3, i4, bs, i5, i6, i7⟩ := ih us r.1 r.2 l1 h1 (by simpa using hl) hrest
            cases hx with
            | ptr _ _ b hb =>
            have hb1 : G1.h n = some (.obj b) := by rw [i4]; exact hb
            have hm1 : ∃ fz', wrs m r.2 n = some (.obj cells fz') := by
              unfold wrs
              cases hk : look r.2 n with
              | none => exact ⟨fz, hm⟩
              | some c =>
                obtain ⟨cells', fz', a1, a2⟩ := i1 n c hk
                rw [hm] at a1
                cases a1
                exact ⟨true, by rw [a2]⟩
            obtain ⟨fz', hm1⟩ := hm1
            obtain ⟨G2, f1, f2, f3, f4⟩ := i3.freeze hm1 hb1
            refine ⟨?_, G2, Gh.le_trans i2 f1, by rw [wrs_cons]; exact f4, f2.trans i4, (b, 0) :: bs, by simp [i5], by simp [i6], ?_⟩
            · intro n' c hk
              simp only [look] at hk
              split at hk
              · rename_i e; subst e; cases hk; exact ⟨cells, fz, hm, rfl⟩
              · exact i1 n' c hk
            · intro i cs' b' a1 a2
              cases i with
              | zero =>
                simp at a1 a2
                subst a1; subst a2
                obtain ⟨t1, t2⟩ := toPCs_spec hcs
                intro k c hk
                have hkl : k < cells.length := by have := (List.getElem?_eq_some_iff.1 hk).1; omega
                have hck : cells[k]? = some cells[k] := by simp [hkl]
                obtain ⟨v, g1, g2⟩ := f3 k _ hck
                exact ⟨v, by rw [Nat.zero_add]; exact g1, g2.toPC (t2 k _ c hck hk)⟩
              | succ i => exact (i7 i cs' b' (by simpa using a1) (by simpa using a2)).mono f1.K
          · exact EP.fail_inv h
        · exact EP.fail_inv h
      · rename_i cs
        obtain ⟨r, l1, l2, h1, h2, _⟩ := EP.bind_inv h
        obtain ⟨e, _⟩ := EP.ret_inv h2
        cases e
        obtain ⟨i1, G1, i2, i3, i4, bs, i5, i6, i7⟩ := ih us r.1 r.2 l1 h1 (by simpa using hl) hrest
        cases hx with
        | rptr _ b off hk =>
        refine ⟨i1, G1, i2, i3, i4, (b, off) :: bs, by simp [i5], by simp [i6], ?_⟩
        intro i cs' b' a1 a2
        cases i with
        | zero => simp at a1 a2; subst a1; subst a2; exact hk.mono i2.K
        | succ i => exact i7 i cs' b' (by simpa using a1) (by simpa using a2)
      · exact EP.fail_inv h


theorem sound_makeFunc (R : Rel E G s a w) {f : FuncId} {captured : Array Operand} (ho : o.op = .makeFunc (.func f) #[] captured) {r : List (List PC) × List (Nat × MC)} {l : List Nat} (h : (capE (captured.toList.map s.eval)).run s.mem = some (r, l))
    (K : Post E G s o ⟨.clo f r.1, r.2⟩ a next) : o.wp P a w next Q := by
  obtain ⟨_, G', h1, h2, _, bs, h3, h4, h5⟩ := cap_sound R.mem _ (captured.toList.map a.eval) r.1 r.2 l h (by simp) (fun i x u a1 a2 => by
    simp only [List.getElem?_map, Option.map_eq_some_iff] at a1 a2
    obtain ⟨x', b1, rfl⟩ := a1
    obtain ⟨u', b2, rfl⟩ := a2
    rw [b1] at b2; cases b2
    exact R.eval _)
  have hc : captured.map a.eval = (bs.map fun b => Value.pointer (some ⟨b.1, b.2, none⟩)).toArray := by
    rw [← h3, ← Array.toList_map, Array.toArray_toList]
  refine wp_value (v := .func (.func f) #[] (captured.map a.eval)) (w' := w) (by simp [execOp, ho, Instr.makeFunc]) (K G' _ _ h1 ?_ (h2.congr (AS.mem_wr s r.2)))
  rw [hc]
  exact .clo f r.1 bs h4 h5

theorem sound_len (R : Rel E G s a w) {t : TypeId} {x : AV} {u : Value} (hx : AR G x u) {ts : Array TypeId} {ty : TypeId} (hts : ts[0]? = some t)
    (hexec : ∀ {r}, (Builtin.len_ ts ty #[u]).run P w = .ok r w → (execOp a.eval o).run P w = .ok (.value r) w)
    {e : Eff} {l : List Nat} (h : (okM (lenE P t x)).run s.mem = some (e, l)) (K : Post E G s o e a next) : o.wp P a w next Q := by
  obtain ⟨y, l', h1, rfl⟩ := okM_inv h
  unfold lenE at h1
  split at h1
  · rename_i str
    cases hx.str_inv
    split at h1
    · rename_i ht
      obtain ⟨rfl, _⟩ := EP.ret_inv h1
      refine sound_val R (v := .int .i64 str.length) (hexec ?_) (.int _ _) K
      have hsz : (ByteArray.mk str.toArray).size = str.length := rfl
      simp [Builtin.len_, hts, run_underlying (tyStr_run ht), goInt, hsz]
    · exact EP.fail_inv h1
  · rename_i n
    cases hx with
    | mp _ b hb =>
    obtain ⟨l2, h1, _⟩ := EP.ask_inv h1
    split at h1
    · rename_i ag es hm
      split at h1
      · rename_i kt ht
        obtain ⟨rfl, _⟩ := EP.ret_inv h1
        have h0 := R.mem.home n
        rw [hm, hb] at h0
        obtain ⟨ms, cl, a1, a2, _⟩ := h0
        refine sound_val R (v := .int .i64 es.length) (hexec ?_) (.int _ _) K
        have hg : (getObj b).run P w = .ok (.map ms cl) w := by simp [getObj, Sem.run, a1]
        obtain ⟨k1, k2⟩ := kt
        simp [Builtin.len_, hts, run_underlying (tyMap_run ht), goInt, hg, a2]
      · exact EP.fail_inv h1
    · exact EP.fail_inv h1
  · cases hx
    split at h1
    · rename_i kt ht
      obtain ⟨rfl, _⟩ := EP.ret_inv h1
      obtain ⟨k1, k2⟩ := kt
      refine sound_val R (v := .int .i64 0) (hexec ?_) (.int _ _) K
      simp [Builtin.len_, hts, run_underlying (tyMap_run ht), goInt]
    · exact EP.fail_inv h1
  · rename_i n off len ex
    cases hx with
    | msl _ _ _ b cap _ hb hc he =>
    split at h1
    · rename_i e he
      obtain ⟨rfl, _⟩ := EP.ret_inv h1
      refine sound_val R (v := .int .i64 len) (hexec ?_) (.int _ _) K
      simp [Builtin.len_, hts, run_underlying (tyElem_run he), goInt]
    · exact EP.fail_inv h1
  · split at h1
    · rename_i e rows he hr
      obtain ⟨rfl, _⟩ := EP.ret_inv h1
      obtain ⟨A, cap, rfl, _⟩ := (hx.rows hr).slice_form
      refine sound_val R (v := .int .i64 rows.length) (hexec ?_) (.int _ _) K
      simp [Builtin.len_, hts, run_underlying (tyElem_run he), goInt]
    · exact EP.fail_inv h1

theorem sound_mm (R : Rel E G s a w) (mx : Bool) {xs : List AV} {us : Array Value} (hl : xs.length = us.size) (hx : ∀ (i : Nat) (x : AV) (u : Value), xs[i]? = some x → us[i]? = some u → AR G x u) {ts : Array TypeId} {ty : TypeId}
    (hexec : ∀ {r}, (if mx then Builtin.max_ ts ty us else Builtin.min_ ts ty us).run P w = .ok r w → (execOp a.eval o).run P w = .ok (.value r) w)
    {y : AV} (h : mm mx xs = some y) (K : Post E G s o ⟨y, []⟩ a next) : o.wp P a w next Q := by
  unfold mm at h
  split at h
  · rename_i k i k' j
    split at h
    · rename_i hk
      subst hk
      cases h
      have hus : us = #[.int k i, .int k j] := by
        apply Array.ext'
        obtain ⟨l⟩ := us
        match l, hl, hx with
        | [u, v], _, hx =>
          have e1 := (hx 0 _ u rfl rfl).int_inv
          have e2 := (hx 1 _ v rfl rfl).int_inv
          subst e1; subst e2; rfl
        | [], hl, _ => simp at hl
        | [_], hl, _ => simp at hl
        | _ :: _ :: _ :: _, hl, _ => simp at hl
      subst hus
      refine sound_val R (v := .int k (if mx then (if j > i then j else i) else (if j < i then j else i))) (hexec ?_) (.int _ _) K
      cases mx <;> simp [Builtin.max_, Builtin.min_, Builtin.max2, Builtin.min2]
    · cases h
  · cases h

end

/-- Target names: their sources; rows of nothing that are new. -/
structure Ren where
  src : Nat → Option Nat
  ph : Nat → Option Nat

inductive AM (ρ : Ren) : AV → AV → Prop
  | undef (x : AV) : AM ρ x .undef
  | c (x : PC) : AM ρ (.c x) (.c x)
  | agg (cs cs' : List AV) (hl : cs.length = cs'.length) (h : ∀ (i : Nat) (x y : AV), cs[i]? = some x → cs'[i]? = some y → AM ρ x y) : AM ρ (.agg cs) (.agg cs')
  | nilsl : AM ρ .nilsl .nilsl
  | nilc : AM ρ .nilsl (.c (.sl []))
  | nilo (n z : Nat) (hs : ρ.src n = none) (h : ρ.ph n = some z) : AM ρ .nilsl (.own n z [])
  | own (r n z : Nat) (rows : List (List PC)) (h : ρ.src n = some r) : AM ρ (.own r z rows) (.own n z rows)
  | ownc (r z : Nat) (rows : List (List PC)) : AM ρ (.own r z rows) (.c (.sl rows))
  | ptr (q n off : Nat) (h : ρ.src n = some q) : AM ρ (.ptr q off) (.ptr n off)
  | msl (q n off len : Nat) (ex : Bool) (h : ρ.src n = some q) : AM ρ (.msl q off len ex) (.msl n off len ex)
  | nilptr : AM ρ .nilptr .nilptr
  | rptr (cs : List PC) : AM ρ (.rptr cs) (.rptr cs)
  | clo (f : FuncId) (caps : List (List PC)) : AM ρ (.clo f caps) (.clo f caps)
  | mp (q n : Nat) (h : ρ.src n = some q) : AM ρ (.mp q) (.mp n)
  | nilmp : AM ρ .nilmp .nilmp
  | ubool : AM ρ .ubool .ubool
  | tup (cs cs' : List AV) (hl : cs.length = cs'.length) (h : ∀ (i : Nat) (x y : AV), cs[i]? = some x → cs'[i]? = some y → AM ρ x y) : AM ρ (.tup cs) (.tup cs')

/-- The ghost behind a renaming. -/
def Ren.gh (ρ : Ren) (G : Gh) : Gh := ⟨G.K, fun n => match ρ.src n with | some q => G.h q | none => (ρ.ph n).map fun z => .row z none 0⟩

theorem AM.rel {ρ : Ren} {G : Gh} {x y : AV} (h : AM ρ x y) : ∀ {v : Value}, AR G x v → AR (ρ.gh G) y v := by
  induction h with
  | undef x => exact fun _ => .undef _
  | c x => intro v h; cases h with | c _ _ h => exact .c _ _ h
  | agg cs cs' hl _ ih =>
    intro v h
    cases h with
    | agg _ us hl' hc =>
      refine .agg _ _ (by omega) (fun i y u e1 e2 => ?_)
      have hi : i < cs.length := by have := (List.getElem?_eq_some_iff.1 e1).1; omega
      have hx : cs[i]? = some cs[i] := by simp [hi]
      exact ih i _ y hx e1 (hc i _ u hx e2)
  | nilsl => intro v h; cases h; exact .nilsl
  | nilc => intro v h; cases h; exact .c _ _ .nil
  | nilo n z hs hp =>
    intro v h; cases h
    exact .own n z [] _ none 0 (by simp only [Ren.gh, hs, hp]; rfl) (Nat.le_refl _) (by simp) .nil (fun _ => rfl)
  | own r n z rows hs =>
    intro v h
    cases h with
    | own _ _ _ _ bk fr hh hl hr hv ha => exact .own n z rows v bk fr (by simp only [Ren.gh, hs]; exact hh) hl hr hv ha
  | ownc r z rows => intro v h; cases h with | own _ _ _ _ bk fr hh hl hr hv ha => exact .c _ _ hv
  | ptr q n off hs => intro v h; cases h with | ptr _ _ b hb => exact .ptr n off b (by simp only [Ren.gh, hs]; exact hb)
  | msl q n off len ex hs => intro v h; cases h with | msl _ _ _ b cap _ hb hc he => exact .msl n off len b cap ex (by simp only [Ren.gh, hs]; exact hb) hc he
  | nilptr => intro v h; cases h; exact .nilptr
  | rptr cs => intro v h; cases h with | rptr _ b off hk => exact .rptr cs b off hk
  | clo f caps => intro v h; cases h with | clo _ _ us hl hk => exact .clo f caps us hl hk
  | mp q n hs => intro v h; cases h with | mp _ b hb => exact .mp n b (by simp only [Ren.gh, hs]; exact hb)
  | nilmp => intro v h; cases h; exact .nilmp
  | ubool => intro v h; cases h with | ubool b => exact .ubool b
  | tup cs cs' hl _ ih =>
    intro v h
    cases h with
    | tup _ us hl' hc =>
      refine .tup _ _ (by omega) (fun i y u e1 e2 => ?_)
      have hi : i < cs.length := by have := (List.getElem?_eq_some_iff.1 e1).1; omega
      have hx : cs[i]? = some cs[i] := by simp [hi]
      exact ih i _ y hx e1 (hc i _ u hx e2)

/-- A target's content out of its source's. -/
def CM (ρ : Ren) : Option MC → Option MC → Prop
  | some (.obj cells fz), some (.obj cells' fz') => fz = fz' ∧ cells.length = cells'.length ∧ ∀ (i : Nat) (x y : AV), cells[i]? = some x → cells'[i]? = some y → AM ρ x y
  | some (.row z fr), some (.row z' fr') => z = z' ∧ fr = fr'
  | some (.mp ag es), some (.mp ag' es') => ag = ag' ∧ es = es'
  | _, _ => False

structure RenOK (ρ : Ren) (m m2 : Nat → Option MC) : Prop where
  inj : ∀ n n' q, ρ.src n = some q → ρ.src n' = some q → n = n'
  src : ∀ n q, ρ.src n = some q → CM ρ (m q) (m2 n)
  ph : ∀ n z, ρ.src n = none → ρ.ph n = some z → m2 n = some (.row z 0)
  none : ∀ n, ρ.src n = none → ρ.ph n = none → m2 n = none

theorem elemAV_ren {ρ : Ren} {G : Gh} {ag : Bool} {cs : List PC} {v : Value} (h : AR G (elemAV ag (cs.map .c)) v) : AR (ρ.gh G) (elemAV ag (cs.map .c)) v := by
  cases ag with
  | true =>
    simp only [elemAV, if_true] at h ⊢
    refine AM.rel (ρ := ρ) (.agg _ _ rfl fun i x y e1 e2 => ?_) h
    rw [e1] at e2; cases e2
    simp only [List.getElem?_map, Option.map_eq_some_iff] at e1
    obtain ⟨c, _, rfl⟩ := e1
    exact .c c
  | false =>
    simp only [elemAV, Bool.false_eq_true, if_false] at h ⊢
    cases cs with
    | nil => exact .undef _
    | cons c cs => exact AM.rel (ρ := ρ) (.c c) h

theorem MRel.rename {E : Env} {G : Gh} {m m2 : Nat → Option MC} {w : World} (M : MRel E G m w) {ρ : Ren} (h : RenOK ρ m m2) : MRel E (ρ.gh G) m2 w where
  agree := M.agree
  home n := by
    cases hs : ρ.src n with
    | some q =>
      have hm := h.src n q hs
      have h0 := M.home q
      have hg : (ρ.gh G).h n = G.h q := by simp only [Ren.gh, hs]
      rw [hg]
      generalize m q = c1 at hm h0
      generalize m2 n = c2 at hm
      generalize G.h q = hq at h0
      unfold CM at hm
      split at hm
      · obtain ⟨rfl, hl, hc⟩ := hm
        cases hq with
        | none => exact h0.elim
        | some x =>
          cases x with
          | row => exact h0.elim
          | obj b =>
            obtain ⟨vs, ty, a1, a2, a3, a4, a5, a6⟩ := h0
            refine ⟨vs, ty, a1, by omega, fun i y v e1 e2 => ?_, a4, a5, a6⟩
            rename_i cells fz cells'
            have hi : i < cells.length := by have := (List.getElem?_eq_some_iff.1 e1).1; omega
            have hx : cells[i]? = some cells[i] := by simp [hi]
            exact (hc i _ y hx e1).rel (a3 i _ v hx e2)
      · obtain ⟨rfl, rfl⟩ := hm
        cases hq with
        | none => exact h0.elim
        | some x =>
          cases x with
          | obj => exact h0.elim
          | row z bk fr => exact h0
      · obtain ⟨rfl, rfl⟩ := hm
        cases hq with
        | none => exact h0.elim
        | some x =>
          cases x with
          | row => exact h0.elim
          | obj b =>
            obtain ⟨ms, cl, a1, a2, a3, a4⟩ := h0
            exact ⟨ms, cl, a1, a2, fun i x e q1 q2 => let ⟨b1, b2, b3⟩ := a3 i x e q1 q2; ⟨b1, elemAV_ren b2, b3⟩, a4⟩
      · exact hm.elim
    | none =>
      cases hp : ρ.ph n with
      | some z =>
        rw [h.ph n z hs hp]
        have hg : (ρ.gh G).h n = some (.row z none 0) := by simp only [Ren.gh, hs, hp]; rfl
        rw [hg]
        exact ⟨rfl, rfl, rfl⟩
      | none =>
        rw [h.none n hs hp]
        have hg : (ρ.gh G).h n = none := by simp only [Ren.gh, hs, hp]; rfl
        rw [hg]
        trivial
  inj n n' x y b e1 e2 e3 e4 := by
    cases hs : ρ.src n with
    | none =>
      simp only [Ren.gh, hs] at e1
      cases hp : ρ.ph n with
      | none => rw [hp] at e1; cases e1
      | some z => rw [hp] at e1; cases e1; simp [Home.blk] at e3
    | some q =>
      cases hs' : ρ.src n' with
      | none =>
        simp only [Ren.gh, hs'] at e2
        cases hp : ρ.ph n' with
        | none => rw [hp] at e2; cases e2
        | some z => rw [hp] at e2; cases e2; simp [Home.blk] at e4
      | some q' =>
        simp only [Ren.gh, hs] at e1
        simp only [Ren.gh, hs'] at e2
        have := M.inj q q' x y b e1 e2 e3 e4
        subst this
        exact h.inj n n' q hs hs'
  os := M.os
  tape := M.tape
  output := M.output
  size0 := M.size0
  sizeB := M.sizeB
  blk := M.blk
  k0 := M.k0
  kfr := M.kfr

/-- A callee's view: the world at the call, whatever is named may turn. -/
def callee (G : Gh) (w : World) : Env := cEnv w (fun b => ∃ n h, G.h n = some h ∧ h.blk = some b) G.K

theorem HomeOK.env {E E' : Env} {G : Gh} {w : World} {c : Option MC} {h : Option Home} (hh : HomeOK E G w c h) (hm : ∀ x b, h = some x → x.blk = some b → E'.mine b) : HomeOK E' G w c h := by
  cases h with
  | none => cases c with | none => trivial | some c => cases c <;> exact hh.elim
  | some h =>
    cases c with
    | none => exact hh.elim
    | some c =>
      cases c with
      | obj cells fz =>
        cases h with
        | row => exact hh.elim
        | obj b => obtain ⟨vs, ty, a1, a2, a3, a4, a5, a6⟩ := hh; exact ⟨vs, ty, a1, a2, a3, hm _ b rfl rfl, a5, a6⟩
      | row z fr =>
        cases h with
        | obj => exact hh.elim
        | row z' bk fr' =>
          obtain ⟨e1, e2, hr⟩ := hh
          refine ⟨e1, e2, ?_⟩
          cases bk with
          | none => exact hr
          | some p => obtain ⟨b, cap⟩ := p; obtain ⟨vs, ty, a1, a2, a3, a4, a5, a6⟩ := hr; exact ⟨vs, ty, a1, a2, a3, a4, hm _ b rfl rfl, a6⟩
      | mp ag es =>
        cases h with
        | row => exact hh.elim
        | obj b => obtain ⟨ms, cl, a1, a2, a3, a4⟩ := hh; exact ⟨ms, cl, a1, a2, a3, hm _ b rfl rfl⟩

theorem MRel.focus {E : Env} {G : Gh} {m : Nat → Option MC} {w : World} (M : MRel E G m w) : MRel (callee G w) G m w where
  agree := M.agree
  home n := (M.home n).env fun x b e1 e2 => .inr ⟨n, x, e1, e2⟩
  inj := M.inj
  os := rfl
  tape := rfl
  output := rfl
  size0 := Nat.le_refl _
  sizeB := Nat.le_refl _
  blk _ _ _ := rfl
  k0 := Know.le_refl _
  kfr _ _ _ _ := rfl


/-- Behind a call: what was named has turned, all else lies as it lay. -/
theorem MRel.merge {E : Env} {G : Gh} {m : Nat → Option MC} {w : World} (M : MRel E G m w) {Ext : Nat → Prop} {G' : Gh} {m' : Nat → Option MC} {w' : World}
    (M' : MRel (cEnv w Ext G.K) G' m' w') (hext : ∀ b, Ext b → ∃ n h, G.h n = some h ∧ h.blk = some b ∧ m' n ≠ none)
    (hle : ∀ n h, G.h n = some h → m' n ≠ none → ∃ h', G'.h n = some h' ∧ Home.le h h') :
    let G2 : Gh := ⟨G'.K, fun n => match m' n with | some _ => G'.h n | none => G.h n⟩
    G.le G2 ∧ G'.le G2 ∧ MRel E G2 (fun n => match m' n with | some c => some c | none => m n) w' := by
  intro G2
  have hnone : ∀ n, m' n = none → G'.h n = none := fun n h => by have := M'.home n; rw [h] at this; exact this.none_of
  have ht : ∀ n, m' n ≠ none → G2.h n = G'.h n := fun n h => by
    show (match m' n with | some _ => G'.h n | none => G.h n) = _
    cases hm : m' n with
    | none => exact absurd hm h
    | some c => rfl
  have hu : ∀ n, m' n = none → G2.h n = G.h n := fun n h => by
    show (match m' n with | some _ => G'.h n | none => G.h n) = _
    rw [h]
  have l1 : G.le G2 := ⟨M'.k0, fun n h e => by
    by_cases hm : m' n = none
    · exact ⟨h, (hu n hm).trans e, Home.le_refl h⟩
    · obtain ⟨h', e', l⟩ := hle n h e hm
      exact ⟨h', (ht n hm).trans e', l⟩⟩
  have l2 : G'.le G2 := ⟨Know.le_refl _, fun n h e => by
    by_cases hm : m' n = none
    · rw [hnone n hm] at e; cases e
    · exact ⟨h, (ht n hm).trans e, Home.le_refl h⟩⟩
  have hmine : ∀ b, (cEnv w Ext G.K).mine b → E.mine b := fun b hb => by
    rcases hb with h | h
    · exact .inl (Nat.le_trans M.sizeB h)
    · obtain ⟨n, x, e1, e2, _⟩ := hext b h
      exact (e1 ▸ M.home n).mine e2
  have hnext : ∀ n x b, m' n = none → G.h n = some x → x.blk = some b → ¬ Ext b := fun n x b hm e1 e2 he => by
    obtain ⟨n', x', e3, e4, h⟩ := hext b he
    have := M.inj n n' x x' b e1 e3 e2 e4
    subst this
    exact h hm
  have hold : ∀ n x b, m' n = none → G.h n = some x → x.blk = some b → w'.heap[b]? = w.heap[b]? ∧ ∀ o, G'.K b o = G.K b o := fun n x b hm e1 e2 => by
    have hlt := (e1 ▸ M.home n).lt e2
    have hn := hnext n x b hm e1 e2
    exact ⟨M'.blk b hlt hn, fun o => M'.kfr b o hlt hn⟩
  refine ⟨l1, l2, M'.agree, fun n => ?_, fun i j x y b e1 e2 e3 e4 => ?_, M'.os.trans M.os, M'.tape.trans M.tape, M'.output.trans M.output, Nat.le_trans M.size0 M'.sizeB, Nat.le_trans M.sizeB M'.sizeB, ?_, Know.le_trans M.k0 M'.k0, ?_⟩
  · by_cases hm : m' n = none
    · rw [hu n hm, hm]
      exact (M.home n).keep l1 fun x b e1 e2 => hold n x b hm e1 e2
    · rw [ht n hm]
      have h0 := M'.home n
      have : (match m' n with | some c => some c | none => m n) = m' n := by
        cases hq : m' n with
        | none => exact absurd hq hm
        | some c => rfl
      rw [this]
      exact (h0.keep l2 fun _ _ _ _ => ⟨rfl, fun _ => rfl⟩).env fun x b e1 e2 => hmine b ((e1 ▸ h0).mine e2)
  · have cross : ∀ i j x y b, m' i ≠ none → m' j = none → G'.h i = some x → G.h j = some y → x.blk = some b → y.blk = some b → False := fun i j x y b h1 h2 e1 e2 e3 e4 => by
      have hlt := (e2 ▸ M.home j).lt e4
      rcases (e1 ▸ M'.home i).mine e3 with h | h
      · have h' : w.heap.size ≤ b := h
        omega
      · exact hnext j y b h2 e2 e4 h
    by_cases hi : m' i = none
    · rw [hu i hi] at e1
      by_cases hj : m' j = none
      · rw [hu j hj] at e2; exact M.inj i j x y b e1 e2 e3 e4
      · rw [ht j hj] at e2; exact (cross j i y x b hj hi e2 e1 e4 e3).elim
    · rw [ht i hi] at e1
      by_cases hj : m' j = none
      · rw [hu j hj] at e2; exact (cross i j x y b hi hj e1 e2 e3 e4).elim
      · rw [ht j hj] at e2; exact M'.inj i j x y b e1 e2 e3 e4
  · intro k hk hx
    have hsz := M.sizeB
    refine (M'.blk k (by show k < w.heap.size; omega) ?_).trans (M.blk k hk hx)
    intro he
    obtain ⟨n, x, e1, e2, _⟩ := hext k he
    rcases (e1 ▸ M.home n).mine e2 with h | h
    · omega
    · exact hx h
  · intro b o hb hx
    have hsz := M.sizeB
    refine (M'.kfr b o (by show b < w.heap.size; omega) ?_).trans (M.kfr b o hb hx)
    intro he
    obtain ⟨n, x, e1, e2, _⟩ := hext b he
    rcases (e1 ▸ M.home n).mine e2 with h | h
    · omega
    · exact hx h

end Go.Proofs.Ytldehcnaepgamaa.AM
