/-
  Q2: Am5 Am6 Am7 Am8 Am9.
-/
import Derived.Test.YtcfijanfcgnnhaaDoorQ1
import Derived.Laws.AppendOwn
import Derived.Laws.MakeOwn
import Derived.MapKept
set_option linter.unusedVariables false
set_option linter.unusedSimpArgs false
namespace Go.Proofs.YtcfijanfcgnnhaaDoor.AM
open Go

section
variable {P : Program} {E : Env} {G : Gh} {s : AS} {a : Act} {w : World} {o : Oper} {next : Act → World → Prop} {Q : Exit → Act → World → Prop}

theorem PC.one {K : Know} {c : PC} {v : Value} (h : VR K c v) : v.oneCell' = true := by cases h <;> rfl

/-- A row's cells, one behind the other. -/
theorem flat_rows {K : Know} {z : Nat} : ∀ {rows : List (List PC)} {us : List Value}, (∀ r ∈ rows, r.length = z) → us.length = rows.length * z →
    (∀ (j : Nat) (r : List PC) (i : Nat) (c : PC), rows[j]? = some r → r[i]? = some c → ∃ v, us[j * z + i]? = some v ∧ VR K c v) → 0 < z → ∀ u ∈ us, ∃ c, VR K c u := by
  intro rows us hz hl h h0 u hu
  obtain ⟨k, hk⟩ := List.mem_iff_getElem?.1 hu
  have hkl : k < us.length := (List.getElem?_eq_some_iff.1 hk).1
  have hj : k / z < rows.length := by rw [Nat.div_lt_iff_lt_mul h0]; omega
  have hi : k % z < z := Nat.mod_lt _ h0
  have hrz : rows[k / z].length = z := hz _ (List.getElem_mem hj)
  obtain ⟨v, h1, h2⟩ := h (k / z) rows[k / z] (k % z) (rows[k / z]'hj)[k % z] (by simp [hj]) (by simp)
  have e : k / z * z + k % z = k := by rw [Nat.mul_comm]; exact Nat.div_add_mod k z
  rw [e, hk] at h1
  cases h1
  exact ⟨_, h2⟩

/-- What append adds, read in whatever world holds what is known. -/
theorem added_run {t : TypeId} {x : AV} {v : Value} {ys : List (List PC)} {z : Nat} (hx : AR G x v) (h : addedE P t x = some ys) (hz : rowsOK z ys) (h0 : 0 < z) (hstr : ∀ str, x = .c (.str str) → z = 1) :
    (P.underlying t = some .string ∨ ∃ e, P.underlying t = some (.slice e)) ∧ (∀ w : World, (Builtin.lenOf v).run P w = .ok ys.length w) ∧
    ∃ news : List Value, news.length = ys.length * z ∧ (∀ (j : Nat) (r : List PC) (i : Nat) (c : PC), ys[j]? = some r → r[i]? = some c → ∃ u, news[j * z + i]? = some u ∧ VR G.K c u) ∧
      ∀ w : World, (∀ b o v, G.K b o = some v → w.cell? ⟨b, o, none⟩ = some v) → (Builtin.firstCells z ys.length v).run P w = .ok news.toArray w := by
  unfold addedE at h
  split at h
  · rename_i str
    have hz1 : z = 1 := hstr str rfl
    subst hz1
    cases hx.str_inv
    split at h
    · rename_i ht
      cases h
      refine ⟨.inl (tyStr_run ht), fun w => by simp [Builtin.lenOf, bytes, ByteArray.size], str.map (fun b => Value.int .u8 b.toNat), by simp [bytes], ?_, ?_⟩
      · intro j r i c hj hi
        obtain ⟨rfl, b, hb, rfl⟩ := bytes_of_string G str j r i c hj hi
        exact ⟨.int .u8 b.toNat, by simp [hb], .int _ _⟩
      · intro w _
        have e : (ByteArray.mk str.toArray).extract 0 (bytes str).length = ByteArray.mk str.toArray := by
          have := str_extract str 0 (bytes str).length (Nat.zero_le _) (by simp [bytes])
          rw [this]; simp [bytes]
        simp [Builtin.firstCells, e]
    · cases h
  · split at h
    · rename_i e he
      have hv := hx.rows h
      refine ⟨.inr ⟨e, tyElem_run he⟩, ?_, ?_⟩
      · intro w
        rcases hv.slice_inv with ⟨rfl, _, _, rfl, _⟩ | ⟨_, _, _, _, rfl, _⟩ <;> simp [Builtin.lenOf]
      · rcases hv.slice_inv with ⟨rfl, A, cap, rfl, hA⟩ | ⟨z', b, off, cap, rfl, hc, hs⟩
        · cases A with
          | none => exact ⟨[], by simp, by simp, fun w _ => by simp [Builtin.firstCells, hA rfl]⟩
          | some a0 =>
            refine ⟨[], by simp, by simp, fun w _ => ?_⟩
            exact run_firstCells_some (P := P) w z 0 _ _ _ [] (by simp) (by simp)
        · cases hys : ys with
          | nil =>
            refine ⟨[], by simp, by simp, fun w _ => ?_⟩
            exact run_firstCells_some (P := P) w z 0 _ _ _ [] (by simp) (by simp)
          | cons r0 rs =>
            rw [← hys]
            have hz' : z' = z := by
              rw [← hs.1 r0 (by simp [hys])]; exact hz r0 (by simp [hys])
            subst hz'
            let news : List Value := (List.range (ys.length * z')).map fun k => (G.K b (off + k)).getD (.bool false)
            have hnews : ∀ (j : Nat) (r : List PC) (i : Nat) (c : PC), ys[j]? = some r → r[i]? = some c → ∃ u, news[j * z' + i]? = some u ∧ VR G.K c u ∧ G.K b (off + (j * z' + i)) = some u := by
              intro j r i c hj hi
              obtain ⟨u, h1, h2⟩ := hs.2 j r hj i c hi
              have hjl : j < ys.length := (List.getElem?_eq_some_iff.1 hj).1
              have hil : i < z' := by
                have := (List.getElem?_eq_some_iff.1 hi).1
                rw [hz r (List.mem_of_getElem? hj)] at this; exact this
              have hlt : j * z' + i < ys.length * z' := by
                have h3 : j * z' + z' ≤ ys.length * z' := by rw [← Nat.succ_mul]; exact Nat.mul_le_mul_right z' hjl
                omega
              rw [Nat.add_assoc] at h1
              exact ⟨u, by simp [news, hlt, h1], h2, h1⟩
            refine ⟨news, by simp [news], fun j r i c hj hi => let ⟨u, h1, h2, _⟩ := hnews j r i c hj hi; ⟨u, h1, h2⟩, fun w hw => ?_⟩
            refine run_firstCells_some (P := P) w z' ys.length _ _ _ news (by simp [news]) ?_
            intro k u hk
            have hkl : k < ys.length * z' := by have := (List.getElem?_eq_some_iff.1 hk).1; simpa [news] using this
            have hj : k / z' < ys.length := by rw [Nat.div_lt_iff_lt_mul h0]; omega
            have hi : k % z' < z' := Nat.mod_lt _ h0
            have hrz : ys[k / z'].length = z' := hz _ (List.getElem_mem hj)
            obtain ⟨u', h1, _, h3⟩ := hnews (k / z') ys[k / z'] (k % z') (ys[k / z']'hj)[k % z'] (by simp [hj]) (by simp)
            have e : k / z' * z' + k % z' = k := by rw [Nat.mul_comm]; exact Nat.div_add_mod k z'
            rw [e] at h1 h3
            rw [hk] at h1
            cases h1
            rw [add_at]
            exact hw _ _ _ h3
    · cases h


theorem seg_rows {K : Know} {z : Nat} {rows ys : List (List PC)} {A B C : List Value} (hA : A.length = rows.length * z) (hz : ∀ r ∈ rows, r.length = z) (hzy : ∀ r ∈ ys, r.length = z)
    (h1 : ∀ (j : Nat) (r : List PC) (i : Nat) (c : PC), rows[j]? = some r → r[i]? = some c → ∃ v, A[j * z + i]? = some v ∧ VR K c v)
    (h2 : ∀ (j : Nat) (r : List PC) (i : Nat) (c : PC), ys[j]? = some r → r[i]? = some c → ∃ v, B[j * z + i]? = some v ∧ VR K c v) :
    ∀ (j : Nat) (r : List PC) (i : Nat) (c : PC), (rows ++ ys)[j]? = some r → r[i]? = some c → ∃ v, (A ++ B ++ C)[j * z + i]? = some v ∧ VR K c v := by
  intro j r i c hj hi
  rcases Nat.lt_or_ge j rows.length with h | h
  · rw [List.getElem?_append_left h] at hj
    obtain ⟨v, e, hv⟩ := h1 j r i c hj hi
    have := (List.getElem?_eq_some_iff.1 e).1
    exact ⟨v, by rw [List.append_assoc, List.getElem?_append_left this]; exact e, hv⟩
  · rw [List.getElem?_append_right h] at hj
    obtain ⟨v, e, hv⟩ := h2 _ r i c hj hi
    have hlt := (List.getElem?_eq_some_iff.1 e).1
    have e2 : j * z + i - A.length = (j - rows.length) * z + i := by
      rw [hA, Nat.sub_mul]
      have : rows.length * z ≤ j * z := Nat.mul_le_mul_right z h
      omega
    have hge : A.length ≤ j * z + i := by
      rw [hA]
      have : rows.length * z ≤ j * z := Nat.mul_le_mul_right z h
      omega
    exact ⟨v, by rw [List.append_assoc, List.getElem?_append_right hge, e2, List.getElem?_append_left hlt]; exact e, hv⟩

theorem heap_push_old (w : World) (d : Nat) (c : Obj) (b : Nat) (hb : b < w.heap.size) : ({ w with heap := w.heap.push c, drawn := d } : World).heap[b]? = w.heap[b]? := by
  show (w.heap.push _)[b]? = _
  rw [Array.getElem?_push, if_neg (by omega)]

/-- Growing: the run. -/
theorem grow_run {st xt ty e : TypeId} {i : TypeInfo} {zv : Value} {z by_ n m cap : Nat} {A : Option Addr} {x : Value} {olds news : List Value}
    (ht : P.underlying st = some (.slice e)) (hx : P.underlying xt = some .string ∨ ∃ e, P.underlying xt = some (.slice e)) (hi : P.info? e = some i) (hz : i.size = z) (hb : i.bytes = by_) (hzero : i.zero = some zv)
    (hb0 : 0 < by_) (hlen : ∀ w : World, (Builtin.lenOf x).run P w = .ok m w) (hgrow : cap < n + m) (hfit : (n + m) * by_ ≤ 140737488355328)
    (hold : (Builtin.firstCells z n (.slice A n cap)).run P w.drew = .ok olds.toArray w.drew) (hnew : (Builtin.firstCells z m x).run P w.drew = .ok news.toArray w.drew) :
    (Builtin.append_ #[st, xt] ty #[.slice A n cap, x]).run P w =
      .ok (.slice (some ⟨w.heap.size, 0, none⟩) (n + m) (grownCap w (n + m) cap e)) (w.drew.alloc (.cells (olds.toArray ++ news.toArray ++ Builtin.zeroCells zv.cells (grownCap w (n + m) cap e - (n + m))) e)) := by
  have h1 : ¬ (n + m ≤ cap) := by omega
  have h2 : ¬ (Builtin.nextslicecap (n + m) cap * by_ > 281474976710656) := by have := growslice_fits hgrow hfit; omega
  have h3 : by_ ≠ 0 := by omega
  rcases hx with hx | ⟨e', hx⟩
  all_goals
    simp [Builtin.append_, run_underlying ht, run_underlying hx, sizeOf, typeInfo, hi, hz, hb, hlen, h1, h2, h3, Question.forced, newRow, zeroValue, hzero]
    have hc : (Question.appendCap (n + m) cap e).cut (w.tape w.drawn (.appendCap (n + m) cap e)) = grownCap w (n + m) cap e := rfl
    simp [hold, hnew, hc]
    congr 2
    rw [← Array.append_assoc]
    simp


theorem storeCells_fr (P : Program) (g o : Nat) (t : TypeId) (p : Nat × Nat) (n : Nat) (hp : FrOK n p) : ∀ (vs : List Value) (i : Nat) (cur : Array Value) (w : World), cur.size = n → w.heap[g]? = some (.cells cur t p) → o + i + vs.length ≤ cur.size → (∀ v ∈ vs, v.oneCell' = true) →
    (storeCells ⟨g, o, none⟩ vs i).run P w = .ok () (w.setRow g (cur.toList.take (o + i) ++ vs ++ cur.toList.drop (o + i + vs.length)).toArray)
  | [], i, cur, w, hn, hg, _, _ => by
    simp only [storeCells, List.append_nil, List.length_nil, Nat.add_zero, List.take_append_drop, Array.toArray_toList]
    rw [setRow_self w g cur t p hg]
    rfl
  | v :: rest, i, cur, w, hn, hg, hl, h1 => by
    have hi : o + i < cur.size := by simp at hl; omega
    have hadd : (⟨g, o, none⟩ : Addr).add i = ⟨g, o + i, none⟩ := by unfold Addr.add; split <;> simp_all
    have hcell : w.cell? ⟨g, o + i, none⟩ = some cur[o + i] := by simp [World.cell?, hg, hi]
    have hfro : w.frozen? ⟨g, o + i, none⟩ = false := by
      rcases hp with rfl | rfl
      · simp [World.frozen?, hg]
      · simp only [World.frozen?, hg, Bool.and_eq_false_iff, decide_eq_false_iff_not]
        left; omega
    have hst : (store ((⟨g, o, none⟩ : Addr).add i) v).run P w = .ok () (w.setRow g (cur.setIfInBounds (o + i) v)) := by
      rw [hadd, run_store P w _ v _ (h1 v (by simp)), hcell]
      simp [hfro, setCell_eq_setRow w g (o + i) cur t p v hg]
    have ih := storeCells_fr P g o t p n hp rest (i + 1) (cur.setIfInBounds (o + i) v) (w.setRow g (cur.setIfInBounds (o + i) v)) (by simpa using hn) (setRow_heap w g cur _ t _ hg) (by simp at hl ⊢; omega) (fun x hx => h1 x (by simp [hx]))
    simp only [storeCells, Sem.run_bind, hst, Result.andThen_ok, ih, setRow_setRow]
    congr 3
    have e := list_seg_step cur.toList (o + i) v rest (by simp at hl ⊢; omega)
    simpa [Array.toList_setIfInBounds, Nat.add_assoc] using e

theorem room_run {pq : Nat × Nat} {st xt ty e et : TypeId} {i : TypeInfo} {z n m cap b : Nat} {x : Value} {news : List Value} {cur : Array Value}
    (ht : P.underlying st = some (.slice e)) (hx : P.underlying xt = some .string ∨ ∃ e, P.underlying xt = some (.slice e)) (hi : P.info? e = some i) (hz : i.size = z)
    (hlen : ∀ w : World, (Builtin.lenOf x).run P w = .ok m w) (hroom : n + m ≤ cap) (hsz : cur.size = cap * z) (hnl : news.length = m * z)
    (hcur : w.heap[b]? = some (.cells cur et pq)) (hfz : FrOK cur.size pq) (hone : ∀ u ∈ news, u.oneCell' = true)
    (hnew : (Builtin.firstCells z m x).run P w = .ok news.toArray w) :
    (Builtin.append_ #[st, xt] ty #[.slice (some ⟨b, 0, none⟩) n cap, x]).run P w =
      .ok (.slice (some ⟨b, 0, none⟩) (n + m) cap) (w.setRow b (cur.toList.take (n * z) ++ news ++ cur.toList.drop (n * z + news.length)).toArray) := by
  have hfit : n * z + news.length ≤ cur.size := by rw [hnl, hsz, ← Nat.add_mul]; exact Nat.mul_le_mul_right z hroom
  have hst := storeCells_fr P b (n * z) et pq cur.size hfz news 0 cur w rfl hcur (by simpa using hfit) hone
  simp only [Nat.add_zero] at hst
  rcases hx with hx | ⟨e', hx⟩
  all_goals
    simp [Builtin.append_, run_underlying ht, run_underlying hx, sizeOf, typeInfo, hi, hz, hlen, hroom, hnew, add_at, hst]

theorem chunks_length (z : Nat) : ∀ (n : Nat) (l : List PC), (chunks z n l).length = n
  | 0, l => rfl
  | n + 1, l => by simp [chunks, chunks_length z n]
theorem chunks_get (z : Nat) : ∀ (n : Nat) (l : List PC) (j : Nat) (r : List PC), (chunks z n l)[j]? = some r → r = (l.drop (j * z)).take z
  | 0, l, j, r, h => by simp [chunks] at h
  | n + 1, l, 0, r, h => by simp [chunks] at h; simp [h]
  | n + 1, l, j + 1, r, h => by
    simp only [chunks, List.getElem?_cons_succ] at h
    have := chunks_get z n (l.drop z) j r h
    rw [this, List.drop_drop, Nat.add_mul, Nat.one_mul, Nat.add_comm]

theorem flatten_len {z : Nat} : ∀ {ys : List (List PC)}, (∀ r ∈ ys, r.length = z) → ys.flatten.length = ys.length * z
  | [], _ => by simp
  | r :: ys, h => by
    rw [List.flatten_cons, List.length_append, h r (by simp), flatten_len (fun x hx => h x (by simp [hx])), List.length_cons, Nat.succ_mul]
    omega
theorem flatten_at {z : Nat} (h0 : 0 < z) : ∀ {ys : List (List PC)}, (∀ r ∈ ys, r.length = z) → ∀ (i : Nat) (c : PC), ys.flatten[i]? = some c → ∃ r, ys[i / z]? = some r ∧ r[i % z]? = some c
  | [], _, i, c, h => by simp at h
  | r :: ys, hz, i, c, h => by
    have hr : r.length = z := hz r (by simp)
    rw [List.flatten_cons] at h
    rcases Nat.lt_or_ge i z with hi | hi
    · rw [List.getElem?_append_left (by omega)] at h
      exact ⟨r, by rw [Nat.div_eq_of_lt hi]; rfl, by rw [Nat.mod_eq_of_lt hi]; exact h⟩
    · rw [List.getElem?_append_right (by omega), hr] at h
      obtain ⟨q, h1, h2⟩ := flatten_at h0 (fun x hx => hz x (by simp [hx])) (i - z) c h
      refine ⟨q, ?_, by rw [Nat.mod_eq_sub_mod hi]; exact h2⟩
      have : i / z = (i - z) / z + 1 := by rw [Nat.div_eq_sub_div h0 hi]
      rw [this]
      exact h1

/-- Append to nothing that has no room. -/
theorem sound_appendM (R : Rel E G s a w) {st xt el : TypeId} {i : TypeInfo} {zv : Value} {z by_ len b off cap : Nat} {ex : Bool} {v : Value} {d : Nat} {ty : TypeId} {ys : List (List PC)} {news : List Value}
    (hex0 : ex = true → cap = len)
    (hexec : ∀ {r w'}, (Builtin.append_ #[st, xt] ty #[.slice (some ⟨b, off, none⟩) len cap, v]).run P w = .ok r w' → (execOp a.eval o).run P w = .ok (.value r) w')
    (hst : P.underlying st = some (.slice el)) (hxt : P.underlying xt = some .string ∨ ∃ e, P.underlying xt = some (.slice e)) (hi : P.info? el = some i) (hisz : i.size = z) (hiby : i.bytes = by_) (hzv : i.zero = some zv) (hzcs : zv.cells.size = z)
    (c0 : 0 < z) (cb0 : 0 < by_) (crows : ∀ r ∈ ys, r.length = z) (hlen : ∀ w : World, (Builtin.lenOf v).run P w = .ok ys.length w) (hnl : news.length = ys.length * z)
    (hnv : ∀ (j : Nat) (r : List PC) (i : Nat) (c : PC), ys[j]? = some r → r[i]? = some c → ∃ u, news[j * z + i]? = some u ∧ VR G.K c u)
    (hnw : (Builtin.firstCells z ys.length v).run P w = .ok news.toArray w) (hnd : (Builtin.firstCells z ys.length v).run P w.drew = .ok news.toArray w.drew)
    {e : Eff} {l : List Nat} (h : (appendM d z by_ ys len ex).run s.mem = some (e, l)) (K : Post E G s o e a next) : o.wp P a w next Q := by
  unfold appendM at h
  split at h
  · rename_i hc
    obtain ⟨rfl, rfl, hfit⟩ := hc
    have hcap := hex0 rfl
    subst hcap
    rcases Nat.eq_zero_or_pos ys.length with h0 | hp
    · have hys : ys = [] := List.length_eq_zero_iff.1 h0
      subst hys
      rw [show decide (0 < ([] : List (List PC)).length) = false from rfl] at h
      obtain ⟨rfl, _⟩ := EP.ret_inv h
      have h1 := hlen w
      have hn0 : news = [] := List.length_eq_zero_iff.1 (by simpa using hnl)
      subst hn0
      refine sound_val R (v := .slice (some ⟨b, off, none⟩) 0 0) (hexec ?_) (.c _ _ (.at0 _ _)) K
      rcases hxt with hx | ⟨e', hx⟩ <;> simp [Builtin.append_, run_underlying hst, run_underlying hx, sizeOf, typeInfo, hi, h1, hnw, storeCells]
      all_goals (simp [hisz] at hnw ⊢; simp [hnw, storeCells])
    · rw [decide_eq_true hp] at h
      have hold : (Builtin.firstCells z 0 (.slice (some ⟨b, off, none⟩) 0 0)).run P w.drew = .ok ([] : List Value).toArray w.drew := run_firstCells_some (P := P) w.drew z 0 _ _ _ [] (by simp) (by simp)
      have hrun := hexec (grow_run (P := P) (w := w) (ty := ty) (A := some ⟨b, off, none⟩) (n := 0) (m := ys.length) (cap := 0) (olds := []) (news := news) (x := v) hst hxt hi hisz hiby hzv cb0 hlen (by omega) (by simpa using hfit) hold hnd)
      have hge := grownCap_ge w ys.length 0 el
      simp only [Nat.zero_add] at hrun
      refine sound_newLoose R (h : (newLooseE (objName d) ys.length (ys.flatten.map .c)).run s.mem = some (e, l)) hrun hge ?_ ?_ K
      · rw [List.length_map, flatten_len crows]
        simp only [Array.size_append, List.size_toArray, List.length_nil, Nat.zero_add, hnl]
        omega
      · intro i x u e1 e2
        rw [List.getElem?_map] at e1
        obtain ⟨c, hc, rfl⟩ := Option.map_eq_some_iff.1 e1
        obtain ⟨r, r1, r2⟩ := flatten_at c0 crows i c hc
        obtain ⟨q, q1, q2⟩ := hnv _ r _ c r1 r2
        have e3 : i / z * z + i % z = i := by rw [Nat.mul_comm]; exact Nat.div_add_mod i z
        rw [e3] at q1
        have hlt := (List.getElem?_eq_some_iff.1 q1).1
        rw [Array.getElem?_append_left (by simpa using hlt)] at e2
        have : news[i]? = some u := by simpa using e2
        rw [q1] at this
        cases this
        exact .c _ _ q2
  · exact EP.fail_inv h

theorem sound_appendX (R : Rel E G s a w) {st xt el : TypeId} {x y : AV} {u v : Value} {d : Nat} {ty : TypeId} (hst : P.underlying st = some (.slice el)) (hux : AR G x u) (hvy : AR G y v)
    (hexec : ∀ {r w'}, (Builtin.append_ #[st, xt] ty #[u, v]).run P w = .ok r w' → (execOp a.eval o).run P w = .ok (.value r) w')
    {e : Eff} {l : List Nat} (h : (appendX P d el xt x y).run s.mem = some (e, l)) (K : Post E G s o e a next) : o.wp P a w next Q := by
  unfold appendX at h
  split at h
  · rename_i n0 off0 len ex n off len' ex'
    split at h
    · rename_i e' z by_ zero he' hz hby hzero
      split at h
      · rename_i hc
        obtain ⟨c0, cb0, czl⟩ := hc
        obtain ⟨l', h, _⟩ := EP.ask_inv h
        split at h
        · rename_i cells fz hm
          split at h
          · rename_i hle
            split at h
            · rename_i cs hcs
              obtain ⟨i, zv, hi, hzv, hzl, _⟩ := zero_rel G hzero
              have hisz : i.size = z := by obtain ⟨i', h1, h2⟩ := tySize_info hz; rw [hi] at h1; cases h1; exact h2
              have hiby : i.bytes = by_ := by obtain ⟨i', h1, h2⟩ := tyBytes_info hby; rw [hi] at h1; cases h1; exact h2
              cases hux with
              | msl _ _ _ b0 cap0 _ hb0 hcap0 he0 =>
              cases hvy with
              | msl _ _ _ b cap _ hb hcap he =>
              have h0 := R.mem.home n
              rw [hm, hb] at h0
              obtain ⟨vs, ty', a1, a2, a3, _⟩ := h0
              obtain ⟨t1, t2⟩ := toPCs_spec hcs
              have hcl : cs.length = len' * z := by rw [← t1]; simp; omega
              have hcz : ∀ r ∈ chunks z len' cs, r.length = z := fun r hr => by
                obtain ⟨j, hj⟩ := List.mem_iff_getElem?.1 hr
                have hjl : j < len' := by have := (List.getElem?_eq_some_iff.1 hj).1; rwa [chunks_length] at this
                have := chunks_get _ _ _ _ _ hj
                have h3 : j * z + z ≤ len' * z := by rw [← Nat.succ_mul]; exact Nat.mul_le_mul_right z hjl
                rw [this]; simp; omega
              have hnews : ((vs.toList.drop off).take (len' * z)).length = len' * z := by simp; omega
              have hfc : ∀ w1 : World, w1.heap = w.heap → (Builtin.firstCells z len' (.slice (some ⟨b, off, none⟩) len' cap)).run P w1 = .ok ((vs.toList.drop off).take (len' * z)).toArray w1 := fun w1 hw1 =>
                run_firstCells_some (P := P) w1 z len' _ _ _ _ hnews (fun j u hj => by
                  rw [add_at]
                  simp only [World.cell?, hw1, a1]
                  rw [List.getElem?_take] at hj
                  split at hj
                  · rw [List.getElem?_drop] at hj
                    simpa using hj
                  · cases hj)
              refine sound_appendM (ys := chunks z len' cs) (news := (vs.toList.drop off).take (len' * z)) R he0 hexec hst (.inr ⟨e', tyElem_run he'⟩) hi hisz hiby hzv (by omega) c0 cb0 hcz ?_ ?_ ?_ ?_ ?_ h K
              · intro w1; simp [Builtin.lenOf, chunks_length]
              · rw [hnews, chunks_length]
              · intro j r i c hj hi
                have hjl : j < len' := by have := (List.getElem?_eq_some_iff.1 hj).1; rwa [chunks_length] at this
                have hr := chunks_get _ _ _ _ _ hj
                have h3 : j * z + z ≤ len' * z := by rw [← Nat.succ_mul]; exact Nat.mul_le_mul_right z hjl
                rw [hr, List.getElem?_take] at hi
                split at hi
                · rename_i hiz
                  rw [List.getElem?_drop] at hi
                  have hk : j * z + i < len' * z := by omega
                  have hvl : off + (j * z + i) < vs.size := by omega
                  have hcl2 : off + (j * z + i) < cells.length := by omega
                  have hx : ((cells.drop off).take (len' * z))[j * z + i]? = some cells[off + (j * z + i)] := by
                    rw [List.getElem?_take, if_pos hk, List.getElem?_drop]; simp [hcl2]
                  refine ⟨vs[off + (j * z + i)], by rw [List.getElem?_take, if_pos hk, List.getElem?_drop]; simp [hvl], ?_⟩
                  exact (a3 (off + (j * z + i)) _ _ (by simp [hcl2]) (by simp [hvl])).toPC (t2 _ _ c hx hi)
                · cases hi
              · rw [chunks_length]; exact hfc w rfl
              · rw [chunks_length]; exact hfc w.drew rfl
            · exact EP.fail_inv h
          · exact EP.fail_inv h
        · exact EP.fail_inv h
      · exact EP.fail_inv h
    · exact EP.fail_inv h
  · exact EP.fail_inv h

theorem sound_append (R : Rel E G s a w) {st xt : TypeId} {x y : AV} {u v : Value} {d : Nat} {ty : TypeId} (hux : AR G x u) (hvy : AR G y v)
    (hexec : ∀ {r w'}, (Builtin.append_ #[st, xt] ty #[u, v]).run P w = .ok r w' → (execOp a.eval o).run P w = .ok (.value r) w')
    {e : Eff} {l : List Nat} (h : (appendE P d st xt x y).run s.mem = some (e, l)) (K : Post E G s o e a next) : o.wp P a w next Q := by
  unfold appendE at h
  split at h
  · rename_i el ys hel hys
    split at h
    · rename_i z by_ zero hz hby hzero
      split at h
      · rename_i hc
        obtain ⟨c0, cb0, czl, crows, cstr⟩ := hc
        obtain ⟨i, zv, hi, hzv, hzl, _⟩ := zero_rel G hzero
        have hisz : i.size = z := by obtain ⟨i', h1, h2⟩ := tySize_info hz; rw [hi] at h1; cases h1; exact h2
        have hiby : i.bytes = by_ := by obtain ⟨i', h1, h2⟩ := tyBytes_info hby; rw [hi] at h1; cases h1; exact h2
        have hzcs : zv.cells.size = z := by omega
        obtain ⟨hxt, hlen, news, hnl, hnv, hnrun⟩ := added_run (P := P) hvy hys crows c0 (fun str e => by subst e; simpa [strz] using cstr)
        have hnewsone : ∀ u ∈ news, u.oneCell' = true := fun u hu => by
          obtain ⟨c, hc⟩ := flat_rows (K := G.K) crows hnl hnv c0 u hu
          exact PC.one hc
        have hst := tyElem_run hel
        have agd : ∀ b o v, G.K b o = some v → w.drew.cell? ⟨b, o, none⟩ = some v := R.mem.agree
        -- growing out of nothing
        have fromNil : ∀ (nm : Nat), u = .slice none 0 0 → (0 < ys.length → ys.length * by_ ≤ 140737488355328) →
            (0 < ys.length → (execOp a.eval o).run P w = .ok (.value (.slice (some ⟨w.heap.size, 0, none⟩) ys.length (grownCap w ys.length 0 el))) (w.drew.alloc (.cells (news.toArray ++ Builtin.zeroCells zv.cells (grownCap w ys.length 0 el - ys.length)) el))) ∧
            (ys = [] → (execOp a.eval o).run P w = .ok (.value (.slice none 0 0)) w) := by
          intro nm hu hfit
          subst hu
          refine ⟨fun hp => hexec ?_, fun h0 => hexec ?_⟩
          · have := grow_run (P := P) (w := w) (ty := ty) (A := none) (n := 0) (m := ys.length) (cap := 0) (olds := []) (news := news) (x := v) hst hxt hi hisz hiby hzv cb0 hlen (by omega) (by simpa using hfit hp) (by simp [Builtin.firstCells]) (hnrun _ agd)
            simpa using this
          · subst h0
            have h1 := hlen w
            rcases hxt with hx | ⟨e', hx⟩ <;> simp [Builtin.append_, run_underlying hst, run_underlying hx, sizeOf, typeInfo, hi, h1, hnrun w R.mem.agree]
            all_goals (have := hnrun w R.mem.agree; simp [hisz] at this ⊢; simp [this])
        have hnilcap : ys.length ≤ grownCap w ys.length 0 el := grownCap_ge w _ _ _
        split at h
        · -- nil
          cases hux
          split at h
          · rename_i hfit
            unfold newRowE at h
            obtain ⟨l', h, _⟩ := EP.ask_inv h
            split at h
            · rename_i hm
              obtain ⟨rfl, _⟩ := EP.ret_inv h
              obtain ⟨f1, f2⟩ := fromNil 0 rfl (fun _ => hfit)
              rcases Nat.eq_zero_or_pos ys.length with h0 | hp
              · have h0' : ys = [] := List.length_eq_zero_iff.1 h0
                subst h0'
                obtain ⟨G', g1, g2, g3⟩ := R.mem.nilRow hm z
                exact wp_value (f2 rfl) (K G' _ _ g1 g2 (g3.congr (AS.mem_wr1 s _ _)))
              · obtain ⟨G', g1, g2, g3⟩ := R.mem.newRow (w' := w.drew.alloc (.cells (news.toArray ++ Builtin.zeroCells zv.cells (grownCap w ys.length 0 el - ys.length)) el)) hm (z := z) (cap := grownCap w ys.length 0 el) (rows := ys)
                  (vs := news.toArray ++ Builtin.zeroCells zv.cells (grownCap w ys.length 0 el - ys.length)) (ty := el) c0 crows hnilcap
                  (by simp only [Array.size_append, List.size_toArray, size_zeroCells, hzcs, hnl, ← Nat.add_mul]; congr 1; omega)
                  (by show (w.heap.push _)[w.heap.size]? = _; simp)
                  (fun j r i c hj hi => by
                    obtain ⟨q, q1, q2⟩ := hnv j r i c hj hi
                    have hlt := (List.getElem?_eq_some_iff.1 q1).1
                    exact ⟨q, by rw [Array.getElem?_append_left (by simpa using hlt)]; simpa using q1, q2⟩)
                  (fun b hb => heap_push_old w _ _ b hb) rfl rfl rfl (by show _ ≤ (w.heap.push _).size; simp)
                exact wp_value (f1 hp) (K G' _ _ g1 g2 (g3.congr (AS.mem_wr1 s _ _)))
            · exact EP.fail_inv h
          · exact EP.fail_inv h
        · rename_i r z' rows
          split at h
          · rename_i hc2
            obtain ⟨rfl, hfit⟩ := hc2
            obtain ⟨l', h, _⟩ := EP.ask_inv h
            split at h
            · rename_i z2 fr hm
              split at h
              · rename_i hfr
                subst hfr
                obtain ⟨rfl, _⟩ := EP.ret_inv h
                cases hux with
                | own _ _ _ _ bk fr hh hl hr hv ha =>
                have h0 := R.mem.home r
                rw [hm, hh] at h0
                obtain ⟨hz2, hfr, h0⟩ := h0
                subst hz2
                subst hfr
                have hu := ha rfl
                have hrows : ∀ x ∈ rows ++ ys, x.length = z2 := fun x hx => by
                  rcases List.mem_append.1 hx with h | h
                  · exact hr x h
                  · exact crows x h
                have hm' : s.mem r = some (.row z2 rows.length) := hm
                cases bk with
                | none =>
                  have hr0 : rows = [] := List.length_eq_zero_iff.1 h0
                  subst hr0
                  obtain ⟨f1, f2⟩ := fromNil 0 hu (fun _ => by simpa using hfit)
                  rcases Nat.eq_zero_or_pos ys.length with hy0 | hp
                  · have h0' : ys = [] := List.length_eq_zero_iff.1 hy0
                    subst h0'
                    refine wp_value (f2 rfl) (K G _ _ (Gh.le_refl G) ?_ (R.mem.congr fun i => ?_))
                    · rw [hu] at *
                      exact .own r z2 [] _ none 0 hh (Nat.le_refl _) (by simp) .nil (fun _ => rfl)
                    · rw [AS.mem_wr1]
                      unfold mset
                      split
                      · rename_i e; subst e; rw [hm']; rfl
                      · rfl
                  · obtain ⟨G', g1, g2, g3⟩ := R.mem.turnRow (w' := w.drew.alloc (.cells (news.toArray ++ Builtin.zeroCells zv.cells (grownCap w ys.length 0 el - ys.length)) el)) (rows := []) (ys := ys) (b' := w.heap.size) (cap' := grownCap w ys.length 0 el)
                      (vs' := news.toArray ++ Builtin.zeroCells zv.cells (grownCap w ys.length 0 el - ys.length)) (ty := el) hm' hh (.inr ⟨rfl, hp⟩) c0 hrows (by simpa using hnilcap)
                      (by simp only [Array.size_append, List.size_toArray, size_zeroCells, hzcs, hnl, ← Nat.add_mul]; congr 1; omega)
                      ⟨(0, 0), by show (w.heap.push _)[w.heap.size]? = _; simp, .inl rfl⟩
                      (fun j r i c hj hi => by
                        obtain ⟨q, q1, q2⟩ := hnv j r i c (by simpa using hj) hi
                        have hlt := (List.getElem?_eq_some_iff.1 q1).1
                        exact ⟨q, by rw [Array.getElem?_append_left (by simpa using hlt)]; simpa using q1, q2⟩)
                      (fun o v hv => by rw [R.mem.k_new (Nat.le_refl _)] at hv; cases hv)
                      (fun b _ hb => heap_push_old w _ _ b hb) rfl rfl rfl (by show _ ≤ (w.heap.push _).size; simp)
                    refine wp_value (f1 hp) (K G' _ _ g1 (by simpa using g2) (g3.congr fun i => ?_))
                    rw [AS.mem_wr1]; simp
                | some p =>
                  obtain ⟨b, cap⟩ := p
                  obtain ⟨cur, et, ⟨pq, q1, qf⟩, q2, q3, q4, q5, q6⟩ := h0
                  have hu' : u = .slice (some ⟨b, 0, none⟩) rows.length cap := hu
                  subst hu'
                  have holdcells : ∀ (j : Nat) (r : List PC) (i : Nat) (c : PC), rows[j]? = some r → r[i]? = some c → ∃ v, cur[j * z2 + i]? = some v ∧ VR G.K c v ∧ j * z2 + i < rows.length * z2 := by
                    intro j r i c hj hi
                    rcases hv.slice_inv with ⟨h, _⟩ | ⟨z3, b3, off3, cap3, he3, _, hs3⟩
                    · subst h; simp at hj
                    · cases he3
                      have hz3 : z3 = z2 := by rw [← hs3.1 r (List.mem_of_getElem? hj)]; exact hr r (List.mem_of_getElem? hj)
                      subst hz3
                      obtain ⟨v, h1, h2⟩ := hs3.2 j r hj i c hi
                      have := R.mem.agree _ _ _ h1
                      simp only [World.cell?, q1, Nat.zero_add] at this
                      have hjl : j < rows.length := (List.getElem?_eq_some_iff.1 hj).1
                      have hil : i < z3 := by
                        have := (List.getElem?_eq_some_iff.1 hi).1
                        rw [hr r (List.mem_of_getElem? hj)] at this; exact this
                      have h3 : j * z3 + z3 ≤ rows.length * z3 := by rw [← Nat.succ_mul]; exact Nat.mul_le_mul_right z3 hjl
                      exact ⟨v, by simpa using this, h2, by omega⟩
                  have hkeepK : ∀ o v, G.K b o = some v → o < rows.length * z2 ∧ cur[o]? = some v := by
                    intro o v hk
                    have h1 := R.mem.agree _ _ _ hk
                    simp only [World.cell?, q1] at h1
                    refine ⟨?_, by simpa using h1⟩
                    rcases Nat.lt_or_ge o (rows.length * z2) with h | h
                    · exact h
                    · rw [q6 o h] at hk; cases hk
                  have hcurl : rows.length * z2 ≤ cur.size := by rw [q2]; exact Nat.mul_le_mul_right z2 q3
                  by_cases hroom : rows.length + ys.length ≤ cap
                  · have hrun := hexec (room_run (P := P) (w := w) (ty := ty) hst hxt hi hisz hlen hroom q2 hnl q1 qf hnewsone (hnrun w R.mem.agree))
                    have hcl : (cur.toList.take (rows.length * z2)).length = rows.length * z2 := by simp; omega
                    obtain ⟨G', g1, g2, g3⟩ := R.mem.turnRow (w' := w.setRow b (cur.toList.take (rows.length * z2) ++ news ++ cur.toList.drop (rows.length * z2 + news.length)).toArray) (rows := rows) (ys := ys) (b' := b) (cap' := cap)
                      (vs' := (cur.toList.take (rows.length * z2) ++ news ++ cur.toList.drop (rows.length * z2 + news.length)).toArray) (ty := et) hm' hh (.inl rfl) c0 hrows (by simpa using hroom)
                      (by simp [hnl]; rw [← q2]; have : rows.length * z2 + ys.length * z2 ≤ cur.size := by rw [q2, ← Nat.add_mul]; exact Nat.mul_le_mul_right z2 hroom
                          omega)
                      ⟨pq, setRow_heap w b cur _ et _ q1, by
                        have : (cur.toList.take (rows.length * z2) ++ news ++ cur.toList.drop (rows.length * z2 + news.length)).toArray.size = cur.size := by
                          have : rows.length * z2 + ys.length * z2 ≤ cur.size := by rw [q2, ← Nat.add_mul]; exact Nat.mul_le_mul_right z2 hroom
                          simp [hnl]; omega
                        rw [this]; exact qf⟩
                      (fun j r i c hj hi => by
                        have := seg_rows (K := G.K) (C := cur.toList.drop (rows.length * z2 + news.length)) hcl hr crows (fun j r i c hj hi => by
                          obtain ⟨v, h1, h2, h3⟩ := holdcells j r i c hj hi
                          exact ⟨v, by rw [List.getElem?_take, if_pos h3]; simpa using h1, h2⟩) hnv j r i c hj hi
                        simpa using this)
                      (fun o v hk => by
                        obtain ⟨h1, h2⟩ := hkeepK o v hk
                        simp only [List.getElem?_toArray]
                        rw [List.append_assoc, List.getElem?_append_left (by omega), List.getElem?_take, if_pos h1]
                        simpa using h2)
                      (fun k hk _ => setRow_other w b k _ hk) rfl rfl rfl (by simp [World.setRow])
                    refine wp_value hrun (K G' _ _ g1 (by simpa using g2) (g3.congr fun i => ?_))
                    rw [AS.mem_wr1]; simp
                  · have hgrow : cap < rows.length + ys.length := by omega
                    have hp : 0 < ys.length := by omega
                    have hold : (Builtin.firstCells z2 rows.length (.slice (some ⟨b, 0, none⟩) rows.length cap)).run P w.drew = .ok (cur.toList.take (rows.length * z2)).toArray w.drew := by
                      refine run_firstCells_some (P := P) w.drew z2 rows.length _ _ _ _ (by simp; omega) ?_
                      intro j v hj
                      rw [List.getElem?_take] at hj
                      split at hj
                      · rw [add_at]
                        simp only [World.cell?, Nat.zero_add]
                        have : w.drew.heap[b]? = some (.cells cur et pq) := q1
                        rw [this]; simpa using hj
                      · cases hj
                    have hrun := hexec (grow_run (P := P) (w := w) (ty := ty) (n := rows.length) (m := ys.length) hst hxt hi hisz hiby hzv cb0 hlen hgrow hfit hold (hnrun _ agd))
                    have hcl : (cur.toList.take (rows.length * z2)).length = rows.length * z2 := by simp; omega
                    obtain ⟨G', g1, g2, g3⟩ := R.mem.turnRow (w' := w.drew.alloc (.cells ((cur.toList.take (rows.length * z2)).toArray ++ news.toArray ++ Builtin.zeroCells zv.cells (grownCap w (rows.length + ys.length) cap el - (rows.length + ys.length))) el)) (rows := rows) (ys := ys) (b' := w.heap.size) (cap' := grownCap w (rows.length + ys.length) cap el)
                      (vs' := (cur.toList.take (rows.length * z2)).toArray ++ news.toArray ++ Builtin.zeroCells zv.cells (grownCap w (rows.length + ys.length) cap el - (rows.length + ys.length))) (ty := el) hm' hh (.inr ⟨rfl, hp⟩) c0 hrows
                      (by simpa using grownCap_ge w (rows.length + ys.length) cap el)
                      (by have hge := grownCap_ge w (rows.length + ys.length) cap el
                          simp only [Array.size_append, List.size_toArray, size_zeroCells, hzcs, hnl, hcl, ← Nat.add_mul]; congr 1; omega)
                      ⟨(0, 0), by show (w.heap.push _)[w.heap.size]? = _; simp, .inl rfl⟩
                      (fun j r i c hj hi => by
                        have := seg_rows (K := G.K) (C := (Builtin.zeroCells zv.cells (grownCap w (rows.length + ys.length) cap el - (rows.length + ys.length))).toList) hcl hr crows (fun j r i c hj hi => by
                          obtain ⟨v, h1, h2, h3⟩ := holdcells j r i c hj hi
                          exact ⟨v, by rw [List.getElem?_take, if_pos h3]; simpa using h1, h2⟩) hnv j r i c hj hi
                        obtain ⟨v, h1, h2⟩ := this
                        refine ⟨v, ?_, h2⟩
                        rw [← h1, ← Array.getElem?_toList]
                        congr 1
                        simp)
                      (fun o v hv => by rw [R.mem.k_new (Nat.le_refl _)] at hv; cases hv)
                      (fun b _ hb => heap_push_old w _ _ b hb) rfl rfl rfl (by show _ ≤ (w.heap.push _).size; simp)
                    refine wp_value hrun (K G' _ _ g1 (by simpa using g2) (g3.congr fun i => ?_))
                    rw [AS.mem_wr1]; simp
              · exact EP.fail_inv h
            · exact EP.fail_inv h
          · exact EP.fail_inv h
        · rename_i n off len ex
          cases hux with
          | msl _ _ _ b cap _ hb hcap he =>
          exact sound_appendM R he hexec hst hxt hi hisz hiby hzv hzcs c0 cb0 crows hlen hnl hnv (hnrun w R.mem.agree) (hnrun w.drew agd) h K
        · exact EP.fail_inv h
      · exact EP.fail_inv h
    · exact EP.fail_inv h
  · rename_i el hel _
    exact sound_appendX R (tyElem_run hel) hux hvy hexec h K
  · exact EP.fail_inv h

end

section
variable {P : Program} {E : Env} {G : Gh} {s : AS} {a : Act} {w : World} {o : Oper} {next : Act → World → Prop} {Q : Exit → Act → World → Prop}

theorem putAt_length {cells xs : List AV} {off : Nat} (h : off + xs.length ≤ cells.length) : (putAt cells off xs).length = cells.length := by
  simp [putAt]; omega

theorem putAt_get {cells xs : List AV} {off i : Nat} (h : off + xs.length ≤ cells.length) : (putAt cells off xs)[i]? = if off ≤ i ∧ i < off + xs.length then xs[i - off]? else cells[i]? := by
  have t1 : (cells.take off).length = off := by simp; omega
  unfold putAt
  rcases Nat.lt_or_ge i off with hi | hi
  · rw [List.append_assoc, List.getElem?_append_left (by omega), List.getElem?_take, if_pos hi, if_neg (by omega)]
  · rw [List.append_assoc, List.getElem?_append_right (by omega), t1]
    rcases Nat.lt_or_ge (i - off) xs.length with hj | hj
    · rw [List.getElem?_append_left hj, if_pos (by omega)]
    · rw [List.getElem?_append_right hj, List.getElem?_drop, if_neg (by omega)]
      congr 1; omega

/-- The model's own way of laying a part's cells. -/
theorem fold_get (off : Nat) : ∀ (us : List Value) (j : Nat) (cs : Array Value), off + j + us.length ≤ cs.size →
    ((us.zipIdx j).foldl (fun cs (x : Value × Nat) => cs.setIfInBounds (off + x.2) x.1) cs).size = cs.size ∧
    ∀ i, ((us.zipIdx j).foldl (fun cs (x : Value × Nat) => cs.setIfInBounds (off + x.2) x.1) cs)[i]? = if off + j ≤ i ∧ i < off + j + us.length then us[i - (off + j)]? else cs[i]?
  | [], j, cs, h => ⟨rfl, fun i => by simp; intro h1 h2; omega⟩
  | u :: us, j, cs, h => by
    simp only [List.length_cons] at h
    obtain ⟨h1, h2⟩ := fold_get off us (j + 1) (cs.setIfInBounds (off + j) u) (by simp; omega)
    simp only [List.zipIdx_cons, List.foldl_cons]
    refine ⟨by rw [h1]; simp, fun i => ?_⟩
    rw [h2]
    simp only [List.length_cons]
    by_cases e : i = off + j
    · subst e
      rw [if_neg (by omega), if_pos (by omega), Array.getElem?_setIfInBounds_self_of_lt (by omega)]
      simp
    · by_cases hr : off + (j + 1) ≤ i ∧ i < off + (j + 1) + us.length
      · rw [if_pos hr, if_pos (by omega)]
        have : i - (off + j) = (i - (off + (j + 1))) + 1 := by omega
        rw [this]; simp
      · rw [if_neg hr, if_neg (by omega), Array.getElem?_setIfInBounds_ne (by omega)]

theorem fill_run {place placeC : Nat → Option (Nat × Nat)} (hp : ∀ i off z, place i = some (off, z) → placeC i = some (off, z)) :
    ∀ (parts : List (Nat × AV)) (cparts : List (Nat × Value)) (cells out : List AV) (vs : Array Value), fillE place cells parts = some out →
      parts.length = cparts.length → (∀ (k : Nat) (p : Nat × AV) (q : Nat × Value), parts[k]? = some p → cparts[k]? = some q → p.1 = q.1 ∧ AR G p.2 q.2) →
      cells.length = vs.size → (∀ (i : Nat) (x : AV) (v : Value), cells[i]? = some x → vs[i]? = some v → AR G x v) →
      ∃ vs' : Array Value, Instr.fill placeC vs cparts = some vs' ∧ out.length = vs'.size ∧ ∀ (i : Nat) (x : AV) (v : Value), out[i]? = some x → vs'[i]? = some v → AR G x v := by
  intro parts
  induction parts with
  | nil =>
    intro cparts cells out vs h hl _ hs hr
    simp only [fillE, Option.some.injEq] at h
    subst h
    cases cparts with
    | nil => exact ⟨vs, rfl, hs, hr⟩
    | cons => simp at hl
  | cons p parts ih =>
    intro cparts cells out vs h hl hc hs hr
    cases cparts with
    | nil => simp at hl
    | cons q cparts =>
      obtain ⟨i, x⟩ := p
      obtain ⟨j, v⟩ := q
      obtain ⟨e, hxv⟩ := hc 0 (i, x) (j, v) rfl rfl
      simp only at e hxv
      subst e
      simp only [fillE] at h
      split at h
      · rename_i off z xs e1 e2
        split at h
        · rename_i hh
          obtain ⟨h1, h2⟩ := hh
          obtain ⟨f1, f2⟩ := flat_rel hxv e2
          have hvz : v.cells.size = z := by omega
          obtain ⟨g1, g2⟩ := fold_get off v.cells.toList 0 vs (by simp; omega)
          simp only [Nat.add_zero] at g2
          let vs1 := (v.cells.toList.zipIdx 0).foldl (fun cs (x : Value × Nat) => cs.setIfInBounds (off + x.2) x.1) vs
          obtain ⟨vs', r1, r2, r3⟩ := ih cparts (putAt cells off xs) out vs1 h (by simpa using hl) (fun k p q a1 a2 => hc (k + 1) p q (by simpa using a1) (by simpa using a2))
            (by rw [putAt_length (by omega)]; show _ = vs1.size; rw [g1]; exact hs)
            (fun i x u a1 a2 => by
              rw [putAt_get (by omega)] at a1
              have a2' : vs1[i]? = some u := a2
              rw [show vs1[i]? = _ from g2 i] at a2'
              split at a1
              · rename_i hin
                rw [if_pos (by simp; omega)] at a2'
                exact f2 (i - off) x u a1 (by simpa using a2')
              · rename_i hin
                rw [if_neg (by simp; omega)] at a2'
                exact hr i x u a1 a2')
          refine ⟨vs', ?_, r2, r3⟩
          have hz : (v.cells.zipIdx.foldl (fun cs (x : Value × Nat) => cs.setIfInBounds (off + x.2) x.1) vs) = vs1 := by
            rw [← Array.foldl_toList]
            congr 1
            simp [Array.toList_zipIdx]
          simp only [Instr.fill, hp _ _ _ e1]
          rw [if_neg (by simp; omega)]
          have e3 : (Array.foldl (fun cs x => match x with | (c, j) => cs.setIfInBounds (off + j) c) vs v.cells.zipIdx) = vs1 := hz
          rw [e3]; exact r1
        · cases h
      · cases h

theorem evals (R : Rel E G s a w) (parts : List (Nat × Operand)) : ∀ (k : Nat) (p : Nat × AV) (q : Nat × Value), (parts.map fun p => (p.1, s.eval p.2))[k]? = some p → (parts.map fun p => (p.1, a.eval p.2))[k]? = some q → p.1 = q.1 ∧ AR G p.2 q.2 := by
  intro k p q h1 h2
  simp only [List.getElem?_map, Option.map_eq_some_iff] at h1 h2
  obtain ⟨x, hx, rfl⟩ := h1
  obtain ⟨y, hy, rfl⟩ := h2
  rw [hx] at hy
  cases hy
  exact ⟨rfl, R.eval _⟩

theorem sound_build (R : Rel E G s a w) {t : TypeId} {parts : Array (Nat × Operand)} (ho : o.op = .build t parts) {cs : List AV} (hx : buildE P t (parts.toList.map fun p => (p.1, s.eval p.2)) = some cs) (K : Post E G s o ⟨.agg cs, []⟩ a next) : o.wp P a w next Q := by
  unfold buildE at hx
  split at hx
  · rename_i zero hzero
    obtain ⟨it, zv, hi, hz, hzl, hzr⟩ := zero_rel G hzero
    have key : ∀ (place : Nat → Option (Nat × Nat)), fillE place zero (parts.toList.map fun p => (p.1, s.eval p.2)) = some cs → (∀ vs : Array Value, Instr.fill place zv.cells (parts.map fun (i, x) => (i, a.eval x)).toList = some vs → P.built t (parts.map fun (i, x) => (i, a.eval x)).toList = some vs) → o.wp P a w next Q := by
      intro place hf hb
      obtain ⟨vs', r1, r2, r3⟩ := fill_run (G := G) (place := place) (placeC := place) (fun _ _ _ h => h) _ (parts.map fun (i, x) => (i, a.eval x)).toList zero cs zv.cells hf (by simp) (by simpa using evals R parts.toList) hzl hzr
      refine sound_val R (v := .agg vs') ?_ (.agg _ _ r2 r3) K
      have := run_build (P := P) w t (parts.map fun (i, x) => (i, a.eval x)) vs' (hb vs' r1)
      simp [execOp, ho, this]
    split at hx
    · rename_i ps hps
      unfold tyPlaces at hps
      split at hps
      · rename_i fs hu
        refine key _ hx fun vs hv => ?_
        simp only [Program.built, hi, hu, hz, hps]
        simpa using hv
      · cases hps
    · split at hx
      · rename_i n e he
        split at hx
        · rename_i z hz'
          obtain ⟨ie, h1, h2⟩ := tySize_info hz'
          refine key _ hx fun vs hv => ?_
          simp only [Program.built, hi, tyArr_run he, hz, h1, h2]
          exact hv
        · cases hx
      · cases hx
  · cases hx

theorem flat_rep {α : Type} (l : List α) (h0 : 0 < l.length) : ∀ (n i : Nat), (List.replicate n l).flatten[i]? = if i < n * l.length then l[i % l.length]? else none
  | 0, i => by simp
  | n + 1, i => by
    rw [List.replicate_succ, List.flatten_cons]
    rcases Nat.lt_or_ge i l.length with h | h
    · rw [List.getElem?_append_left h, Nat.mod_eq_of_lt h, if_pos]
      rw [Nat.add_mul]; omega
    · rw [List.getElem?_append_right h, flat_rep l h0 n, Nat.mod_eq_sub_mod h]
      have : (i - l.length < n * l.length) ↔ (i < (n + 1) * l.length) := by rw [Nat.add_mul]; omega
      simp only [this]

theorem newRow_out (R : Rel E G s a w) {n z cap : Nat} {rows : List (List PC)} {vs : Array Value} {ty : TypeId} {e : Eff} {l : List Nat} (h : (newRowE n z rows).run s.mem = some (e, l))
    (hrun : (execOp a.eval o).run P w = .ok (.value (.slice (some ⟨w.heap.size, 0, none⟩) rows.length cap)) (w.alloc (.cells vs ty)))
    (hz : 0 < z) (hr : ∀ r ∈ rows, r.length = z) (hcap : rows.length ≤ cap) (hsize : vs.size = cap * z)
    (hv : ∀ (j : Nat) (r : List PC) (i : Nat) (c : PC), rows[j]? = some r → r[i]? = some c → ∃ v, vs[j * z + i]? = some v ∧ VR G.K c v) (K : Post E G s o e a next) : o.wp P a w next Q := by
  unfold newRowE at h
  obtain ⟨l', h, _⟩ := EP.ask_inv h
  split at h
  · rename_i hm
    obtain ⟨rfl, _⟩ := EP.ret_inv h
    obtain ⟨G', g1, g2, g3⟩ := R.mem.newRow (w' := w.alloc (.cells vs ty)) hm (z := z) (cap := cap) (rows := rows) (vs := vs) (ty := ty) hz hr hcap hsize (by show (w.heap.push _)[w.heap.size]? = _; simp) hv
      (fun b hb => heap_push_old w w.drawn _ b hb) rfl rfl rfl (by show _ ≤ (w.heap.push _).size; simp)
    exact wp_value hrun (K G' _ _ g1 g2 (g3.congr (AS.mem_wr1 s _ _)))
  · exact EP.fail_inv h

theorem sound_buildSlice (R : Rel E G s a w) {t el : TypeId} {n : Nat} {parts : Array (Nat × Operand)} (ho : o.op = .buildSlice t n parts) (hel : tyElem P t = some el) {zero : List AV} {z : Nat} (hzero : tyZero P el = some zero) (hz : tySize P el = some z)
    (hzl : zero.length = z) (h0 : 0 < z) (hn : n * z ≤ 16777216) {out : List AV} (hf : fillE (fun i => some (i * z, z)) (List.replicate n zero).flatten (parts.toList.map fun p => (p.1, s.eval p.2)) = some out) {cs : List PC} (hcs : toPCs out = some cs)
    {nm : Nat} {e : Eff} {l : List Nat} (h : (newRowE nm z (chunks z n cs)).run s.mem = some (e, l)) (K : Post E G s o e a next) : o.wp P a w next Q := by
  obtain ⟨i, zv, hi, hzv, hzl', hzr⟩ := zero_rel G hzero
  have hisz : i.size = z := by obtain ⟨i', h1, h2⟩ := tySize_info hz; rw [hi] at h1; cases h1; exact h2
  have hzs : zv.cells.size = z := by omega
  let base : Array Value := (Array.range (n * z)).map (zv.cells[· % z]!)
  have hbl : base.size = n * z := by simp [base]
  have hfl : (List.replicate n zero).flatten.length = base.size := by rw [hbl]; simp [hzl]
  have hbr : ∀ (i : Nat) (x : AV) (v : Value), (List.replicate n zero).flatten[i]? = some x → base[i]? = some v → AR G x v := by
    intro i x v a1 a2
    rw [flat_rep zero (by omega), hzl] at a1
    split at a1
    · rename_i hlt
      have hm : i % z < z := Nat.mod_lt _ h0
      refine hzr (i % z) x v a1 ?_
      simp [base, hlt] at a2
      rw [← a2]
      simp [hzs, hm]
    · cases a1
  obtain ⟨vs', r1, r2, r3⟩ := fill_run (G := G) (place := fun i => some (i * z, z)) (placeC := fun i => some (i * z, z)) (fun _ _ _ h => h) _ (parts.map fun (i, x) => (i, a.eval x)).toList _ out base hf (by simp) (by simpa using evals R parts.toList) hfl hbr
  have hol : out.length = n * z := by
    have : ∀ (parts : List (Nat × AV)) (cells out : List AV), fillE (fun i => some (i * z, z)) cells parts = some out → out.length = cells.length := by
      intro parts
      induction parts with
      | nil => intro cells out h; simp only [fillE, Option.some.injEq] at h; rw [h]
      | cons p parts ih =>
        intro cells out h
        obtain ⟨i, x⟩ := p
        simp only [fillE] at h
        split at h
        · split at h
          · rename_i hh
            rw [ih _ _ h, putAt_length (by rename_i e1 e2; cases e1; omega)]
          · cases h
        · cases h
    rw [this _ _ _ hf, hfl, hbl]
  have vcs := toPCs_vrs (G := G) (us := vs'.toList) hcs (by simpa using r2) (fun i x u a1 a2 => r3 i x u a1 (by simpa using a2))
  have hcl : cs.length = n * z := by rw [← (toPCs_spec hcs).1, hol]
  have hlen := chunks_length z n cs
  refine newRow_out R (cap := n) (vs := vs') (ty := el) h ?_ h0 ?_ (by omega) (by omega) ?_ K
  · rw [hlen]
    have hge : ¬ (16777216 < n * z) := by omega
    have r1' : Instr.fill (fun i => some (i * z, z)) base (List.map (fun x => (x.1, a.eval x.2)) parts.toList) = some vs' := by simpa using r1
    by_cases e : n * z = 0
    · have hb0 : base = #[] := Array.eq_empty_of_size_eq_zero (by omega)
      rw [hb0] at r1'
      simp [execOp, ho, Instr.buildSlice, run_underlying (tyElem_run hel), tySize_run hz, e, Array.range_zero', r1', newRow]
    · have hb1 : Array.map (fun x => zv.cells[x % z]!) (Array.range (n * z)) = base := rfl
      simp [execOp, ho, Instr.buildSlice, run_underlying (tyElem_run hel), tySize_run hz, e, hge, zero_run hi hzv, hzs, newRow]
      simp [hb1, r1']
  · intro r hr
    obtain ⟨j, hj⟩ := List.mem_iff_getElem?.1 hr
    have := chunks_get z n cs j r hj
    have hjn : j < n := by have := (List.getElem?_eq_some_iff.1 hj).1; omega
    have h3 : j * z + z ≤ n * z := by rw [← Nat.succ_mul]; exact Nat.mul_le_mul_right z hjn
    rw [this]; simp; omega
  · intro j r i c hj hi
    have := chunks_get z n cs j r hj
    subst this
    rw [List.getElem?_take] at hi
    split at hi
    · rw [List.getElem?_drop] at hi
      have hlt : j * z + i < vs'.size := by have := (List.getElem?_eq_some_iff.1 hi).1; omega
      exact ⟨vs'[j * z + i], by simp [hlt], vcs.2 _ _ _ hi (by simp [hlt])⟩
    · cases hi


theorem sound_makeSlice (R : Rel E G s a w) {t el : TypeId} {lo co : Operand} (ho : o.op = .makeSlice t lo co) (hel : tyElem P t = some el) {n m : Int} (e1 : s.eval lo = .c (.int .i64 n)) (e2 : s.eval co = .c (.int .i64 m))
    {zero : List AV} {z by_ : Nat} (hzero : tyZero P el = some zero) (hz : tySize P el = some z) (hby : tyBytes P el = some by_) {zs : List PC} (hzs : toPCs zero = some zs) (hzl : zs.length = z) (h0 : 0 < z) (hnm : n ≤ m) (hn : 0 ≤ n) (hn2 : m ≤ 9223372036854775807)
    (hb : m * by_ ≤ 140737488355328) {nm : Nat} {e : Eff} {l : List Nat} (h : (newRowE nm z (List.replicate n.toNat zs)).run s.mem = some (e, l)) (K : Post E G s o e a next) : o.wp P a w next Q := by
  obtain ⟨i, zv, hi, hzv, hzl', hzr⟩ := zero_rel G hzero
  have hisz : i.size = z := by obtain ⟨i', h1, h2⟩ := tySize_info hz; rw [hi] at h1; cases h1; exact h2
  have hiby : i.bytes = by_ := by obtain ⟨i', h1, h2⟩ := tyBytes_info hby; rw [hi] at h1; cases h1; exact h2
  have hzz : zero.length = zs.length := (toPCs_spec hzs).1
  have hzvs : zv.cells.size = z := by omega
  have h1 := R.eval lo
  have h2 := R.eval co
  rw [e1] at h1; rw [e2] at h2
  have hrun := run_make (P := P) w t el i zv (tyElem_run hel) hi hzv .i64 .i64 n m hn hnm (by rw [hiby, Int.mul_comm]; omega) hn2
  have vz := toPCs_vrs (G := G) (us := zv.cells.toList) hzs (by simpa using hzl') (fun i x u a1 a2 => hzr i x u a1 (by simpa using a2))
  refine newRow_out R (cap := m.toNat) (vs := madeCells zv.cells (m.toNat * i.size)) (ty := el) h ?_ h0 ?_ (by simp; omega) (by rw [size_madeCells, hisz]) ?_ K
  · have hrl : (List.replicate n.toNat zs).length = n.toNat := by simp
    rw [hrl]
    simp [execOp, ho, h1.int_inv, h2.int_inv, hrun]
  · intro r hr
    rw [(List.mem_replicate.1 hr).2]; exact hzl
  · intro j r i' c hj hi'
    have hr : r = zs := (List.mem_replicate.1 (List.mem_of_getElem? hj)).2
    have hjn : j < n.toNat := by have := (List.getElem?_eq_some_iff.1 hj).1; simpa using this
    subst hr
    have hil : i' < z := by have := (List.getElem?_eq_some_iff.1 hi').1; omega
    have h3 : j * z + z ≤ m.toNat * z := by rw [← Nat.succ_mul]; exact Nat.mul_le_mul_right z (by omega)
    have hlt : j * z + i' < m.toNat * z := by omega
    have hmod : (j * z + i') % z = i' := by rw [Nat.mul_comm, Nat.mul_add_mod]; exact Nat.mod_eq_of_lt hil
    refine ⟨zv.cells[i']'(by omega), ?_, vz.2 i' c _ hi' (by simp [hzvs, hil])⟩
    rw [hisz]
    have : (madeCells zv.cells (m.toNat * z))[j * z + i']? = some (zv.cells[(j * z + i') % zv.cells.size]!) := by
      simp [madeCells, hlt]
    rw [this]
    simp [hzvs, hmod, hil]

theorem sound_buildMsl (R : Rel E G s a w) {t el : TypeId} {n : Nat} {parts : Array (Nat × Operand)} (ho : o.op = .buildSlice t n parts) (hel : tyElem P t = some el) {zero : List AV} {z : Nat} (hzero : tyZero P el = some zero) (hz : tySize P el = some z)
    (hzl : zero.length = z) (h0 : 0 < z) (hn : n * z ≤ 16777216) {out : List AV} (hf : fillE (fun i => some (i * z, z)) (List.replicate n zero).flatten (parts.toList.map fun p => (p.1, s.eval p.2)) = some out) {nm : Nat} {e : Eff} {l : List Nat} (h : (newMslE nm n out).run s.mem = some (e, l)) (K : Post E G s o e a next) : o.wp P a w next Q := by
  obtain ⟨i, zv, hi, hzv, hzl', hzr⟩ := zero_rel G hzero
  have hisz : i.size = z := by obtain ⟨i', h1, h2⟩ := tySize_info hz; rw [hi] at h1; cases h1; exact h2
  have hzs : zv.cells.size = z := by omega
  let base : Array Value := (Array.range (n * z)).map (zv.cells[· % z]!)
  have hbl : base.size = n * z := by simp [base]
  have hfl : (List.replicate n zero).flatten.length = base.size := by rw [hbl]; simp [hzl]
  have hbr : ∀ (i : Nat) (x : AV) (v : Value), (List.replicate n zero).flatten[i]? = some x → base[i]? = some v → AR G x v := by
    intro i x v a1 a2
    rw [flat_rep zero (by omega), hzl] at a1
    split at a1
    · rename_i hlt
      have hm : i % z < z := Nat.mod_lt _ h0
      refine hzr (i % z) x v a1 ?_
      simp [base, hlt] at a2
      rw [← a2]
      simp [hzs, hm]
    · cases a1
  obtain ⟨vs', r1, r2, r3⟩ := fill_run (G := G) (place := fun i => some (i * z, z)) (placeC := fun i => some (i * z, z)) (fun _ _ _ h => h) _ (parts.map fun (i, x) => (i, a.eval x)).toList _ out base hf (by simp) (by simpa using evals R parts.toList) hfl hbr
  have hol : out.length = n * z := by
    have : ∀ (parts : List (Nat × AV)) (cells out : List AV), fillE (fun i => some (i * z, z)) cells parts = some out → out.length = cells.length := by
      intro parts
      induction parts with
      | nil => intro cells out h; simp only [fillE, Option.some.injEq] at h; rw [h]
      | cons p parts ih =>
        intro cells out h
        obtain ⟨i, x⟩ := p
        simp only [fillE] at h
        split at h
        · split at h
          · rename_i hh
            rw [ih _ _ h, putAt_length (by rename_i e1 e2; cases e1; omega)]
          · cases h
        · cases h
    rw [this _ _ _ hf, hfl, hbl]
  refine sound_newMsl R (vs := vs') (ty := el) h ?_ (by omega) r3 K
  have hge : ¬ (16777216 < n * z) := by omega
  have r1' : Instr.fill (fun i => some (i * z, z)) base (List.map (fun x => (x.1, a.eval x.2)) parts.toList) = some vs' := by simpa using r1
  by_cases e : n * z = 0
  · have hb0 : base = #[] := Array.eq_empty_of_size_eq_zero (by omega)
    rw [hb0] at r1'
    simp [execOp, ho, Instr.buildSlice, run_underlying (tyElem_run hel), tySize_run hz, e, Array.range_zero', r1', newRow]
  · have hb1 : Array.map (fun x => zv.cells[x % z]!) (Array.range (n * z)) = base := rfl
    simp [execOp, ho, Instr.buildSlice, run_underlying (tyElem_run hel), tySize_run hz, e, hge, zero_run hi hzv, hzs, newRow]
    simp [hb1, r1']

theorem sound_makeMsl (R : Rel E G s a w) {t el : TypeId} {lo co : Operand} (ho : o.op = .makeSlice t lo co) (hel : tyElem P t = some el) {n m : Int} (e1 : s.eval lo = .c (.int .i64 n)) (e2 : s.eval co = .c (.int .i64 m))
    {zero : List AV} {z by_ : Nat} (hzero : tyZero P el = some zero) (hz : tySize P el = some z) (hby : tyBytes P el = some by_) {zs : List PC} (hzs : toPCs zero = some zs) (hzl : zs.length = z) (h0 : 0 < z) (hnm : n = m) (hn : 0 ≤ n) (hn2 : n ≤ 9223372036854775807)
    (hb : n * by_ ≤ 140737488355328) {nm : Nat} {e : Eff} {l : List Nat} (h : (newMslE nm n.toNat (List.replicate n.toNat zero).flatten).run s.mem = some (e, l)) (K : Post E G s o e a next) : o.wp P a w next Q := by
  subst hnm
  obtain ⟨i, zv, hi, hzv, hzl', hzr⟩ := zero_rel G hzero
  have hisz : i.size = z := by obtain ⟨i', h1, h2⟩ := tySize_info hz; rw [hi] at h1; cases h1; exact h2
  have hiby : i.bytes = by_ := by obtain ⟨i', h1, h2⟩ := tyBytes_info hby; rw [hi] at h1; cases h1; exact h2
  have hzz : zero.length = zs.length := (toPCs_spec hzs).1
  have hzvs : zv.cells.size = z := by omega
  have h1 := R.eval lo
  have h2 := R.eval co
  rw [e1] at h1; rw [e2] at h2
  have hrun := run_make (P := P) w t el i zv (tyElem_run hel) hi hzv .i64 .i64 n n hn (Int.le_refl _) (by rw [hiby, Int.mul_comm]; omega) hn2
  refine sound_newMsl R (vs := madeCells zv.cells (n.toNat * i.size)) (ty := el) h ?_ ?_ ?_ K
  · simp [execOp, ho, h1.int_inv, h2.int_inv, hrun]
  · rw [size_madeCells, hisz]; simp; rw [hzz, hzl]
  · intro i' x v a1 a2
    rw [flat_rep zero (by omega), hzz, hzl] at a1
    split at a1
    · rename_i hlt
      have hm : i' % z < z := Nat.mod_lt _ h0
      refine hzr (i' % z) x v a1 ?_
      have : (madeCells zv.cells (n.toNat * i.size))[i']? = some (zv.cells[i' % zv.cells.size]!) := by
        rw [hisz]; simp [madeCells, hlt]
      rw [this] at a2
      cases a2
      simp [hzvs, hm]
    · cases a1

def wrs (m : Nat → Option MC) (l : List (Nat × MC)) : Nat → Option MC := fun i => match look l i with | some c => some c | none => m i
theorem look_append {α : Type} : ∀ (l l' : List (Nat × α)) (i : Nat), look (l ++ l') i = match look l i with | some c => some c | none => look l' i
  | [], l', i => rfl
  | (j, x) :: l, l', i => by
    simp only [List.cons_append, look]
    split
    · rfl
    · exact look_append l l' i
theorem AS.mem_wr (s : AS) (l : List (Nat × MC)) : ∀ i, (s.wr l).mem i = wrs s.mem l i := fun i => by
  unfold wrs AS.mem AS.wr
  rw [look_append]
  cases look l i <;> rfl
theorem wrs_cons (m : Nat → Option MC) (n : Nat) (c : MC) (l : List (Nat × MC)) : wrs m ((n, c) :: l) = mset (wrs m l) n c := by
  funext i
  simp only [wrs, mset, look]
  by_cases h : n = i
  · rw [if_pos h, if_pos h]
  · rw [if_neg h, if_neg h]

theorem cap_sound {m : Nat → Option MC} (M : MRel E G m w) : ∀ (xs : List AV) (us : List Value) (caps : List (List PC)) (wr : List (Nat × MC)) (l : List Nat), (capE xs).run m = some ((caps, wr), l) →
    xs.length = us.length → (∀ (i : Nat) (x : AV) (u : Value), xs[i]? = some x → us[i]? = some u → AR G x u) →
    (∀ n c, look wr n = some c → ∃ cells fz, m n = some (.obj cells fz) ∧ c = .obj cells true) ∧
    ∃ G', G.le G' ∧ MRel E G' (wrs m wr) w ∧ G'.h = G.h ∧ ∃ bs : List (Nat × Nat), us = bs.map (fun b => Value.pointer (some ⟨b.1, b.2, none⟩)) ∧ caps.length = bs.length ∧ ∀ (i : Nat) (cs : List PC) (b : Nat × Nat), caps[i]? = some cs → bs[i]? = some b → Known G'.K b.1 b.2 cs := by
  intro xs
  induction xs with
  | nil =>
    intro us caps wr l h hl _
    obtain ⟨e, _⟩ := EP.ret_inv h
    cases e
    cases us with
    | cons => simp at hl
    | nil => exact ⟨fun n c h => by simp [look] at h, G, Gh.le_refl G, M, rfl, [], rfl, rfl, fun i cs b h => by simp at h⟩
  | cons x xs ih =>
    intro us caps wr l h hl hr
    cases us with
    | nil => simp at hl
    | cons u us =>
      have hx := hr 0 x u rfl rfl
      have hrest : ∀ (i : Nat) (x : AV) (u : Value), xs[i]? = some x → us[i]? = some u → AR G x u := fun i y v h1 h2 => hr (i + 1) y v (by simpa using h1) (by simpa using h2)
      simp only [capE] at h
      split at h
      · rename_i n
        obtain ⟨l', h, _⟩ := EP.ask_inv h
        split at h
        · rename_i cells fz hm
          split at h
          · rename_i cs hcs
            obtain ⟨r, l1, l2, h1, h2, _⟩ := EP.bind_inv h
            obtain ⟨e, _⟩ := EP.ret_inv h2
            cases e
            obtain ⟨i1, G1, i2, i3, i4, bs, i5, i6, i7⟩ := ih us r.1 r.2 l1 h1 (by simpa using hl) hrest
            cases hx with
            | ptr _ _ b hb =>
            have hb1 : G1.h n = some (.obj b) := by rw [i4]; exact hb
            have hm1 : ∃ fz', wrs m r.2 n = some (.obj cells fz') := by
              unfold wrs
              cases hk : look r.2 n with
              | none => exact ⟨fz, hm⟩
              | some c =>
                obtain ⟨cells', fz', a1, a2⟩ := i1 n c hk
                rw [hm] at a1
                cases a1
                exact ⟨true, by rw [a2]⟩
            obtain ⟨fz', hm1⟩ := hm1
            obtain ⟨G2, f1, f2, f3, f4⟩ := i3.freeze hm1 hb1
            refine ⟨?_, G2, Gh.le_trans i2 f1, by rw [wrs_cons]; exact f4, f2.trans i4, (b, 0) :: bs, by simp [i5], by simp [i6], ?_⟩
            · intro n' c hk
              simp only [look] at hk
              split at hk
              · rename_i e; subst e; cases hk; exact ⟨cells, fz, hm, rfl⟩
              · exact i1 n' c hk
            · intro i cs' b' a1 a2
              cases i with
              | zero =>
                simp at a1 a2
                subst a1; subst a2
                obtain ⟨t1, t2⟩ := toPCs_spec hcs
                intro k c hk
                have hkl : k < cells.length := by have := (List.getElem?_eq_some_iff.1 hk).1; omega
                have hck : cells[k]? = some cells[k] := by simp [hkl]
                obtain ⟨v, g1, g2⟩ := f3 k _ hck
                exact ⟨v, by rw [Nat.zero_add]; exact g1, g2.toPC (t2 k _ c hck hk)⟩
              | succ i => exact (i7 i cs' b' (by simpa using a1) (by simpa using a2)).mono f1.K
          · exact EP.fail_inv h
        · exact EP.fail_inv h
      · rename_i cs
        obtain ⟨r, l1, l2, h1, h2, _⟩ := EP.bind_inv h
        obtain ⟨e, _⟩ := EP.ret_inv h2
        cases e
        obtain ⟨i1, G1, i2, i3, i4, bs, i5, i6, i7⟩ := ih us r.1 r.2 l1 h1 (by simpa using hl) hrest
        cases hx with
        | rptr _ b off hk =>
        refine ⟨i1, G1, i2, i3, i4, (b, off) :: bs, by simp [i5], by simp [i6], ?_⟩
        intro i cs' b' a1 a2
        cases i with
        | zero => simp at a1 a2; subst a1; subst a2; exact hk.mono i2.K
        | succ i => exact i7 i cs' b' (by simpa using a1) (by simpa using a2)
      · exact EP.fail_inv h


theorem sound_makeFunc (R : Rel E G s a w) {f : FuncId} {captured : Array Operand} (ho : o.op = .makeFunc (.func f) #[] captured) {r : List (List PC) × List (Nat × MC)} {l : List Nat} (h : (capE (captured.toList.map s.eval)).run s.mem = some (r, l))
    (K : Post E G s o ⟨.clo f r.1, r.2⟩ a next) : o.wp P a w next Q := by
  obtain ⟨_, G', h1, h2, _, bs, h3, h4, h5⟩ := cap_sound R.mem _ (captured.toList.map a.eval) r.1 r.2 l h (by simp) (fun i x u a1 a2 => by
    simp only [List.getElem?_map, Option.map_eq_some_iff] at a1 a2
    obtain ⟨x', b1, rfl⟩ := a1
    obtain ⟨u', b2, rfl⟩ := a2
    rw [b1] at b2; cases b2
    exact R.eval _)
  have hc : captured.map a.eval = (bs.map fun b => Value.pointer (some ⟨b.1, b.2, none⟩)).toArray := by
    rw [← h3, ← Array.toList_map, Array.toArray_toList]
  refine wp_value (v := .func (.func f) #[] (captured.map a.eval)) (w' := w) (by simp [execOp, ho, Instr.makeFunc]) (K G' _ _ h1 ?_ (h2.congr (AS.mem_wr s r.2)))
  rw [hc]
  exact .clo f r.1 bs h4 h5

theorem sound_len (R : Rel E G s a w) {t : TypeId} {x : AV} {u : Value} (hx : AR G x u) {ts : Array TypeId} {ty : TypeId} (hts : ts[0]? = some t)
    (hexec : ∀ {r}, (Builtin.len_ ts ty #[u]).run P w = .ok r w → (execOp a.eval o).run P w = .ok (.value r) w)
    {e : Eff} {l : List Nat} (h : (okM (lenE P t x)).run s.mem = some (e, l)) (K : Post E G s o e a next) : o.wp P a w next Q := by
  obtain ⟨y, l', h1, rfl⟩ := okM_inv h
  unfold lenE at h1
  split at h1
  · rename_i str
    cases hx.str_inv
    split at h1
    · rename_i ht
      obtain ⟨rfl, _⟩ := EP.ret_inv h1
      refine sound_val R (v := .int .i64 str.length) (hexec ?_) (.int _ _) K
      have hsz : (ByteArray.mk str.toArray).size = str.length := rfl
      simp [Builtin.len_, hts, run_underlying (tyStr_run ht), goInt, hsz]
    · exact EP.fail_inv h1
  · rename_i n
    cases hx with
    | mp _ b hb =>
    obtain ⟨l2, h1, _⟩ := EP.ask_inv h1
    split at h1
    · rename_i ag es hm
      split at h1
      · rename_i kt ht
        obtain ⟨rfl, _⟩ := EP.ret_inv h1
        have h0 := R.mem.home n
        rw [hm, hb] at h0
        obtain ⟨ms, cl, a1, a2, _⟩ := h0
        refine sound_val R (v := .int .i64 es.length) (hexec ?_) (.int _ _) K
        have hg : (getObj b).run P w = .ok (.map ms cl) w := by simp [getObj, Sem.run, a1]
        obtain ⟨k1, k2⟩ := kt
        simp [Builtin.len_, hts, run_underlying (tyMap_run ht), goInt, hg, a2]
      · exact EP.fail_inv h1
    · exact EP.fail_inv h1
  · cases hx
    split at h1
    · rename_i kt ht
      obtain ⟨rfl, _⟩ := EP.ret_inv h1
      obtain ⟨k1, k2⟩ := kt
      refine sound_val R (v := .int .i64 0) (hexec ?_) (.int _ _) K
      simp [Builtin.len_, hts, run_underlying (tyMap_run ht), goInt]
    · exact EP.fail_inv h1
  · rename_i n off len ex
    cases hx with
    | msl _ _ _ b cap _ hb hc he =>
    split at h1
    · rename_i e he
      obtain ⟨rfl, _⟩ := EP.ret_inv h1
      refine sound_val R (v := .int .i64 len) (hexec ?_) (.int _ _) K
      simp [Builtin.len_, hts, run_underlying (tyElem_run he), goInt]
    · exact EP.fail_inv h1
  · split at h1
    · rename_i e rows he hr
      obtain ⟨rfl, _⟩ := EP.ret_inv h1
      obtain ⟨A, cap, rfl, _⟩ := (hx.rows hr).slice_form
      refine sound_val R (v := .int .i64 rows.length) (hexec ?_) (.int _ _) K
      simp [Builtin.len_, hts, run_underlying (tyElem_run he), goInt]
    · exact EP.fail_inv h1

theorem sound_mm (R : Rel E G s a w) (mx : Bool) {xs : List AV} {us : Array Value} (hl : xs.length = us.size) (hx : ∀ (i : Nat) (x : AV) (u : Value), xs[i]? = some x → us[i]? = some u → AR G x u) {ts : Array TypeId} {ty : TypeId}
    (hexec : ∀ {r}, (if mx then Builtin.max_ ts ty us else Builtin.min_ ts ty us).run P w = .ok r w → (execOp a.eval o).run P w = .ok (.value r) w)
    {y : AV} (h : mm mx xs = some y) (K : Post E G s o ⟨y, []⟩ a next) : o.wp P a w next Q := by
  unfold mm at h
  split at h
  · rename_i k i k' j
    split at h
    · rename_i hk
      subst hk
      cases h
      have hus : us = #[.int k i, .int k j] := by
        apply Array.ext'
        obtain ⟨l⟩ := us
        match l, hl, hx with
        | [u, v], _, hx =>
          have e1 := (hx 0 _ u rfl rfl).int_inv
          have e2 := (hx 1 _ v rfl rfl).int_inv
          subst e1; subst e2; rfl
        | [], hl, _ => simp at hl
        | [_], hl, _ => simp at hl
        | _ :: _ :: _ :: _, hl, _ => simp at hl
      subst hus
      refine sound_val R (v := .int k (if mx then (if j > i then j else i) else (if j < i then j else i))) (hexec ?_) (.int _ _) K
      cases mx <;> simp [Builtin.max_, Builtin.min_, Builtin.max2, Builtin.min2]
    · cases h
  · cases h

end

/-- Target names: their sources; rows of nothing that are new. -/
structure Ren where
  src : Nat → Option Nat
  ph : Nat → Option Nat

inductive AM (ρ : Ren) : AV → AV → Prop
  | undef (x : AV) : AM ρ x .undef
  | c (x : PC) : AM ρ (.c x) (.c x)
  | agg (cs cs' : List AV) (hl : cs.length = cs'.length) (h : ∀ (i : Nat) (x y : AV), cs[i]? = some x → cs'[i]? = some y → AM ρ x y) : AM ρ (.agg cs) (.agg cs')
  | nilsl : AM ρ .nilsl .nilsl
  | nilc : AM ρ .nilsl (.c (.sl []))
  | nilo (n z : Nat) (hs : ρ.src n = none) (h : ρ.ph n = some z) : AM ρ .nilsl (.own n z [])
  | own (r n z : Nat) (rows : List (List PC)) (h : ρ.src n = some r) : AM ρ (.own r z rows) (.own n z rows)
  | ownc (r z : Nat) (rows : List (List PC)) : AM ρ (.own r z rows) (.c (.sl rows))
  | ptr (q n off : Nat) (h : ρ.src n = some q) : AM ρ (.ptr q off) (.ptr n off)
  | msl (q n off len : Nat) (ex : Bool) (h : ρ.src n = some q) : AM ρ (.msl q off len ex) (.msl n off len ex)
  | nilptr : AM ρ .nilptr .nilptr
  | rptr (cs : List PC) : AM ρ (.rptr cs) (.rptr cs)
  | clo (f : FuncId) (caps : List (List PC)) : AM ρ (.clo f caps) (.clo f caps)
  | mp (q n : Nat) (h : ρ.src n = some q) : AM ρ (.mp q) (.mp n)
  | nilmp : AM ρ .nilmp .nilmp
  | ubool : AM ρ .ubool .ubool
  | tup (cs cs' : List AV) (hl : cs.length = cs'.length) (h : ∀ (i : Nat) (x y : AV), cs[i]? = some x → cs'[i]? = some y → AM ρ x y) : AM ρ (.tup cs) (.tup cs')

/-- The ghost behind a renaming. -/
def Ren.gh (ρ : Ren) (G : Gh) : Gh := ⟨G.K, fun n => match ρ.src n with | some q => G.h q | none => (ρ.ph n).map fun z => .row z none 0⟩

theorem AM.rel {ρ : Ren} {G : Gh} {x y : AV} (h : AM ρ x y) : ∀ {v : Value}, AR G x v → AR (ρ.gh G) y v := by
  induction h with
  | undef x => exact fun _ => .undef _
  | c x => intro v h; cases h with | c _ _ h => exact .c _ _ h
  | agg cs cs' hl _ ih =>
    intro v h
    cases h with
    | agg _ us hl' hc =>
      refine .agg _ _ (by omega) (fun i y u e1 e2 => ?_)
      have hi : i < cs.length := by have := (List.getElem?_eq_some_iff.1 e1).1; omega
      have hx : cs[i]? = some cs[i] := by simp [hi]
      exact ih i _ y hx e1 (hc i _ u hx e2)
  | nilsl => intro v h; cases h; exact .nilsl
  | nilc => intro v h; cases h; exact .c _ _ .nil
  | nilo n z hs hp =>
    intro v h; cases h
    exact .own n z [] _ none 0 (by simp only [Ren.gh, hs, hp]; rfl) (Nat.le_refl _) (by simp) .nil (fun _ => rfl)
  | own r n z rows hs =>
    intro v h
    cases h with
    | own _ _ _ _ bk fr hh hl hr hv ha => exact .own n z rows v bk fr (by simp only [Ren.gh, hs]; exact hh) hl hr hv ha
  | ownc r z rows => intro v h; cases h with | own _ _ _ _ bk fr hh hl hr hv ha => exact .c _ _ hv
  | ptr q n off hs => intro v h; cases h with | ptr _ _ b hb => exact .ptr n off b (by simp only [Ren.gh, hs]; exact hb)
  | msl q n off len ex hs => intro v h; cases h with | msl _ _ _ b cap _ hb hc he => exact .msl n off len b cap ex (by simp only [Ren.gh, hs]; exact hb) hc he
  | nilptr => intro v h; cases h; exact .nilptr
  | rptr cs => intro v h; cases h with | rptr _ b off hk => exact .rptr cs b off hk
  | clo f caps => intro v h; cases h with | clo _ _ us hl hk => exact .clo f caps us hl hk
  | mp q n hs => intro v h; cases h with | mp _ b hb => exact .mp n b (by simp only [Ren.gh, hs]; exact hb)
  | nilmp => intro v h; cases h; exact .nilmp
  | ubool => intro v h; cases h with | ubool b => exact .ubool b
  | tup cs cs' hl _ ih =>
    intro v h
    cases h with
    | tup _ us hl' hc =>
      refine .tup _ _ (by omega) (fun i y u e1 e2 => ?_)
      have hi : i < cs.length := by have := (List.getElem?_eq_some_iff.1 e1).1; omega
      have hx : cs[i]? = some cs[i] := by simp [hi]
      exact ih i _ y hx e1 (hc i _ u hx e2)

/-- A target's content out of its source's. -/
def CM (ρ : Ren) : Option MC → Option MC → Prop
  | some (.obj cells fz), some (.obj cells' fz') => fz = fz' ∧ cells.length = cells'.length ∧ ∀ (i : Nat) (x y : AV), cells[i]? = some x → cells'[i]? = some y → AM ρ x y
  | some (.row z fr), some (.row z' fr') => z = z' ∧ fr = fr'
  | some (.mp ag es), some (.mp ag' es') => ag = ag' ∧ es = es'
  | _, _ => False

structure RenOK (ρ : Ren) (m m2 : Nat → Option MC) : Prop where
  inj : ∀ n n' q, ρ.src n = some q → ρ.src n' = some q → n = n'
  src : ∀ n q, ρ.src n = some q → CM ρ (m q) (m2 n)
  ph : ∀ n z, ρ.src n = none → ρ.ph n = some z → m2 n = some (.row z 0)
  none : ∀ n, ρ.src n = none → ρ.ph n = none → m2 n = none

theorem elemAV_ren {ρ : Ren} {G : Gh} {ag : Bool} {cs : List PC} {v : Value} (h : AR G (elemAV ag (cs.map .c)) v) : AR (ρ.gh G) (elemAV ag (cs.map .c)) v := by
  cases ag with
  | true =>
    simp only [elemAV, if_true] at h ⊢
    refine AM.rel (ρ := ρ) (.agg _ _ rfl fun i x y e1 e2 => ?_) h
    rw [e1] at e2; cases e2
    simp only [List.getElem?_map, Option.map_eq_some_iff] at e1
    obtain ⟨c, _, rfl⟩ := e1
    exact .c c
  | false =>
    simp only [elemAV, Bool.false_eq_true, if_false] at h ⊢
    cases cs with
    | nil => exact .undef _
    | cons c cs => exact AM.rel (ρ := ρ) (.c c) h

theorem MRel.rename {E : Env} {G : Gh} {m m2 : Nat → Option MC} {w : World} (M : MRel E G m w) {ρ : Ren} (h : RenOK ρ m m2) : MRel E (ρ.gh G) m2 w where
  agree := M.agree
  home n := by
    cases hs : ρ.src n with
    | some q =>
      have hm := h.src n q hs
      have h0 := M.home q
      have hg : (ρ.gh G).h n = G.h q := by simp only [Ren.gh, hs]
      rw [hg]
      generalize m q = c1 at hm h0
      generalize m2 n = c2 at hm
      generalize G.h q = hq at h0
      unfold CM at hm
      split at hm
      · obtain ⟨rfl, hl, hc⟩ := hm
        cases hq with
        | none => exact h0.elim
        | some x =>
          cases x with
          | row => exact h0.elim
          | obj b =>
            obtain ⟨vs, ty, a1, a2, a3, a4, a5, a6⟩ := h0
            refine ⟨vs, ty, a1, by omega, fun i y v e1 e2 => ?_, a4, a5, a6⟩
            rename_i cells fz cells'
            have hi : i < cells.length := by have := (List.getElem?_eq_some_iff.1 e1).1; omega
            have hx : cells[i]? = some cells[i] := by simp [hi]
            exact (hc i _ y hx e1).rel (a3 i _ v hx e2)
      · obtain ⟨rfl, rfl⟩ := hm
        cases hq with
        | none => exact h0.elim
        | some x =>
          cases x with
          | obj => exact h0.elim
          | row z bk fr => exact h0
      · obtain ⟨rfl, rfl⟩ := hm
        cases hq with
        | none => exact h0.elim
        | some x =>
          cases x with
          | row => exact h0.elim
          | obj b =>
            obtain ⟨ms, cl, a1, a2, a3, a4⟩ := h0
            exact ⟨ms, cl, a1, a2, fun i x e q1 q2 => let ⟨b1, b2, b3⟩ := a3 i x e q1 q2; ⟨b1, elemAV_ren b2, b3⟩, a4⟩
      · exact hm.elim
    | none =>
      cases hp : ρ.ph n with
      | some z =>
        rw [h.ph n z hs hp]
        have hg : (ρ.gh G).h n = some (.row z none 0) := by simp only [Ren.gh, hs, hp]; rfl
        rw [hg]
        exact ⟨rfl, rfl, rfl⟩
      | none =>
        rw [h.none n hs hp]
        have hg : (ρ.gh G).h n = none := by simp only [Ren.gh, hs, hp]; rfl
        rw [hg]
        trivial
  inj n n' x y b e1 e2 e3 e4 := by
    cases hs : ρ.src n with
    | none =>
      simp only [Ren.gh, hs] at e1
      cases hp : ρ.ph n with
      | none => rw [hp] at e1; cases e1
      | some z => rw [hp] at e1; cases e1; simp [Home.blk] at e3
    | some q =>
      cases hs' : ρ.src n' with
      | none =>
        simp only [Ren.gh, hs'] at e2
        cases hp : ρ.ph n' with
        | none => rw [hp] at e2; cases e2
        | some z => rw [hp] at e2; cases e2; simp [Home.blk] at e4
      | some q' =>
        simp only [Ren.gh, hs] at e1
        simp only [Ren.gh, hs'] at e2
        have := M.inj q q' x y b e1 e2 e3 e4
        subst this
        exact h.inj n n' q hs hs'
  os := M.os
  tape := M.tape
  output := M.output
  size0 := M.size0
  sizeB := M.sizeB
  blk := M.blk
  k0 := M.k0
  kfr := M.kfr

/-- A callee's view: the world at the call, whatever is named may turn. -/
def callee (G : Gh) (w : World) : Env := cEnv w (fun b => ∃ n h, G.h n = some h ∧ h.blk = some b) G.K

theorem HomeOK.env {E E' : Env} {G : Gh} {w : World} {c : Option MC} {h : Option Home} (hh : HomeOK E G w c h) (hm : ∀ x b, h = some x → x.blk = some b → E'.mine b) : HomeOK E' G w c h := by
  cases h with
  | none => cases c with | none => trivial | some c => cases c <;> exact hh.elim
  | some h =>
    cases c with
    | none => exact hh.elim
    | some c =>
      cases c with
      | obj cells fz =>
        cases h with
        | row => exact hh.elim
        | obj b => obtain ⟨vs, ty, a1, a2, a3, a4, a5, a6⟩ := hh; exact ⟨vs, ty, a1, a2, a3, hm _ b rfl rfl, a5, a6⟩
      | row z fr =>
        cases h with
        | obj => exact hh.elim
        | row z' bk fr' =>
          obtain ⟨e1, e2, hr⟩ := hh
          refine ⟨e1, e2, ?_⟩
          cases bk with
          | none => exact hr
          | some p => obtain ⟨b, cap⟩ := p; obtain ⟨vs, ty, a1, a2, a3, a4, a5, a6⟩ := hr; exact ⟨vs, ty, a1, a2, a3, a4, hm _ b rfl rfl, a6⟩
      | mp ag es =>
        cases h with
        | row => exact hh.elim
        | obj b => obtain ⟨ms, cl, a1, a2, a3, a4⟩ := hh; exact ⟨ms, cl, a1, a2, a3, hm _ b rfl rfl⟩

theorem MRel.focus {E : Env} {G : Gh} {m : Nat → Option MC} {w : World} (M : MRel E G m w) : MRel (callee G w) G m w where
  agree := M.agree
  home n := (M.home n).env fun x b e1 e2 => .inr ⟨n, x, e1, e2⟩
  inj := M.inj
  os := rfl
  tape := rfl
  output := rfl
  size0 := Nat.le_refl _
  sizeB := Nat.le_refl _
  blk _ _ _ := rfl
  k0 := Know.le_refl _
  kfr _ _ _ _ := rfl


/-- Behind a call: what was named has turned, all else lies as it lay. -/
theorem MRel.merge {E : Env} {G : Gh} {m : Nat → Option MC} {w : World} (M : MRel E G m w) {Ext : Nat → Prop} {G' : Gh} {m' : Nat → Option MC} {w' : World}
    (M' : MRel (cEnv w Ext G.K) G' m' w') (hext : ∀ b, Ext b → ∃ n h, G.h n = some h ∧ h.blk = some b ∧ m' n ≠ none)
    (hle : ∀ n h, G.h n = some h → m' n ≠ none → ∃ h', G'.h n = some h' ∧ Home.le h h') :
    let G2 : Gh := ⟨G'.K, fun n => match m' n with | some _ => G'.h n | none => G.h n⟩
    G.le G2 ∧ G'.le G2 ∧ MRel E G2 (fun n => match m' n with | some c => some c | none => m n) w' := by
  intro G2
  have hnone : ∀ n, m' n = none → G'.h n = none := fun n h => by have := M'.home n; rw [h] at this; exact this.none_of
  have ht : ∀ n, m' n ≠ none → G2.h n = G'.h n := fun n h => by
    show (match m' n with | some _ => G'.h n | none => G.h n) = _
    cases hm : m' n with
    | none => exact absurd hm h
    | some c => rfl
  have hu : ∀ n, m' n = none → G2.h n = G.h n := fun n h => by
    show (match m' n with | some _ => G'.h n | none => G.h n) = _
    rw [h]
  have l1 : G.le G2 := ⟨M'.k0, fun n h e => by
    by_cases hm : m' n = none
    · exact ⟨h, (hu n hm).trans e, Home.le_refl h⟩
    · obtain ⟨h', e', l⟩ := hle n h e hm
      exact ⟨h', (ht n hm).trans e', l⟩⟩
  have l2 : G'.le G2 := ⟨Know.le_refl _, fun n h e => by
    by_cases hm : m' n = none
    · rw [hnone n hm] at e; cases e
    · exact ⟨h, (ht n hm).trans e, Home.le_refl h⟩⟩
  have hmine : ∀ b, (cEnv w Ext G.K).mine b → E.mine b := fun b hb => by
    rcases hb with h | h
    · exact .inl (Nat.le_trans M.sizeB h)
    · obtain ⟨n, x, e1, e2, _⟩ := hext b h
      exact (e1 ▸ M.home n).mine e2
  have hnext : ∀ n x b, m' n = none → G.h n = some x → x.blk = some b → ¬ Ext b := fun n x b hm e1 e2 he => by
    obtain ⟨n', x', e3, e4, h⟩ := hext b he
    have := M.inj n n' x x' b e1 e3 e2 e4
    subst this
    exact h hm
  have hold : ∀ n x b, m' n = none → G.h n = some x → x.blk = some b → w'.heap[b]? = w.heap[b]? ∧ ∀ o, G'.K b o = G.K b o := fun n x b hm e1 e2 => by
    have hlt := (e1 ▸ M.home n).lt e2
    have hn := hnext n x b hm e1 e2
    exact ⟨M'.blk b hlt hn, fun o => M'.kfr b o hlt hn⟩
  refine ⟨l1, l2, M'.agree, fun n => ?_, fun i j x y b e1 e2 e3 e4 => ?_, M'.os.trans M.os, M'.tape.trans M.tape, M'.output.trans M.output, Nat.le_trans M.size0 M'.sizeB, Nat.le_trans M.sizeB M'.sizeB, ?_, Know.le_trans M.k0 M'.k0, ?_⟩
  · by_cases hm : m' n = none
    · rw [hu n hm, hm]
      exact (M.home n).keep l1 fun x b e1 e2 => hold n x b hm e1 e2
    · rw [ht n hm]
      have h0 := M'.home n
      have : (match m' n with | some c => some c | none => m n) = m' n := by
        cases hq : m' n with
        | none => exact absurd hq hm
        | some c => rfl
      rw [this]
      exact (h0.keep l2 fun _ _ _ _ => ⟨rfl, fun _ => rfl⟩).env fun x b e1 e2 => hmine b ((e1 ▸ h0).mine e2)
  · have cross : ∀ i j x y b, m' i ≠ none → m' j = none → G'.h i = some x → G.h j = some y → x.blk = some b → y.blk = some b → False := fun i j x y b h1 h2 e1 e2 e3 e4 => by
      have hlt := (e2 ▸ M.home j).lt e4
      rcases (e1 ▸ M'.home i).mine e3 with h | h
      · have h' : w.heap.size ≤ b := h
        omega
      · exact hnext j y b h2 e2 e4 h
    by_cases hi : m' i = none
    · rw [hu i hi] at e1
      by_cases hj : m' j = none
      · rw [hu j hj] at e2; exact M.inj i j x y b e1 e2 e3 e4
      · rw [ht j hj] at e2; exact (cross j i y x b hj hi e2 e1 e4 e3).elim
    · rw [ht i hi] at e1
      by_cases hj : m' j = none
      · rw [hu j hj] at e2; exact (cross i j x y b hi hj e1 e2 e3 e4).elim
      · rw [ht j hj] at e2; exact M'.inj i j x y b e1 e2 e3 e4
  · intro k hk hx
    have hsz := M.sizeB
    refine (M'.blk k (by show k < w.heap.size; omega) ?_).trans (M.blk k hk hx)
    intro he
    obtain ⟨n, x, e1, e2, _⟩ := hext k he
    rcases (e1 ▸ M.home n).mine e2 with h | h
    · omega
    · exact hx h
  · intro b o hb hx
    have hsz := M.sizeB
    refine (M'.kfr b o (by show b < w.heap.size; omega) ?_).trans (M.kfr b o hb hx)
    intro he
    obtain ⟨n, x, e1, e2, _⟩ := hext b he
    rcases (e1 ▸ M.home n).mine e2 with h | h
    · omega
    · exact hx h


inductive Al (R : Nat × MC → Nat × MC → Prop) : List (Nat × MC) → List (Nat × MC) → Prop
  | nil : Al R [] []
  | cons (x y : Nat × MC) (l l' : List (Nat × MC)) (h : R x y) (t : Al R l l') : Al R (x :: l) (y :: l')

theorem Al.append {R : Nat × MC → Nat × MC → Prop} {a b c d : List (Nat × MC)} (h : Al R a b) (h' : Al R c d) : Al R (a ++ c) (b ++ d) := by
  induction h with
  | nil => exact h'
  | cons x y l l' h t ih => exact .cons x y _ _ h ih
theorem Al.length {R : Nat × MC → Nat × MC → Prop} {a b : List (Nat × MC)} (h : Al R a b) : a.length = b.length := by
  induction h with
  | nil => rfl
  | cons x y l l' h t ih => simp [ih]
theorem Al.mono {R R' : Nat × MC → Nat × MC → Prop} {a b : List (Nat × MC)} (h : Al R a b) (hr : ∀ x y, R x y → R' x y) : Al R' a b := by
  induction h with
  | nil => exact .nil
  | cons x y l l' h t ih => exact .cons x y _ _ (hr _ _ h) ih

theorem look_mem {α : Type} {l : List (Nat × α)} {n : Nat} {c : α} (h : look l n = some c) : (n, c) ∈ l := by
  induction l with
  | nil => cases h
  | cons x l ih =>
    obtain ⟨j, y⟩ := x
    simp only [look] at h
    split at h
    · rename_i e; subst e; cases h; simp
    · exact List.mem_cons_of_mem _ (ih h)
theorem look_none {α : Type} {l : List (Nat × α)} {n : Nat} (h : n ∉ l.map (·.1)) : look l n = none := by
  induction l with
  | nil => rfl
  | cons x l ih =>
    obtain ⟨j, y⟩ := x
    simp only [List.map_cons, List.mem_cons, not_or] at h
    simp only [look]
    rw [if_neg (fun e => h.1 e.symm)]
    exact ih h.2
theorem look_some {α : Type} {l : List (Nat × α)} {n : Nat} (h : n ∈ l.map (·.1)) : ∃ c, look l n = some c := by
  induction l with
  | nil => simp at h
  | cons x l ih =>
    obtain ⟨j, y⟩ := x
    simp only [look]
    by_cases e : j = n
    · exact ⟨y, by rw [if_pos e]⟩
    · rw [if_neg e]
      refine ih ?_
      simp only [List.map_cons, List.mem_cons] at h
      rcases h with h | h
      · exact absurd h.symm e
      · exact h

def pairs (l1 l2 : List (Nat × MC)) : List (Nat × Nat) := (keys l2).zip (keys l1)

theorem Al.look {R : Nat × MC → Nat × MC → Prop} {l1 l2 : List (Nat × MC)} (h : Al R l1 l2) : (keys l1).Nodup → ∀ n q, AM.look (pairs l1 l2) n = some q →
    ∃ c1 c2, AM.look l1 q = some c1 ∧ AM.look l2 n = some c2 ∧ R (q, c1) (n, c2) := by
  induction h with
  | nil => intro _ n q h; simp [pairs, keys, AM.look] at h
  | cons x y l l' h t ih =>
    intro nd n q hq
    obtain ⟨q0, c1⟩ := x
    obtain ⟨n0, c2⟩ := y
    simp only [keys, List.map_cons, List.nodup_cons] at nd
    simp only [pairs, keys, List.map_cons, List.zip_cons_cons, AM.look] at hq
    split at hq
    · rename_i e
      cases hq
      subst e
      exact ⟨c1, c2, by simp [AM.look], by simp [AM.look], h⟩
    · rename_i e
      obtain ⟨d1, d2, e1, e2, e3⟩ := ih nd.2 n q hq
      have hne : q0 ≠ q := fun e' => by
        subst e'
        exact nd.1 (List.mem_map_of_mem (look_mem e1))
      exact ⟨d1, d2, by simp only [AM.look]; rw [if_neg hne]; exact e1, by simp only [AM.look]; rw [if_neg e]; exact e2, e3⟩

theorem pairs_inj {l1 l2 : List (Nat × MC)} (hl : l1.length = l2.length) (nd : (keys l1).Nodup) : ∀ n n' q, look (pairs l1 l2) n = some q → look (pairs l1 l2) n' = some q → n = n' := by
  induction l1 generalizing l2 with
  | nil => intro n n' q h; simp [pairs, keys, look] at h
  | cons x l1 ih =>
    cases l2 with
    | nil => simp at hl
    | cons y l2 =>
      intro n n' q h h'
      obtain ⟨q0, c1⟩ := x
      obtain ⟨n0, c2⟩ := y
      simp only [keys, List.map_cons, List.nodup_cons] at nd
      have key : ∀ n, look (pairs l1 l2) n = some q → q ∈ keys l1 := fun n h => by
        have := look_mem h
        exact (List.of_mem_zip this).2
      simp only [pairs, keys, List.map_cons, List.zip_cons_cons, look] at h h'
      split at h
      · rename_i e
        cases h
        split at h'
        · rename_i e'; exact e.symm.trans e'
        · exact absurd (key n' h') nd.1
      · split at h'
        · cases h'; exact absurd (key n h) nd.1
        · exact ih (by simpa using hl) nd.2 n n' q h h'

def pren (l1 l2 : List (Nat × MC)) : Ren := ⟨look (pairs l1 l2), fun _ => none⟩

theorem pairs_none {l1 l2 : List (Nat × MC)} (hl : l1.length = l2.length) {n : Nat} (h : look (pairs l1 l2) n = none) : look l2 n = none := by
  cases hc : look l2 n with
  | none => rfl
  | some c =>
    exfalso
    have hm : n ∈ (pairs l1 l2).map (·.1) := by
      have : (pairs l1 l2).map (·.1) = keys l2 := by
        unfold pairs
        rw [List.map_fst_zip]
        simp [keys, hl]
      rw [this]
      exact List.mem_map_of_mem (look_mem hc)
    obtain ⟨q, hq⟩ := look_some hm
    rw [h] at hq; cases hq

/-- Two lists of names and contents, one as the other but for the names. -/
theorem RenOK.of {m : Nat → Option MC} {l1 l2 : List (Nat × MC)} (h : Al (fun x y => CM (pren l1 l2) (some x.2) (some y.2)) l1 l2) (nd : (keys l1).Nodup) (hm : ∀ q c, look l1 q = some c → m q = some c) : RenOK (pren l1 l2) m (look l2) where
  inj := pairs_inj h.length nd
  src n q hs := by
    obtain ⟨c1, c2, e1, e2, e3⟩ := h.look nd n q hs
    rw [hm q c1 e1, e2]; exact e3
  ph n z _ hp := by cases hp
  none n hs _ := pairs_none h.length hs

def nOwn : List OV → Nat
  | [] => 0
  | .c _ :: o => nOwn o
  | .own _ _ :: o => nOwn o + 1
  | .mp _ _ :: o => nOwn o + 1
  | .nilmp :: o => nOwn o
  | .nilptr :: o => nOwn o
  | .self :: o => nOwn o
def rowNames (nm : Nat → Nat) : Nat → List OV → List Nat
  | _, [] => []
  | j, .c _ :: o => rowNames nm (j + 1) o
  | j, .own _ _ :: o => nm j :: rowNames nm (j + 1) o
  | j, .mp _ _ :: o => nm j :: rowNames nm (j + 1) o
  | j, .nilmp :: o => rowNames nm (j + 1) o
  | j, .nilptr :: o => rowNames nm (j + 1) o
  | j, .self :: o => rowNames nm (j + 1) o
theorem rowNames_length (nm : Nat → Nat) : ∀ (j : Nat) (o : List OV), (rowNames nm j o).length = nOwn o
  | _, [] => rfl
  | j, .c _ :: o => rowNames_length nm (j + 1) o
  | j, .own _ _ :: o => by simp [rowNames, nOwn, rowNames_length nm (j + 1) o]
  | j, .mp _ _ :: o => by simp [rowNames, nOwn, rowNames_length nm (j + 1) o]
  | j, .nilmp :: o => rowNames_length nm (j + 1) o
  | j, .nilptr :: o => rowNames_length nm (j + 1) o
  | j, .self :: o => rowNames_length nm (j + 1) o
theorem cellsAt_back (nm : Nat → Nat) (me : Nat) : ∀ (j : Nat) (o : List OV), cellsAt nm me j o = backCells me o (rowNames nm j o)
  | _, [] => rfl
  | j, .c _ :: o => by simp only [cellsAt, rowNames, backCells, cellsAt_back nm me (j + 1) o]
  | j, .own _ _ :: o => by simp only [cellsAt, rowNames, backCells, cellsAt_back nm me (j + 1) o]
  | j, .mp _ _ :: o => by simp only [cellsAt, rowNames, backCells, cellsAt_back nm me (j + 1) o]
  | j, .nilmp :: o => by simp only [cellsAt, rowNames, backCells, cellsAt_back nm me (j + 1) o]
  | j, .nilptr :: o => by simp only [cellsAt, rowNames, backCells, cellsAt_back nm me (j + 1) o]
  | j, .self :: o => by simp only [cellsAt, rowNames, backCells, cellsAt_back nm me (j + 1) o]
def entryNames : Nat → List (List OV) → List (Nat × List Nat)
  | _, [] => []
  | i, o :: os => (inObj i, rowNames (inRow i) 0 o) :: entryNames (i + 1) os
theorem entry_back : ∀ (i : Nat) (os : List (List OV)), entryMem i os = backObjs (entryNames i os) os
  | _, [] => rfl
  | i, o :: os => by simp only [entryMem, entryNames, backObjs, cellsAt_back, entry_back (i + 1) os]

/-- Names that fit objects. -/
def Fit : List (Nat × List Nat) → List (List OV) → Prop
  | [], [] => True
  | (_, rs) :: ns, o :: os => rs.length = nOwn o ∧ Fit ns os
  | _, _ => False
theorem Fit.entry : ∀ (i : Nat) (os : List (List OV)), Fit (entryNames i os) os
  | _, [] => trivial
  | i, o :: os => ⟨rowNames_length _ _ _, Fit.entry (i + 1) os⟩
theorem nOwn_count : ∀ o : List OV, nOwn o = ((shapeOf o).filter Option.isSome).length
  | [] => rfl
  | .c _ :: o => by simp [nOwn, shapeOf, nOwn_count o]
  | .own _ _ :: o => by simp [nOwn, shapeOf, nOwn_count o]
  | .mp _ _ :: o => by simp [nOwn, shapeOf, nOwn_count o]
  | .nilmp :: o => by simp [nOwn, shapeOf, nOwn_count o]
  | .nilptr :: o => by simp [nOwn, shapeOf, nOwn_count o]
  | .self :: o => by simp [nOwn, shapeOf, nOwn_count o]
theorem nOwn_shape {o o' : List OV} (h : shapeOf o = shapeOf o') : nOwn o = nOwn o' := by rw [nOwn_count, nOwn_count, h]
theorem Fit.shape : ∀ {ns : List (Nat × List Nat)} {os os' : List (List OV)}, Fit ns os → os'.map shapeOf = os.map shapeOf → Fit ns os'
  | [], [], [], _, _ => trivial
  | [], [], _ :: _, _, h => by simp at h
  | [], _ :: _, _, h, _ => h.elim
  | _ :: _, [], _, h, _ => h.elim
  | (_, rs) :: ns, o :: os, [], _, h => by simp at h
  | (_, rs) :: ns, o :: os, o' :: os', ⟨h1, h2⟩, h => by
    simp only [List.map_cons, List.cons.injEq] at h
    exact ⟨h1.trans (nOwn_shape h.1).symm, Fit.shape h2 h.2⟩

theorem back_length (me : Nat) : ∀ (o : List OV) (rs : List Nat), (backCells me o rs).1.length = o.length
  | [], _ => rfl
  | .c _ :: o, rs => by simp [backCells, back_length me o rs]
  | .own _ _ :: o, r :: rs => by simp [backCells, back_length me o rs]
  | .own _ _ :: o, [] => by simp [backCells, back_length me o []]
  | .mp _ _ :: o, r :: rs => by simp [backCells, back_length me o rs]
  | .mp _ _ :: o, [] => by simp [backCells, back_length me o []]
  | .nilmp :: o, rs => by simp [backCells, back_length me o rs]
  | .nilptr :: o, rs => by simp [backCells, back_length me o rs]
  | .self :: o, rs => by simp [backCells, back_length me o rs]

theorem back_keys (me : Nat) : ∀ (o : List OV) (rs : List Nat), rs.length = nOwn o → keys (backCells me o rs).2 = rs
  | [], rs, h => by cases rs with | nil => rfl | cons => simp [nOwn] at h
  | .c _ :: o, rs, h => back_keys me o rs h
  | .own _ _ :: o, r :: rs, h => by simp only [backCells, keys, List.map_cons, List.cons.injEq, true_and]; exact back_keys me o rs (by simpa [nOwn] using h)
  | .own _ _ :: o, [], h => by simp [nOwn] at h
  | .mp _ _ :: o, r :: rs, h => by simp only [backCells, keys, List.map_cons, List.cons.injEq, true_and]; exact back_keys me o rs (by simpa [nOwn] using h)
  | .mp _ _ :: o, [], h => by simp [nOwn] at h
  | .nilmp :: o, rs, h => back_keys me o rs h
  | .nilptr :: o, rs, h => back_keys me o rs h
  | .self :: o, rs, h => back_keys me o rs h

/-- One object's cells under two namings. -/
theorem back_am {ρ : Ren} {me me' : Nat} (hme : ρ.src me' = some me) : ∀ (o : List OV) (rs ns : List Nat), rs.length = nOwn o → ns.length = nOwn o → (∀ p ∈ ns.zip rs, ρ.src p.1 = some p.2) →
    (∀ (i : Nat) (x y : AV), (backCells me o rs).1[i]? = some x → (backCells me' o ns).1[i]? = some y → AM ρ x y) ∧ Al (fun x y => CM ρ (some x.2) (some y.2)) (backCells me o rs).2 (backCells me' o ns).2
  | [], rs, ns, _, _, _ => ⟨fun i x y h => by simp [backCells] at h, .nil⟩
  | .c c :: o, rs, ns, h1, h2, H => by
    obtain ⟨a1, a2⟩ := back_am hme o rs ns h1 h2 H
    refine ⟨fun i x y e1 e2 => ?_, a2⟩
    cases i with
    | zero => simp [backCells] at e1 e2; subst e1; subst e2; exact .c c
    | succ i => exact a1 i x y (by simpa [backCells] using e1) (by simpa [backCells] using e2)
  | .nilmp :: o, rs, ns, h1, h2, H => by
    obtain ⟨a1, a2⟩ := back_am hme o rs ns h1 h2 H
    refine ⟨fun i x y e1 e2 => ?_, a2⟩
    cases i with
    | zero => simp [backCells] at e1 e2; subst e1; subst e2; exact .nilmp
    | succ i => exact a1 i x y (by simpa [backCells] using e1) (by simpa [backCells] using e2)
  | .nilptr :: o, rs, ns, h1, h2, H => by
    obtain ⟨a1, a2⟩ := back_am hme o rs ns h1 h2 H
    refine ⟨fun i x y e1 e2 => ?_, a2⟩
    cases i with
    | zero => simp [backCells] at e1 e2; subst e1; subst e2; exact .nilptr
    | succ i => exact a1 i x y (by simpa [backCells] using e1) (by simpa [backCells] using e2)
  | .self :: o, rs, ns, h1, h2, H => by
    obtain ⟨a1, a2⟩ := back_am hme o rs ns h1 h2 H
    refine ⟨fun i x y e1 e2 => ?_, a2⟩
    cases i with
    | zero => simp [backCells] at e1 e2; subst e1; subst e2; exact .ptr _ _ 0 hme
    | succ i => exact a1 i x y (by simpa [backCells] using e1) (by simpa [backCells] using e2)
  | .own z rows :: o, [], _, h1, _, _ => by simp [nOwn] at h1
  | .own z rows :: o, _ :: _, [], _, h2, _ => by simp [nOwn] at h2
  | .own z rows :: o, r :: rs, n :: ns, h1, h2, H => by
    obtain ⟨a1, a2⟩ := back_am hme o rs ns (by simpa [nOwn] using h1) (by simpa [nOwn] using h2) (fun p hp => H p (by simp [hp]))
    refine ⟨fun i x y e1 e2 => ?_, .cons _ _ _ _ ⟨rfl, rfl⟩ a2⟩
    cases i with
    | zero => simp [backCells] at e1 e2; subst e1; subst e2; exact .own r n z rows (H (n, r) (by simp))
    | succ i => exact a1 i x y (by simpa [backCells] using e1) (by simpa [backCells] using e2)
  | .mp ag es :: o, [], _, h1, _, _ => by simp [nOwn] at h1
  | .mp ag es :: o, _ :: _, [], _, h2, _ => by simp [nOwn] at h2
  | .mp ag es :: o, r :: rs, n :: ns, h1, h2, H => by
    obtain ⟨a1, a2⟩ := back_am hme o rs ns (by simpa [nOwn] using h1) (by simpa [nOwn] using h2) (fun p hp => H p (by simp [hp]))
    refine ⟨fun i x y e1 e2 => ?_, .cons _ _ _ _ ⟨rfl, rfl⟩ a2⟩
    cases i with
    | zero => simp [backCells] at e1 e2; subst e1; subst e2; exact .mp r n (H (n, r) (by simp))
    | succ i => exact a1 i x y (by simpa [backCells] using e1) (by simpa [backCells] using e2)

def allNames : List (Nat × List Nat) → List Nat
  | [] => []
  | (n, rs) :: ns => n :: (rs ++ allNames ns)
theorem objs_keys : ∀ (ns : List (Nat × List Nat)) (os : List (List OV)), Fit ns os → keys (backObjs ns os) = allNames ns
  | [], [], _ => rfl
  | [], _ :: _, h => h.elim
  | _ :: _, [], h => h.elim
  | (n, rs) :: ns, o :: os, ⟨h1, h2⟩ => by
    have e1 := back_keys n o rs h1
    have e2 := objs_keys ns os h2
    simp only [keys] at e1 e2
    simp only [backObjs, allNames, keys, List.map_cons, List.map_append, e1, e2]
theorem allNames_length : ∀ (ns ns' : List (Nat × List Nat)) (os : List (List OV)), Fit ns os → Fit ns' os → (allNames ns).length = (allNames ns').length
  | [], [], [], _, _ => rfl
  | (n, rs) :: ns, (n', rs') :: ns', o :: os, ⟨h1, h2⟩, ⟨h3, h4⟩ => by
    simp [allNames, allNames_length ns ns' os h2 h4, h1, h3]
  | [], _ :: _, [], _, h => h.elim
  | _ :: _, [], [], h, _ => h.elim
  | _ :: _, _ :: _, [], h, _ => h.elim
  | [], _, _ :: _, h, _ => h.elim
  | _ :: _, [], _ :: _, _, h => h.elim

theorem objs_am {ρ : Ren} : ∀ (ns ns' : List (Nat × List Nat)) (os : List (List OV)), Fit ns os → Fit ns' os → (∀ p ∈ (allNames ns').zip (allNames ns), ρ.src p.1 = some p.2) →
    Al (fun x y => CM ρ (some x.2) (some y.2)) (backObjs ns os) (backObjs ns' os)
  | [], [], [], _, _, _ => .nil
  | (n, rs) :: ns, (n', rs') :: ns', o :: os, ⟨h1, h2⟩, ⟨h3, h4⟩, H => by
    have hz : (allNames ((n', rs') :: ns')).zip (allNames ((n, rs) :: ns)) = (n', n) :: (rs'.zip rs ++ (allNames ns').zip (allNames ns)) := by
      simp only [allNames, List.zip_cons_cons]
      rw [List.zip_append (by omega)]
    rw [hz] at H
    obtain ⟨a1, a2⟩ := back_am (ρ := ρ) (H (n', n) (by simp)) o rs rs' h1 h3 (fun p hp => H p (by simp [hp]))
    refine .cons _ _ _ _ ⟨rfl, by rw [back_length, back_length], a1⟩ (a2.append (objs_am ns ns' os h2 h4 fun p hp => H p (by simp [hp])))
  | [], _ :: _, [], _, h, _ => h.elim
  | _ :: _, [], [], h, _, _ => h.elim
  | _ :: _, _ :: _, [], h, _, _ => h.elim
  | [], _, _ :: _, h, _, _ => h.elim
  | _ :: _, [], _ :: _, _, h, _ => h.elim


theorem refE_am {ρ : Ren} {k : Nat} : ∀ {no no' : List Nat}, no.length = no'.length → (∀ p ∈ no'.zip no, ρ.src p.1 = some p.2) → AM ρ (refE no k) (refE no' k) := by
  intro no no' hl H
  unfold refE
  cases h' : no'[k]? with
  | none => exact .undef _
  | some n' =>
    have hk : k < no.length := by have := (List.getElem?_eq_some_iff.1 h').1; omega
    have h : no[k]? = some no[k] := by simp [hk]
    rw [h]
    exact .ptr _ _ 0 (H (n', no[k]) (List.mem_of_getElem? (i := k) (by simp [List.getElem?_zip_eq_some, h', hk])))

theorem res_am {ρ : Ren} {nr nr' : Nat → Nat} {nc nc' : Nat → Nat → Nat} {no no' : List Nat} (hno : no.length = no'.length) (Ho : ∀ p ∈ no'.zip no, ρ.src p.1 = some p.2) : ∀ (l : List RV) (i : Nat), (∀ r ∈ l, ∀ x, r = .pv x → AM ρ x x) → (∀ p ∈ (keys (resAt nr' nc' no' i l).2).zip (keys (resAt nr nc no i l).2), ρ.src p.1 = some p.2) →
    (resAt nr nc no i l).1.length = (resAt nr' nc' no' i l).1.length ∧ (∀ (k : Nat) (x y : AV), (resAt nr nc no i l).1[k]? = some x → (resAt nr' nc' no' i l).1[k]? = some y → AM ρ x y) ∧
      Al (fun x y => CM ρ (some x.2) (some y.2)) (resAt nr nc no i l).2 (resAt nr' nc' no' i l).2
  | [], i, _, _ => ⟨rfl, fun k x y h => by simp [resAt] at h, .nil⟩
  | .pv x :: l, i, hp, H => by
    obtain ⟨a0, a1, a2⟩ := res_am (nr := nr) (nr' := nr') (nc := nc) (nc' := nc') hno Ho l (i + 1) (fun r hr => hp r (by simp [hr])) H
    refine ⟨by simp [resAt, a0], fun k y z e1 e2 => ?_, a2⟩
    cases k with
    | zero => simp [resAt] at e1 e2; subst e1; subst e2; exact hp _ (by simp) x rfl
    | succ k => exact a1 k y z (by simpa [resAt] using e1) (by simpa [resAt] using e2)
  | .ref q :: l, i, hp, H => by
    obtain ⟨a0, a1, a2⟩ := res_am (nr := nr) (nr' := nr') (nc := nc) (nc' := nc') hno Ho l (i + 1) (fun r hr => hp r (by simp [hr])) H
    refine ⟨by simp [resAt, a0], fun k y z e1 e2 => ?_, a2⟩
    cases k with
    | zero => simp [resAt] at e1 e2; subst e1; subst e2; exact refE_am hno Ho
    | succ k => exact a1 k y z (by simpa [resAt] using e1) (by simpa [resAt] using e2)
  | .fresh z rows :: l, i, hp, H => by
    simp only [resAt, keys, List.map_cons, List.zip_cons_cons, List.mem_cons] at H
    obtain ⟨a0, a1, a2⟩ := res_am (nr := nr) (nr' := nr') (nc := nc) (nc' := nc') hno Ho l (i + 1) (fun r hr => hp r (by simp [hr])) (fun p hp => H p (.inr hp))
    refine ⟨by simp [resAt, a0], fun k y w e1 e2 => ?_, .cons _ _ _ _ ⟨rfl, rfl⟩ a2⟩
    cases k with
    | zero => simp [resAt] at e1 e2; subst e1; subst e2; exact .own _ _ z rows (H _ (.inl rfl))
    | succ k => exact a1 k y w (by simpa [resAt] using e1) (by simpa [resAt] using e2)
  | .newobj o :: l, i, hp, H => by
    have k1 : keys (cellsAt (nc i) (nr i) 0 o).2 = rowNames (nc i) 0 o := by rw [cellsAt_back]; exact back_keys _ _ _ (rowNames_length _ _ _)
    have k2 : keys (cellsAt (nc' i) (nr' i) 0 o).2 = rowNames (nc' i) 0 o := by rw [cellsAt_back]; exact back_keys _ _ _ (rowNames_length _ _ _)
    have hz : (keys (resAt nr' nc' no' i (.newobj o :: l)).2).zip (keys (resAt nr nc no i (.newobj o :: l)).2) = (nr' i, nr i) :: ((rowNames (nc' i) 0 o).zip (rowNames (nc i) 0 o) ++ (keys (resAt nr' nc' no' (i + 1) l).2).zip (keys (resAt nr nc no (i + 1) l).2)) := by
      rw [← k1, ← k2]
      simp only [resAt, keys, List.map_cons, List.map_append, List.zip_cons_cons]
      rw [List.zip_append]
      have e1 := k1; have e2 := k2
      simp only [keys] at e1 e2
      rw [e1, e2, rowNames_length, rowNames_length]
    rw [hz] at H
    obtain ⟨a0, a1, a2⟩ := res_am (nr := nr) (nr' := nr') (nc := nc) (nc' := nc') hno Ho l (i + 1) (fun r hr => hp r (by simp [hr])) (fun p hp => H p (by simp [hp]))
    obtain ⟨b1, b2⟩ := back_am (ρ := ρ) (H (nr' i, nr i) (by simp)) o (rowNames (nc i) 0 o) (rowNames (nc' i) 0 o) (rowNames_length _ _ _) (rowNames_length _ _ _) (fun p hp => H p (by simp [hp]))
    refine ⟨by simp [resAt, a0], fun k y w e1 e2 => ?_, ?_⟩
    · cases k with
      | zero => simp [resAt] at e1 e2; subst e1; subst e2; exact .ptr _ _ 0 (H (nr' i, nr i) (by simp))
      | succ k => exact a1 k y w (by simpa [resAt] using e1) (by simpa [resAt] using e2)
    · simp only [resAt]
      refine .cons _ _ _ _ ⟨rfl, ?_, ?_⟩ (Al.append ?_ a2)
      · rw [cellsAt_back, cellsAt_back, back_length, back_length]
      · rw [cellsAt_back, cellsAt_back]; exact b1
      · rw [cellsAt_back, cellsAt_back]; exact b2

/-- What a call hands back by value is pure: it names nothing. -/
inductive Pure : AV → Prop
  | c (x : PC) : Pure (.c x)
  | agg (cs : List AV) (h : ∀ x ∈ cs, Pure x) : Pure (.agg cs)
  | nilptr : Pure .nilptr
  | nilsl : Pure .nilsl
  | rptr (cs : List PC) : Pure (.rptr cs)
  | clo (f : FuncId) (caps : List (List PC)) : Pure (.clo f caps)
  | ubool : Pure .ubool

theorem Pure.am {x : AV} (h : Pure x) (ρ : Ren) : AM ρ x x := by
  induction h with
  | c x => exact .c x
  | agg cs h ih =>
    refine .agg cs cs rfl fun i x y e1 e2 => ?_
    rw [e1] at e2; cases e2
    exact ih x (List.mem_of_getElem? e1)
  | nilptr => exact .nilptr
  | nilsl => exact .nilsl
  | rptr cs => exact .rptr cs
  | clo f caps => exact .clo f caps
  | ubool => exact .ubool

def CRes.pure (r : CRes) : Prop := ∀ x, RV.pv x ∈ r.res → Pure x

theorem AR.pure {E : Env} {G : Gh} {x y : AV} {v : Value} (h : AR G x v) (hp : x.pure? = some y) : AR G y v ∧ Pure y := by
  unfold AV.pure? at hp
  split at hp
  · rename_i cs
    obtain ⟨l, hl, rfl⟩ := Option.map_eq_some_iff.1 hp
    obtain ⟨t1, t2⟩ := toPCs_spec hl
    cases h with
    | agg _ us hl hc =>
    refine ⟨.agg _ _ (by simp; omega) (fun i x u e1 e2 => ?_), .agg _ (fun x hx => ?_)⟩
    · simp only [List.getElem?_map, Option.map_eq_some_iff] at e1
      obtain ⟨c, e1, rfl⟩ := e1
      have hi : i < cs.length := by have := (List.getElem?_eq_some_iff.1 e1).1; omega
      have hx : cs[i]? = some cs[i] := by simp [hi]
      exact .c _ _ ((hc i _ u hx e2).toPC (t2 i _ c hx e1))
    · simp only [List.mem_map] at hx
      obtain ⟨c, _, rfl⟩ := hx
      exact .c c
  · cases hp; exact ⟨h, .rptr _⟩
  · cases hp; exact ⟨h, .clo _ _⟩
  · cases hp; exact ⟨h, .nilptr⟩
  · cases hp; exact ⟨h, .nilsl⟩
  · obtain ⟨c, hc, rfl⟩ := Option.map_eq_some_iff.1 hp
    exact ⟨.c _ _ (h.toPC hc), .c c⟩

def EnterOK (P : Program) (f : FuncId) : Prop := ∃ fn, P.funcs[f]? = some fn ∧ (fn.name == "runtime.NumGoroutine") = false ∧ fn.body.isSome = true

def CallPost (E : Env) (G : Gh) (r : CRes) : Ending → World → Prop := fun e w' => ∃ (G' : Gh) (v : Value), e = .returned v ∧ G.le G' ∧ MRel E G' (look (exitMem r)) w' ∧ AR G' (oneE (exitVals r)) v

/-- What a function answers. -/
def SoundC (P : Program) (f : FuncId) (C : Contract) : Prop :=
  EnterOK P f ∧ ∀ (args : List AV) (objs : List (List OV)) (r : CRes), C args objs = some r → r.pure ∧
    ∀ (Ext : Nat → Prop) (G : Gh) (w : World) (vals : List Value), MRel (cEnv w Ext G.K) G (look (entryMem 0 objs)) w → args.length = vals.length →
      (∀ (i : Nat) (x : AV) (v : Value), args[i]? = some x → vals[i]? = some v → AR G x v) →
      Calls P f vals.toArray w (CallPost (cEnv w Ext G.K) G r)


section
variable {P : Program} {E : Env} {G : Gh} {s : AS} {a : Act} {w : World} {o : Oper} {next : Act → World → Prop} {Q : Exit → Act → World → Prop}

/-- The caller's own list of what it hands over. -/
def rowsMC : List OV → List Nat → List (Nat × MC)
  | [], _ => []
  | .c _ :: o, rs => rowsMC o rs
  | .own z rows :: o, r :: rs => (r, .row z rows.length) :: rowsMC o rs
  | .own _ _ :: o, [] => rowsMC o []
  | .mp ag es :: o, r :: rs => (r, .mp ag es) :: rowsMC o rs
  | .mp _ _ :: o, [] => rowsMC o []
  | .nilmp :: o, rs => rowsMC o rs
  | .nilptr :: o, rs => rowsMC o rs
  | .self :: o, rs => rowsMC o rs
def origMC : List (List AV) → List (List OV) → List (Nat × List Nat) → List (Nat × MC)
  | cells :: cs, o :: os, (n, rs) :: ns => (n, .obj cells false) :: (rowsMC o rs ++ origMC cs os ns)
  | _, _, _ => []

def CellsOK (me : Nat) (m : Nat → Option MC) (cells : List AV) (o : List OV) (rs : List Nat) : Prop :=
    cells.length = o.length ∧ rs.length = nOwn o ∧ (∀ q c, (q, c) ∈ rowsMC o rs → m q = some c) ∧ keys (rowsMC o rs) = rs ∧
    ∀ (ρ : Ren) (ns : List Nat) (me' : Nat), ρ.src me' = some me → ns.length = nOwn o → (∀ p ∈ ns.zip rs, ρ.src p.1 = some p.2) →
      (∀ (i : Nat) (x y : AV), cells[i]? = some x → (backCells me' o ns).1[i]? = some y → AM ρ x y) ∧ Al (fun x y => CM ρ (some x.2) (some y.2)) (rowsMC o rs) (backCells me' o ns).2
/-- A cell that names nothing of its own. -/
theorem CellsOK.plain {me : Nat} {m : Nat → Option MC} {cells : List AV} {o : List OV} {rs : List Nat} (h : CellsOK me m cells o rs) {x : AV} {y : OV}
    (hn : nOwn (y :: o) = nOwn o) (hr : rowsMC (y :: o) rs = rowsMC o rs) (hb : ∀ me' ns, ∃ v, backCells me' (y :: o) ns = (v :: (backCells me' o ns).1, (backCells me' o ns).2) ∧ ∀ ρ : Ren, ρ.src me' = some me → AM ρ x v) : CellsOK me m (x :: cells) (y :: o) rs := by
  obtain ⟨b1, b2, b3, b4, b5⟩ := h
  refine ⟨by simp [b1], by rw [hn]; exact b2, by rw [hr]; exact b3, by rw [hr]; exact b4, fun ρ ns me' h0 n1 n2 => ?_⟩
  obtain ⟨d1, d2⟩ := b5 ρ ns me' h0 (by rw [← hn]; exact n1) n2
  obtain ⟨v, hv, ha⟩ := hb me' ns
  rw [hr, hv]
  refine ⟨fun i x' y e1 e2 => ?_, d2⟩
  cases i with
  | zero => simp at e1 e2; subst e1; subst e2; exact ha ρ h0
  | succ i => exact d1 i x' y (by simpa using e1) (by simpa using e2)

theorem cellsE_inv {m : Nat → Option MC} (me : Nat) : ∀ (cells : List AV) (o : List OV) (rs : List Nat) (l : List Nat), (cellsE me cells).run m = some ((o, rs), l) → CellsOK me m cells o rs
  | [], o, rs, l, h => by
    obtain ⟨e, _⟩ := EP.ret_inv h
    cases e
    exact ⟨rfl, rfl, fun q c h => by simp [rowsMC] at h, rfl, fun ρ ns me' _ _ _ => ⟨fun i x y h => by simp at h, .nil⟩⟩
  | x :: cells, o, rs, l, h => by
    simp only [cellsE] at h
    split at h
    · rename_i r z rows
      obtain ⟨l', h, _⟩ := EP.ask_inv h
      split at h
      · rename_i z' fr hm
        split at h
        · rename_i hfr
          obtain ⟨hz, hfr⟩ := hfr
          subst hz; subst hfr
          obtain ⟨⟨o', rs'⟩, l1, l2, h1, h2, _⟩ := EP.bind_inv h
          obtain ⟨e, _⟩ := EP.ret_inv h2
          cases e
          obtain ⟨b1, b2, b3, b4, b5⟩ := cellsE_inv me cells o' rs' l1 h1
          refine ⟨by simp [b1], by simp [nOwn, b2], fun q c hq => ?_, ?_, fun ρ ns me' h0 n1 n2 => ?_⟩
          · simp only [rowsMC, List.mem_cons] at hq
            rcases hq with hq | hq
            · cases hq; exact hm
            · exact b3 q c hq
          · simp only [rowsMC, keys, List.map_cons, List.cons.injEq, true_and]; exact b4
          · cases ns with
            | nil => simp [nOwn] at n1
            | cons n ns =>
              obtain ⟨d1, d2⟩ := b5 ρ ns me' h0 (by simpa [nOwn] using n1) (fun p hp => n2 p (by simp [hp]))
              refine ⟨fun i x' y e1 e2 => ?_, .cons _ _ _ _ ⟨rfl, rfl⟩ d2⟩
              cases i with
              | zero => simp [backCells] at e1 e2; subst e1; subst e2; exact .own r n _ rows (n2 (n, r) (by simp))
              | succ i => exact d1 i x' y (by simpa using e1) (by simpa [backCells] using e2)
        · exact EP.fail_inv h
      · exact EP.fail_inv h
    · rename_i r
      obtain ⟨l', h, _⟩ := EP.ask_inv h
      split at h
      · rename_i ag es hm
        obtain ⟨⟨o', rs'⟩, l1, l2, h1, h2, _⟩ := EP.bind_inv h
        obtain ⟨e, _⟩ := EP.ret_inv h2
        cases e
        obtain ⟨b1, b2, b3, b4, b5⟩ := cellsE_inv me cells o' rs' l1 h1
        refine ⟨by simp [b1], by simp [nOwn, b2], fun q c hq => ?_, ?_, fun ρ ns me' h0 n1 n2 => ?_⟩
        · simp only [rowsMC, List.mem_cons] at hq
          rcases hq with hq | hq
          · cases hq; exact hm
          · exact b3 q c hq
        · simp only [rowsMC, keys, List.map_cons, List.cons.injEq, true_and]; exact b4
        · cases ns with
          | nil => simp [nOwn] at n1
          | cons n ns =>
            obtain ⟨d1, d2⟩ := b5 ρ ns me' h0 (by simpa [nOwn] using n1) (fun p hp => n2 p (by simp [hp]))
            refine ⟨fun i x' y e1 e2 => ?_, .cons _ _ _ _ ⟨rfl, rfl⟩ d2⟩
            cases i with
            | zero => simp [backCells] at e1 e2; subst e1; subst e2; exact .mp r n (n2 (n, r) (by simp))
            | succ i => exact d1 i x' y (by simpa using e1) (by simpa [backCells] using e2)
      · exact EP.fail_inv h
    · obtain ⟨⟨o', rs'⟩, l1, l2, h1, h2, _⟩ := EP.bind_inv h
      obtain ⟨e, _⟩ := EP.ret_inv h2
      cases e
      exact (cellsE_inv me cells o' rs' l1 h1).plain rfl rfl (fun me' ns => ⟨.nilmp, rfl, fun _ _ => .nilmp⟩)
    · obtain ⟨⟨o', rs'⟩, l1, l2, h1, h2, _⟩ := EP.bind_inv h
      obtain ⟨e, _⟩ := EP.ret_inv h2
      cases e
      exact (cellsE_inv me cells o' rs' l1 h1).plain rfl rfl (fun me' ns => ⟨.nilptr, rfl, fun _ _ => .nilptr⟩)
    · rename_i r
      split at h
      · rename_i hr
        subst hr
        obtain ⟨⟨o', rs'⟩, l1, l2, h1, h2, _⟩ := EP.bind_inv h
        obtain ⟨e, _⟩ := EP.ret_inv h2
        cases e
        exact (cellsE_inv r cells o' rs' l1 h1).plain rfl rfl (fun me' ns => ⟨.ptr me' 0, rfl, fun _ h0 => .ptr _ _ 0 h0⟩)
      · exact EP.fail_inv h
    · split at h
      · rename_i c hc
        obtain ⟨⟨o', rs'⟩, l1, l2, h1, h2, _⟩ := EP.bind_inv h
        obtain ⟨e, _⟩ := EP.ret_inv h2
        cases e
        refine (cellsE_inv me cells o' rs' l1 h1).plain rfl rfl (fun me' ns => ⟨.c c, rfl, fun _ _ => ?_⟩)
        cases x <;> simp only [AV.toPC, Option.some.injEq, reduceCtorEq] at hc
        · subst hc; exact .c _
        · subst hc; exact .nilc
        · subst hc; exact .ownc _ _ _
      · exact EP.fail_inv h


theorem objsE_inv {m : Nat → Option MC} (M : MRel E G m w) : ∀ (ns : List Nat) (os : List (List OV)) (nm : List (Nat × List Nat)) (l : List Nat), (objsE ns).run m = some ((os, nm), l) →
    ∃ css : List (List AV), nm.map (·.1) = ns ∧ Fit nm os ∧ (∀ q c, (q, c) ∈ origMC css os nm → m q = some c) ∧ keys (origMC css os nm) = allNames nm ∧
    ∀ (ρ : Ren) (nm' : List (Nat × List Nat)), Fit nm' os → (∀ p ∈ (allNames nm').zip (allNames nm), ρ.src p.1 = some p.2) → Al (fun x y => CM ρ (some x.2) (some y.2)) (origMC css os nm) (backObjs nm' os)
  | [], os, nm, l, h => by
    obtain ⟨e, _⟩ := EP.ret_inv h
    cases e
    refine ⟨[], rfl, trivial, fun q c h => by simp [origMC] at h, rfl, fun ρ nm' hf _ => ?_⟩
    cases nm' with
    | nil => exact .nil
    | cons => exact hf.elim
  | n :: ns, os, nm, l, h => by
    unfold objsE at h
    obtain ⟨l', h, _⟩ := EP.ask_inv h
    split at h
    · rename_i cells hm
      obtain ⟨⟨o, rs⟩, l1, l2, h1, h2, _⟩ := EP.bind_inv h
      obtain ⟨⟨os', nm'⟩, l3, l4, h3, h4, _⟩ := EP.bind_inv h2
      obtain ⟨e, _⟩ := EP.ret_inv h4
      cases e
      obtain ⟨b1, b2, b3, b4, b5⟩ := cellsE_inv n cells o rs l1 h1
      obtain ⟨css, c1, c2, c3, c4, c5⟩ := objsE_inv M ns os' nm' l3 h3
      refine ⟨cells :: css, by simp [c1], ⟨b2, c2⟩, fun q c hq => ?_, ?_, fun ρ nm2 hf H => ?_⟩
      · simp only [origMC, List.mem_cons, List.mem_append] at hq
        rcases hq with hq | hq | hq
        · cases hq; exact hm
        · exact b3 q c hq
        · exact c3 q c hq
      · simp only [keys] at b4 c4
        simp only [origMC, allNames, keys, List.map_cons, List.map_append, b4, c4]
      · cases nm2 with
        | nil => exact hf.elim
        | cons p nm2 =>
          obtain ⟨n2, rs2⟩ := p
          obtain ⟨f1, f2⟩ := hf
          have hz : (allNames ((n2, rs2) :: nm2)).zip (allNames ((n, rs) :: nm')) = (n2, n) :: (rs2.zip rs ++ (allNames nm2).zip (allNames nm')) := by
            simp only [allNames, List.zip_cons_cons]
            rw [List.zip_append (by rw [f1]; exact b2.symm)]
          rw [hz] at H
          obtain ⟨d1, d2⟩ := b5 ρ rs2 n2 (H (n2, n) (by simp)) f1 (fun p hp => H p (by simp [hp]))
          refine .cons _ _ _ _ ⟨rfl, ?_, d1⟩ (d2.append (c5 ρ nm2 f2 fun p hp => H p (by simp [hp])))
          rw [back_length, b1]
    · exact EP.fail_inv h

theorem argsE_inv : ∀ (xs : List AV) (i : Nat) (as : List AV) (ns : List Nat), argsE xs i = some (as, ns) →
    as.length = xs.length ∧ ∀ (G' : Gh), G'.K = G.K → (∀ k n, ns[k]? = some n → ∃ b, G'.h (inObj (i + k)) = some b ∧ G.h n = some b) →
      ∀ (k : Nat) (x y : AV) (v : Value), xs[k]? = some x → as[k]? = some y → AR G x v → AR G' y v
  | [], i, as, ns, h => by
    simp only [argsE, Option.some.injEq, Prod.mk.injEq] at h
    obtain ⟨rfl, rfl⟩ := h
    exact ⟨rfl, fun _ _ _ k x y v h => by simp at h⟩
  | x :: xs, i, as, ns, h => by
    simp only [argsE] at h
    split at h
    · rename_i n
      split at h
      · rename_i as' ns' h1
        simp only [Option.some.injEq, Prod.mk.injEq] at h
        obtain ⟨rfl, rfl⟩ := h
        obtain ⟨a1, a2⟩ := argsE_inv xs (i + 1) as' ns' h1
        refine ⟨by simp [a1], fun G' hK hh k x y v e1 e2 hx => ?_⟩
        cases k with
        | zero =>
          simp at e1 e2
          subst e1; subst e2
          cases hx with
          | ptr _ _ b hb =>
          obtain ⟨c, g1, g2⟩ := hh 0 n rfl
          rw [hb] at g2
          cases g2
          exact .ptr _ _ b g1
        | succ k => exact a2 G' hK (fun j n hj => by have := hh (j + 1) n (by simpa using hj); rwa [show i + (j + 1) = i + 1 + j from by omega] at this) k x y v (by simpa using e1) (by simpa using e2) hx
      · cases h
    · rename_i n off len ex
      split at h
      · rename_i as' ns' h1
        simp only [Option.some.injEq, Prod.mk.injEq] at h
        obtain ⟨rfl, rfl⟩ := h
        obtain ⟨a1, a2⟩ := argsE_inv xs (i + 1) as' ns' h1
        refine ⟨by simp [a1], fun G' hK hh k x y v e1 e2 hx => ?_⟩
        cases k with
        | zero =>
          simp at e1 e2
          subst e1; subst e2
          cases hx with
          | msl _ _ _ b cap _ hb hc he =>
          obtain ⟨c, g1, g2⟩ := hh 0 n rfl
          rw [hb] at g2
          cases g2
          exact .msl _ _ _ b cap _ g1 hc he
        | succ k => exact a2 G' hK (fun j n hj => by have := hh (j + 1) n (by simpa using hj); rwa [show i + (j + 1) = i + 1 + j from by omega] at this) k x y v (by simpa using e1) (by simpa using e2) hx
      · cases h
    · split at h
      · rename_i y' as' ns' hp h1
        simp only [Option.some.injEq, Prod.mk.injEq] at h
        obtain ⟨rfl, rfl⟩ := h
        obtain ⟨a1, a2⟩ := argsE_inv xs i as' ns' h1
        refine ⟨by simp [a1], fun G' hK hh k x2 y v e1 e2 hx => ?_⟩
        cases k with
        | zero =>
          simp at e1 e2
          subst e1; subst e2
          obtain ⟨g1, g2⟩ := AR.pure (E := cEnv default (fun _ => False) G.K) hx hp
          have := (g2.am ⟨fun _ => none, fun _ => none⟩).rel g1
          exact this.mono ⟨by rw [hK]; exact Know.le_refl _, fun n h e => by simp [Ren.gh] at e⟩
        | succ k => exact a2 G' hK hh k x2 y v (by simpa using e1) (by simpa using e2) hx
      · cases h


theorem freeE_inv {m : Nat → Option MC} : ∀ (ns : List Nat) (l : List Nat), (freeE ns).run m = some ((), l) → ∀ n ∈ ns, m n = none
  | [], l, h, n, hn => by simp at hn
  | n0 :: ns, l, h, n, hn => by
    simp only [freeE] at h
    obtain ⟨l', h, _⟩ := EP.ask_inv h
    split at h
    · rename_i hm
      rcases List.mem_cons.1 hn with rfl | hn
      · exact hm
      · exact freeE_inv ns l' h n hn
    · exact EP.fail_inv h

theorem zip_look : ∀ {ks qs : List Nat}, ks.Nodup → ∀ p ∈ ks.zip qs, look (ks.zip qs) p.1 = some p.2
  | [], _, _, p, h => by simp at h
  | _ :: _, [], _, p, h => by simp at h
  | k :: ks, q :: qs, nd, p, h => by
    simp only [List.nodup_cons] at nd
    simp only [List.zip_cons_cons, List.mem_cons] at h
    simp only [List.zip_cons_cons, look]
    rcases h with h | h
    · subst h; simp
    · have hk : k ≠ p.1 := fun e => by subst e; exact nd.1 (List.of_mem_zip h).1
      rw [if_neg hk]
      exact zip_look nd.2 p h

def SoundG (P : Program) (Γ : FuncId → Contract) : Prop := ∀ f args objs r, Γ f args objs = some r → SoundC P f (Γ f)

theorem inName (os : List (List OV)) : ∀ (nm : List (Nat × List Nat)) (i k n : Nat), Fit nm os → (nm.map (·.1))[k]? = some n → (inObj (i + k), n) ∈ (allNames (entryNames i os)).zip (allNames nm) := by
  induction os with
  | nil => intro nm i k n hf h; cases nm with | nil => simp at h | cons => exact hf.elim
  | cons o os ih =>
    intro nm i k n hf h
    cases nm with
    | nil => exact hf.elim
    | cons p nm =>
      obtain ⟨n0, rs⟩ := p
      obtain ⟨f1, f2⟩ := hf
      simp only [entryNames, allNames, List.zip_cons_cons]
      rw [List.zip_append (by rw [rowNames_length]; exact f1.symm)]
      cases k with
      | zero => simp at h; subst h; simp
      | succ k =>
        have := ih nm (i + 1) k n f2 (by simpa using h)
        rw [show i + 1 + k = i + (k + 1) from by omega] at this
        simp [this]

theorem look2_inv {C : Contract} {as : List AV} {os : List (List OV)} {r : CRes} (h : look2 C as os = some r) :
    ∃ as', C as' os = some r ∧ as'.length = as.length ∧ ∀ (G' : Gh) (k : Nat) (y : AV) (v : Value), as'[k]? = some y → (∀ y0, as[k]? = some y0 → AR G' y0 v) → AR G' y v := by
  unfold look2 at h
  split at h
  · rename_i r' h1
    cases h
    refine ⟨as.map denil, h1, by simp, fun G' k y v e1 e2 => ?_⟩
    simp only [List.getElem?_map, Option.map_eq_some_iff] at e1
    obtain ⟨y0, e1, rfl⟩ := e1
    have := e2 y0 e1
    unfold denil
    split
    · cases this; exact .c _ _ .nil
    · exact this
  · exact ⟨as, h, rfl, fun G' k y v e1 e2 => e2 y e1⟩

theorem sound_call {Γ : FuncId → Contract} (hΓ : SoundG P Γ) (R : Rel E G s a w) {d : Nat} {f : FuncId} {xs : List AV} {us : List Value} (hl : xs.length = us.length) (hx : ∀ (i : Nat) (x : AV) (u : Value), xs[i]? = some x → us[i]? = some u → AR G x u)
    (hexec : EnterOK P f → (execOp a.eval o).run P w = .ok (.enter f us.toArray) w)
    {e : Eff} {l : List Nat} (h : (callE Γ d f xs).run s.mem = some (e, l)) (K : Post E G s o e a next) : o.wp P a w next Q := by
  unfold callE at h
  split at h
  · exact EP.fail_inv h
  · rename_i as ns hargs
    obtain ⟨⟨os, nm⟩, l1, l2, h1, h2, _⟩ := EP.bind_inv h
    split at h2
    · exact EP.fail_inv h2
    · rename_i r hr
      split at h2
      · rename_i hc
        obtain ⟨c1, c2, c3, c4⟩ := hc
        obtain ⟨⟨⟩, l3, l4, h3, h4, _⟩ := EP.bind_inv h2
        obtain ⟨rfl, _⟩ := EP.ret_inv h4
        obtain ⟨css, d1, d2, d3, d4, d5⟩ := objsE_inv R.mem ns os nm l1 h1
        have d2' : Fit nm r.objs := d2.shape c1
        have hfree := freeE_inv _ _ h3
        -- into the callee's names
        have kin : keys (entryMem 0 os) = allNames (entryNames 0 os) := by rw [entry_back]; exact objs_keys _ _ (Fit.entry 0 os)
        have kback : keys (backObjs nm r.objs) = allNames nm := objs_keys nm r.objs d2'
        have ndin : (allNames (entryNames 0 os)).Nodup := by rw [← kin]; exact c2
        have ndnm : (allNames nm).Nodup := by
          rw [keys, List.map_append, List.nodup_append] at c4
          rw [← kback]; exact c4.1
        let ρ1 := pren (origMC css os nm) (entryMem 0 os)
        have hsrc1 : ∀ p ∈ (allNames (entryNames 0 os)).zip (allNames nm), ρ1.src p.1 = some p.2 := by
          intro p hp
          show look (pairs (origMC css os nm) (entryMem 0 os)) p.1 = some p.2
          unfold pairs
          rw [kin, d4]
          exact zip_look ndin p hp
        have al1 := d5 ρ1 (entryNames 0 os) (Fit.entry 0 os) hsrc1
        rw [← entry_back] at al1
        have ren1 : RenOK ρ1 s.mem (look (entryMem 0 os)) := RenOK.of al1 (by rw [d4]; exact ndnm) (fun q c h => d3 q c (look_mem h))
        have M1 := (R.mem.rename ren1).focus
        obtain ⟨as', hr', hasl, hden⟩ := look2_inv hr
        obtain ⟨enter, hcon⟩ := hΓ f as' os r hr'
        obtain ⟨hpure, hcon⟩ := hcon as' os r hr'
        obtain ⟨g1, g2⟩ := argsE_inv (G := G) xs 0 as ns hargs
        have hcall := hcon (fun b => ∃ n h, (ρ1.gh G).h n = some h ∧ h.blk = some b) (ρ1.gh G) w us M1 (by omega) (by
          intro i y v e1 e2
          have hi : i < xs.length := by have := (List.getElem?_eq_some_iff.1 e1).1; omega
          have hxi : xs[i]? = some xs[i] := by simp [hi]
          refine hden _ i y v e1 fun y e1 => ?_
          refine g2 (ρ1.gh G) rfl ?_ i _ y v hxi e1 (hx i _ v hxi e2)
          intro k n hk
          rw [← d1] at hk
          have hp := inName os nm 0 k n d2 hk
          have hs := hsrc1 _ hp
          have hgn : ∃ b, G.h n = some b := by
            have hq : n ∈ keys (origMC css os nm) := by rw [d4]; exact (List.of_mem_zip hp).2
            obtain ⟨c, hc⟩ := look_some (l := origMC css os nm) hq
            have hm := d3 n c (look_mem hc)
            have := R.mem.home n
            rw [hm] at this
            cases hgh : G.h n with
            | none => rw [hgh] at this; cases c <;> exact this.elim
            | some b => exact ⟨b, rfl⟩
          obtain ⟨b, hb⟩ := hgn
          exact ⟨b, by simp only [Ren.gh, hs]; exact hb, hb⟩)
        unfold Oper.wp
        rw [hexec enter]
        refine Calls.mono hcall ?_
        rintro e w' ⟨G', v, rfl, hle, M', hv⟩
        -- back into the caller's names
        let rc := resAt (resName d) (resCell d) ns 0 r.res
        let ro := resAt outName outCell (inNames 0 r.objs) 0 r.res
        let wr := backObjs nm r.objs ++ rc.2
        let ρ2 := pren (exitMem r) wr
        have kex : keys (entryMem 0 r.objs) = allNames (entryNames 0 r.objs) := by rw [entry_back]; exact objs_keys _ _ (Fit.entry 0 r.objs)
        have hlen1 : (keys (backObjs nm r.objs)).length = (keys (entryMem 0 r.objs)).length := by rw [kback, kex]; exact allNames_length nm _ r.objs d2' (Fit.entry 0 r.objs)
        have hz2 : pairs (exitMem r) wr = (allNames nm).zip (allNames (entryNames 0 r.objs)) ++ (keys rc.2).zip (keys ro.2) := by
          unfold pairs exitMem
          show (keys (backObjs nm r.objs ++ rc.2)).zip (keys (entryMem 0 r.objs ++ ro.2)) = _
          simp only [keys, List.map_append] at *
          rw [List.zip_append hlen1, kback, kex]
        have ndwr : (keys wr).Nodup := c4
        have hsrc2 : ∀ p ∈ pairs (exitMem r) wr, ρ2.src p.1 = some p.2 := fun p hp => zip_look ndwr p hp
        have hnm : ∀ (nm : List (Nat × List Nat)) (i : Nat) (os : List (List OV)), Fit nm os → (nm.map (·.1)).length = (inNames i os).length ∧ ∀ p ∈ (nm.map (·.1)).zip (inNames i os), p ∈ (allNames nm).zip (allNames (entryNames i os)) := by
          intro nm
          induction nm with
          | nil => intro i os hf; cases os with | nil => exact ⟨rfl, fun p hp => by simp at hp⟩ | cons => exact hf.elim
          | cons x nm ih =>
            intro i os hf
            cases os with
            | nil => exact hf.elim
            | cons o os =>
              obtain ⟨n0, rs⟩ := x
              obtain ⟨f1, f2⟩ := hf
              obtain ⟨i1, i2⟩ := ih (i + 1) os f2
              refine ⟨by simp only [List.map_cons, List.length_cons, inNames]; rw [i1], fun p hp => ?_⟩
              simp only [List.map_cons, inNames, List.zip_cons_cons, List.mem_cons] at hp
              simp only [allNames, entryNames, List.zip_cons_cons, List.mem_cons]
              rcases hp with hp | hp
              · exact .inl hp
              · right
                rw [List.zip_append (by rw [rowNames_length]; exact f1)]
                exact List.mem_append_right _ (i2 p hp)
        obtain ⟨hn1, hn2⟩ := hnm nm 0 r.objs d2'
        rw [d1] at hn1 hn2
        obtain ⟨q1, q2, q3⟩ := res_am (ρ := ρ2) (no := inNames 0 r.objs) (no' := ns) hn1.symm (fun p hp => hsrc2 p (by rw [hz2]; exact List.mem_append_left _ (hn2 p hp))) (nr := outName) (nr' := resName d) (nc := outCell) (nc' := resCell d) r.res 0 (fun x hx y hy => (hpure y (hy ▸ hx)).am ρ2) (fun p hp => hsrc2 p (by rw [hz2]; exact List.mem_append_right _ hp))
        have al2 : Al (fun x y => CM ρ2 (some x.2) (some y.2)) (exitMem r) wr := by
          refine Al.append ?_ q3
          rw [entry_back]
          exact objs_am _ nm r.objs (Fit.entry 0 r.objs) d2' (fun p hp => hsrc2 p (by rw [hz2]; exact List.mem_append_left _ hp))
        have ren2 : RenOK ρ2 (look (exitMem r)) (look wr) := RenOK.of al2 c3 (fun q c h => h)
        have M2 := M'.rename ren2
        have hmem : ∀ n, look wr n ≠ none → n ∈ allNames nm ∨ n ∈ keys rc.2 := by
          intro n hn
          cases hc : look wr n with
          | none => exact absurd hc hn
          | some c =>
            have := List.mem_map_of_mem (f := (·.1)) (look_mem hc)
            simp only [wr, List.map_append, List.mem_append] at this
            rcases this with h | h
            · left; rw [← kback]; exact h
            · exact .inr h
        -- who is who
        have hpair : ∀ n ∈ allNames nm, ∃ q, (q, n) ∈ (allNames (entryNames 0 os)).zip (allNames nm) ∧ (n, q) ∈ (allNames nm).zip (allNames (entryNames 0 r.objs)) := by
          have hnn : allNames (entryNames 0 os) = allNames (entryNames 0 r.objs) := by
            have : ∀ (i : Nat) (os os' : List (List OV)), os'.map shapeOf = os.map shapeOf → allNames (entryNames i os) = allNames (entryNames i os') := by
              have rn : ∀ (nm : Nat → Nat) (o o' : List OV) (j : Nat), shapeOf o' = shapeOf o → rowNames nm j o = rowNames nm j o' := by
                have rs : ∀ (nm : Nat → Nat) (o : List OV) (j : Nat), rowNames nm j o = ((shapeOf o).zipIdx j).filterMap fun p => p.1.map fun _ => nm p.2 := by
                  intro nm o
                  induction o with
                  | nil => intro j; rfl
                  | cons x o ih => intro j; cases x <;> simp [rowNames, shapeOf, ih (j + 1)]
                intro nm o o' j h
                rw [rs, rs, h]
              intro i os
              induction os generalizing i with
              | nil => intro os' h; cases os' with | nil => rfl | cons => simp at h
              | cons o os ih =>
                intro os' h
                cases os' with
                | nil => simp at h
                | cons o' os' =>
                  simp only [List.map_cons, List.cons.injEq] at h
                  simp only [entryNames, allNames, rn (inRow i) o o' 0 h.1, ih (i + 1) os' h.2]
            exact this 0 os r.objs c1
          intro n hn
          rw [← hnn]
          have hlenE : (allNames (entryNames 0 os)).length = (allNames nm).length := allNames_length _ _ os (Fit.entry 0 os) d2
          obtain ⟨k, hk⟩ := List.mem_iff_getElem?.1 hn
          have hkl : k < (allNames (entryNames 0 os)).length := by have := (List.getElem?_eq_some_iff.1 hk).1; omega
          refine ⟨(allNames (entryNames 0 os))[k], ?_, ?_⟩
          · refine List.mem_of_getElem? (i := k) ?_
            simp [List.getElem?_zip_eq_some, hk, hkl]
          · refine List.mem_of_getElem? (i := k) ?_
            simp [List.getElem?_zip_eq_some, hk, hkl]
        obtain ⟨z1, z2, z3⟩ := R.mem.merge M2 (by
          rintro b ⟨q, x, e1, e2⟩
          simp only [Ren.gh] at e1
          cases hs : ρ1.src q with
          | none => rw [hs] at e1; cases e1
          | some n =>
            rw [hs] at e1
            refine ⟨n, x, e1, e2, fun hn => ?_⟩
            have hm := look_mem (show look (pairs (origMC css os nm) (entryMem 0 os)) q = some n from hs)
            have hn' : n ∈ allNames nm := by rw [← d4]; exact (List.of_mem_zip hm).2
            have : n ∈ wr.map (·.1) := by
              simp only [wr, List.map_append, List.mem_append]
              left; rw [← kback] at hn'; exact hn'
            obtain ⟨c, hc⟩ := look_some this
            rw [hn] at hc; cases hc) (by
          intro n x e1 hn
          rcases hmem n hn with h | h
          · obtain ⟨q, p1, p2⟩ := hpair n h
            have s1 := hsrc1 _ p1
            have s2 := hsrc2 (n, q) (by rw [hz2]; exact List.mem_append_left _ p2)
            have e1' : (ρ1.gh G).h q = some x := by simp only [Ren.gh, s1]; exact e1
            obtain ⟨x', e2, l2⟩ := hle.h q x e1'
            exact ⟨x', by simp only [Ren.gh, s2]; exact e2, l2⟩
          · have := hfree n h
            have h0 := R.mem.home n
            rw [this, e1] at h0
            exact h0.elim)
        refine K _ v w' z1 ?_ (z3.congr fun i => AS.mem_wr s wr i)
        refine AR.mono z2 ?_
        refine AM.rel (ρ := ρ2) (x := oneE (exitVals r)) ?_ hv
        have hone : ∀ {l l' : List AV}, l.length = l'.length → (∀ (k : Nat) (x y : AV), l[k]? = some x → l'[k]? = some y → AM ρ2 x y) → AM ρ2 (oneE l) (oneE l') := by
          intro l l' hl h
          match l, l', hl, h with
          | [x], [y], _, h => exact h 0 x y rfl rfl
          | [], [], hl, h => exact .tup _ _ hl h
          | _ :: _ :: _, _ :: _ :: _, hl, h => exact .tup _ _ hl h
          | [], _ :: _, hl, _ => simp at hl
          | _ :: _, [], hl, _ => simp at hl
          | [_], _ :: _ :: _, hl, _ => simp at hl
          | _ :: _ :: _, [_], hl, _ => simp at hl
        exact hone q1 q2
      · exact EP.fail_inv h2

end

section
variable {P : Program} {E : Env} {G : Gh} {s : AS} {a : Act} {w : World} {o : Oper} {next : Act → World → Prop} {Q : Exit → Act → World → Prop}

theorem sound_builtin (R : Rel E G s a w) {c : Call} {b : Builtin} (ho : o.op = .call c) (hc : c.callee = .builtin b) {d : Nat} {e : Eff} {l : List Nat} (h : (builtinE P d b c.argTypes (c.args.toList.map s.eval)).run s.mem = some (e, l)) (K : Post E G s o e a next) : o.wp P a w next Q := by
  have hx : ∀ (i : Nat) (x : AV) (u : Value), (c.args.toList.map s.eval)[i]? = some x → (c.args.map a.eval)[i]? = some u → AR G x u := by
    intro i x u e1 e2
    simp only [List.getElem?_map, Option.map_eq_some_iff] at e1
    obtain ⟨y, e1, rfl⟩ := e1
    have e2' : (c.args.toList.map a.eval)[i]? = some u := by rw [← Array.toList_map]; simpa using e2
    simp only [List.getElem?_map, e1, Option.map_some, Option.some.injEq] at e2'
    subst e2'
    exact R.eval y
  unfold builtinE at h
  split at h
  · rename_i x hargs
    split at h
    · rename_i t ht
      have ha : ∃ u, c.args.map a.eval = #[u] ∧ AR G x u := by
        have hl : c.args.size = 1 := by
          have := congrArg List.length hargs
          simpa using this
        refine ⟨a.eval (c.args[0]'(by omega)), ?_, hx 0 x _ (by rw [hargs]; rfl) (by simp [hl])⟩
        apply Array.ext
        · simp [hl]
        · intro i h1 h2
          have : i = 0 := by simp at h2; omega
          subst this; simp
      obtain ⟨u, hu, hxu⟩ := ha
      refine sound_len R hxu (ts := c.argTypes) (ty := o.type) ht ?_ h K
      intro r hr
      simp [execOp, ho, resolve, hc, hu, invoke, builtin, hr]
    · exact EP.fail_inv h
  · rename_i x y hargs
    split at h
    · rename_i st xt h1 h2
      have ha : ∃ u v, c.args.map a.eval = #[u, v] ∧ AR G x u ∧ AR G y v := by
        have hl : c.args.size = 2 := by
          have := congrArg List.length hargs
          simpa using this
        refine ⟨a.eval (c.args[0]'(by omega)), a.eval (c.args[1]'(by omega)), ?_, hx 0 x _ (by rw [hargs]; rfl) (by simp [hl]), hx 1 y _ (by rw [hargs]; rfl) (by simp [hl])⟩
        apply Array.ext
        · simp [hl]
        · intro i h1 h2
          simp at h2
          match i, h2 with
          | 0, _ => simp
          | 1, _ => simp
      obtain ⟨u, v, hu, hxu, hyv⟩ := ha
      refine sound_append R (ty := o.type) hxu hyv ?_ h K
      intro r w' hr
      have hts : Builtin.append_ c.argTypes o.type #[u, v] = Builtin.append_ #[st, xt] o.type #[u, v] := by
        simp [Builtin.append_, h1, h2]
      simp [execOp, ho, resolve, hc, hu, invoke, builtin, hts, hr]
    · exact EP.fail_inv h
  · obtain ⟨y, hy, rfl⟩ := okE_inv h
    refine sound_mm R true (us := c.args.map a.eval) (by simp) hx (ts := c.argTypes) (ty := o.type) ?_ hy K
    intro r hr
    simp at hr
    simp [execOp, ho, resolve, hc, invoke, builtin, hr]
  · obtain ⟨y, hy, rfl⟩ := okE_inv h
    refine sound_mm R false (us := c.args.map a.eval) (by simp) hx (ts := c.argTypes) (ty := o.type) ?_ hy K
    intro r hr
    simp at hr
    simp [execOp, ho, resolve, hc, invoke, builtin, hr]
  · exact EP.fail_inv h

theorem sound_makeMap (R : Rel E G s a w) {t : TypeId} (ho : o.op = .makeMap t none) {n : Nat} {ag : Bool} (hm : s.mem n = none) (K : Post E G s o ⟨.mp n, [(n, .mp ag [])]⟩ a next) : o.wp P a w next Q := by
  obtain ⟨h1, h2, h3⟩ := R.mem.newMap hm ag
  exact wp_value (v := .map (some w.heap.size)) (w' := { w with heap := w.heap.push (.map #[] 0) }) (by simp [execOp, ho, Instr.makeMap]) (K _ _ _ h1 h2 (h3.congr (AS.mem_wr1 s n _)))

theorem ba_beq (a b : List UInt8) : (ByteArray.mk a.toArray == ByteArray.mk b.toArray) = (a == b) := by
  show (a.toArray == b.toArray) = _
  simp
theorem find_spec {ag : Bool} (k : List UInt8) : ∀ (es : List (List UInt8 × List PC)) (ms : List MapEntry) (i0 : Nat), es.length = ms.length →
    (∀ (i : Nat) (x : List UInt8 × List PC) (e : MapEntry), es[i]? = some x → ms[i]? = some e → EntryOK G ag x e) →
    (findE k es = none ∧ Instr.findNow .string (.string ⟨k.toArray⟩) ms i0 = some none ∧ ∀ cs, setE k cs es = es ++ [(k, cs)]) ∨
    ∃ (j : Nat) (v : List PC) (e : MapEntry), findE k es = some v ∧ Instr.findNow .string (.string ⟨k.toArray⟩) ms i0 = some (some (i0 + j, e.val)) ∧ es[j]? = some (k, v) ∧ ms[j]? = some e ∧ ∀ cs, setE k cs es = es.set j (k, cs)
  | [], ms, i0, hl, _ => by
    have : ms = [] := List.length_eq_zero_iff.1 hl.symm
    subst this
    exact .inl ⟨rfl, rfl, fun _ => rfl⟩
  | (x, v) :: es, [], i0, hl, _ => by simp at hl
  | (x, v) :: es, e :: ms, i0, hl, h => by
    obtain ⟨h1, h2, h3⟩ := h 0 (x, v) e rfl rfl
    have h1 : e.key = .string ⟨x.toArray⟩ := h1
    by_cases hx : x = k
    · subst hx
      refine .inr ⟨0, v, e, by simp [findE], by simp only [Instr.findNow, h1, Instr.sameNow, ba_beq, beq_self_eq_true, Nat.add_zero], rfl, rfl, fun cs => by simp [setE]⟩
    · have hne : (ByteArray.mk k.toArray == ByteArray.mk x.toArray) = false := by
        rw [ba_beq, beq_eq_false_iff_ne]
        exact Ne.symm hx
      have hb : (x == k) = false := by simpa using hx
      have hs : Instr.sameNow .string (.string ⟨k.toArray⟩) e.key = some false := by rw [h1]; simp only [Instr.sameNow, hne]
      rcases find_spec k es ms (i0 + 1) (by simpa using hl) (fun i y f e1 e2 => h (i + 1) y f (by simpa using e1) (by simpa using e2)) with ⟨a1, a2, a3⟩ | ⟨j, u, f, a1, a2, a3, a4, a5⟩
      · exact .inl ⟨by simp [findE, hb, a1], by simp only [Instr.findNow, hs, a2], fun cs => by simp [setE, hb, a3]⟩
      · refine .inr ⟨j + 1, u, f, by simp [findE, hb, a1], ?_, by simpa using a3, by simpa using a4, fun cs => by simp [setE, hb, a5]⟩
        simp only [Instr.findNow, hs, a2]
        rw [show i0 + 1 + j = i0 + (j + 1) from by omega]

theorem key_check {k : TypeId} (hk : P.underlying k = some .string) (em : Bool) (s : ByteArray) (w : World) : (Instr.checkKey em 10000 k (.string s)).run P w = .ok () w :=
  MapKept.run_checkKey hk (by simp [MapKept.IsKey]) em 9999

theorem zag_of {t : TypeId} {b : Bool} (h : tyZag P t = b) {i : TypeInfo} {v : Value} (h1 : P.info? t = some i) (h2 : i.zero = some v) : (b = true → ∃ us, v = .agg us) ∧ (b = false → v.cells = #[v]) := by
  unfold tyZag at h
  simp only [h1, Option.bind_some, h2] at h
  cases v <;> simp only [] at h <;> subst h <;> refine ⟨fun e => ?_, fun e => ?_⟩ <;> first | (cases e; done) | exact ⟨_, rfl⟩ | rfl

theorem elem_zero {t : TypeId} {ag : Bool} {zero : List AV} (G : Gh) (hz : tyZero P t = some zero) (hag : tyZag P t = ag) (w : World) : ∃ zv, (zeroValue t).run P w = .ok zv w ∧ AR G (elemAV ag zero) zv := by
  obtain ⟨i, v, h1, h2, h3, h4⟩ := zero_rel G hz
  refine ⟨v, zero_run h1 h2 w, ?_⟩
  obtain ⟨q1, q2⟩ := zag_of hag h1 h2
  cases ag with
  | true =>
    obtain ⟨us, rfl⟩ := q1 rfl
    simp only [elemAV, if_true]
    exact .agg _ _ (by simpa [Value.cells] using h3) fun i x u e1 e2 => h4 i x u e1 (by simpa [Value.cells] using e2)
  | false =>
    have hc := q2 rfl
    rw [hc] at h3 h4
    match zero, h3 with
    | [x], _ =>
      simp only [elemAV, Bool.false_eq_true, if_false, List.headD_cons]
      exact h4 0 x v rfl rfl

theorem lookOut_inv {z : Nat} {ag ok : Bool} {v : List AV} {b : Bool} {m : Nat → Option MC} {y : AV} {l : List Nat} (h : (lookOut z ag ok v b).run m = some (y, l)) : y = ifE ok (.tup [elemAV ag v, .c (.bool b)]) (elemAV ag v) := by
  unfold lookOut at h
  split at h
  · exact (EP.ret_inv h).1.symm
  · exact EP.fail_inv h
theorem lookOut_rel {ag ok : Bool} {v : List AV} {b : Bool} {u : Value} (h : AR G (elemAV ag v) u) : AR G (ifE ok (.tup [elemAV ag v, .c (.bool b)]) (elemAV ag v)) (if ok then .tuple #[u, .bool b] else u) := by
  cases ok with
  | false => exact h
  | true =>
    refine .tup _ _ rfl fun i x u' e1 e2 => ?_
    match i with
    | 0 => simp at e1 e2; subst e1; subst e2; exact h
    | 1 => simp at e1 e2; subst e1; subst e2; exact .bool b
    | i + 2 => simp at e1

theorem keyE_inv {x : AV} {k : List UInt8} (h : keyE x = some k) : x = .c (.str k) := by
  unfold keyE at h
  split at h
  · cases h; rfl
  · cases h

theorem sound_lookup (R : Rel E G s a w) {t : TypeId} {x k : Operand} {ok : Bool} (ho : o.op = .lookup t x k ok) {e : Eff} {l : List Nat} (h : (okM (lookupE P t (s.eval x) (s.eval k) ok)).run s.mem = some (e, l)) (K : Post E G s o e a next) : o.wp P a w next Q := by
  obtain ⟨y, l', h', rfl⟩ := okM_inv h
  clear h
  have h := h'
  clear h'
  have hx := R.eval x
  have hk := R.eval k
  unfold lookupE at h
  split at h
  · rename_i kt el key hm hkey
    rw [keyE_inv hkey] at hk
    have hk' := hk.str_inv
    have hmt := tyMap_run hm
    split at h
    · rename_i hstr
      have hstr := tyStr_run hstr
      split at h
      · rename_i ag zero z hag hzero hz
        split at h
        · rename_i hzag
          obtain ⟨zv, z1, z2⟩ := elem_zero G hzero hzag w
          split at h
          · rename_i ex
            rw [ex] at hx
            cases hx' : a.eval x with
            | map b => ?_
            | _ => rw [hx'] at hx; cases hx
            rw [hx'] at hx
            cases hx
            have := lookOut_inv h
            subst this
            refine sound_val R (v := if ok then .tuple #[zv, .bool false] else zv) ?_ (lookOut_rel z2) K
            have hf : (Instr.findKey kt (.string ⟨key.toArray⟩) []).run P w = .ok none w := by simp [Instr.findKey, run_underlying hstr, Instr.findNow]
            simp [execOp, ho, hx', hk', Instr.lookup, run_underlying hmt, key_check hstr, hf, z1]
          · rename_i n ex
            rw [ex] at hx
            cases hx' : a.eval x with
            | map b => ?_
            | _ => rw [hx'] at hx; cases hx
            rw [hx'] at hx
            cases hx with
            | mp _ b hb =>
            obtain ⟨l2, h, _⟩ := EP.ask_inv h
            split at h
            · rename_i ag' es hmem
              split at h
              · rename_i hag'
                subst hag'
                have h0 := R.mem.home n
                rw [hmem, hb] at h0
                obtain ⟨ms, cl, a1, a2, a3, a4⟩ := h0
                have hobj : (getObj b).run P w = .ok (.map ms cl) w := MapKept.run_getObj_map a1
                unfold lookFound at h
                rcases find_spec (G := G) (ag := ag') key es ms.toList 0 (by simpa using a2) (fun i x e e1 e2 => a3 i x e e1 (by simpa using e2)) with ⟨f1, f2, f3⟩ | ⟨j, v, en, f1, f2, f3, f4, f5⟩
                · rw [f1] at h
                  have := lookOut_inv h
                  subst this
                  refine sound_val R (v := if ok then .tuple #[zv, .bool false] else zv) ?_ (lookOut_rel z2) K
                  have hf : (Instr.findKey kt (.string ⟨key.toArray⟩) ms.toList).run P w = .ok none w := by simp [Instr.findKey, run_underlying hstr, f2]
                  simp [execOp, ho, hx', hk', Instr.lookup, run_underlying hmt, key_check hstr, hf, z1, hobj]
                · rw [f1] at h
                  have := lookOut_inv h
                  subst this
                  obtain ⟨_, e2, _⟩ := a3 j (key, v) en f3 (by simpa using f4)
                  refine sound_val R (v := if ok then .tuple #[en.val, .bool true] else en.val) ?_ (lookOut_rel e2) K
                  have hf : (Instr.findKey kt (.string ⟨key.toArray⟩) ms.toList).run P w = .ok (some (j, en.val)) w := by
                    rw [Nat.zero_add] at f2
                    simp [Instr.findKey, run_underlying hstr, f2]
                  simp [execOp, ho, hx', hk', Instr.lookup, run_underlying hmt, key_check hstr, hf, hobj]
              · exact EP.fail_inv h
            · exact EP.fail_inv h
          · exact EP.fail_inv h
        · exact EP.fail_inv h
      · exact EP.fail_inv h
    · exact EP.fail_inv h
  · exact EP.fail_inv h

theorem sound_mapSet (R : Rel E G s a w) {t : TypeId} {m k x : Operand} (ho : o.op = .mapUpdate t m k x) {e : Eff} {l : List Nat} (h : (mapSetE P t (s.eval m) (s.eval k) (s.eval x)).run s.mem = some (e, l)) (K : Post E G s o e a next) : o.wp P a w next Q := by
  have hm := R.eval m
  have hk := R.eval k
  have hx := R.eval x
  unfold mapSetE at h
  split at h
  · rename_i kt el key cs n hmt hkey hcs ex
    rw [keyE_inv hkey] at hk
    have hk' := hk.str_inv
    have hmt := tyMap_run hmt
    rw [ex] at hm
    cases hm' : a.eval m with
    | map b => ?_
    | _ => rw [hm'] at hm; cases hm
    rw [hm'] at hm
    cases hm with
    | mp _ b hb =>
    split at h
    · rename_i hc
      have hstr := tyStr_run hc.1
      obtain ⟨l2, h, _⟩ := EP.ask_inv h
      split at h
      · rename_i ag es hmem
        split at h
        · rename_i hag
          obtain ⟨rfl, _⟩ := EP.ret_inv h
          have h0 := R.mem.home n
          rw [hmem, hb] at h0
          obtain ⟨ms, cl, a1, a2, a3, a4⟩ := h0
          have hobj : (getObj b).run P w = .ok (.map ms cl) w := MapKept.run_getObj_map a1
          have hlt := heap_some_lt a1
          have hset : ∀ ob : Obj, (setObj b ob).run P w = .ok () (World.setBlock w b ob) := fun ob => MapKept.run_setObj_map ob a1
          -- the entry
          have hentry : ∀ born, EntryOK G ag (key, cs) ⟨.string ⟨key.toArray⟩, a.eval x, born⟩ := by
            intro born
            refine ⟨rfl, ?_, ?_⟩
            · obtain ⟨xs, hxs, hpc⟩ := Option.bind_eq_some_iff.1 hcs
              obtain ⟨t1, t2⟩ := toPCs_spec hpc
              cases ag with
              | true =>
                cases hv : s.eval x with
                | agg ys =>
                  rw [hv] at hx hxs
                  injection hxs with hxs
                  rw [← hxs] at t1 t2
                  simp only [elemAV, if_true]
                  generalize a.eval x = v at hx
                  cases hx with
                  | agg _ us hl hc =>
                  refine .agg _ _ (by simp; omega) fun i y u e1 e2 => ?_
                  simp only [List.getElem?_map, Option.map_eq_some_iff] at e1
                  obtain ⟨c, e1, rfl⟩ := e1
                  have hi : i < ys.length := by have := (List.getElem?_eq_some_iff.1 e1).1; omega
                  have hyi : ys[i]? = some ys[i] := by simp [hi]
                  exact .c _ _ ((hc i _ u hyi e2).toPC (t2 i _ c hyi e1))
                | _ => rw [hv] at hag; cases hag
              | false =>
                have : ∃ y c, xs = [y] ∧ cs = [c] ∧ y.toPC = some c ∧ AR G y (a.eval x) := by
                  cases hv : s.eval x <;> rw [hv] at hxs hx hag <;> simp only [AV.flat, Option.some.injEq, reduceCtorEq] at hxs
                  all_goals first
                    | (cases hag; done)
                    | (subst hxs
                       match cs, t1 with
                       | [c], _ => exact ⟨_, c, rfl, rfl, t2 0 _ c rfl rfl, hx⟩)
                obtain ⟨y, c, rfl, rfl, e1, e2⟩ := this
                simp only [elemAV, Bool.false_eq_true, if_false, List.map_cons, List.headD_cons]
                exact .c _ _ (e2.toPC e1)
            · intro e
              subst e
              obtain ⟨xs, hxs, hpc⟩ := Option.bind_eq_some_iff.1 hcs
              obtain ⟨t1, _⟩ := toPCs_spec hpc
              cases hv : s.eval x <;> rw [hv] at hxs hag <;> simp only [AV.flat, Option.some.injEq, reduceCtorEq] at hxs
              all_goals first
                | (cases hag; done)
                | (subst hxs; show cs.length = 1; rw [← t1]; rfl)
          rcases find_spec (G := G) (ag := ag) key es ms.toList 0 (by simpa using a2) (fun i x e e1 e2 => a3 i x e e1 (by simpa using e2)) with ⟨f1, f2, f3⟩ | ⟨j, v, en, f1, f2, f3, f4, f5⟩
          · have hf : (Instr.findKey kt (.string ⟨key.toArray⟩) ms.toList).run P w = .ok none w := by simp [Instr.findKey, run_underlying hstr, f2]
            refine wp_unit (w' := World.setBlock w b (.map (ms.push ⟨.string ⟨key.toArray⟩, a.eval x, cl⟩) (cl + 1))) ?_ ?_
            · simp [execOp, ho, hm', hk', Instr.mapUpdate, run_underlying hmt, key_check hstr, hf, hobj, hset]
            · rw [f3] at K
              refine K G _ _ (Gh.le_refl G) (.undef _) ((R.mem.setMap hmem hb ?_ ?_).congr (AS.mem_wr1 s n _))
              · simp [a2]
              · intro i y e e1 e2
                rw [List.getElem?_append] at e1
                rw [Array.getElem?_push] at e2
                split at e1
                · rename_i hi
                  rw [if_neg (by omega)] at e2
                  exact a3 i y e e1 e2
                · rename_i hi
                  have : i = es.length := by
                    have := (List.getElem?_eq_some_iff.1 e1).1
                    simp at this; omega
                  subst this
                  simp at e1
                  subst e1
                  rw [if_pos a2] at e2
                  cases e2
                  exact hentry cl
          · rw [Nat.zero_add] at f2
            have hf : (Instr.findKey kt (.string ⟨key.toArray⟩) ms.toList).run P w = .ok (some (j, en.val)) w := by simp [Instr.findKey, run_underlying hstr, f2]
            have hj : ms[j]? = some en := by simpa using f4
            have hen : en.key = .string ⟨key.toArray⟩ := (a3 j (key, v) en f3 hj).1
            have hstay : (Instr.keyThatStays (.string ⟨key.toArray⟩) (.string ⟨key.toArray⟩)).run P w = .ok (.string ⟨key.toArray⟩) w := by
              exact MapKept.run_keyThatStays (d := .string) (by simp [MapKept.IsKey])
            refine wp_unit (w' := World.setBlock w b (.map (ms.modify j fun e => { e with key := .string ⟨key.toArray⟩, val := a.eval x }) cl)) ?_ ?_
            · simp [execOp, ho, hm', hk', Instr.mapUpdate, run_underlying hmt, key_check hstr, hf, hobj, hset, hj, hen, hstay]
            · rw [f5] at K
              refine K G _ _ (Gh.le_refl G) (.undef _) ((R.mem.setMap hmem hb ?_ ?_).congr (AS.mem_wr1 s n _))
              · simp [a2]
              · intro i y e e1 e2
                rw [List.getElem?_set] at e1
                rw [Array.getElem?_modify] at e2
                split at e1
                · rename_i hij
                  subst hij
                  rw [if_pos rfl] at e2
                  split at e1
                  · cases e1
                    rw [hj] at e2
                    cases e2
                    exact hentry en.born
                  · cases e1
                · rename_i hij
                  rw [if_neg hij] at e2
                  exact a3 i y e e1 e2
        · exact EP.fail_inv h
      · exact EP.fail_inv h
    · exact EP.fail_inv h
  · exact EP.fail_inv h

theorem op_sound {Γ : FuncId → Contract} (hΓ : SoundG P Γ) (R : Rel E G s a w) {e : Eff} {l : List Nat} {F : List Nat} (h : (opE Γ P F o s.eval).run s.mem = some (e, l)) (K : Post E G s o e a next) : o.wp P a w next Q := by
  unfold opE at h
  split at h
  · rename_i x ho
    obtain ⟨rfl, _⟩ := EP.ret_inv h
    exact sound_move R (.inl ho) K
  · rename_i x ho
    obtain ⟨rfl, _⟩ := EP.ret_inv h
    exact sound_move R (.inr ho) K
  · rename_i c x y ho
    split at h
    · rename_i b hb
      refine sound_pick R ho hb ?_
      cases b <;> simp only [ifE_true, ifE_false] at h <;> obtain ⟨rfl, _⟩ := EP.ret_inv h <;> exact K
    · exact EP.fail_inv h
  · rename_i t ho
    split at h
    · split at h
      · rename_i cells hz
        exact sound_alloc R ho hz h K
      · exact EP.fail_inv h
    · exact EP.fail_inv h
  · rename_i t x ho
    split at h
    · split at h
      · rename_i cells hz
        exact sound_box R ho hz h K
      · exact EP.fail_inv h
    · exact EP.fail_inv h
  · rename_i t parts ho
    obtain ⟨y, hy, rfl⟩ := okE_inv h
    obtain ⟨cs, hcs, rfl⟩ := Option.map_eq_some_iff.1 hy
    exact sound_build R ho hcs K
  · rename_i t n parts ho
    split at h
    · rename_i el hel
      split at h
      · rename_i zero z hzero hz
        split at h
        · rename_i hc
          obtain ⟨_, c1, c2, c3⟩ := hc
          cases hbF : hasN F (o.dst.getD 0) with
          | true =>
            simp only [hbF, ifE_true] at h
            split at h
            · rename_i out h1
              exact sound_buildMsl R ho hel hzero hz c1 c2 c3 h1 h K
            · exact EP.fail_inv h
          | false =>
            simp only [hbF, ifE_false] at h
            split at h
            · rename_i cs hcs
              obtain ⟨out, h1, h2⟩ := Option.bind_eq_some_iff.1 hcs
              exact sound_buildSlice R ho hel hzero hz c1 c2 c3 h1 h2 h K
            · exact EP.fail_inv h
        · exact EP.fail_inv h
      · exact EP.fail_inv h
    · exact EP.fail_inv h
  · rename_i t x ho
    exact sound_load R ho h K
  · rename_i t x y ho
    exact sound_store R ho h K
  · rename_i x ho
    split at h
    · rename_i n off e1
      obtain ⟨rfl, _⟩ := EP.ret_inv h
      rw [← e1] at K
      exact sound_nilCheck R ho (.inl ⟨n, off, e1⟩) K
    · rename_i cs e1
      obtain ⟨rfl, _⟩ := EP.ret_inv h
      rw [← e1] at K
      exact sound_nilCheck R ho (.inr (.inl ⟨cs, e1⟩)) K
    · rename_i f caps e1
      obtain ⟨rfl, _⟩ := EP.ret_inv h
      rw [← e1] at K
      exact sound_nilCheck R ho (.inr (.inr ⟨f, caps, e1⟩)) K
    · exact EP.fail_inv h
  · rename_i op t x y t' ho
    obtain ⟨z, hz, rfl⟩ := okE_inv h
    exact sound_binOp R ho hz K
  · rename_i op t x ho
    obtain ⟨z, hz, rfl⟩ := okE_inv h
    exact sound_unOp R ho hz K
  · rename_i src dst x ho
    unfold convO at h
    split at h
    · rename_i r z rows e1
      split at h
      · rename_i hsd
        subst hsd
        split at h
        · rename_i el hel
          split at h
          · rename_i hc
            obtain ⟨l', h, _⟩ := EP.ask_inv h
            split at h
            · rename_i z' fr hm
              split at h
              · rename_i hc2
                obtain ⟨rfl, rfl⟩ := hc2
                obtain ⟨rfl, _⟩ := EP.ret_inv h
                exact sound_convSame R ho e1 hel hc.1 hc.2 hm K
              · exact EP.fail_inv h
            · exact EP.fail_inv h
          · exact EP.fail_inv h
        · exact EP.fail_inv h
      · obtain ⟨z, hz, rfl⟩ := okE_inv h
        rw [← e1] at hz
        exact sound_convert R ho hz K
    · obtain ⟨z, hz, rfl⟩ := okE_inv h
      exact sound_convert R ho hz K
  · rename_i f first captured ho
    split at h
    · rename_i hf
      subst hf
      obtain ⟨r, l1, l2, h1, h2, _⟩ := EP.bind_inv h
      obtain ⟨rfl, _⟩ := EP.ret_inv h2
      exact sound_makeFunc R ho h1 K
    · exact EP.fail_inv h
  · rename_i t ho
    split at h
    · rename_i ag hag
      split at h
      · obtain ⟨l', h, _⟩ := EP.ask_inv h
        split at h
        · rename_i hm
          obtain ⟨rfl, _⟩ := EP.ret_inv h
          exact sound_makeMap R ho hm K
        · exact EP.fail_inv h
      · exact EP.fail_inv h
    · exact EP.fail_inv h
  · rename_i t lo co ho
    split at h
    · rename_i el n m hel e1 e2
      split at h
      · rename_i zero z by_ hzero hz hby
        split at h
        · rename_i zs hzs
          split at h
          · rename_i hc
            obtain ⟨_, c1, c2, c3, c4, c5, c6⟩ := hc
            cases hbF : hasN F (o.dst.getD 0) with
            | true =>
              simp only [hbF, ifE_true] at h
              split at h
              · rename_i hnm
                exact sound_makeMsl R ho hel e1 e2 hzero hz hby hzs c1 c2 hnm c4 (by omega) (by rw [hnm]; exact c6) h K
              · exact EP.fail_inv h
            | false =>
              simp only [hbF, ifE_false] at h
              exact sound_makeSlice R ho hel e1 e2 hzero hz hby hzs c1 c2 c3 c4 c5 c6 h K
          · exact EP.fail_inv h
        · exact EP.fail_inv h
      · exact EP.fail_inv h
    · exact EP.fail_inv h
  · rename_i t x lo hi mx ho
    obtain ⟨z, hz, rfl⟩ := okE_inv h
    exact sound_slice R ho hz K
  · rename_i t x i ho
    split at h
    · rename_i off ft z hf
      split at h
      · exact EP.fail_inv h
      · rename_i hz
        split at h
        · rename_i n q e1
          obtain ⟨rfl, _⟩ := EP.ret_inv h
          exact sound_fieldAddr R ho hf hz (.inl ⟨n, q, e1, rfl⟩) K
        · rename_i cs e1
          obtain ⟨rfl, _⟩ := EP.ret_inv h
          exact sound_fieldAddr R ho hf hz (.inr ⟨cs, e1, rfl⟩) K
        · exact EP.fail_inv h
    · exact EP.fail_inv h
  · rename_i t x i ho
    split at h
    · rename_i off ft z cs hf e1
      split at h
      · rename_i hag
        split at h
        · rename_i hle
          obtain ⟨rfl, _⟩ := EP.ret_inv h
          exact sound_field R ho hf e1 (.inl ⟨hag, hle, rfl⟩) K
        · exact EP.fail_inv h
      · rename_i hag
        split at h
        · rename_i v hv
          obtain ⟨rfl, _⟩ := EP.ret_inv h
          exact sound_field R ho hf e1 (.inr ⟨hag, hv⟩) K
        · exact EP.fail_inv h
      · exact EP.fail_inv h
    · exact EP.fail_inv h
  · rename_i t x i ho
    obtain ⟨z, hz, rfl⟩ := okE_inv h
    exact sound_indexAddr R ho hz K
  · rename_i t x i ho
    split at h
    · rename_i str k j e1 e2
      split at h
      · rename_i hc
        obtain ⟨c1, c2⟩ := hc
        split at h
        · rename_i b hb
          obtain ⟨rfl, _⟩ := EP.ret_inv h
          exact sound_index R ho e1 e2 c1 c2 hb K
        · exact EP.fail_inv h
      · exact EP.fail_inv h
    · rename_i cs k j e1 e2
      split at h
      · rename_i n e ht
        split at h
        · rename_i z hz hag
          split at h
          · rename_i hc
            split at h
            · rename_i v hv
              obtain ⟨rfl, _⟩ := EP.ret_inv h
              exact sound_indexA R ho e1 e2 ht hz hc.1 hc.2 (.inr ⟨hag, hv⟩) K
            · exact EP.fail_inv h
          · exact EP.fail_inv h
        · rename_i z hz hag
          split at h
          · rename_i hc
            obtain ⟨rfl, _⟩ := EP.ret_inv h
            exact sound_indexA R ho e1 e2 ht hz hc.1 hc.2.1 (.inl ⟨hag, hc.2.2, rfl⟩) K
          · exact EP.fail_inv h
        · exact EP.fail_inv h
      · exact EP.fail_inv h
    · exact EP.fail_inv h
  · rename_i x i ho
    split at h
    · rename_i vs e1
      obtain ⟨z, hz, rfl⟩ := okE_inv h
      exact sound_extract R ho e1 hz K
    · exact EP.fail_inv h
  · rename_i c ho
    split at h
    · rename_i b hc
      split at h
      · exact sound_builtin R ho hc h K
      · exact EP.fail_inv h
    · rename_i f hc
      split at h
      · rename_i fn caps e1
        split at h
        · have hf := R.eval f
          rw [e1] at hf
          generalize hfv : a.eval f = fv at hf
          cases hf with
          | clo _ _ bs hl hk =>
          refine sound_call hΓ R (us := (c.args.map a.eval).toList ++ bs.map fun b => Value.pointer (some ⟨b.1, b.2, none⟩)) ?_ ?_ ?_ h K
          · simp [hl]
          · intro i x u e2 e3
            rcases Nat.lt_or_ge i c.args.size with hi | hi
            · rw [List.getElem?_append_left (by simpa using hi)] at e2 e3
              simp only [List.getElem?_map, Option.map_eq_some_iff] at e2
              obtain ⟨y, e2, rfl⟩ := e2
              rw [Array.toList_map] at e3
              simp only [List.getElem?_map, e2, Option.map_some, Option.some.injEq] at e3
              subst e3
              exact R.eval y
            · rw [List.getElem?_append_right (by simpa using hi)] at e2 e3
              simp only [List.length_map, Array.length_toList, Array.size_map] at e2 e3
              simp only [List.getElem?_map, Option.map_eq_some_iff] at e2 e3
              obtain ⟨cs, e2, rfl⟩ := e2
              obtain ⟨b, e3, rfl⟩ := e3
              exact .rptr cs b.1 b.2 (hk _ cs b e2 e3)
          · rintro ⟨fn', hf1, hf2, hf3⟩
            have hb : ¬ fn'.body = none := by intro e; rw [e] at hf3; cases hf3
            have hn : ¬ fn'.name = "runtime.NumGoroutine" := by simpa using hf2
            have harr : ((c.args.map a.eval).toList ++ bs.map fun b => Value.pointer (some ⟨b.1, b.2, none⟩)).toArray = c.args.map a.eval ++ (bs.map fun b => Value.pointer (some ⟨b.1, b.2, none⟩)).toArray := by
              rw [← List.append_toArray, Array.toArray_toList]
            rw [harr]
            simp [execOp, ho, resolve, hc, hfv, Deferred.ofValue, invoke, callFunc, hf1, hn, hb]
        · exact EP.fail_inv h
      · exact EP.fail_inv h
    · exact EP.fail_inv h
  · rename_i t x k ok ho
    exact sound_lookup R ho h K
  · rename_i t m k x ho
    exact sound_mapSet R ho h K
  · exact EP.fail_inv h


theorem AS.get_put (s : AS) (d : Option Tmp) (x : AV) (i : Nat) : (s.put d x).get i = if d = some i then x else s.get i := by
  cases d with
  | none => simp [AS.put]
  | some j =>
    simp only [AS.put, AS.get, look]
    by_cases h : j = i
    · subst h; simp
    · have : ¬ (some j = some i) := fun e => h (by cases e; rfl)
      rw [if_neg h, if_neg this]

theorem Rel.put {G' : Gh} {w' : World} (R : Rel E G s a w) (hle : G.le G') {m : List (Nat × MC)} {x : AV} {v : Value} {d : Option Tmp} (hd : ∀ i, d = some i → i < E.N.n) (hx : AR G' x v) (hm : MRel E G' (s.wr m).mem w') :
    Rel E G' ((s.wr m).put d x) (a.put d v) w' where
  size := by cases d <;> simp [Act.put, R.size]
  defs := by cases d <;> simp [Act.put, R.defs]
  tmps i := by
    rw [AS.get_put]
    split
    · rename_i e
      subst e
      have hi := hd i rfl
      have : (a.put (some i) v).tmps.getD i Go.undef = v := by
        simp [Act.put, R.size, hi]
      rw [this]; exact hx
    · rename_i e
      have : (a.put d v).tmps.getD i Go.undef = a.tmps.getD i Go.undef := by
        cases d with
        | none => rfl
        | some j =>
          have hne : j ≠ i := fun h => e (by rw [h])
          simp [Act.put, Array.getElem?_setIfInBounds_ne hne]
      rw [this]
      exact (R.tmps i).mono hle
  mem := by
    have : ((s.wr m).put d x).mem = (s.wr m).mem := by cases d <;> rfl
    rw [this]; exact hm
  ent n hn := by
    obtain ⟨h, h', e1, e2, l⟩ := R.ent n hn
    obtain ⟨h2, e3, l2⟩ := hle.h n h' e2
    exact ⟨h, h2, e1, e3, Home.le_trans l l2⟩

theorem guard_spec {ops : Array Oper} (R : Rel E G s a w) {b : Bool} (h : guardE ops o s = some b) : Region.wanted o (yielded ops a.tmps) = b := by
  unfold guardE at h
  unfold Region.wanted
  split at h
  · rename_i hg; cases h; rw [hg]
  · rename_i j want hg
    rw [hg]
    cases hd : (ops[j]?).bind (·.dst) with
    | none => rw [hd] at h; cases h
    | some d =>
      rw [hd] at h
      simp only [Option.map_some] at h
      split at h
      · rename_i c hc
        cases h
        simp only [Option.some.injEq] at hc
        have h1 := R.tmps d
        rw [hc] at h1
        have h2 := h1.bool_inv
        have : yielded ops a.tmps j = some c := by
          unfold yielded
          rw [hd]
          simp only [Option.bind_some]
          cases hq : a.tmps[d]? with
          | none =>
            have e : a.tmps.getD d Go.undef = Go.undef := by simp [hq]
            rw [e] at h2
            cases h2
          | some v =>
            have : a.tmps.getD d Go.undef = v := by simp [hq]
            rw [this] at h2
            rw [h2]
        simp [this]
      · rename_i hc
        cases h
        simp only [Option.some.injEq] at hc
        have h1 := R.tmps d
        rw [hc] at h1
        have h2 : a.tmps.getD d Go.undef = Go.undef := by
          generalize a.tmps.getD d Go.undef = v at h1
          cases h1 with
          | tup _ us hl _ =>
            have : us = #[] := Array.eq_empty_of_size_eq_zero hl.symm
            rw [this]; rfl
        have : yielded ops a.tmps j = none := by
          unfold yielded
          rw [hd]
          simp only [Option.bind_some]
          cases hq : a.tmps[d]? with
          | none => rfl
          | some v =>
            have : a.tmps.getD d Go.undef = v := by simp [hq]
            rw [this] at h2
            rw [h2]
            rfl
        simp [this]
      · cases h

theorem wpIn_of_wp (ro : Option Nat) {n : Nat} {o : Oper} {a : Act} {w : World} {K : Act → World → Prop} {Q : Exit → Act → World → Prop} (hd : ∀ c, o.op ≠ .defer c) (h : o.wp P a w K Q) : o.wpIn (rF ro) n P a w K Q := by
  refine ⟨fun _ _ => trivial, ?_⟩
  rw [Oper.semAt_eq _ _ _ hd]
  unfold Oper.wp at h
  generalize (execOp a.eval o).run P w = r at h
  cases r with
  | ok x w' =>
    cases x with
    | enter f args =>
      refine ⟨fun h => (by simp [rF, Fence.wide] at h), ?_⟩
      exact callsIn_wide.2 h
    | row r args =>
      refine ⟨fun h => (by simp [rF, Fence.wide] at h), fun c cs _ => ?_⟩
      obtain ⟨v, w2, h1, h2⟩ := h c cs
      exact ⟨v, w2, h1, stepsIn_wide.2 h2⟩
    | round => exact h.elim
    | _ => exact h
  | halt x w' => cases x <;> exact h

/-- One operation comes up. -/
theorem step_sound {Γ : FuncId → Contract} (hΓ : SoundG P Γ) {ops : Array Oper} (R : Rel E G s a w) {s' : AS} {fp : FP} (h : aStep Γ P E.N ops o s = some (s', fp)) {K : Act → World → Prop}
    (k : ∀ G' a' w', G.le G' → Rel E G' s' a' w' → K a' w') :
    if Region.wanted o (yielded ops a.tmps) then o.wpIn (rF E.ro) 0 P a w K Q else (∀ f, o.about P w a.eval = some f → (rF E.ro).fn f) ∧ K (a.put o.dst Go.undef) w := by
  unfold aStep at h
  split at h
  · rename_i hd
    have hd' : ∀ i, o.dst = some i → i < E.N.n := by
      intro i hi
      unfold dstOK at hd
      rw [hi] at hd
      simpa using hd
    split at h
    · rename_i b hb
      rw [guard_spec R hb]
      cases b with
      | true =>
        simp only [ifE_true] at h
        split at h
        · rename_i e rd hrun
          cases h
          refine wpIn_of_wp E.ro (fun c hc => ?_) (op_sound hΓ R hrun fun G' v w' h1 h2 h3 => k G' _ _ h1 (R.put h1 hd' h2 h3))
          simp [opE, hc, EP.run] at hrun
        · cases h
      | false =>
        simp only [ifE_false, Option.some.injEq, Prod.mk.injEq] at h
        obtain ⟨rfl, rfl⟩ := h
        exact ⟨fun _ _ => trivial, k G _ _ (Gh.le_refl G) (R.put (m := []) (Gh.le_refl G) hd' (.tup [] #[] rfl (fun i x u h => by simp at h)) R.mem)⟩
    · cases h
  · cases h

/-- The operations of a region, one behind the other, and what each has read and written. -/
def aOps (Γ : FuncId → Contract) (P : Program) (N : Lim) (ops : Array Oper) : List Oper → AS → Option (AS × List FP)
  | [], s => some (s, [])
  | o :: rest, s => match aStep Γ P N ops o s with
    | some (s', fp) => match aOps Γ P N ops rest s' with
      | some (s'', fps) => some (s'', fp :: fps)
      | none => none
    | none => none

theorem wpList_sound {Γ : FuncId → Contract} (hΓ : SoundG P Γ) {ops : Array Oper} : ∀ (l : List Oper) {s s' : AS} {fps : List FP} {G : Gh} {a : Act} {w : World}, Rel E G s a w → aOps Γ P E.N ops l s = some (s', fps) →
    (∀ G' a' w', G.le G' → Rel E G' s' a' w' → Q .normal a' w') → wpListIn (rF E.ro) 0 P ops Q l a w
  | [], s, s', fps, G, a, w, R, h, k => by
    simp only [aOps, Option.some.injEq, Prod.mk.injEq] at h
    obtain ⟨rfl, rfl⟩ := h
    exact k G a w (Gh.le_refl G) R
  | o :: rest, s, s', fps, G, a, w, R, h, k => by
    simp only [aOps] at h
    split at h
    · rename_i s1 fp h1
      split at h
      · rename_i s2 fps' h2
        cases h
        unfold wpListIn
        exact step_sound hΓ R h1 fun G' a' w' hle R' => wpList_sound hΓ rest R' h2 fun G2 a2 w2 hle2 R2 => k G2 a2 w2 (Gh.le_trans hle hle2) R2
      · cases h
    · cases h

theorem region_sound {Γ : FuncId → Contract} (hΓ : SoundG P Γ) {ops : Array Oper} {id : Nat} (R : Rel E G s a w) {s' : AS} {fps : List FP} (h : aOps Γ P E.N ops ops.toList s = some (s', fps))
    (k : ∀ G' a' w', G.le G' → Rel E G' s' a' w' → Q .normal a' w') : (Code.region id ops false).wpIn (rF E.ro) 0 P Q a w :=
  wpIn_region_list (wpList_sound hΓ ops.toList R h k)

end
end Go.Proofs.YtcfijanfcgnnhaaDoor.AM
