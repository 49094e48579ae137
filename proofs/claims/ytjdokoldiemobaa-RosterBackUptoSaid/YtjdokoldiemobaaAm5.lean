/-
  THE ABSTRACT MACHINE, part 5: what makes memory: append, make, literals, closures, maps; len, min, max.
-/
import Derived.Test.YtjdokoldiemobaaAm4
import Derived.Laws.AppendOwn
import Derived.Laws.MakeOwn
set_option linter.unusedVariables false
set_option linter.unusedSimpArgs false
namespace Go.Proofs.Ytjdokoldiemobaa.AM
open Go

section
variable {P : Program} {E : Env} {G : Gh} {s : AS} {a : Act} {w : World} {o : Oper} {next : Act → World → Prop} {Q : Exit → Act → World → Prop}

theorem PC.one {K : Know} {c : PC} {v : Value} (h : VR K c v) : v.oneCell' = true := by cases h <;> rfl

/-- A row's cells, one behind the other. -/
theorem flat_rows {K : Know} {z : Nat} : ∀ {rows : List (List PC)} {us : List Value}, (∀ r ∈ rows, r.length = z) → us.length = rows.length * z →
    (∀ (j : Nat) (r : List PC) (i : Nat) (c : PC), rows[j]? = some r → r[i]? = some c → ∃ v, us[j * z + i]? = some v ∧ VR K c v) → 0 < z → ∀ u ∈ us, ∃ c, VR K c u := by
  intro rows us hz hl h h0 u hu
  obtain ⟨k, hk⟩ := List.mem_iff_getElem?.1 hu
  have hkl : k < us.length := (List.getElem?_eq_some_iff.1 hk).1
  have hj : k / z < rows.length := by rw [Nat.div_lt_iff_lt_mul h0]; omega
  have hi : k % z < z := Nat.mod_lt _ h0
  have hrz : rows[k / z].length = z := hz _ (List.getElem_mem hj)
  obtain ⟨v, h1, h2⟩ := h (k / z) rows[k / z] (k % z) (rows[k / z]'hj)[k % z] (by simp [hj]) (by simp)
  have e : k / z * z + k % z = k := by rw [Nat.mul_comm]; exact Nat.div_add_mod k z
  rw [e, hk] at h1
  cases h1
  exact ⟨_, h2⟩

/-- What append adds, read in whatever world holds what is known. -/
theorem added_run {t : TypeId} {x : AV} {v : Value} {ys : List (List PC)} {z : Nat} (hx : AR G x v) (h : addedE P t x = some ys) (hz : rowsOK z ys) (h0 : 0 < z) (hstr : ∀ str, x = .c (.str str) → z = 1) :
    (P.underlying t = some .string ∨ ∃ e, P.underlying t = some (.slice e)) ∧ (∀ w : World, (Builtin.lenOf v).run P w = .ok ys.length w) ∧
    ∃ news : List Value, news.length = ys.length * z ∧ (∀ (j : Nat) (r : List PC) (i : Nat) (c : PC), ys[j]? = some r → r[i]? = some c → ∃ u, news[j * z + i]? = some u ∧ VR G.K c u) ∧
      ∀ w : World, (∀ b o v, G.K b o = some v → w.cell? ⟨b, o, none⟩ = some v) → (Builtin.firstCells z ys.length v).run P w = .ok news.toArray w := by
  unfold addedE at h
  split at h
  · rename_i str
    have hz1 : z = 1 := hstr str rfl
    subst hz1
    cases hx.str_inv
    split at h
    · rename_i ht
      cases h
      refine ⟨.inl (tyStr_run ht), fun w => by simp [Builtin.lenOf, bytes, ByteArray.size], str.map (fun b => Value.int .u8 b.toNat), by simp [bytes], ?_, ?_⟩
      · intro j r i c hj hi
        obtain ⟨rfl, b, hb, rfl⟩ := bytes_of_string G str j r i c hj hi
        exact ⟨.int .u8 b.toNat, by simp [hb], .int _ _⟩
      · intro w _
        have e : (ByteArray.mk str.toArray).extract 0 (bytes str).length = ByteArray.mk str.toArray := by
          have := str_extract str 0 (bytes str).length (Nat.zero_le _) (by simp [bytes])
          rw [this]; simp [bytes]
        simp [Builtin.firstCells, e]
    · cases h
  · split at h
    · rename_i e he
      have hv := hx.rows h
      refine ⟨.inr ⟨e, tyElem_run he⟩, ?_, ?_⟩
      · intro w
        rcases hv.slice_inv with ⟨rfl, _, _, rfl, _⟩ | ⟨_, _, _, _, rfl, _⟩ <;> simp [Builtin.lenOf]
      · rcases hv.slice_inv with ⟨rfl, A, cap, rfl, hA⟩ | ⟨z', b, off, cap, rfl, hc, hs⟩
        · cases A with
          | none => exact ⟨[], by simp, by simp, fun w _ => by simp [Builtin.firstCells, hA rfl]⟩
          | some a0 =>
            refine ⟨[], by simp, by simp, fun w _ => ?_⟩
            exact run_firstCells_some (P := P) w z 0 _ _ _ [] (by simp) (by simp)
        · cases hys : ys with
          | nil =>
            refine ⟨[], by simp, by simp, fun w _ => ?_⟩
            exact run_firstCells_some (P := P) w z 0 _ _ _ [] (by simp) (by simp)
          | cons r0 rs =>
            rw [← hys]
            have hz' : z' = z := by
              rw [← hs.1 r0 (by simp [hys])]; exact hz r0 (by simp [hys])
            subst hz'
            let news : List Value := (List.range (ys.length * z')).map fun k => (G.K b (off + k)).getD (.bool false)
            have hnews : ∀ (j : Nat) (r : List PC) (i : Nat) (c : PC), ys[j]? = some r → r[i]? = some c → ∃ u, news[j * z' + i]? = some u ∧ VR G.K c u ∧ G.K b (off + (j * z' + i)) = some u := by
              intro j r i c hj hi
              obtain ⟨u, h1, h2⟩ := hs.2 j r hj i c hi
              have hjl : j < ys.length := (List.getElem?_eq_some_iff.1 hj).1
              have hil : i < z' := by
                have := (List.getElem?_eq_some_iff.1 hi).1
                rw [hz r (List.mem_of_getElem? hj)] at this; exact this
              have hlt : j * z' + i < ys.length * z' := by
                have h3 : j * z' + z' ≤ ys.length * z' := by rw [← Nat.succ_mul]; exact Nat.mul_le_mul_right z' hjl
                omega
              rw [Nat.add_assoc] at h1
              exact ⟨u, by simp [news, hlt, h1], h2, h1⟩
            refine ⟨news, by simp [news], fun j r i c hj hi => let ⟨u, h1, h2, _⟩ := hnews j r i c hj hi; ⟨u, h1, h2⟩, fun w hw => ?_⟩
            refine run_firstCells_some (P := P) w z' ys.length _ _ _ news (by simp [news]) ?_
            intro k u hk
            have hkl : k < ys.length * z' := by have := (List.getElem?_eq_some_iff.1 hk).1; simpa [news] using this
            have hj : k / z' < ys.length := by rw [Nat.div_lt_iff_lt_mul h0]; omega
            have hi : k % z' < z' := Nat.mod_lt _ h0
            have hrz : ys[k / z'].length = z' := hz _ (List.getElem_mem hj)
            obtain ⟨u', h1, _, h3⟩ := hnews (k / z') ys[k / z'] (k % z') (ys[k / z']'hj)[k % z'] (by simp [hj]) (by simp)
            have e : k / z' * z' + k % z' = k := by rw [Nat.mul_comm]; exact Nat.div_add_mod k z'
            rw [e] at h1 h3
            rw [hk] at h1
            cases h1
            rw [add_at]
            exact hw _ _ _ h3
    · cases h


theorem seg_rows {K : Know} {z : Nat} {rows ys : List (List PC)} {A B C : List Value} (hA : A.length = rows.length * z) (hz : ∀ r ∈ rows, r.length = z) (hzy : ∀ r ∈ ys, r.length = z)
    (h1 : ∀ (j : Nat) (r : List PC) (i : Nat) (c : PC), rows[j]? = some r → r[i]? = some c → ∃ v, A[j * z + i]? = some v ∧ VR K c v)
    (h2 : ∀ (j : Nat) (r : List PC) (i : Nat) (c : PC), ys[j]? = some r → r[i]? = some c → ∃ v, B[j * z + i]? = some v ∧ VR K c v) :
    ∀ (j : Nat) (r : List PC) (i : Nat) (c : PC), (rows ++ ys)[j]? = some r → r[i]? = some c → ∃ v, (A ++ B ++ C)[j * z + i]? = some v ∧ VR K c v := by
  intro j r i c hj hi
  rcases Nat.lt_or_ge j rows.length with h | h
  · rw [List.getElem?_append_left h] at hj
    obtain ⟨v, e, hv⟩ := h1 j r i c hj hi
    have := (List.getElem?_eq_some_iff.1 e).1
    exact ⟨v, by rw [List.append_assoc, List.getElem?_append_left this]; exact e, hv⟩
  · rw [List.getElem?_append_right h] at hj
    obtain ⟨v, e, hv⟩ := h2 _ r i c hj hi
    have hlt := (List.getElem?_eq_some_iff.1 e).1
    have e2 : j * z + i - A.length = (j - rows.length) * z + i := by
      rw [hA, Nat.sub_mul]
      have : rows.length * z ≤ j * z := Nat.mul_le_mul_right z h
      omega
    have hge : A.length ≤ j * z + i := by
      rw [hA]
      have : rows.length * z ≤ j * z := Nat.mul_le_mul_right z h
      omega
    exact ⟨v, by rw [List.append_assoc, List.getElem?_append_right hge, e2, List.getElem?_append_left hlt]; exact e, hv⟩

theorem heap_push_old (w : World) (d : Nat) (c : Obj) (b : Nat) (hb : b < w.heap.size) : ({ w with heap := w.heap.push c, drawn := d } : World).heap[b]? = w.heap[b]? := by
  show (w.heap.push _)[b]? = _
  rw [Array.getElem?_push, if_neg (by omega)]

/-- Growing: the run. -/
theorem grow_run {st xt ty e : TypeId} {i : TypeInfo} {zv : Value} {z by_ n m cap : Nat} {A : Option Addr} {x : Value} {olds news : List Value}
    (ht : P.underlying st = some (.slice e)) (hx : P.underlying xt = some .string ∨ ∃ e, P.underlying xt = some (.slice e)) (hi : P.info? e = some i) (hz : i.size = z) (hb : i.bytes = by_) (hzero : i.zero = some zv)
    (hb0 : 0 < by_) (hlen : ∀ w : World, (Builtin.lenOf x).run P w = .ok m w) (hgrow : cap < n + m) (hfit : (n + m) * by_ ≤ 140737488355328)
    (hold : (Builtin.firstCells z n (.slice A n cap)).run P w.drew = .ok olds.toArray w.drew) (hnew : (Builtin.firstCells z m x).run P w.drew = .ok news.toArray w.drew) :
    (Builtin.append_ #[st, xt] ty #[.slice A n cap, x]).run P w =
      .ok (.slice (some ⟨w.heap.size, 0, none⟩) (n + m) (grownCap w (n + m) cap e)) (w.drew.alloc (.cells (olds.toArray ++ news.toArray ++ Builtin.zeroCells zv.cells (grownCap w (n + m) cap e - (n + m))) e)) := by
  have h1 : ¬ (n + m ≤ cap) := by omega
  have h2 : ¬ (Builtin.nextslicecap (n + m) cap * by_ > 281474976710656) := by have := growslice_fits hgrow hfit; omega
  have h3 : by_ ≠ 0 := by omega
  rcases hx with hx | ⟨e', hx⟩
  all_goals
    simp [Builtin.append_, run_underlying ht, run_underlying hx, sizeOf, typeInfo, hi, hz, hb, hlen, h1, h2, h3, Question.forced, newRow, zeroValue, hzero]
    have hc : (Question.appendCap (n + m) cap e).cut (w.tape w.drawn (.appendCap (n + m) cap e)) = grownCap w (n + m) cap e := rfl
    simp [hold, hnew, hc]
    congr 2
    rw [← Array.append_assoc]
    simp


theorem storeCells_fr (P : Program) (g o : Nat) (t : TypeId) (p : Nat × Nat) (n : Nat) (hp : FrOK n p) : ∀ (vs : List Value) (i : Nat) (cur : Array Value) (w : World), cur.size = n → w.heap[g]? = some (.cells cur t p) → o + i + vs.length ≤ cur.size → (∀ v ∈ vs, v.oneCell' = true) →
    (storeCells ⟨g, o, none⟩ vs i).run P w = .ok () (w.setRow g (cur.toList.take (o + i) ++ vs ++ cur.toList.drop (o + i + vs.length)).toArray)
  | [], i, cur, w, hn, hg, _, _ => by
    simp only [storeCells, List.append_nil, List.length_nil, Nat.add_zero, List.take_append_drop, Array.toArray_toList]
    rw [setRow_self w g cur t p hg]
    rfl
  | v :: rest, i, cur, w, hn, hg, hl, h1 => by
    have hi : o + i < cur.size := by simp at hl; omega
    have hadd : (⟨g, o, none⟩ : Addr).add i = ⟨g, o + i, none⟩ := by unfold Addr.add; split <;> simp_all
    have hcell : w.cell? ⟨g, o + i, none⟩ = some cur[o + i] := by simp [World.cell?, hg, hi]
    have hfro : w.frozen? ⟨g, o + i, none⟩ = false := by
      rcases hp with rfl | rfl
      · simp [World.frozen?, hg]
      · simp only [World.frozen?, hg, Bool.and_eq_false_iff, decide_eq_false_iff_not]
        left; omega
    have hst : (store ((⟨g, o, none⟩ : Addr).add i) v).run P w = .ok () (w.setRow g (cur.setIfInBounds (o + i) v)) := by
      rw [hadd, run_store P w _ v _ (h1 v (by simp)), hcell]
      simp [hfro, setCell_eq_setRow w g (o + i) cur t p v hg]
    have ih := storeCells_fr P g o t p n hp rest (i + 1) (cur.setIfInBounds (o + i) v) (w.setRow g (cur.setIfInBounds (o + i) v)) (by simpa using hn) (setRow_heap w g cur _ t _ hg) (by simp at hl ⊢; omega) (fun x hx => h1 x (by simp [hx]))
    simp only [storeCells, Sem.run_bind, hst, Result.andThen_ok, ih, setRow_setRow]
    congr 3
    have e := list_seg_step cur.toList (o + i) v rest (by simp at hl ⊢; omega)
    simpa [Array.toList_setIfInBounds, Nat.add_assoc] using e

theorem room_run {pq : Nat × Nat} {st xt ty e et : TypeId} {i : TypeInfo} {z n m cap b : Nat} {x : Value} {news : List Value} {cur : Array Value}
    (ht : P.underlying st = some (.slice e)) (hx : P.underlying xt = some .string ∨ ∃ e, P.underlying xt = some (.slice e)) (hi : P.info? e = some i) (hz : i.size = z)
    (hlen : ∀ w : World, (Builtin.lenOf x).run P w = .ok m w) (hroom : n + m ≤ cap) (hsz : cur.size = cap * z) (hnl : news.length = m * z)
    (hcur : w.heap[b]? = some (.cells cur et pq)) (hfz : FrOK cur.size pq) (hone : ∀ u ∈ news, u.oneCell' = true)
    (hnew : (Builtin.firstCells z m x).run P w = .ok news.toArray w) :
    (Builtin.append_ #[st, xt] ty #[.slice (some ⟨b, 0, none⟩) n cap, x]).run P w =
      .ok (.slice (some ⟨b, 0, none⟩) (n + m) cap) (w.setRow b (cur.toList.take (n * z) ++ news ++ cur.toList.drop (n * z + news.length)).toArray) := by
  have hfit : n * z + news.length ≤ cur.size := by rw [hnl, hsz, ← Nat.add_mul]; exact Nat.mul_le_mul_right z hroom
  have hst := storeCells_fr P b (n * z) et pq cur.size hfz news 0 cur w rfl hcur (by simpa using hfit) hone
  simp only [Nat.add_zero] at hst
  rcases hx with hx | ⟨e', hx⟩
  all_goals
    simp [Builtin.append_, run_underlying ht, run_underlying hx, sizeOf, typeInfo, hi, hz, hlen, hroom, hnew, add_at, hst]

theorem sound_append (R : Rel E G s a w) {st xt : TypeId} {x y : AV} {u v : Value} {d : Nat} {ty : TypeId} (hux : AR G x u) (hvy : AR G y v)
    (hexec : ∀ {r w'}, (Builtin.append_ #[st, xt] ty #[u, v]).run P w = .ok r w' → (execOp a.eval o).run P w = .ok (.value r) w')
    {e : Eff} {l : List Nat} (h : (appendE P d st xt x y).run s.mem = some (e, l)) (K : Post E G s o e a next) : o.wp P a w next Q := by
  unfold appendE at h
  split at h
  · rename_i el ys hel hys
    split at h
    · rename_i z by_ zero hz hby hzero
      split at h
      · rename_i hc
        obtain ⟨c0, cb0, czl, crows, cstr⟩ := hc
        obtain ⟨i, zv, hi, hzv, hzl, _⟩ := zero_rel G hzero
        have hisz : i.size = z := by obtain ⟨i', h1, h2⟩ := tySize_info hz; rw [hi] at h1; cases h1; exact h2
        have hiby : i.bytes = by_ := by obtain ⟨i', h1, h2⟩ := tyBytes_info hby; rw [hi] at h1; cases h1; exact h2
        have hzcs : zv.cells.size = z := by omega
        obtain ⟨hxt, hlen, news, hnl, hnv, hnrun⟩ := added_run (P := P) hvy hys crows c0 (fun str e => by subst e; simpa [strz] using cstr)
        have hnewsone : ∀ u ∈ news, u.oneCell' = true := fun u hu => by
          obtain ⟨c, hc⟩ := flat_rows (K := G.K) crows hnl hnv c0 u hu
          exact PC.one hc
        have hst := tyElem_run hel
        have agd : ∀ b o v, G.K b o = some v → w.drew.cell? ⟨b, o, none⟩ = some v := R.mem.agree
        -- growing out of nothing
        have fromNil : ∀ (nm : Nat), u = .slice none 0 0 → (0 < ys.length → ys.length * by_ ≤ 140737488355328) →
            (0 < ys.length → (execOp a.eval o).run P w = .ok (.value (.slice (some ⟨w.heap.size, 0, none⟩) ys.length (grownCap w ys.length 0 el))) (w.drew.alloc (.cells (news.toArray ++ Builtin.zeroCells zv.cells (grownCap w ys.length 0 el - ys.length)) el))) ∧
            (ys = [] → (execOp a.eval o).run P w = .ok (.value (.slice none 0 0)) w) := by
          intro nm hu hfit
          subst hu
          refine ⟨fun hp => hexec ?_, fun h0 => hexec ?_⟩
          · have := grow_run (P := P) (w := w) (ty := ty) (A := none) (n := 0) (m := ys.length) (cap := 0) (olds := []) (news := news) (x := v) hst hxt hi hisz hiby hzv cb0 hlen (by omega) (by simpa using hfit hp) (by simp [Builtin.firstCells]) (hnrun _ agd)
            simpa using this
          · subst h0
            have h1 := hlen w
            rcases hxt with hx | ⟨e', hx⟩ <;> simp [Builtin.append_, run_underlying hst, run_underlying hx, sizeOf, typeInfo, hi, h1, hnrun w R.mem.agree]
            all_goals (have := hnrun w R.mem.agree; simp [hisz] at this ⊢; simp [this])
        have hnilcap : ys.length ≤ grownCap w ys.length 0 el := grownCap_ge w _ _ _
        split at h
        · -- nil
          cases hux
          split at h
          · rename_i hfit
            unfold newRowE at h
            obtain ⟨l', h, _⟩ := EP.ask_inv h
            split at h
            · rename_i hm
              obtain ⟨rfl, _⟩ := EP.ret_inv h
              obtain ⟨f1, f2⟩ := fromNil 0 rfl (fun _ => hfit)
              rcases Nat.eq_zero_or_pos ys.length with h0 | hp
              · have h0' : ys = [] := List.length_eq_zero_iff.1 h0
                subst h0'
                obtain ⟨G', g1, g2, g3⟩ := R.mem.nilRow hm z
                exact wp_value (f2 rfl) (K G' _ _ g1 g2 (g3.congr (AS.mem_wr1 s _ _)))
              · obtain ⟨G', g1, g2, g3⟩ := R.mem.newRow (w' := w.drew.alloc (.cells (news.toArray ++ Builtin.zeroCells zv.cells (grownCap w ys.length 0 el - ys.length)) el)) hm (z := z) (cap := grownCap w ys.length 0 el) (rows := ys)
                  (vs := news.toArray ++ Builtin.zeroCells zv.cells (grownCap w ys.length 0 el - ys.length)) (ty := el) c0 crows hnilcap
                  (by simp only [Array.size_append, List.size_toArray, size_zeroCells, hzcs, hnl, ← Nat.add_mul]; congr 1; omega)
                  (by show (w.heap.push _)[w.heap.size]? = _; simp)
                  (fun j r i c hj hi => by
                    obtain ⟨q, q1, q2⟩ := hnv j r i c hj hi
                    have hlt := (List.getElem?_eq_some_iff.1 q1).1
                    exact ⟨q, by rw [Array.getElem?_append_left (by simpa using hlt)]; simpa using q1, q2⟩)
                  (fun b hb => heap_push_old w _ _ b hb) rfl rfl rfl (by show _ ≤ (w.heap.push _).size; simp)
                exact wp_value (f1 hp) (K G' _ _ g1 g2 (g3.congr (AS.mem_wr1 s _ _)))
            · exact EP.fail_inv h
          · exact EP.fail_inv h
        · rename_i r z' rows
          split at h
          · rename_i hc2
            obtain ⟨rfl, hfit⟩ := hc2
            obtain ⟨l', h, _⟩ := EP.ask_inv h
            split at h
            · rename_i z2 fr hm
              split at h
              · rename_i hfr
                subst hfr
                obtain ⟨rfl, _⟩ := EP.ret_inv h
                cases hux with
                | own _ _ _ _ bk fr hh hl hr hv ha =>
                have h0 := R.mem.home r
                rw [hm, hh] at h0
                obtain ⟨hz2, hfr, h0⟩ := h0
                subst hz2
                subst hfr
                have hu := ha rfl
                have hrows : ∀ x ∈ rows ++ ys, x.length = z2 := fun x hx => by
                  rcases List.mem_append.1 hx with h | h
                  · exact hr x h
                  · exact crows x h
                have hm' : s.mem r = some (.row z2 rows.length) := hm
                cases bk with
                | none =>
                  have hr0 : rows = [] := List.length_eq_zero_iff.1 h0
                  subst hr0
                  obtain ⟨f1, f2⟩ := fromNil 0 hu (fun _ => by simpa using hfit)
                  rcases Nat.eq_zero_or_pos ys.length with hy0 | hp
                  · have h0' : ys = [] := List.length_eq_zero_iff.1 hy0
                    subst h0'
                    refine wp_value (f2 rfl) (K G _ _ (Gh.le_refl G) ?_ (R.mem.congr fun i => ?_))
                    · rw [hu] at *
                      exact .own r z2 [] _ none 0 hh (Nat.le_refl _) (by simp) .nil (fun _ => rfl)
                    · rw [AS.mem_wr1]
                      unfold mset
                      split
                      · rename_i e; subst e; rw [hm']; rfl
                      · rfl
                  · obtain ⟨G', g1, g2, g3⟩ := R.mem.turnRow (w' := w.drew.alloc (.cells (news.toArray ++ Builtin.zeroCells zv.cells (grownCap w ys.length 0 el - ys.length)) el)) (rows := []) (ys := ys) (b' := w.heap.size) (cap' := grownCap w ys.length 0 el)
                      (vs' := news.toArray ++ Builtin.zeroCells zv.cells (grownCap w ys.length 0 el - ys.length)) (ty := el) hm' hh (.inr ⟨rfl, hp⟩) c0 hrows (by simpa using hnilcap)
                      (by simp only [Array.size_append, List.size_toArray, size_zeroCells, hzcs, hnl, ← Nat.add_mul]; congr 1; omega)
                      ⟨(0, 0), by show (w.heap.push _)[w.heap.size]? = _; simp, .inl rfl⟩
                      (fun j r i c hj hi => by
                        obtain ⟨q, q1, q2⟩ := hnv j r i c (by simpa using hj) hi
                        have hlt := (List.getElem?_eq_some_iff.1 q1).1
                        exact ⟨q, by rw [Array.getElem?_append_left (by simpa using hlt)]; simpa using q1, q2⟩)
                      (fun o v hv => by rw [R.mem.k_new (Nat.le_refl _)] at hv; cases hv)
                      (fun b _ hb => heap_push_old w _ _ b hb) rfl rfl rfl (by show _ ≤ (w.heap.push _).size; simp)
                    refine wp_value (f1 hp) (K G' _ _ g1 (by simpa using g2) (g3.congr fun i => ?_))
                    rw [AS.mem_wr1]; simp
                | some p =>
                  obtain ⟨b, cap⟩ := p
                  obtain ⟨cur, et, ⟨pq, q1, qf⟩, q2, q3, q4, q5, q6⟩ := h0
                  have hu' : u = .slice (some ⟨b, 0, none⟩) rows.length cap := hu
                  subst hu'
                  have holdcells : ∀ (j : Nat) (r : List PC) (i : Nat) (c : PC), rows[j]? = some r → r[i]? = some c → ∃ v, cur[j * z2 + i]? = some v ∧ VR G.K c v ∧ j * z2 + i < rows.length * z2 := by
                    intro j r i c hj hi
                    rcases hv.slice_inv with ⟨h, _⟩ | ⟨z3, b3, off3, cap3, he3, _, hs3⟩
                    · subst h; simp at hj
                    · cases he3
                      have hz3 : z3 = z2 := by rw [← hs3.1 r (List.mem_of_getElem? hj)]; exact hr r (List.mem_of_getElem? hj)
                      subst hz3
                      obtain ⟨v, h1, h2⟩ := hs3.2 j r hj i c hi
                      have := R.mem.agree _ _ _ h1
                      simp only [World.cell?, q1, Nat.zero_add] at this
                      have hjl : j < rows.length := (List.getElem?_eq_some_iff.1 hj).1
                      have hil : i < z3 := by
                        have := (List.getElem?_eq_some_iff.1 hi).1
                        rw [hr r (List.mem_of_getElem? hj)] at this; exact this
                      have h3 : j * z3 + z3 ≤ rows.length * z3 := by rw [← Nat.succ_mul]; exact Nat.mul_le_mul_right z3 hjl
                      exact ⟨v, by simpa using this, h2, by omega⟩
                  have hkeepK : ∀ o v, G.K b o = some v → o < rows.length * z2 ∧ cur[o]? = some v := by
                    intro o v hk
                    have h1 := R.mem.agree _ _ _ hk
                    simp only [World.cell?, q1] at h1
                    refine ⟨?_, by simpa using h1⟩
                    rcases Nat.lt_or_ge o (rows.length * z2) with h | h
                    · exact h
                    · rw [q6 o h] at hk; cases hk
                  have hcurl : rows.length * z2 ≤ cur.size := by rw [q2]; exact Nat.mul_le_mul_right z2 q3
                  by_cases hroom : rows.length + ys.length ≤ cap
                  · have hrun := hexec (room_run (P := P) (w := w) (ty := ty) hst hxt hi hisz hlen hroom q2 hnl q1 qf hnewsone (hnrun w R.mem.agree))
                    have hcl : (cur.toList.take (rows.length * z2)).length = rows.length * z2 := by simp; omega
                    obtain ⟨G', g1, g2, g3⟩ := R.mem.turnRow (w' := w.setRow b (cur.toList.take (rows.length * z2) ++ news ++ cur.toList.drop (rows.length * z2 + news.length)).toArray) (rows := rows) (ys := ys) (b' := b) (cap' := cap)
                      (vs' := (cur.toList.take (rows.length * z2) ++ news ++ cur.toList.drop (rows.length * z2 + news.length)).toArray) (ty := et) hm' hh (.inl rfl) c0 hrows (by simpa using hroom)
                      (by simp [hnl]; rw [← q2]; have : rows.length * z2 + ys.length * z2 ≤ cur.size := by rw [q2, ← Nat.add_mul]; exact Nat.mul_le_mul_right z2 hroom
                          omega)
                      ⟨pq, setRow_heap w b cur _ et _ q1, by
                        have : (cur.toList.take (rows.length * z2) ++ news ++ cur.toList.drop (rows.length * z2 + news.length)).toArray.size = cur.size := by
                          have : rows.length * z2 + ys.length * z2 ≤ cur.size := by rw [q2, ← Nat.add_mul]; exact Nat.mul_le_mul_right z2 hroom
                          simp [hnl]; omega
                        rw [this]; exact qf⟩
                      (fun j r i c hj hi => by
                        have := seg_rows (K := G.K) (C := cur.toList.drop (rows.length * z2 + news.length)) hcl hr crows (fun j r i c hj hi => by
                          obtain ⟨v, h1, h2, h3⟩ := holdcells j r i c hj hi
                          exact ⟨v, by rw [List.getElem?_take, if_pos h3]; simpa using h1, h2⟩) hnv j r i c hj hi
                        simpa using this)
                      (fun o v hk => by
                        obtain ⟨h1, h2⟩ := hkeepK o v hk
                        simp only [List.getElem?_toArray]
                        rw [List.append_assoc, List.getElem?_append_left (by omega), List.getElem?_take, if_pos h1]
                        simpa using h2)
                      (fun k hk _ => setRow_other w b k _ hk) rfl rfl rfl (by simp [World.setRow])
                    refine wp_value hrun (K G' _ _ g1 (by simpa using g2) (g3.congr fun i => ?_))
                    rw [AS.mem_wr1]; simp
                  · have hgrow : cap < rows.length + ys.length := by omega
                    have hp : 0 < ys.length := by omega
                    have hold : (Builtin.firstCells z2 rows.length (.slice (some ⟨b, 0, none⟩) rows.length cap)).run P w.drew = .ok (cur.toList.take (rows.length * z2)).toArray w.drew := by
                      refine run_firstCells_some (P := P) w.drew z2 rows.length _ _ _ _ (by simp; omega) ?_
                      intro j v hj
                      rw [List.getElem?_take] at hj
                      split at hj
                      · rw [add_at]
                        simp only [World.cell?, Nat.zero_add]
                        have : w.drew.heap[b]? = some (.cells cur et pq) := q1
                        rw [this]; simpa using hj
                      · cases hj
                    have hrun := hexec (grow_run (P := P) (w := w) (ty := ty) (n := rows.length) (m := ys.length) hst hxt hi hisz hiby hzv cb0 hlen hgrow hfit hold (hnrun _ agd))
                    have hcl : (cur.toList.take (rows.length * z2)).length = rows.length * z2 := by simp; omega
                    obtain ⟨G', g1, g2, g3⟩ := R.mem.turnRow (w' := w.drew.alloc (.cells ((cur.toList.take (rows.length * z2)).toArray ++ news.toArray ++ Builtin.zeroCells zv.cells (grownCap w (rows.length + ys.length) cap el - (rows.length + ys.length))) el)) (rows := rows) (ys := ys) (b' := w.heap.size) (cap' := grownCap w (rows.length + ys.length) cap el)
                      (vs' := (cur.toList.take (rows.length * z2)).toArray ++ news.toArray ++ Builtin.zeroCells zv.cells (grownCap w (rows.length + ys.length) cap el - (rows.length + ys.length))) (ty := el) hm' hh (.inr ⟨rfl, hp⟩) c0 hrows
                      (by simpa using grownCap_ge w (rows.length + ys.length) cap el)
                      (by have hge := grownCap_ge w (rows.length + ys.length) cap el
                          simp only [Array.size_append, List.size_toArray, size_zeroCells, hzcs, hnl, hcl, ← Nat.add_mul]; congr 1; omega)
                      ⟨(0, 0), by show (w.heap.push _)[w.heap.size]? = _; simp, .inl rfl⟩
                      (fun j r i c hj hi => by
                        have := seg_rows (K := G.K) (C := (Builtin.zeroCells zv.cells (grownCap w (rows.length + ys.length) cap el - (rows.length + ys.length))).toList) hcl hr crows (fun j r i c hj hi => by
                          obtain ⟨v, h1, h2, h3⟩ := holdcells j r i c hj hi
                          exact ⟨v, by rw [List.getElem?_take, if_pos h3]; simpa using h1, h2⟩) hnv j r i c hj hi
                        obtain ⟨v, h1, h2⟩ := this
                        refine ⟨v, ?_, h2⟩
                        rw [← h1, ← Array.getElem?_toList]
                        congr 1
                        simp)
                      (fun o v hv => by rw [R.mem.k_new (Nat.le_refl _)] at hv; cases hv)
                      (fun b _ hb => heap_push_old w _ _ b hb) rfl rfl rfl (by show _ ≤ (w.heap.push _).size; simp)
                    refine wp_value hrun (K G' _ _ g1 (by simpa using g2) (g3.congr fun i => ?_))
                    rw [AS.mem_wr1]; simp
              · exact EP.fail_inv h
            · exact EP.fail_inv h
          · exact EP.fail_inv h
        · exact EP.fail_inv h
      · exact EP.fail_inv h
    · exact EP.fail_inv h
  · exact EP.fail_inv h

end
end Go.Proofs.Ytjdokoldiemobaa.AM
