/-
  THE ABSTRACT MACHINE, part 3: a state and a frame; each operation but calls does what its abstract twin does.
-/
import Derived.Test.YtjdokoldiemobaaAm2
set_option linter.unusedVariables false
set_option linter.unusedSimpArgs false
namespace Go.Proofs.Ytjdokoldiemobaa.AM
open Go

structure Rel (E : Env) (G : Gh) (s : AS) (a : Act) (w : World) : Prop where
  size : a.tmps.size = E.N.n
  defs : a.defers = E.dfs
  tmps : ∀ i, AR G (s.get i) (a.tmps.getD i Go.undef)
  mem : MRel E G s.mem w
  ent : ∀ n ∈ E.ns, ∃ h h', E.H0 n = some h ∧ G.h n = some h' ∧ Home.le h h'

section
variable {P : Program} {E : Env} {G : Gh} {s : AS} {a : Act} {w : World} {o : Oper} {next : Act → World → Prop} {Q : Exit → Act → World → Prop}

theorem ba_eq (b : ByteArray) : (⟨b.data.toList.toArray⟩ : ByteArray) = b := by cases b; simp

theorem toAV_rel (G : Gh) (v : Value) : AR G (Value.toAV v) v := by
  unfold Value.toAV
  split
  · exact .c _ _ (.int _ _)
  · exact .c _ _ (.bool _)
  · rename_i b; have := VR.str (K := G.K) b.data.toList; rw [ba_eq] at this; exact .c _ _ this
  · exact .nilsl
  · exact .nilptr
  · exact .nilmp
  · exact .undef _

theorem Rel.eval (R : Rel E G s a w) (x : Operand) : AR G (s.eval x) (a.eval x) := by
  cases x with
  | tmp t => exact R.tmps t
  | const v => exact toAV_rel G v
  | global g => exact .undef _
  | func f => exact .clo f [] [] rfl (fun i cs b h => by simp at h)

theorem AR.int_inv {k : IntKind} {n : Int} {v : Value} (h : AR G (.c (.int k n)) v) : v = .int k n := by cases h with | c _ _ h => cases h; rfl
theorem AR.bool_inv {b : Bool} {v : Value} (h : AR G (.c (.bool b)) v) : v = .bool b := by cases h with | c _ _ h => cases h; rfl
theorem AR.str_inv {l : List UInt8} {v : Value} (h : AR G (.c (.str l)) v) : v = .string ⟨l.toArray⟩ := by cases h with | c _ _ h => cases h; rfl
theorem AR.int (k : IntKind) (n : Int) : AR G (.c (.int k n)) (.int k n) := .c _ _ (.int k n)
theorem AR.bool (b : Bool) : AR G (.c (.bool b)) (.bool b) := .c _ _ (.bool b)
theorem AR.str (l : List UInt8) : AR G (.c (.str l)) (.string ⟨l.toArray⟩) := .c _ _ (.str l)

theorem AR.toPC {x : AV} {v : Value} {c : PC} (h : AR G x v) (hc : x.toPC = some c) : VR G.K c v := by
  cases h <;> simp only [AV.toPC, Option.some.injEq, reduceCtorEq] at hc
  · subst hc; assumption
  · subst hc; exact .nil
  · subst hc; assumption

theorem AR.rows {x : AV} {v : Value} {rows : List (List PC)} (h : AR G x v) (hc : x.rows = some rows) : VR G.K (.sl rows) v := by
  cases h with
  | c x v hv => cases x <;> simp only [AV.rows, Option.some.injEq, reduceCtorEq] at hc; subst hc; exact hv
  | nilsl => simp only [AV.rows, Option.some.injEq] at hc; subst hc; exact .nil
  | own r z rows v bk fr hh hl hr hv ha => simp only [AV.rows, Option.some.injEq] at hc; subst hc; exact hv
  | _ => simp [AV.rows] at hc

theorem toPCs_spec : ∀ {l : List AV} {cs : List PC}, toPCs l = some cs → l.length = cs.length ∧ ∀ (i : Nat) (x : AV) (c : PC), l[i]? = some x → cs[i]? = some c → x.toPC = some c
  | [], cs, h => by simp only [toPCs, Option.some.injEq] at h; subst h; exact ⟨rfl, fun i x c h => by simp at h⟩
  | x :: l, cs, h => by
    simp only [toPCs] at h
    split at h
    · rename_i c cs' h1 h2
      simp only [Option.some.injEq] at h
      subst h
      obtain ⟨a1, a2⟩ := toPCs_spec h2
      refine ⟨by simp [a1], fun i y d e1 e2 => ?_⟩
      cases i with
      | zero => simp at e1 e2; subst e1; subst e2; exact h1
      | succ i => exact a2 i y d (by simpa using e1) (by simpa using e2)
    · cases h

/-! runs -/
theorem tyAgg_run {t : TypeId} {b : Bool} (h : tyAgg P t = some b) (w : World) : (isAgg t).run P w = .ok b w := by
  unfold tyAgg at h
  cases hu : P.underlying t with
  | none => rw [hu] at h; cases h
  | some d =>
    rw [hu] at h
    simp only [Option.map_some, Option.some.injEq] at h
    subst h
    cases d <;> simp [isAgg, run_underlying hu]

theorem tySize_run {t : TypeId} {z : Nat} (h : tySize P t = some z) (w : World) : (sizeOf t).run P w = .ok z w := by
  unfold tySize at h
  cases hi : P.info? t with
  | none => rw [hi] at h; cases h
  | some i =>
    rw [hi] at h
    simp only [Option.map_some, Option.some.injEq] at h
    subst h
    simp [sizeOf, typeInfo, hi]
theorem tySize_info {t : TypeId} {z : Nat} (h : tySize P t = some z) : ∃ i, P.info? t = some i ∧ i.size = z := by
  unfold tySize at h
  cases hi : P.info? t with
  | none => rw [hi] at h; cases h
  | some i => rw [hi] at h; exact ⟨i, rfl, by simpa using h⟩
theorem tyBytes_info {t : TypeId} {z : Nat} (h : tyBytes P t = some z) : ∃ i, P.info? t = some i ∧ i.bytes = z := by
  unfold tyBytes at h
  cases hi : P.info? t with
  | none => rw [hi] at h; cases h
  | some i => rw [hi] at h; exact ⟨i, rfl, by simpa using h⟩
theorem tyZero_info {t : TypeId} {z : List AV} (h : tyZero P t = some z) : ∃ i v, P.info? t = some i ∧ i.zero = some v ∧ z = v.cells.toList.map Value.toAV := by
  unfold tyZero at h
  cases hi : P.info? t with
  | none => rw [hi] at h; cases h
  | some i =>
    rw [hi] at h
    cases hz : i.zero with
    | none => simp [hz] at h
    | some v => exact ⟨i, v, rfl, hz, by simpa [hz] using h.symm⟩
theorem tyElem_run {t e : TypeId} (h : tyElem P t = some e) : P.underlying t = some (.slice e) := by
  unfold tyElem at h
  split at h
  · rename_i e' hu; cases h; exact hu
  · cases h
theorem tyArr_run {t e : TypeId} {n : Nat} (h : tyArr P t = some (n, e)) : P.underlying t = some (.array n e) := by
  unfold tyArr at h
  split at h
  · rename_i e' hu; cases h; exact hu
  · cases h
theorem tyInt_run {t : TypeId} {k : IntKind} (h : tyInt P t = some k) : P.underlying t = some (.int k) := by
  unfold tyInt at h
  split at h
  · rename_i e' hu; cases h; exact hu
  · cases h
theorem tyStr_run {t : TypeId} (h : tyStr P t = true) : P.underlying t = some .string := by
  unfold tyStr at h
  split at h
  · assumption
  · cases h
theorem tyMap_run {t k e : TypeId} (h : tyMap P t = some (k, e)) : P.underlying t = some (.map k e) := by
  unfold tyMap at h
  split at h
  · rename_i hu; cases h; exact hu
  · cases h
theorem tyField_run {t : TypeId} {i off z : Nat} {ft : TypeId} (h : tyField P t i = some (off, ft, z)) :
    ∃ fs f, P.underlying t = some (.struct fs) ∧ fs[i]? = some f ∧ f.offset = off ∧ f.type = ft ∧ tySize P ft = some z := by
  unfold tyField at h
  split at h
  · rename_i fs hu
    split at h
    · rename_i f hf
      split at h
      · rename_i z' hz; cases h; exact ⟨fs, f, hu, hf, rfl, rfl, hz⟩
      · cases h
    · cases h
  · cases h

/-! programs that ask -/
theorem EP.bind_inv {α β : Type} {m : Nat → Option MC} {f : α → EP β} {b : β} : ∀ {p : EP α} {l : List Nat}, (p.bind f).run m = some (b, l) →
    ∃ x l1 l2, p.run m = some (x, l1) ∧ (f x).run m = some (b, l2) ∧ l = l1 ++ l2
  | .ret x, l, h => ⟨x, [], l, rfl, h, rfl⟩
  | .fail, l, h => by simp [EP.bind, EP.run] at h
  | .ask n k, l, h => by
    simp only [EP.bind, EP.run] at h
    split at h
    · rename_i b' l' hk
      simp only [Option.some.injEq, Prod.mk.injEq] at h
      obtain ⟨rfl, rfl⟩ := h
      obtain ⟨x, l1, l2, e1, e2, e3⟩ := EP.bind_inv hk
      exact ⟨x, n :: l1, l2, by simp only [EP.run, e1], e2, by simp [e3]⟩
    · cases h
theorem EP.ask_inv {α : Type} {m : Nat → Option MC} {n : Nat} {k : Option MC → EP α} {x : α} {l : List Nat} (h : (EP.ask n k).run m = some (x, l)) :
    ∃ l', (k (m n)).run m = some (x, l') ∧ l = n :: l' := by
  simp only [EP.run] at h
  split at h
  · rename_i b' l' hk; cases h; exact ⟨l', hk, rfl⟩
  · cases h
theorem EP.ret_inv {α : Type} {m : Nat → Option MC} {x y : α} {l : List Nat} (h : (EP.ret x).run m = some (y, l)) : x = y ∧ l = [] := by
  simp only [EP.run, Option.some.injEq, Prod.mk.injEq] at h; exact ⟨h.1, h.2.symm⟩
theorem EP.fail_inv {α : Type} {m : Nat → Option MC} {y : α} {l : List Nat} {p : Prop} (h : (EP.fail : EP α).run m = some (y, l)) : p := by simp [EP.run] at h
theorem okE_inv {m : Nat → Option MC} {x : Option AV} {e : Eff} {l : List Nat} (h : (okE x).run m = some (e, l)) : ∃ v, x = some v ∧ e = ⟨v, []⟩ := by
  unfold okE at h
  split at h
  · rename_i v; exact ⟨v, rfl, (EP.ret_inv h).1.symm⟩
  · exact EP.fail_inv h
theorem okM_inv {m : Nat → Option MC} {x : EP AV} {e : Eff} {l : List Nat} (h : (okM x).run m = some (e, l)) : ∃ v l', x.run m = some (v, l') ∧ e = ⟨v, []⟩ := by
  obtain ⟨v, l1, l2, h1, h2, _⟩ := EP.bind_inv h
  exact ⟨v, l1, h1, (EP.ret_inv h2).1.symm⟩

/-! the shape of each lemma -/
def Post (E : Env) (G : Gh) (s : AS) (o : Oper) (e : Eff) (a : Act) (next : Act → World → Prop) : Prop :=
  ∀ (G' : Gh) (v : Value) (w' : World), G.le G' → AR G' e.val v → MRel E G' (s.wr e.wr).mem w' → next (a.put o.dst v) w'

theorem wp_value {v : Value} {w' : World} (h : (execOp a.eval o).run P w = .ok (.value v) w') (k : next (a.put o.dst v) w') : o.wp P a w next Q := by
  unfold Oper.wp; rw [h]; exact k
theorem wp_unit {w' : World} (h : (execOp a.eval o).run P w = .ok .skip w') (k : next (a.put o.dst Go.undef) w') : o.wp P a w next Q := by
  unfold Oper.wp; rw [h]; exact k

theorem sound_val (R : Rel E G s a w) {v : Value} {x : AV} (hrun : (execOp a.eval o).run P w = .ok (.value v) w) (hx : AR G x v) (K : Post E G s o ⟨x, []⟩ a next) : o.wp P a w next Q :=
  wp_value hrun (K G v w (Gh.le_refl G) hx R.mem)

theorem sound_move (R : Rel E G s a w) {x : Operand} (ho : o.op = .move x ∨ o.op = .assign x) (K : Post E G s o ⟨s.eval x, []⟩ a next) : o.wp P a w next Q := by
  refine sound_val R (v := a.eval x) ?_ (R.eval x) K
  rcases ho with ho | ho <;> simp [execOp, ho]

theorem sound_pick (R : Rel E G s a w) {c x y : Operand} {b : Bool} (ho : o.op = .pick c x y) (hc : s.eval c = .c (.bool b)) (K : Post E G s o ⟨s.eval (if b then x else y), []⟩ a next) : o.wp P a w next Q := by
  have h := R.eval c
  rw [hc] at h
  have hb := h.bool_inv
  refine sound_val R (v := a.eval (if b then x else y)) ?_ (R.eval _) K
  cases b <;> simp [execOp, ho, hb, asBool]


/-! memory read -/
theorem obj_of {n off : Nat} {v : Value} {cells : List AV} {fz : Bool} (M : MRel E G s.mem w) (h : AR G (.ptr n off) v) (hm : s.mem n = some (.obj cells fz)) :
    ∃ b, v = .pointer (some ⟨b, off, none⟩) ∧ G.h n = some (.obj b) ∧ ObjOK E G w cells fz b := by
  cases h with
  | ptr _ _ b hb =>
    have h0 := M.home n
    rw [hm, hb] at h0
    exact ⟨b, rfl, hb, h0⟩

theorem add_at (b off j : Nat) : (⟨b, off, none⟩ : Addr).add j = ⟨b, off + j, none⟩ := by unfold Addr.add; split <;> simp_all

theorem load_run {t : TypeId} {x y : AV} {v : Value} {l : List Nat} (M : MRel E G s.mem w) (hx : AR G x v) (h : (loadE P t x).run s.mem = some (y, l)) :
    ∃ u, (Instr.loadAt t v).run P w = .ok u w ∧ AR G y u := by
  unfold loadE at h
  split at h
  · rename_i n off
    obtain ⟨l', h, _⟩ := EP.ask_inv h
    split at h
    · rename_i cells fz hm
      obtain ⟨b, rfl, hb, vs, ty, a1, a2, a3, _⟩ := obj_of M hx hm
      have hcell : ∀ j, w.cell? ⟨b, j, none⟩ = vs[j]? := fun j => by simp [World.cell?, a1]
      split at h
      · rename_i hag
        split at h
        · rename_i z hz
          split at h
          · rename_i hle
            obtain ⟨rfl, _⟩ := EP.ret_inv h
            have hl : ((vs.toList.drop off).take z).length = z := by simp; omega
            have hc := run_loadCells_list (P := P) w ⟨b, off, none⟩ ((vs.toList.drop off).take z) (fun j u hj => by
              rw [add_at, hcell]
              rw [List.getElem?_take] at hj
              split at hj
              · rw [List.getElem?_drop] at hj; simpa using hj
              · cases hj)
            rw [hl] at hc
            refine ⟨.agg ((vs.toList.drop off).take z).toArray, ?_, .agg _ _ (by simp; omega) ?_⟩
            · simp [Instr.loadAt, Instr.sureAddr, loadVar, tyAgg_run hag, tySize_run hz, hc]
            · intro i x u e1 e2
              rw [List.getElem?_take] at e1
              split at e1
              · rename_i hi
                rw [List.getElem?_drop] at e1
                refine a3 (off + i) x u e1 ?_
                simp only [List.getElem?_toArray, List.getElem?_take, if_pos hi, List.getElem?_drop] at e2
                simpa using e2
              · cases e1
          · exact EP.fail_inv h
        · exact EP.fail_inv h
      · rename_i hag
        split at h
        · rename_i x hx'
          obtain ⟨rfl, _⟩ := EP.ret_inv h
          have hi : off < vs.size := by have := (List.getElem?_eq_some_iff.1 hx').1; omega
          refine ⟨vs[off], ?_, a3 off _ _ hx' (by simp [hi])⟩
          simp [Instr.loadAt, Instr.sureAddr, loadVar, tyAgg_run hag, run_load, hcell, hi]
        · exact EP.fail_inv h
      · exact EP.fail_inv h
    · exact EP.fail_inv h
  · rename_i cs
    cases hx with
    | rptr _ b off hk =>
    split at h
    · rename_i hag
      split at h
      · rename_i z hz
        split at h
        · rename_i hle
          obtain ⟨rfl, _⟩ := EP.ret_inv h
          let us : List Value := (List.range z).map fun i => (G.K b (off + i)).getD (.bool false)
          have hu : ∀ i, i < z → us[i]? = G.K b (off + i) ∧ ∃ u, G.K b (off + i) = some u := fun i hi => by
            have hc : cs[i]? = some cs[i] := by simp
            obtain ⟨u, h1, _⟩ := hk i _ hc
            exact ⟨by simp [us, hi, h1], u, h1⟩
          have hl : us.length = z := by simp [us]
          have hc := run_loadCells_list (P := P) w ⟨b, off, none⟩ us (fun j u hj => by
            have hj' : j < z := by have := (List.getElem?_eq_some_iff.1 hj).1; omega
            rw [add_at]
            exact M.agree _ _ _ ((hu j hj').1.symm.trans hj))
          rw [hl] at hc
          refine ⟨.agg us.toArray, ?_, .agg _ _ (by simp [us]; omega) ?_⟩
          · simp [Instr.loadAt, Instr.sureAddr, loadVar, tyAgg_run hag, tySize_run hz, hc]
          · intro i x u e1 e2
            simp only [List.getElem?_map, List.getElem?_take, Option.map_eq_some_iff] at e1
            obtain ⟨c, e1, rfl⟩ := e1
            split at e1
            · rename_i hi
              obtain ⟨u', h1, h2⟩ := hk i c e1
              have : us[i]? = some u := by simpa using e2
              rw [(hu i hi).1, h1] at this
              cases this
              exact .c _ _ h2
            · cases e1
        · exact EP.fail_inv h
      · exact EP.fail_inv h
    · rename_i hag
      split at h
      · rename_i x hx'
        obtain ⟨rfl, _⟩ := EP.ret_inv h
        obtain ⟨u, h1, h2⟩ := hk 0 _ hx'
        refine ⟨u, ?_, .c _ _ h2⟩
        have hcell : w.cell? ⟨b, off, none⟩ = some u := M.agree b off u h1
        simp [Instr.loadAt, Instr.sureAddr, loadVar, tyAgg_run hag, run_load, hcell]
      · exact EP.fail_inv h
    · exact EP.fail_inv h
  · exact EP.fail_inv h

theorem sound_load (R : Rel E G s a w) {t : TypeId} {x : Operand} (ho : o.op = .load t x) {e : Eff} {l : List Nat} (h : (okM (loadE P t (s.eval x))).run s.mem = some (e, l)) (K : Post E G s o e a next) : o.wp P a w next Q := by
  obtain ⟨y, l', h1, rfl⟩ := okM_inv h
  obtain ⟨u, h2, h3⟩ := load_run R.mem (R.eval x) h1
  exact sound_val R (v := u) (by simp [execOp, ho, h2]) h3 K


/-! memory written -/
theorem flat_rel {x : AV} {v : Value} {xs : List AV} (h : AR G x v) (hf : x.flat = some xs) :
    xs.length = v.cells.size ∧ ∀ (i : Nat) (y : AV) (u : Value), xs[i]? = some y → v.cells[i]? = some u → AR G y u := by
  have one : ∀ {x : AV} {v : Value}, AR G x v → v.cells = #[v] → [x].length = v.cells.size ∧ ∀ (i : Nat) (y : AV) (u : Value), [x][i]? = some y → v.cells[i]? = some u → AR G y u := by
    intro x v h hv
    rw [hv]
    refine ⟨rfl, fun i y u e1 e2 => ?_⟩
    cases i with
    | zero => simp at e1 e2; subst e1; subst e2; exact h
    | succ i => simp at e1
  have h' := h
  cases h with
  | undef => cases hf
  | tup => cases hf
  | agg cs us hl hc => simp only [AV.flat, Option.some.injEq] at hf; subst hf; exact ⟨hl, hc⟩
  | c x v hv => simp only [AV.flat, Option.some.injEq] at hf; subst hf; cases hv <;> exact one h' rfl
  | own r z rows v bk fr hh hl hr hv ha => simp only [AV.flat, Option.some.injEq] at hf; subst hf; cases hv <;> exact one h' rfl
  | _ => simp only [AV.flat, Option.some.injEq] at hf; subst hf; exact one h' rfl

theorem scal_one {x : AV} {v : Value} (h : AR G x v) (hs : x.scal = true) : v.oneCell' = true := by
  cases h with
  | undef => cases hs
  | tup => cases hs
  | agg => cases hs
  | c x v hv => cases hv <;> rfl
  | own r z rows v bk fr hh hl hr hv ha => cases hv <;> rfl
  | _ => rfl

theorem AS.mem_wr1 (s : AS) (n : Nat) (c : MC) : ∀ i, (s.wr [(n, c)]).mem i = mset s.mem n c i := fun _ => rfl

theorem sound_store (R : Rel E G s a w) {t : TypeId} {x y : Operand} (ho : o.op = .store t x y) {e : Eff} {l : List Nat} (h : (storeE P t (s.eval x) (s.eval y)).run s.mem = some (e, l)) (K : Post E G s o e a next) : o.wp P a w next Q := by
  have hx := R.eval x
  have hy := R.eval y
  unfold storeE at h
  split at h
  · rename_i n off xs z ex ef hz
    obtain ⟨l', h, _⟩ := EP.ask_inv h
    split at h
    · rename_i cells hm
      rw [ex] at hx
      obtain ⟨b, hv, hb, hobj⟩ := obj_of R.mem hx hm
      obtain ⟨vs, ty, a1, a2, a3, _⟩ := hobj
      split at h
      · rename_i hc
        obtain ⟨hc1, hc2, hc3⟩ := hc
        obtain ⟨rfl, _⟩ := EP.ret_inv h
        obtain ⟨f1, f2⟩ := flat_rel hy ef
        have hsize : (a.eval y).cells.size = z := by omega
        have hone : ∀ u ∈ (a.eval y).cells.toList, u.oneCell' = true := fun u hu => by
          obtain ⟨i, hi⟩ := List.mem_iff_getElem?.1 hu
          have hil : i < xs.length := by
            have := (List.getElem?_eq_some_iff.1 hi).1
            simp at this; omega
          have hxi : xs[i]? = some xs[i] := by simp
          refine scal_one (f2 i _ u hxi (by simpa using hi)) ?_
          rw [List.all_eq_true] at hc3
          exact hc3 _ (List.getElem_mem hil)
        have hst := run_storeCells_at P b off ty (a.eval y).cells.toList 0 vs w a1 (by simp; omega) hone
        simp only [Nat.add_zero, Array.length_toList] at hst
        refine wp_unit (w' := w.setRow b (vs.toList.take off ++ (a.eval y).cells.toList ++ vs.toList.drop (off + (a.eval y).cells.size)).toArray) ?_ ?_
        · simp [execOp, ho, hv, Instr.storeAt, Instr.sureAddr, storeVar, tySize_run hz, hsize]
          simp [hsize] at hst
          simp [hst]
        · refine K G _ _ (Gh.le_refl G) (.undef _) ((R.mem.setObj hm hb ?_ ?_).congr (AS.mem_wr1 s n _))
          · simp [putAt]; omega
          · intro i x u e1 e2
            simp only [putAt] at e1
            have e2' : (vs.toList.take off ++ (a.eval y).cells.toList ++ vs.toList.drop (off + (a.eval y).cells.size))[i]? = some u := by simpa using e2
            have t1 : (cells.take off).length = off := by simp; omega
            have t2 : (vs.toList.take off).length = off := by simp; omega
            rcases Nat.lt_or_ge i off with hi | hi
            · rw [List.append_assoc, List.getElem?_append_left (by omega), List.getElem?_take, if_pos hi] at e1
              rw [List.append_assoc, List.getElem?_append_left (by omega), List.getElem?_take, if_pos hi] at e2'
              exact a3 i x u e1 (by simpa using e2')
            · rw [List.append_assoc, List.getElem?_append_right (by omega), t1] at e1
              rw [List.append_assoc, List.getElem?_append_right (by omega), t2] at e2'
              rcases Nat.lt_or_ge (i - off) xs.length with hj | hj
              · rw [List.getElem?_append_left hj] at e1
                rw [List.getElem?_append_left (by simp; omega)] at e2'
                exact f2 (i - off) x u e1 (by simpa using e2')
              · rw [List.getElem?_append_right hj, List.getElem?_drop] at e1
                rw [List.getElem?_append_right (by simp; omega), List.getElem?_drop] at e2'
                refine a3 i x u ?_ ?_
                · rw [← e1]; congr 1; omega
                · have e3 : vs.toList[i]? = some u := by rw [← e2']; congr 1; simp; omega
                  simpa using e3
      · exact EP.fail_inv h
    · exact EP.fail_inv h
  · exact EP.fail_inv h

theorem sound_newObj (R : Rel E G s a w) {n : Nat} {cells : List AV} {ty : TypeId} {vs : Array Value} {e : Eff} {l : List Nat} (h : (newObjE n cells).run s.mem = some (e, l))
    (hrun : (execOp a.eval o).run P w = .ok (.value (.pointer (some ⟨w.heap.size, 0, none⟩))) { w with heap := w.heap.push (.cells vs ty (0, 0)) })
    (hl : cells.length = vs.size) (hc : ∀ (i : Nat) (x : AV) (v : Value), cells[i]? = some x → vs[i]? = some v → AR G x v) (K : Post E G s o e a next) : o.wp P a w next Q := by
  unfold newObjE at h
  obtain ⟨l', h, _⟩ := EP.ask_inv h
  split at h
  · rename_i hm
    obtain ⟨rfl, _⟩ := EP.ret_inv h
    obtain ⟨h1, h2, h3⟩ := R.mem.newObj hm (ty := ty) hl hc
    exact wp_value hrun (K _ _ _ h1 (.ptr n 0 _ h2) (h3.congr (AS.mem_wr1 s n _)))
  · exact EP.fail_inv h

theorem sound_newMsl (R : Rel E G s a w) {n len : Nat} {cells : List AV} {ty : TypeId} {vs : Array Value} {e : Eff} {l : List Nat} (h : (newMslE n len cells).run s.mem = some (e, l))
    (hrun : (execOp a.eval o).run P w = .ok (.value (.slice (some ⟨w.heap.size, 0, none⟩) len len)) (w.alloc (.cells vs ty)))
    (hl : cells.length = vs.size) (hc : ∀ (i : Nat) (x : AV) (v : Value), cells[i]? = some x → vs[i]? = some v → AR G x v) (K : Post E G s o e a next) : o.wp P a w next Q := by
  unfold newMslE at h
  obtain ⟨l', h, _⟩ := EP.ask_inv h
  split at h
  · rename_i hm
    obtain ⟨rfl, _⟩ := EP.ret_inv h
    obtain ⟨h1, h2, h3⟩ := R.mem.newObj hm (ty := ty) hl hc
    exact wp_value hrun (K _ _ _ h1 (.msl n 0 len _ len true h2 (Nat.le_refl _) (fun _ => rfl)) (h3.congr (AS.mem_wr1 s n _)))
  · exact EP.fail_inv h

theorem zero_rel {t : TypeId} {z : List AV} (G : Gh) (h : tyZero P t = some z) : ∃ i v, P.info? t = some i ∧ i.zero = some v ∧ z.length = v.cells.size ∧
    ∀ (j : Nat) (x : AV) (u : Value), z[j]? = some x → v.cells[j]? = some u → AR G x u := by
  obtain ⟨i, v, h1, h2, rfl⟩ := tyZero_info h
  refine ⟨i, v, h1, h2, by simp, fun j x u e1 e2 => ?_⟩
  simp only [List.getElem?_map, Option.map_eq_some_iff] at e1
  obtain ⟨y, e1, rfl⟩ := e1
  have : v.cells.toList[j]? = some u := by simpa using e2
  rw [this] at e1
  cases e1
  exact toAV_rel G _

theorem zero_run {t : TypeId} {i : TypeInfo} {v : Value} (h1 : P.info? t = some i) (h2 : i.zero = some v) (w : World) : (zeroValue t).run P w = .ok v w := by
  simp [zeroValue, typeInfo, h1, h2]

theorem sound_alloc (R : Rel E G s a w) {t : TypeId} (ho : o.op = .alloc t) {n : Nat} {cells : List AV} (hz : tyZero P t = some cells) {e : Eff} {l : List Nat} (h : (newObjE n cells).run s.mem = some (e, l)) (K : Post E G s o e a next) : o.wp P a w next Q := by
  obtain ⟨i, v, h1, h2, h3, h4⟩ := zero_rel G hz
  refine sound_newObj R h (ty := t) (vs := v.cells) ?_ h3 h4 K
  simp [execOp, ho, Instr.alloc, zero_run h1 h2, newVar, newRow]

theorem sound_box (R : Rel E G s a w) {t : TypeId} {x : Operand} (ho : o.op = .box t x) {n : Nat} {cells : List AV} (hz : (s.eval x).flat = some cells) {e : Eff} {l : List Nat} (h : (newObjE n cells).run s.mem = some (e, l)) (K : Post E G s o e a next) : o.wp P a w next Q := by
  obtain ⟨h3, h4⟩ := flat_rel (R.eval x) hz
  refine sound_newObj R h (ty := t) (vs := (a.eval x).cells) ?_ h3 h4 K
  simp [execOp, ho, Instr.box, newVar, newRow]

/-! small ones -/
theorem sound_nilCheck (R : Rel E G s a w) {x : Operand} (ho : o.op = .nilCheck x) (hx : (∃ n off, s.eval x = .ptr n off) ∨ (∃ cs, s.eval x = .rptr cs) ∨ ∃ f caps, s.eval x = .clo f caps)
    (K : Post E G s o ⟨s.eval x, []⟩ a next) : o.wp P a w next Q := by
  have h := R.eval x
  refine sound_val R (v := a.eval x) ?_ h K
  rcases hx with ⟨n, off, e⟩ | ⟨cs, e⟩ | ⟨f, caps, e⟩ <;> rw [e] at h <;> generalize hv : a.eval x = v at h <;> cases h <;> simp [execOp, ho, hv]

theorem sound_extract (R : Rel E G s a w) {x : Operand} {i : Nat} (ho : o.op = .extract x i) {vs : List AV} {y : AV} (hx : s.eval x = .tup vs) (hi : vs[i]? = some y) (K : Post E G s o ⟨y, []⟩ a next) : o.wp P a w next Q := by
  have h := R.eval x
  rw [hx] at h
  generalize hv : a.eval x = v at h
  cases h with
  | tup _ us hl hc =>
    have hlt : i < us.size := by have := (List.getElem?_eq_some_iff.1 hi).1; omega
    refine sound_val R (v := us[i]) ?_ (hc i y _ hi (by simp [hlt])) K
    simp [execOp, ho, hv, Instr.extract, hlt]

theorem sound_fieldAddr (R : Rel E G s a w) {t : TypeId} {x : Operand} {i off z : Nat} {ft : TypeId} (ho : o.op = .fieldAddr t x i) (hf : tyField P t i = some (off, ft, z)) (hz : z ≠ 0) {y : AV}
    (hx : (∃ n q, s.eval x = .ptr n q ∧ y = .ptr n (q + off)) ∨ (∃ cs, s.eval x = .rptr cs ∧ y = .rptr (cs.drop off))) (K : Post E G s o ⟨y, []⟩ a next) : o.wp P a w next Q := by
  obtain ⟨fs, f, h1, h2, h3, h4, h5⟩ := tyField_run hf
  have h := R.eval x
  have hrun : ∀ b q, a.eval x = .pointer (some ⟨b, q, none⟩) → (execOp a.eval o).run P w = .ok (.value (.pointer (some ⟨b, q + off, none⟩))) w := by
    intro b q e
    subst h4
    simp [execOp, ho, e, Instr.fieldAt, run_underlying h1, h2, Instr.sureAddr, fieldPlace, tySize_run h5, hz, add_at, h3]
  rcases hx with ⟨n, q, e, rfl⟩ | ⟨cs, e, rfl⟩
  · rw [e] at h
    generalize hv : a.eval x = v at h
    cases h with
    | ptr _ _ b hb => exact sound_val R (hrun b q hv) (.ptr n _ b hb) K
  · rw [e] at h
    generalize hv : a.eval x = v at h
    cases h with
    | rptr _ b q hk => exact sound_val R (hrun b q hv) (.rptr _ b _ (hk.drop off)) K

theorem sound_field (R : Rel E G s a w) {t : TypeId} {x : Operand} {i off z : Nat} {ft : TypeId} (ho : o.op = .field t x i) (hf : tyField P t i = some (off, ft, z)) {cs : List AV} (hx : s.eval x = .agg cs) {y : AV}
    (hy : (tyAgg P ft = some true ∧ off + z ≤ cs.length ∧ y = .agg ((cs.drop off).take z)) ∨ (tyAgg P ft = some false ∧ cs[off]? = some y)) (K : Post E G s o ⟨y, []⟩ a next) : o.wp P a w next Q := by
  obtain ⟨fs, f, h1, h2, h3, h4, h5⟩ := tyField_run hf
  have h := R.eval x
  rw [hx] at h
  generalize hv : a.eval x = v at h
  subst h4
  cases h with
  | agg _ us hl hc =>
    rcases hy with ⟨hag, hle, rfl⟩ | ⟨hag, hy⟩
    · refine sound_val R (v := .agg (us.extract off (off + z))) ?_ (.agg _ _ (by simp; omega) ?_) K
      · simp [execOp, ho, hv, Instr.field, run_underlying h1, h2, part, tyAgg_run hag, tySize_run h5, asAgg, h3]
      · intro j x u e1 e2
        rw [List.getElem?_take] at e1
        split at e1
        · rename_i hj
          rw [List.getElem?_drop] at e1
          refine hc (off + j) x u e1 ?_
          rw [Array.getElem?_extract] at e2
          split at e2
          · exact e2
          · cases e2
        · cases e1
    · have hlt : off < us.size := by have := (List.getElem?_eq_some_iff.1 hy).1; omega
      refine sound_val R (v := us[off]) ?_ (hc off y _ hy (by simp [hlt])) K
      simp [execOp, ho, hv, Instr.field, run_underlying h1, h2, part, tyAgg_run hag, asAgg, h3, hlt]


/-! operators -/
def PC.val : PC → Value
  | .int k n => .int k n
  | .bool b => .bool b
  | .str s => .string ⟨s.toArray⟩
  | .sl _ => .nilIface
theorem asList (l : List UInt8) : (ByteArray.mk l.toArray).toList = l := by simp

theorem sound_unOp (R : Rel E G s a w) {op : UnOp} {t : TypeId} {x : Operand} (ho : o.op = .unOp op t x) {y : AV} (hx : unE op (s.eval x) = some y) (K : Post E G s o ⟨y, []⟩ a next) : o.wp P a w next Q := by
  have h := R.eval x
  unfold unE at hx
  split at hx
  · rename_i b e; rw [e] at h; cases hx
    exact sound_val R (v := .bool (!b)) (by simp [execOp, ho, h.bool_inv, Op.unary]) (.bool _) K
  · rename_i k n e; rw [e] at h; cases hx
    exact sound_val R (v := .int k (k.wrap (0 - n))) (by simp [execOp, ho, h.int_inv, Op.unary, Op.intArith]) (.int _ _) K
  · rename_i k n e; rw [e] at h; cases hx
    exact sound_val R (v := .int k (k.wrap (BitVec.ofInt k.bits (if k.signed then -1 else k.max) ^^^ BitVec.ofInt k.bits n).toNat)) (by simp [execOp, ho, h.int_inv, Op.unary, Op.intBits]) (.int _ _) K
  · cases hx

theorem eqGuard_int (op : BinOp) (t : TypeId) (x y : Operand) (k k' : IntKind) (i j : Int) (w : World) : (eqGuard op t x y (.int k i) (.int k' j)).run P w = .ok () w := by
  cases op <;> simp [eqGuard]
theorem eqGuard_str (op : BinOp) (t : TypeId) (x y : Operand) (i j : ByteArray) (w : World) : (eqGuard op t x y (.string i) (.string j)).run P w = .ok () w := by
  cases op <;> simp [eqGuard]
theorem eqGuard_bool (op : BinOp) (t : TypeId) (x y : Operand) (i j : Bool) (w : World) : (eqGuard op t x y (.bool i) (.bool j)).run P w = .ok () w := by
  cases op <;> simp [eqGuard]
theorem eqGuard_ptr (op : BinOp) (t : TypeId) (x y : Operand) (i j : Option Addr) (w : World) : (eqGuard op t x y (.pointer i) (.pointer j)).run P w = .ok () w := by
  cases op <;> simp [eqGuard]
theorem eqGuard_map (op : BinOp) (t : TypeId) (x y : Operand) (i j : Option Nat) (w : World) : (eqGuard op t x y (.map i) (.map j)).run P w = .ok () w := by
  cases op <;> simp [eqGuard]
theorem eqGuard_sl (op : BinOp) (t : TypeId) (x y : Operand) (i j : Option Addr) (n c n' c' : Nat) (w : World) : (eqGuard op t x y (.slice i n c) (.slice j n' c')).run P w = .ok () w := by
  cases op <;> simp [eqGuard]

theorem intOp_run {op : BinOp} {t : TypeId} {k : IntKind} {i j : Int} {c : PC} (h : intOp op k i j = some c) (w : World) :
    (binOp op t (.int k i) (.int k j)).run P w = .ok c.val w ∧ VR G.K c c.val := by
  unfold intOp at h
  cases op
  case quo => dsimp only at h; split at h <;> cases h; rename_i hj; exact ⟨by simp [binOp, Op.intDiv, hj, PC.val], .int _ _⟩
  case rem => dsimp only at h; split at h <;> cases h; rename_i hj; exact ⟨by simp [binOp, Op.intDiv, hj, PC.val], .int _ _⟩
  case shl => cases h
  case shr => cases h
  all_goals
    simp only [Option.some.injEq] at h
    subst h
    exact ⟨by simp [binOp, Op.intArith, Op.intBits, Op.intCmp, PC.val], by first | exact .int _ _ | exact .bool _⟩

theorem shOp_run {op : BinOp} {t : TypeId} {k k' : IntKind} {i j : Int} {c : PC} (hs : isSh op = true) (h : shOp op k i j = some c) (w : World) :
    (binOp op t (.int k i) (.int k' j)).run P w = .ok c.val w ∧ VR G.K c c.val := by
  unfold shOp at h
  split at h
  · cases h
  · rename_i hj
    cases op <;> simp only [isSh, Bool.false_eq_true] at hs <;> cases h
    · exact ⟨by simp [binOp, Op.shift, hj, PC.val], .int _ _⟩
    · exact ⟨by simp [binOp, Op.shift, hj, PC.val], .int _ _⟩

theorem strOp_run {op : BinOp} {t : TypeId} {i j : List UInt8} {c : PC} (h : strOp op i j = some c) (w : World) :
    (binOp op t (.string ⟨i.toArray⟩) (.string ⟨j.toArray⟩)).run P w = .ok c.val w ∧ VR G.K c c.val := by
  unfold strOp at h
  cases op
  case add =>
    dsimp only at h
    split at h
    · rename_i hl
      cases h
      refine ⟨?_, .str _⟩
      have h1 : ¬ ((((ByteArray.mk i.toArray).size + (ByteArray.mk j.toArray).size : Nat) : Int) > IntKind.i64.max) := by
        have : IntKind.i64.max = 9223372036854775807 := by decide
        rw [this]
        simp [ByteArray.size]; omega
      have h2 : (ByteArray.mk i.toArray) ++ (ByteArray.mk j.toArray) = ByteArray.mk (i ++ j).toArray := by
        apply ByteArray.ext; simp
      simp only [binOp, Op.stringOp, h1, if_false, h2]; rfl
    · cases h
  all_goals first
    | (cases h; done)
    | (simp only [Option.some.injEq] at h
       subst h
       exact ⟨by simp [binOp, Op.stringOp, asList, PC.val], .bool _⟩)

theorem notIf_run {op : BinOp} {b : Bool} {y : AV} {t : TypeId} {u v : Value} (h : notIf op b = some y) (he : ∀ w : World, (Op.equal t u v).run P w = .ok b w)
    (hb1 : binOp .eql t u v = (do pure (.bool (← Op.equal t u v)))) (hb2 : binOp .neq t u v = (do pure (.bool (!(← Op.equal t u v))))) (w : World) :
    ∃ z, (binOp op t u v).run P w = .ok z w ∧ AR G y z := by
  unfold notIf at h
  cases op <;> simp only [Option.some.injEq, reduceCtorEq] at h
  · subst h; exact ⟨.bool b, by rw [hb1]; simp [he], .bool _⟩
  · subst h; exact ⟨.bool (!b), by rw [hb2]; simp [he], .bool _⟩

theorem tyPtr_run {t : TypeId} (h : tyPtr P t = true) : ∃ e, P.underlying t = some (.pointer e) := by
  unfold tyPtr at h
  split at h
  · exact ⟨_, by assumption⟩
  · cases h
theorem tyBool_run {t : TypeId} (h : tyBool P t = true) : P.underlying t = some .bool := by
  unfold tyBool at h
  split at h
  · assumption
  · cases h

theorem equal_of {t : TypeId} {u v : Value} {b : Bool} {w : World} (h : (Op.equalIn (9999 + 1) t u v).run P w = .ok b w) : (Op.equal t u v).run P w = .ok b w := h

end
end Go.Proofs.Ytjdokoldiemobaa.AM
