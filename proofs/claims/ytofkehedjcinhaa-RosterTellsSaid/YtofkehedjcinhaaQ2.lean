/-
  Q2: Am3 Am4 Am5.
-/
import Derived.Test.YtofkehedjcinhaaQ1
import Derived.Laws.IdiomStrings
import Derived.Laws.StructEq
import Derived.Laws.Cover3
import Derived.Laws.Pointers
import Derived.Laws.BytesArg
import Derived.Lib.ConvBytes
import Derived.Laws.AppendOwn
import Derived.Laws.MakeOwn
set_option linter.unusedVariables false
set_option linter.unusedSimpArgs false
namespace Go.Proofs.Ytofkehedjcinhaa.AM
open Go

structure Rel (E : Env) (G : Gh) (s : AS) (a : Act) (w : World) : Prop where
  size : a.tmps.size = E.N.n
  defs : a.defers = E.dfs
  tmps : ∀ i, AR G (s.get i) (a.tmps.getD i Go.undef)
  mem : MRel E G s.mem w
  ent : ∀ n ∈ E.ns, ∃ h h', E.H0 n = some h ∧ G.h n = some h' ∧ Home.le h h'

section
variable {P : Program} {E : Env} {G : Gh} {s : AS} {a : Act} {w : World} {o : Oper} {next : Act → World → Prop} {Q : Exit → Act → World → Prop}

theorem ba_eq (b : ByteArray) : (⟨b.data.toList.toArray⟩ : ByteArray) = b := by cases b; simp

theorem toAV_rel (G : Gh) (v : Value) : AR G (Value.toAV v) v := by
  unfold Value.toAV
  split
  · exact .c _ _ (.int _ _)
  · exact .c _ _ (.bool _)
  · rename_i b; have := VR.str (K := G.K) b.data.toList; rw [ba_eq] at this; exact .c _ _ this
  · exact .nilsl
  · exact .nilptr
  · exact .nilmp
  · exact .undef _

theorem Rel.eval (R : Rel E G s a w) (x : Operand) : AR G (s.eval x) (a.eval x) := by
  cases x with
  | tmp t => exact R.tmps t
  | const v => exact toAV_rel G v
  | global g => exact .undef _
  | func f => exact .clo f [] [] rfl (fun i cs b h => by simp at h)

theorem AR.int_inv {k : IntKind} {n : Int} {v : Value} (h : AR G (.c (.int k n)) v) : v = .int k n := by cases h with | c _ _ h => cases h; rfl
theorem AR.bool_inv {b : Bool} {v : Value} (h : AR G (.c (.bool b)) v) : v = .bool b := by cases h with | c _ _ h => cases h; rfl
theorem AR.str_inv {l : List UInt8} {v : Value} (h : AR G (.c (.str l)) v) : v = .string ⟨l.toArray⟩ := by cases h with | c _ _ h => cases h; rfl
theorem AR.int (k : IntKind) (n : Int) : AR G (.c (.int k n)) (.int k n) := .c _ _ (.int k n)
theorem AR.bool (b : Bool) : AR G (.c (.bool b)) (.bool b) := .c _ _ (.bool b)
theorem AR.str (l : List UInt8) : AR G (.c (.str l)) (.string ⟨l.toArray⟩) := .c _ _ (.str l)

theorem AR.toPC {x : AV} {v : Value} {c : PC} (h : AR G x v) (hc : x.toPC = some c) : VR G.K c v := by
  cases h <;> simp only [AV.toPC, Option.some.injEq, reduceCtorEq] at hc
  · subst hc; assumption
  · subst hc; exact .nil
  · subst hc; assumption
  all_goals (subst hc; exact .junk _ rfl)

theorem AR.rows {x : AV} {v : Value} {rows : List (List PC)} (h : AR G x v) (hc : x.rows = some rows) : VR G.K (.sl rows) v := by
  cases h with
  | c x v hv => cases x <;> simp only [AV.rows, Option.some.injEq, reduceCtorEq] at hc; subst hc; exact hv
  | nilsl => simp only [AV.rows, Option.some.injEq] at hc; subst hc; exact .nil
  | own r z rows v bk fr hh hl hr hv ha => simp only [AV.rows, Option.some.injEq] at hc; subst hc; exact hv
  | _ => simp [AV.rows] at hc

theorem toPCs_spec : ∀ {l : List AV} {cs : List PC}, toPCs l = some cs → l.length = cs.length ∧ ∀ (i : Nat) (x : AV) (c : PC), l[i]? = some x → cs[i]? = some c → x.toPC = some c
  | [], cs, h => by simp only [toPCs, Option.some.injEq] at h; subst h; exact ⟨rfl, fun i x c h => by simp at h⟩
  | x :: l, cs, h => by
    simp only [toPCs] at h
    split at h
    · rename_i c cs' h1 h2
      simp only [Option.some.injEq] at h
      subst h
      obtain ⟨a1, a2⟩ := toPCs_spec h2
      refine ⟨by simp [a1], fun i y d e1 e2 => ?_⟩
      cases i with
      | zero => simp at e1 e2; subst e1; subst e2; exact h1
      | succ i => exact a2 i y d (by simpa using e1) (by simpa using e2)
    · cases h

theorem tyAgg_run {t : TypeId} {b : Bool} (h : tyAgg P t = some b) (w : World) : (isAgg t).run P w = .ok b w := by
  unfold tyAgg at h
  cases hu : P.underlying t with
  | none => rw [hu] at h; cases h
  | some d =>
    rw [hu] at h
    simp only [Option.map_some, Option.some.injEq] at h
    subst h
    cases d <;> simp [isAgg, run_underlying hu]

theorem tySize_run {t : TypeId} {z : Nat} (h : tySize P t = some z) (w : World) : (sizeOf t).run P w = .ok z w := by
  unfold tySize at h
  cases hi : P.info? t with
  | none => rw [hi] at h; cases h
  | some i =>
    rw [hi] at h
    simp only [Option.map_some, Option.some.injEq] at h
    subst h
    simp [sizeOf, typeInfo, hi]
theorem tySize_info {t : TypeId} {z : Nat} (h : tySize P t = some z) : ∃ i, P.info? t = some i ∧ i.size = z := by
  unfold tySize at h
  cases hi : P.info? t with
  | none => rw [hi] at h; cases h
  | some i => rw [hi] at h; exact ⟨i, rfl, by simpa using h⟩
theorem tyBytes_info {t : TypeId} {z : Nat} (h : tyBytes P t = some z) : ∃ i, P.info? t = some i ∧ i.bytes = z := by
  unfold tyBytes at h
  cases hi : P.info? t with
  | none => rw [hi] at h; cases h
  | some i => rw [hi] at h; exact ⟨i, rfl, by simpa using h⟩
theorem tyZero_info {t : TypeId} {z : List AV} (h : tyZero P t = some z) : ∃ i v, P.info? t = some i ∧ i.zero = some v ∧ z = v.cells.toList.map Value.toAV := by
  unfold tyZero at h
  cases hi : P.info? t with
  | none => rw [hi] at h; cases h
  | some i =>
    rw [hi] at h
    cases hz : i.zero with
    | none => simp [hz] at h
    | some v => exact ⟨i, v, rfl, hz, by simpa [hz] using h.symm⟩
theorem tyElem_run {t e : TypeId} (h : tyElem P t = some e) : P.underlying t = some (.slice e) := by
  unfold tyElem at h
  split at h
  · rename_i e' hu; cases h; exact hu
  · cases h
theorem tyArr_run {t e : TypeId} {n : Nat} (h : tyArr P t = some (n, e)) : P.underlying t = some (.array n e) := by
  unfold tyArr at h
  split at h
  · rename_i e' hu; cases h; exact hu
  · cases h
theorem tyInt_run {t : TypeId} {k : IntKind} (h : tyInt P t = some k) : P.underlying t = some (.int k) := by
  unfold tyInt at h
  split at h
  · rename_i e' hu; cases h; exact hu
  · cases h
theorem tyStr_run {t : TypeId} (h : tyStr P t = true) : P.underlying t = some .string := by
  unfold tyStr at h
  split at h
  · assumption
  · cases h
theorem tyMap_run {t k e : TypeId} (h : tyMap P t = some (k, e)) : P.underlying t = some (.map k e) := by
  unfold tyMap at h
  split at h
  · rename_i hu; cases h; exact hu
  · cases h
theorem tyField_run {t : TypeId} {i off z : Nat} {ft : TypeId} (h : tyField P t i = some (off, ft, z)) :
    ∃ fs f, P.underlying t = some (.struct fs) ∧ fs[i]? = some f ∧ f.offset = off ∧ f.type = ft ∧ tySize P ft = some z := by
  unfold tyField at h
  split at h
  · rename_i fs hu
    split at h
    · rename_i f hf
      split at h
      · rename_i z' hz; cases h; exact ⟨fs, f, hu, hf, rfl, rfl, hz⟩
      · cases h
    · cases h
  · cases h

theorem EP.bind_inv {α β : Type} {m : Nat → Option MC} {f : α → EP β} {b : β} : ∀ {p : EP α} {l : List Nat}, (p.bind f).run m = some (b, l) →
    ∃ x l1 l2, p.run m = some (x, l1) ∧ (f x).run m = some (b, l2) ∧ l = l1 ++ l2
  | .ret x, l, h => ⟨x, [], l, rfl, h, rfl⟩
  | .fail, l, h => by simp [EP.bind, EP.run] at h
  | .ask n k, l, h => by
    simp only [EP.bind, EP.run] at h
    split at h
    · rename_i b' l' hk
      simp only [Option.some.injEq, Prod.mk.injEq] at h
      obtain ⟨rfl, rfl⟩ := h
      obtain ⟨x, l1, l2, e1, e2, e3⟩ := EP.bind_inv hk
      exact ⟨x, n :: l1, l2, by simp only [EP.run, e1], e2, by simp [e3]⟩
    · cases h
theorem EP.ask_inv {α : Type} {m : Nat → Option MC} {n : Nat} {k : Option MC → EP α} {x : α} {l : List Nat} (h : (EP.ask n k).run m = some (x, l)) :
    ∃ l', (k (m n)).run m = some (x, l') ∧ l = n :: l' := by
  simp only [EP.run] at h
  split at h
  · rename_i b' l' hk; cases h; exact ⟨l', hk, rfl⟩
  · cases h
theorem EP.ret_inv {α : Type} {m : Nat → Option MC} {x y : α} {l : List Nat} (h : (EP.ret x).run m = some (y, l)) : x = y ∧ l = [] := by
  simp only [EP.run, Option.some.injEq, Prod.mk.injEq] at h; exact ⟨h.1, h.2.symm⟩
theorem EP.fail_inv {α : Type} {m : Nat → Option MC} {y : α} {l : List Nat} {p : Prop} (h : (EP.fail : EP α).run m = some (y, l)) : p := by simp [EP.run] at h
theorem okE_inv {m : Nat → Option MC} {x : Option AV} {e : Eff} {l : List Nat} (h : (okE x).run m = some (e, l)) : ∃ v, x = some v ∧ e = ⟨v, []⟩ := by
  unfold okE at h
  split at h
  · rename_i v; exact ⟨v, rfl, (EP.ret_inv h).1.symm⟩
  · exact EP.fail_inv h
theorem okM_inv {m : Nat → Option MC} {x : EP AV} {e : Eff} {l : List Nat} (h : (okM x).run m = some (e, l)) : ∃ v l', x.run m = some (v, l') ∧ e = ⟨v, []⟩ := by
  obtain ⟨v, l1, l2, h1, h2, _⟩ := EP.bind_inv h
  exact ⟨v, l1, h1, (EP.ret_inv h2).1.symm⟩

def Post (E : Env) (G : Gh) (s : AS) (o : Oper) (e : Eff) (a : Act) (next : Act → World → Prop) : Prop :=
  ∀ (G' : Gh) (v : Value) (w' : World), G.le G' → AR G' e.val v → MRel E G' (s.wr e.wr).mem w' → next (a.put o.dst v) w'

theorem wp_value {v : Value} {w' : World} (h : (execOp a.eval o).run P w = .ok (.value v) w') (k : next (a.put o.dst v) w') : o.wp P a w next Q := by
  unfold Oper.wp; rw [h]; exact k
theorem wp_unit {w' : World} (h : (execOp a.eval o).run P w = .ok .skip w') (k : next (a.put o.dst Go.undef) w') : o.wp P a w next Q := by
  unfold Oper.wp; rw [h]; exact k

theorem sound_val (R : Rel E G s a w) {v : Value} {x : AV} (hrun : (execOp a.eval o).run P w = .ok (.value v) w) (hx : AR G x v) (K : Post E G s o ⟨x, []⟩ a next) : o.wp P a w next Q :=
  wp_value hrun (K G v w (Gh.le_refl G) hx R.mem)

theorem sound_move (R : Rel E G s a w) {x : Operand} (ho : o.op = .move x ∨ o.op = .assign x) (K : Post E G s o ⟨s.eval x, []⟩ a next) : o.wp P a w next Q := by
  refine sound_val R (v := a.eval x) ?_ (R.eval x) K
  rcases ho with ho | ho <;> simp [execOp, ho]

theorem sound_pick (R : Rel E G s a w) {c x y : Operand} {b : Bool} (ho : o.op = .pick c x y) (hc : s.eval c = .c (.bool b)) (K : Post E G s o ⟨s.eval (if b then x else y), []⟩ a next) : o.wp P a w next Q := by
  have h := R.eval c
  rw [hc] at h
  have hb := h.bool_inv
  refine sound_val R (v := a.eval (if b then x else y)) ?_ (R.eval _) K
  cases b <;> simp [execOp, ho, hb, asBool]


theorem obj_of {n off : Nat} {v : Value} {cells : List AV} {fz : Bool} (M : MRel E G s.mem w) (h : AR G (.ptr n off) v) (hm : s.mem n = some (.obj cells fz)) :
    ∃ b, v = .pointer (some ⟨b, off, none⟩) ∧ G.h n = some (.obj b) ∧ ObjOK E G w cells fz b := by
  cases h with
  | ptr _ _ b hb =>
    have h0 := M.home n
    rw [hm, hb] at h0
    exact ⟨b, rfl, hb, h0⟩

theorem add_at (b off j : Nat) : (⟨b, off, none⟩ : Addr).add j = ⟨b, off + j, none⟩ := by unfold Addr.add; split <;> simp_all

theorem load_run {t : TypeId} {x y : AV} {v : Value} {l : List Nat} (M : MRel E G s.mem w) (hx : AR G x v) (h : (loadE P t x).run s.mem = some (y, l)) :
    ∃ u, (Instr.loadAt t v).run P w = .ok u w ∧ AR G y u := by
  unfold loadE at h
  split at h
  · rename_i n off
    obtain ⟨l', h, _⟩ := EP.ask_inv h
    split at h
    · rename_i cells fz hm
      obtain ⟨b, rfl, hb, vs, ty, a1, a2, a3, _⟩ := obj_of M hx hm
      have hcell : ∀ j, w.cell? ⟨b, j, none⟩ = vs[j]? := fun j => by simp [World.cell?, a1]
      split at h
      · rename_i hag
        split at h
        · rename_i z hz
          split at h
          · rename_i hle
            obtain ⟨rfl, _⟩ := EP.ret_inv h
            have hl : ((vs.toList.drop off).take z).length = z := by simp; omega
            have hc := run_loadCells_list (P := P) w ⟨b, off, none⟩ ((vs.toList.drop off).take z) (fun j u hj => by
              rw [add_at, hcell]
              rw [List.getElem?_take] at hj
              split at hj
              · rw [List.getElem?_drop] at hj; simpa using hj
              · cases hj)
            rw [hl] at hc
            refine ⟨.agg ((vs.toList.drop off).take z).toArray, ?_, .agg _ _ (by simp; omega) ?_⟩
            · simp [Instr.loadAt, Instr.sureAddr, loadVar, tyAgg_run hag, tySize_run hz, hc]
            · intro i x u e1 e2
              rw [List.getElem?_take] at e1
              split at e1
              · rename_i hi
                rw [List.getElem?_drop] at e1
                refine a3 (off + i) x u e1 ?_
                simp only [List.getElem?_toArray, List.getElem?_take, if_pos hi, List.getElem?_drop] at e2
                simpa using e2
              · cases e1
          · exact EP.fail_inv h
        · exact EP.fail_inv h
      · rename_i hag
        split at h
        · rename_i x hx'
          obtain ⟨rfl, _⟩ := EP.ret_inv h
          have hi : off < vs.size := by have := (List.getElem?_eq_some_iff.1 hx').1; omega
          refine ⟨vs[off], ?_, a3 off _ _ hx' (by simp [hi])⟩
          simp [Instr.loadAt, Instr.sureAddr, loadVar, tyAgg_run hag, run_load, hcell, hi]
        · exact EP.fail_inv h
      · exact EP.fail_inv h
    · exact EP.fail_inv h
  · rename_i cs
    cases hx with
    | rptr _ b off hk =>
    split at h
    · rename_i hag
      split at h
      · rename_i z hz
        split at h
        · rename_i hle
          obtain ⟨rfl, _⟩ := EP.ret_inv h
          let us : List Value := (List.range z).map fun i => (G.K b (off + i)).getD (.bool false)
          have hu : ∀ i, i < z → us[i]? = G.K b (off + i) ∧ ∃ u, G.K b (off + i) = some u := fun i hi => by
            have hc : cs[i]? = some cs[i] := by simp
            obtain ⟨u, h1, _⟩ := hk i _ hc
            exact ⟨by simp [us, hi, h1], u, h1⟩
          have hl : us.length = z := by simp [us]
          have hc := run_loadCells_list (P := P) w ⟨b, off, none⟩ us (fun j u hj => by
            have hj' : j < z := by have := (List.getElem?_eq_some_iff.1 hj).1; omega
            rw [add_at]
            exact M.agree _ _ _ ((hu j hj').1.symm.trans hj))
          rw [hl] at hc
          refine ⟨.agg us.toArray, ?_, .agg _ _ (by simp [us]; omega) ?_⟩
          · simp [Instr.loadAt, Instr.sureAddr, loadVar, tyAgg_run hag, tySize_run hz, hc]
          · intro i x u e1 e2
            simp only [List.getElem?_map, List.getElem?_take, Option.map_eq_some_iff] at e1
            obtain ⟨c, e1, rfl⟩ := e1
            split at e1
            · rename_i hi
              obtain ⟨u', h1, h2⟩ := hk i c e1
              have : us[i]? = some u := by simpa using e2
              rw [(hu i hi).1, h1] at this
              cases this
              exact .c _ _ h2
            · cases e1
        · exact EP.fail_inv h
      · exact EP.fail_inv h
    · rename_i hag
      split at h
      · rename_i x hx'
        obtain ⟨rfl, _⟩ := EP.ret_inv h
        obtain ⟨u, h1, h2⟩ := hk 0 _ hx'
        refine ⟨u, ?_, .c _ _ h2⟩
        have hcell : w.cell? ⟨b, off, none⟩ = some u := M.agree b off u h1
        simp [Instr.loadAt, Instr.sureAddr, loadVar, tyAgg_run hag, run_load, hcell]
      · exact EP.fail_inv h
    · exact EP.fail_inv h
  · exact EP.fail_inv h

theorem sound_load (R : Rel E G s a w) {t : TypeId} {x : Operand} (ho : o.op = .load t x) {e : Eff} {l : List Nat} (h : (okM (loadE P t (s.eval x))).run s.mem = some (e, l)) (K : Post E G s o e a next) : o.wp P a w next Q := by
  obtain ⟨y, l', h1, rfl⟩ := okM_inv h
  obtain ⟨u, h2, h3⟩ := load_run R.mem (R.eval x) h1
  exact sound_val R (v := u) (by simp [execOp, ho, h2]) h3 K


theorem flat_rel {x : AV} {v : Value} {xs : List AV} (h : AR G x v) (hf : x.flat = some xs) :
    xs.length = v.cells.size ∧ ∀ (i : Nat) (y : AV) (u : Value), xs[i]? = some y → v.cells[i]? = some u → AR G y u := by
  have one : ∀ {x : AV} {v : Value}, AR G x v → v.cells = #[v] → [x].length = v.cells.size ∧ ∀ (i : Nat) (y : AV) (u : Value), [x][i]? = some y → v.cells[i]? = some u → AR G y u := by
    intro x v h hv
    rw [hv]
    refine ⟨rfl, fun i y u e1 e2 => ?_⟩
    cases i with
    | zero => simp at e1 e2; subst e1; subst e2; exact h
    | succ i => simp at e1
  have h' := h
  cases h with
  | undef => cases hf
  | tup => cases hf
  | agg cs us hl hc => simp only [AV.flat, Option.some.injEq] at hf; subst hf; exact ⟨hl, hc⟩
  | c x v hv => simp only [AV.flat, Option.some.injEq] at hf; subst hf; exact one h' (one_cells hv.one)
  | own r z rows v bk fr hh hl hr hv ha => simp only [AV.flat, Option.some.injEq] at hf; subst hf; cases hv <;> exact one h' rfl
  | _ => simp only [AV.flat, Option.some.injEq] at hf; subst hf; exact one h' rfl

theorem scal_one {x : AV} {v : Value} (h : AR G x v) (hs : x.scal = true) : v.oneCell' = true := by
  cases h with
  | undef => cases hs
  | tup => cases hs
  | agg => cases hs
  | c x v hv => exact hv.one
  | own r z rows v bk fr hh hl hr hv ha => cases hv <;> rfl
  | _ => rfl

theorem AS.mem_wr1 (s : AS) (n : Nat) (c : MC) : ∀ i, (s.wr [(n, c)]).mem i = mset s.mem n c i := fun _ => rfl

theorem sound_store (R : Rel E G s a w) {t : TypeId} {x y : Operand} (ho : o.op = .store t x y) {e : Eff} {l : List Nat} (h : (storeE P t (s.eval x) (s.eval y)).run s.mem = some (e, l)) (K : Post E G s o e a next) : o.wp P a w next Q := by
  have hx := R.eval x
  have hy := R.eval y
  unfold storeE at h
  split at h
  · rename_i n off xs z ex ef hz
    obtain ⟨l', h, _⟩ := EP.ask_inv h
    split at h
    · rename_i cells hm
      rw [ex] at hx
      obtain ⟨b, hv, hb, hobj⟩ := obj_of R.mem hx hm
      obtain ⟨vs, ty, a1, a2, a3, _⟩ := hobj
      split at h
      · rename_i hc
        obtain ⟨hc1, hc2, hc3⟩ := hc
        obtain ⟨rfl, _⟩ := EP.ret_inv h
        obtain ⟨f1, f2⟩ := flat_rel hy ef
        have hsize : (a.eval y).cells.size = z := by omega
        have hone : ∀ u ∈ (a.eval y).cells.toList, u.oneCell' = true := fun u hu => by
          obtain ⟨i, hi⟩ := List.mem_iff_getElem?.1 hu
          have hil : i < xs.length := by
            have := (List.getElem?_eq_some_iff.1 hi).1
            simp at this; omega
          have hxi : xs[i]? = some xs[i] := by simp
          refine scal_one (f2 i _ u hxi (by simpa using hi)) ?_
          rw [List.all_eq_true] at hc3
          exact hc3 _ (List.getElem_mem hil)
        have hst := run_storeCells_at P b off ty (a.eval y).cells.toList 0 vs w a1 (by simp; omega) hone
        simp only [Nat.add_zero, Array.length_toList] at hst
        refine wp_unit (w' := w.setRow b (vs.toList.take off ++ (a.eval y).cells.toList ++ vs.toList.drop (off + (a.eval y).cells.size)).toArray) ?_ ?_
        · simp [execOp, ho, hv, Instr.storeAt, Instr.sureAddr, storeVar, tySize_run hz, hsize]
          simp [hsize] at hst
          simp [hst]
        · refine K G _ _ (Gh.le_refl G) (.undef _) ((R.mem.setObj hm hb ?_ ?_).congr (AS.mem_wr1 s n _))
          · simp [putAt]; omega
          · intro i x u e1 e2
            simp only [putAt] at e1
            have e2' : (vs.toList.take off ++ (a.eval y).cells.toList ++ vs.toList.drop (off + (a.eval y).cells.size))[i]? = some u := by simpa using e2
            have t1 : (cells.take off).length = off := by simp; omega
            have t2 : (vs.toList.take off).length = off := by simp; omega
            rcases Nat.lt_or_ge i off with hi | hi
            · rw [List.append_assoc, List.getElem?_append_left (by omega), List.getElem?_take, if_pos hi] at e1
              rw [List.append_assoc, List.getElem?_append_left (by omega), List.getElem?_take, if_pos hi] at e2'
              exact a3 i x u e1 (by simpa using e2')
            · rw [List.append_assoc, List.getElem?_append_right (by omega), t1] at e1
              rw [List.append_assoc, List.getElem?_append_right (by omega), t2] at e2'
              rcases Nat.lt_or_ge (i - off) xs.length with hj | hj
              · rw [List.getElem?_append_left hj] at e1
                rw [List.getElem?_append_left (by simp; omega)] at e2'
                exact f2 (i - off) x u e1 (by simpa using e2')
              · rw [List.getElem?_append_right hj, List.getElem?_drop] at e1
                rw [List.getElem?_append_right (by simp; omega), List.getElem?_drop] at e2'
                refine a3 i x u ?_ ?_
                · rw [← e1]; congr 1; omega
                · have e3 : vs.toList[i]? = some u := by rw [← e2']; congr 1; simp; omega
                  simpa using e3
      · exact EP.fail_inv h
    · exact EP.fail_inv h
  · exact EP.fail_inv h

theorem sound_newObj (R : Rel E G s a w) {n : Nat} {cells : List AV} {ty : TypeId} {vs : Array Value} {e : Eff} {l : List Nat} (h : (newObjE n cells).run s.mem = some (e, l))
    (hrun : (execOp a.eval o).run P w = .ok (.value (.pointer (some ⟨w.heap.size, 0, none⟩))) { w with heap := w.heap.push (.cells vs ty (0, 0)) })
    (hl : cells.length = vs.size) (hc : ∀ (i : Nat) (x : AV) (v : Value), cells[i]? = some x → vs[i]? = some v → AR G x v) (K : Post E G s o e a next) : o.wp P a w next Q := by
  unfold newObjE at h
  obtain ⟨l', h, _⟩ := EP.ask_inv h
  split at h
  · rename_i hm
    obtain ⟨rfl, _⟩ := EP.ret_inv h
    obtain ⟨h1, h2, h3⟩ := R.mem.newObj hm (ty := ty) hl hc
    exact wp_value hrun (K _ _ _ h1 (.ptr n 0 _ h2) (h3.congr (AS.mem_wr1 s n _)))
  · exact EP.fail_inv h

theorem sound_newMsl (R : Rel E G s a w) {n len : Nat} {cells : List AV} {ty : TypeId} {vs : Array Value} {e : Eff} {l : List Nat} (h : (newMslE n len cells).run s.mem = some (e, l))
    (hrun : (execOp a.eval o).run P w = .ok (.value (.slice (some ⟨w.heap.size, 0, none⟩) len len)) (w.alloc (.cells vs ty)))
    (hl : cells.length = vs.size) (hc : ∀ (i : Nat) (x : AV) (v : Value), cells[i]? = some x → vs[i]? = some v → AR G x v) (K : Post E G s o e a next) : o.wp P a w next Q := by
  unfold newMslE at h
  obtain ⟨l', h, _⟩ := EP.ask_inv h
  split at h
  · rename_i hm
    obtain ⟨rfl, _⟩ := EP.ret_inv h
    obtain ⟨h1, h2, h3⟩ := R.mem.newObj hm (ty := ty) hl hc
    exact wp_value hrun (K _ _ _ h1 (.msl n 0 len _ len true h2 (Nat.le_refl _) (fun _ => rfl)) (h3.congr (AS.mem_wr1 s n _)))
  · exact EP.fail_inv h

theorem zero_rel {t : TypeId} {z : List AV} (G : Gh) (h : tyZero P t = some z) : ∃ i v, P.info? t = some i ∧ i.zero = some v ∧ z.length = v.cells.size ∧
    ∀ (j : Nat) (x : AV) (u : Value), z[j]? = some x → v.cells[j]? = some u → AR G x u := by
  obtain ⟨i, v, h1, h2, rfl⟩ := tyZero_info h
  refine ⟨i, v, h1, h2, by simp, fun j x u e1 e2 => ?_⟩
  simp only [List.getElem?_map, Option.map_eq_some_iff] at e1
  obtain ⟨y, e1, rfl⟩ := e1
  have : v.cells.toList[j]? = some u := by simpa using e2
  rw [this] at e1
  cases e1
  exact toAV_rel G _

theorem zero_run {t : TypeId} {i : TypeInfo} {v : Value} (h1 : P.info? t = some i) (h2 : i.zero = some v) (w : World) : (zeroValue t).run P w = .ok v w := by
  simp [zeroValue, typeInfo, h1, h2]

theorem sound_alloc (R : Rel E G s a w) {t : TypeId} (ho : o.op = .alloc t) {n : Nat} {cells : List AV} (hz : tyZero P t = some cells) {e : Eff} {l : List Nat} (h : (newObjE n cells).run s.mem = some (e, l)) (K : Post E G s o e a next) : o.wp P a w next Q := by
  obtain ⟨i, v, h1, h2, h3, h4⟩ := zero_rel G hz
  refine sound_newObj R h (ty := t) (vs := v.cells) ?_ h3 h4 K
  simp [execOp, ho, Instr.alloc, zero_run h1 h2, newVar, newRow]

theorem sound_box (R : Rel E G s a w) {t : TypeId} {x : Operand} (ho : o.op = .box t x) {n : Nat} {cells : List AV} (hz : (s.eval x).flat = some cells) {e : Eff} {l : List Nat} (h : (newObjE n cells).run s.mem = some (e, l)) (K : Post E G s o e a next) : o.wp P a w next Q := by
  obtain ⟨h3, h4⟩ := flat_rel (R.eval x) hz
  refine sound_newObj R h (ty := t) (vs := (a.eval x).cells) ?_ h3 h4 K
  simp [execOp, ho, Instr.box, newVar, newRow]

theorem sound_nilCheck (R : Rel E G s a w) {x : Operand} (ho : o.op = .nilCheck x) (hx : (∃ n off, s.eval x = .ptr n off) ∨ (∃ cs, s.eval x = .rptr cs) ∨ ∃ f caps, s.eval x = .clo f caps)
    (K : Post E G s o ⟨s.eval x, []⟩ a next) : o.wp P a w next Q := by
  have h := R.eval x
  refine sound_val R (v := a.eval x) ?_ h K
  rcases hx with ⟨n, off, e⟩ | ⟨cs, e⟩ | ⟨f, caps, e⟩ <;> rw [e] at h <;> generalize hv : a.eval x = v at h <;> cases h <;> simp [execOp, ho, hv]

theorem sound_extract (R : Rel E G s a w) {x : Operand} {i : Nat} (ho : o.op = .extract x i) {vs : List AV} {y : AV} (hx : s.eval x = .tup vs) (hi : vs[i]? = some y) (K : Post E G s o ⟨y, []⟩ a next) : o.wp P a w next Q := by
  have h := R.eval x
  rw [hx] at h
  generalize hv : a.eval x = v at h
  cases h with
  | tup _ us hl hc =>
    have hlt : i < us.size := by have := (List.getElem?_eq_some_iff.1 hi).1; omega
    refine sound_val R (v := us[i]) ?_ (hc i y _ hi (by simp [hlt])) K
    simp [execOp, ho, hv, Instr.extract, hlt]

theorem sound_fieldAddr (R : Rel E G s a w) {t : TypeId} {x : Operand} {i off z : Nat} {ft : TypeId} (ho : o.op = .fieldAddr t x i) (hf : tyField P t i = some (off, ft, z)) (hz : z ≠ 0) {y : AV}
    (hx : (∃ n q, s.eval x = .ptr n q ∧ y = .ptr n (q + off)) ∨ (∃ cs, s.eval x = .rptr cs ∧ y = .rptr (cs.drop off))) (K : Post E G s o ⟨y, []⟩ a next) : o.wp P a w next Q := by
  obtain ⟨fs, f, h1, h2, h3, h4, h5⟩ := tyField_run hf
  have h := R.eval x
  have hrun : ∀ b q, a.eval x = .pointer (some ⟨b, q, none⟩) → (execOp a.eval o).run P w = .ok (.value (.pointer (some ⟨b, q + off, none⟩))) w := by
    intro b q e
    subst h4
    simp [execOp, ho, e, Instr.fieldAt, run_underlying h1, h2, Instr.sureAddr, fieldPlace, tySize_run h5, hz, add_at, h3]
  rcases hx with ⟨n, q, e, rfl⟩ | ⟨cs, e, rfl⟩
  · rw [e] at h
    generalize hv : a.eval x = v at h
    cases h with
    | ptr _ _ b hb => exact sound_val R (hrun b q hv) (.ptr n _ b hb) K
  · rw [e] at h
    generalize hv : a.eval x = v at h
    cases h with
    | rptr _ b q hk => exact sound_val R (hrun b q hv) (.rptr _ b _ (hk.drop off)) K

theorem sound_field (R : Rel E G s a w) {t : TypeId} {x : Operand} {i off z : Nat} {ft : TypeId} (ho : o.op = .field t x i) (hf : tyField P t i = some (off, ft, z)) {cs : List AV} (hx : s.eval x = .agg cs) {y : AV}
    (hy : (tyAgg P ft = some true ∧ off + z ≤ cs.length ∧ y = .agg ((cs.drop off).take z)) ∨ (tyAgg P ft = some false ∧ cs[off]? = some y)) (K : Post E G s o ⟨y, []⟩ a next) : o.wp P a w next Q := by
  obtain ⟨fs, f, h1, h2, h3, h4, h5⟩ := tyField_run hf
  have h := R.eval x
  rw [hx] at h
  generalize hv : a.eval x = v at h
  subst h4
  cases h with
  | agg _ us hl hc =>
    rcases hy with ⟨hag, hle, rfl⟩ | ⟨hag, hy⟩
    · refine sound_val R (v := .agg (us.extract off (off + z))) ?_ (.agg _ _ (by simp; omega) ?_) K
      · simp [execOp, ho, hv, Instr.field, run_underlying h1, h2, part, tyAgg_run hag, tySize_run h5, asAgg, h3]
      · intro j x u e1 e2
        rw [List.getElem?_take] at e1
        split at e1
        · rename_i hj
          rw [List.getElem?_drop] at e1
          refine hc (off + j) x u e1 ?_
          rw [Array.getElem?_extract] at e2
          split at e2
          · exact e2
          · cases e2
        · cases e1
    · have hlt : off < us.size := by have := (List.getElem?_eq_some_iff.1 hy).1; omega
      refine sound_val R (v := us[off]) ?_ (hc off y _ hy (by simp [hlt])) K
      simp [execOp, ho, hv, Instr.field, run_underlying h1, h2, part, tyAgg_run hag, asAgg, h3, hlt]


def PC.val : PC → Value
  | .int k n => .int k n
  | .bool b => .bool b
  | .str s => .string ⟨s.toArray⟩
  | .sl _ => .nilIface
  | .junk => .nilIface
theorem asList (l : List UInt8) : (ByteArray.mk l.toArray).toList = l := by simp

theorem sound_unOp (R : Rel E G s a w) {op : UnOp} {t : TypeId} {x : Operand} (ho : o.op = .unOp op t x) {y : AV} (hx : unE op (s.eval x) = some y) (K : Post E G s o ⟨y, []⟩ a next) : o.wp P a w next Q := by
  have h := R.eval x
  unfold unE at hx
  split at hx
  · rename_i b e; rw [e] at h; cases hx
    exact sound_val R (v := .bool (!b)) (by simp [execOp, ho, h.bool_inv, Op.unary]) (.bool _) K
  · rename_i k n e; rw [e] at h; cases hx
    exact sound_val R (v := .int k (k.wrap (0 - n))) (by simp [execOp, ho, h.int_inv, Op.unary, Op.intArith]) (.int _ _) K
  · rename_i k n e; rw [e] at h; cases hx
    exact sound_val R (v := .int k (k.wrap (BitVec.ofInt k.bits (if k.signed then -1 else k.max) ^^^ BitVec.ofInt k.bits n).toNat)) (by simp [execOp, ho, h.int_inv, Op.unary, Op.intBits]) (.int _ _) K
  · cases hx

theorem eqGuard_int (op : BinOp) (t : TypeId) (x y : Operand) (k k' : IntKind) (i j : Int) (w : World) : (eqGuard op t x y (.int k i) (.int k' j)).run P w = .ok () w := by
  cases op <;> simp [eqGuard]
theorem eqGuard_str (op : BinOp) (t : TypeId) (x y : Operand) (i j : ByteArray) (w : World) : (eqGuard op t x y (.string i) (.string j)).run P w = .ok () w := by
  cases op <;> simp [eqGuard]
theorem eqGuard_bool (op : BinOp) (t : TypeId) (x y : Operand) (i j : Bool) (w : World) : (eqGuard op t x y (.bool i) (.bool j)).run P w = .ok () w := by
  cases op <;> simp [eqGuard]
theorem eqGuard_ptr (op : BinOp) (t : TypeId) (x y : Operand) (i j : Option Addr) (w : World) : (eqGuard op t x y (.pointer i) (.pointer j)).run P w = .ok () w := by
  cases op <;> simp [eqGuard]
theorem eqGuard_map (op : BinOp) (t : TypeId) (x y : Operand) (i j : Option Nat) (w : World) : (eqGuard op t x y (.map i) (.map j)).run P w = .ok () w := by
  cases op <;> simp [eqGuard]
theorem eqGuard_sl (op : BinOp) (t : TypeId) (x y : Operand) (i j : Option Addr) (n c n' c' : Nat) (w : World) : (eqGuard op t x y (.slice i n c) (.slice j n' c')).run P w = .ok () w := by
  cases op <;> simp [eqGuard]

theorem intOp_run {op : BinOp} {t : TypeId} {k : IntKind} {i j : Int} {c : PC} (h : intOp op k i j = some c) (w : World) :
    (binOp op t (.int k i) (.int k j)).run P w = .ok c.val w ∧ VR G.K c c.val := by
  unfold intOp at h
  cases op
  case quo => dsimp only at h; split at h <;> cases h; rename_i hj; exact ⟨by simp [binOp, Op.intDiv, hj, PC.val], .int _ _⟩
  case rem => dsimp only at h; split at h <;> cases h; rename_i hj; exact ⟨by simp [binOp, Op.intDiv, hj, PC.val], .int _ _⟩
  case shl => cases h
  case shr => cases h
  all_goals
    simp only [Option.some.injEq] at h
    subst h
    exact ⟨by simp [binOp, Op.intArith, Op.intBits, Op.intCmp, PC.val], by first | exact .int _ _ | exact .bool _⟩

theorem shOp_run {op : BinOp} {t : TypeId} {k k' : IntKind} {i j : Int} {c : PC} (hs : isSh op = true) (h : shOp op k i j = some c) (w : World) :
    (binOp op t (.int k i) (.int k' j)).run P w = .ok c.val w ∧ VR G.K c c.val := by
  unfold shOp at h
  split at h
  · cases h
  · rename_i hj
    cases op <;> simp only [isSh, Bool.false_eq_true] at hs <;> cases h
    · exact ⟨by simp [binOp, Op.shift, hj, PC.val], .int _ _⟩
    · exact ⟨by simp [binOp, Op.shift, hj, PC.val], .int _ _⟩

theorem strOp_run {op : BinOp} {t : TypeId} {i j : List UInt8} {c : PC} (h : strOp op i j = some c) (w : World) :
    (binOp op t (.string ⟨i.toArray⟩) (.string ⟨j.toArray⟩)).run P w = .ok c.val w ∧ VR G.K c c.val := by
  unfold strOp at h
  cases op
  case add =>
    dsimp only at h
    split at h
    · rename_i hl
      cases h
      refine ⟨?_, .str _⟩
      have h1 : ¬ ((((ByteArray.mk i.toArray).size + (ByteArray.mk j.toArray).size : Nat) : Int) > IntKind.i64.max) := by
        have : IntKind.i64.max = 9223372036854775807 := by decide
        rw [this]
        simp [ByteArray.size]; omega
      have h2 : (ByteArray.mk i.toArray) ++ (ByteArray.mk j.toArray) = ByteArray.mk (i ++ j).toArray := by
        apply ByteArray.ext; simp
      simp only [binOp, Op.stringOp, h1, if_false, h2]; rfl
    · cases h
  all_goals first
    | (cases h; done)
    | (simp only [Option.some.injEq] at h
       subst h
       exact ⟨by simp [binOp, Op.stringOp, asList, PC.val], .bool _⟩)

theorem notIf_run {op : BinOp} {b : Bool} {y : AV} {t : TypeId} {u v : Value} (h : notIf op b = some y) (he : ∀ w : World, (Op.equal t u v).run P w = .ok b w)
    (hb1 : binOp .eql t u v = (do pure (.bool (← Op.equal t u v)))) (hb2 : binOp .neq t u v = (do pure (.bool (!(← Op.equal t u v))))) (w : World) :
    ∃ z, (binOp op t u v).run P w = .ok z w ∧ AR G y z := by
  unfold notIf at h
  cases op <;> simp only [Option.some.injEq, reduceCtorEq] at h
  · subst h; exact ⟨.bool b, by rw [hb1]; simp [he], .bool _⟩
  · subst h; exact ⟨.bool (!b), by rw [hb2]; simp [he], .bool _⟩

theorem tyPtr_run {t : TypeId} (h : tyPtr P t = true) : ∃ e, P.underlying t = some (.pointer e) := by
  unfold tyPtr at h
  split at h
  · exact ⟨_, by assumption⟩
  · cases h
theorem tyBool_run {t : TypeId} (h : tyBool P t = true) : P.underlying t = some .bool := by
  unfold tyBool at h
  split at h
  · assumption
  · cases h

theorem equal_of {t : TypeId} {u v : Value} {b : Bool} {w : World} (h : (Op.equalIn (9999 + 1) t u v).run P w = .ok b w) : (Op.equal t u v).run P w = .ok b w := h

end

section
variable {P : Program} {E : Env} {G : Gh} {s : AS} {a : Act} {w : World} {o : Oper} {next : Act → World → Prop} {Q : Exit → Act → World → Prop}

theorem VRs.sub {K : Know} {cs : List PC} {us : List Value} (h : VRs K cs us) (i n : Nat) : VRs K ((cs.drop i).take n) ((us.drop i).take n) := by
  obtain ⟨h1, h2⟩ := h
  refine ⟨by simp [h1], fun j c u e1 e2 => ?_⟩
  rw [List.getElem?_take] at e1 e2
  split at e1
  · rename_i hj
    rw [if_pos hj] at e2
    rw [List.getElem?_drop] at e1 e2
    exact h2 _ c u e1 e2
  · cases e1

/-- A value that has these cells, by its type: of several cells, or of one. -/
def OfCells (P : Program) (t : TypeId) (us : List Value) (v : Value) : Prop :=
  (∃ fs, P.underlying t = some (.struct fs)) ∧ v = .agg us.toArray ∨ (¬ ∃ fs, P.underlying t = some (.struct fs)) ∧ us = [v]

theorem part_run {t : TypeId} {z off : Nat} {us : List Value} (hz : tySize P t = some z) (hle : off + z ≤ us.length) (hsc : (∃ fs, P.underlying t = some (.struct fs)) ∨ ((∃ d, P.underlying t = some d ∧ (d = .bool ∨ d = .string ∨ ∃ k, d = .int k)) ∧ z = 1)) (w : World) :
    ∃ v, (part t us.toArray off).run P w = .ok v w ∧ OfCells P t ((us.drop off).take z) v := by
  rcases hsc with ⟨fs, hu⟩ | ⟨⟨d, hu, hd⟩, rfl⟩
  · refine ⟨.agg ((us.drop off).take z).toArray, ?_, .inl ⟨⟨fs, hu⟩, rfl⟩⟩
    have : (isAgg t).run P w = .ok true w := by simp [isAgg, run_underlying hu]
    have e : (us.toArray.extract off (off + z)) = ((us.drop off).take z).toArray := by
      simp [List.extract_toArray, List.extract_eq_take_drop]
    simp [part, this, tySize_run hz, e]
  · have hlt : off < us.length := by omega
    refine ⟨us[off], ?_, .inr ⟨?_, ?_⟩⟩
    · have : (isAgg t).run P w = .ok false w := by rcases hd with rfl | rfl | ⟨k, rfl⟩ <;> simp [isAgg, run_underlying hu]
      simp [part, this, hlt]
    · rintro ⟨fs, hf⟩; rw [hu] at hf; cases hf; rcases hd with h | h | ⟨k, h⟩ <;> cases h
    · have : us.drop off = us[off] :: us.drop (off + 1) := List.drop_eq_getElem_cons hlt
      rw [this]; rfl

theorem eqE_type {d : Nat} {t : TypeId} {xs ys : List PC} {b : Bool} (h : eqE P d t xs ys = some b) :
    (∃ fs, P.underlying t = some (.struct fs)) ∨ ((∃ d, P.underlying t = some d ∧ (d = .bool ∨ d = .string ∨ ∃ k, d = .int k)) ∧ xs.length = 1) := by
  cases d with
  | zero => cases h
  | succ d =>
    unfold eqE at h
    split at h
    · split at h
      · exact .inr ⟨⟨_, by assumption, .inl rfl⟩, rfl⟩
      · cases h
    · split at h
      · exact .inr ⟨⟨_, by assumption, .inr (.inr ⟨_, rfl⟩)⟩, rfl⟩
      · cases h
    · split at h
      · exact .inr ⟨⟨_, by assumption, .inr (.inl rfl)⟩, rfl⟩
      · cases h
    · exact .inl ⟨_, by assumption⟩
    · cases h

theorem VRs.one_inv {K : Know} {c : PC} {us : List Value} (h : VRs K [c] us) : ∃ u, us = [u] ∧ VR K c u := by
  obtain ⟨u, us', rfl, h1, h2⟩ := h.cons_inv
  have : us' = [] := by have := h2.1; cases us' with | nil => rfl | cons => simp at this
  subst this
  exact ⟨u, rfl, h1⟩

theorem eqE_run {K : Know} : ∀ (d : Nat) (t : TypeId) (xs ys : List PC) (b : Bool), eqE P d t xs ys = some b → ∀ (us vs : List Value) (u v : Value), VRs K xs us → VRs K ys vs → OfCells P t us u → OfCells P t vs v →
    ∀ w : World, (Op.equalIn d t u v).run P w = .ok b w := by
  intro d
  induction d with
  | zero => intro t xs ys b h; cases h
  | succ d ih =>
    intro t xs ys b h us vs u v hu hv cu cv w
    unfold eqE at h
    split at h
    · rename_i ht
      split at h
      · cases h
        obtain ⟨u', rfl, h1⟩ := hu.one_inv
        obtain ⟨v', rfl, h2⟩ := hv.one_inv
        rcases cu with ⟨⟨fs, e⟩, _⟩ | ⟨_, e⟩
        · rw [ht] at e; cases e
        rcases cv with ⟨⟨fs, e'⟩, _⟩ | ⟨_, e'⟩
        · rw [ht] at e'; cases e'
        cases e; cases e'; cases h1; cases h2
        exact run_equalIn_bool' w d t _ _ ht
      · cases h
    · rename_i k0 ht
      split at h
      · split at h
        · rename_i hk
          cases h
          subst hk
          obtain ⟨u', rfl, h1⟩ := hu.one_inv
          obtain ⟨v', rfl, h2⟩ := hv.one_inv
          rcases cu with ⟨⟨fs, e⟩, _⟩ | ⟨_, e⟩
          · rw [ht] at e; cases e
          rcases cv with ⟨⟨fs, e'⟩, _⟩ | ⟨_, e'⟩
          · rw [ht] at e'; cases e'
          cases e; cases e'; cases h1; cases h2
          exact run_equalIn_int w d t _ _ _ _ ht
        · cases h
      · cases h
    · rename_i ht
      split at h
      · cases h
        obtain ⟨u', rfl, h1⟩ := hu.one_inv
        obtain ⟨v', rfl, h2⟩ := hv.one_inv
        rcases cu with ⟨⟨fs, e⟩, _⟩ | ⟨_, e⟩
        · rw [ht] at e; cases e
        rcases cv with ⟨⟨fs, e'⟩, _⟩ | ⟨_, e'⟩
        · rw [ht] at e'; cases e'
        cases e; cases e'; cases h1; cases h2
        rw [run_equalIn_string w d t _ _ ht]
        simp
      · cases h
    · rename_i fs ht
      split at h
      · cases h
      · rename_i hp
        rcases cu with ⟨_, e⟩ | ⟨e, _⟩
        · rcases cv with ⟨_, e'⟩ | ⟨e', _⟩
          · subst e; subst e'
            have hf : P.fieldsOf t = fs := by simp [Program.fieldsOf, ht]
            rw [run_equalIn_struct w d t _ _ (by rw [hf]; exact ht) (by simpa using hp), hf]
            clear hf ht hp
            generalize fs.toList = l at h
            induction l generalizing b w with
            | nil => simp only [eqFs, Option.some.injEq] at h; subst h; simp [Op.eqFields]
            | cons f l ihl =>
              simp only [eqFs] at h
              split at h
              · rename_i hn
                split at h
                · rename_i z hz
                  split at h
                  · rename_i hle
                    split at h
                    · rename_i p q e1 e2
                      cases h
                      have hty := eqE_type e1
                      have hz1 : (∃ fs, P.underlying f.type = some (.struct fs)) ∨ ((∃ d, P.underlying f.type = some d ∧ (d = .bool ∨ d = .string ∨ ∃ k, d = .int k)) ∧ z = 1) := by
                        rcases hty with h | ⟨h, h'⟩
                        · exact .inl h
                        · refine .inr ⟨h, ?_⟩
                          simp at h'; omega
                      have lu := hu.1
                      have lv := hv.1
                      obtain ⟨pu, r1, c1⟩ := part_run hz (us := us) (off := f.offset) (by omega) hz1 w
                      obtain ⟨pv, r2, c2⟩ := part_run hz (us := vs) (off := f.offset) (by omega) hz1 w
                      have := ih _ _ _ _ e1 _ _ pu pv (hu.sub f.offset z) (hv.sub f.offset z) c1 c2 w
                      simp only [Op.eqFields, Sem.run_bind, Sem.run_ite, hn, if_true, ne_eq, not_false_eq_true, r1, r2, this, Result.andThen_ok]
                      cases p
                      · simp
                      · simp [ihl _ w e2]
                    · cases h
                  · cases h
                · cases h
              · rename_i hn
                simp only [ne_eq, Decidable.not_not] at hn
                simp only [Op.eqFields, hn, ne_eq, not_true_eq_false, if_false]
                exact ihl _ w h
          · exact absurd ⟨fs, ht⟩ e'
        · exact absurd ⟨fs, ht⟩ e
    · cases h


theorem toPCs_vrs {xs : List AV} {cs : List PC} {us : List Value} (h : toPCs xs = some cs) (hl : xs.length = us.length) (hc : ∀ (i : Nat) (x : AV) (u : Value), xs[i]? = some x → us[i]? = some u → AR G x u) : VRs G.K cs us := by
  obtain ⟨h1, h2⟩ := toPCs_spec h
  refine ⟨by omega, fun i c u e1 e2 => ?_⟩
  have hi : i < xs.length := by have := (List.getElem?_eq_some_iff.1 e1).1; omega
  have hx : xs[i]? = some xs[i] := by simp
  exact (hc i _ u hx e2).toPC (h2 i _ c hx e1)

theorem eq_ptr {t e : TypeId} (h : P.underlying t = some (.pointer e)) (p : Option Addr) (w : World) : (Op.equal t (.pointer p) (.pointer none)).run P w = .ok p.isNone w :=
  run_equal_pointer_nil w t p (by simp [Program.pointee, h])

theorem sound_binOp (R : Rel E G s a w) {op : BinOp} {t t' : TypeId} {x y : Operand} (ho : o.op = .binOp op t x y t') {z : AV} (hx : binE P op t (s.eval x) (s.eval y) = some z) (K : Post E G s o ⟨z, []⟩ a next) : o.wp P a w next Q := by
  have h1 := R.eval x
  have h2 := R.eval y
  suffices H : ∃ v, (execOp a.eval o).run P w = .ok (.value v) w ∧ AR G z v by
    obtain ⟨v, hr, hz⟩ := H
    exact sound_val R hr hz K
  generalize hu : a.eval x = u at h1
  generalize hv : a.eval y = v at h2
  have hexec : ∀ {r : Value}, (eqGuard op t x y u v).run P w = .ok () w → (binOp op t u v).run P w = .ok r w → (execOp a.eval o).run P w = .ok (.value r) w := by
    intro r g1 g2
    simp [execOp, ho, hu, hv, g1, g2]
  unfold binE at hx
  split at hx
  · rename_i k i k' j e1 e2
    rw [e1] at h1; rw [e2] at h2
    cases h1.int_inv; cases h2.int_inv
    split at hx
    · rename_i hs
      obtain ⟨c, hc, rfl⟩ := Option.map_eq_some_iff.1 hx
      obtain ⟨r1, r2⟩ := shOp_run (G := G) (P := P) (t := t) (k' := k') hs hc w
      exact ⟨_, hexec (eqGuard_int _ _ _ _ _ _ _ _ _) r1, .c _ _ r2⟩
    · split at hx
      · rename_i hk
        subst hk
        obtain ⟨c, hc, rfl⟩ := Option.map_eq_some_iff.1 hx
        obtain ⟨r1, r2⟩ := intOp_run (G := G) (P := P) (t := t) hc w
        exact ⟨_, hexec (eqGuard_int _ _ _ _ _ _ _ _ _) r1, .c _ _ r2⟩
      · cases hx
  · rename_i i j e1 e2
    rw [e1] at h1; rw [e2] at h2
    cases h1.str_inv; cases h2.str_inv
    obtain ⟨c, hc, rfl⟩ := Option.map_eq_some_iff.1 hx
    obtain ⟨r1, r2⟩ := strOp_run (G := G) (P := P) (t := t) hc w
    exact ⟨_, hexec (eqGuard_str _ _ _ _ _ _ _) r1, .c _ _ r2⟩
  · rename_i i j e1 e2
    rw [e1] at h1; rw [e2] at h2
    cases h1.bool_inv; cases h2.bool_inv
    split at hx
    · rename_i ht
      obtain ⟨r, r1, r2⟩ := notIf_run (G := G) (P := P) (t := t) (u := .bool i) (v := .bool j) hx (fun w => equal_of (run_equalIn_bool' w 9999 t i j (tyBool_run ht))) rfl rfl w
      exact ⟨_, hexec (eqGuard_bool _ _ _ _ _ _ _) r1, r2⟩
    · cases hx
  · rename_i n off e1 e2
    rw [e1] at h1; rw [e2] at h2
    cases h1; cases h2
    split at hx
    · rename_i ht
      obtain ⟨el, ht⟩ := tyPtr_run ht
      obtain ⟨r, r1, r2⟩ := notIf_run (G := G) (P := P) (t := t) (u := .pointer (some _)) (v := .pointer none) hx (eq_ptr ht _) rfl rfl w
      exact ⟨_, hexec (eqGuard_ptr _ _ _ _ _ _ _) r1, r2⟩
    · cases hx
  · rename_i cs e1 e2
    rw [e1] at h1; rw [e2] at h2
    cases h1; cases h2
    split at hx
    · rename_i ht
      obtain ⟨el, ht⟩ := tyPtr_run ht
      obtain ⟨r, r1, r2⟩ := notIf_run (G := G) (P := P) (t := t) (u := .pointer (some _)) (v := .pointer none) hx (eq_ptr ht _) rfl rfl w
      exact ⟨_, hexec (eqGuard_ptr _ _ _ _ _ _ _) r1, r2⟩
    · cases hx
  · rename_i e1 e2
    rw [e1] at h1; rw [e2] at h2
    cases h1; cases h2
    split at hx
    · rename_i ht
      obtain ⟨el, ht⟩ := tyPtr_run ht
      obtain ⟨r, r1, r2⟩ := notIf_run (G := G) (P := P) (t := t) (u := .pointer none) (v := .pointer none) hx (eq_ptr ht _) rfl rfl w
      exact ⟨_, hexec (eqGuard_ptr _ _ _ _ _ _ _) r1, r2⟩
    · cases hx
  · rename_i n e1 e2
    rw [e1] at h1; rw [e2] at h2
    cases h1; cases h2
    split at hx
    · rename_i ht
      obtain ⟨⟨kt, et⟩, ht⟩ := Option.isSome_iff_exists.1 ht
      obtain ⟨r, r1, r2⟩ := notIf_run (G := G) (P := P) (t := t) (u := .map (some _)) (v := .map none) hx (fun w => run_equal_map_nil w t _ _ _ (tyMap_run ht)) rfl rfl w
      exact ⟨_, hexec (eqGuard_map _ _ _ _ _ _ _) r1, r2⟩
    · cases hx
  · rename_i e1 e2
    rw [e1] at h1; rw [e2] at h2
    cases h1; cases h2
    split at hx
    · rename_i ht
      obtain ⟨⟨kt, et⟩, ht⟩ := Option.isSome_iff_exists.1 ht
      obtain ⟨r, r1, r2⟩ := notIf_run (G := G) (P := P) (t := t) (u := .map none) (v := .map none) hx (fun w => run_equal_map_nil w t _ _ _ (tyMap_run ht)) rfl rfl w
      exact ⟨_, hexec (eqGuard_map _ _ _ _ _ _ _) r1, r2⟩
    · cases hx
  · rename_i xs ys e1 e2
    rw [e1] at h1; rw [e2] at h2
    cases h1 with
    | agg _ us l1 c1 =>
    cases h2 with
    | agg _ vs l2 c2 =>
    split at hx
    · rename_i hg
      obtain ⟨hg, hop⟩ := hg
      split at hx
      · rename_i p q ep eq_
        obtain ⟨b, hb, hx⟩ := Option.bind_eq_some_iff.1 hx
        have v1 := toPCs_vrs (us := us.toList) ep (by simpa using l1) (fun i x u a1 a2 => c1 i x u a1 (by simpa using a2))
        have v2 := toPCs_vrs (us := vs.toList) eq_ (by simpa using l2) (fun i x u a1 a2 => c2 i x u a1 (by simpa using a2))
        have hst : ∃ fs, P.underlying t = some (.struct fs) := by
          rcases eqE_type hb with h | ⟨⟨d, hd, hd'⟩, _⟩
          · exact h
          · exfalso
            unfold tyAgg at hop
            rw [hd] at hop
            rcases hd' with rfl | rfl | ⟨k, rfl⟩ <;> simp at hop
        have hof : ∀ us : Array Value, OfCells P t us.toList (.agg us) := fun us => .inl ⟨hst, by simp⟩
        have heq : ∀ w : World, (Op.equal t (.agg us) (.agg vs)).run P w = .ok b w := eqE_run 10000 t p q b hb us.toList vs.toList _ _ v1 v2 (hof us) (hof vs)
        obtain ⟨r, r1, r2⟩ := notIf_run (G := G) (P := P) (t := t) (u := .agg us) (v := .agg vs) hx heq rfl rfl w
        exact ⟨_, hexec (run_eqGuard_agg w op t x y us vs hg) r1, r2⟩
      · cases hx
    · cases hx
  · rename_i e1 e2
    rw [e1] at h1; rw [e2] at h2
    cases h1; cases h2
    split at hx
    · rename_i ht
      obtain ⟨et, ht⟩ := Option.isSome_iff_exists.1 ht
      obtain ⟨r, r1, r2⟩ := notIf_run (G := G) (P := P) (t := t) (u := .slice none 0 0) (v := .slice none 0 0) hx (fun w => run_equal_slice_nil w t _ _ _ _ (tyElem_run ht)) rfl rfl w
      exact ⟨_, hexec (eqGuard_sl _ _ _ _ _ _ _ _ _ _ _) r1, r2⟩
    · cases hx
  · rename_i e2 _
    rw [e2] at h2
    cases h2
    split at hx
    · rename_i et ht hr
      have hv := h1.rows hr
      have : ∃ A n c, u = .slice A n c := by
        rcases hv.slice_inv with ⟨_, _, _, rfl, _⟩ | ⟨_, _, _, _, rfl, _⟩
        · exact ⟨_, _, _, rfl⟩
        · exact ⟨_, _, _, rfl⟩
      obtain ⟨A, n, c, rfl⟩ := this
      split at hx
      · rename_i hop
        cases hx
        have heq : ∀ w : World, (Op.equal t (.slice A n c) (.slice none 0 0)).run P w = .ok A.isNone w := fun w => run_equal_slice_nil w t _ _ _ _ (tyElem_run ht)
        cases op <;> simp only [isEq, Bool.false_eq_true] at hop
        · exact ⟨.bool A.isNone, hexec (eqGuard_sl _ _ _ _ _ _ _ _ _ _ _) (by simp [binOp, heq]), .ubool _⟩
        · exact ⟨.bool !A.isNone, hexec (eqGuard_sl _ _ _ _ _ _ _ _ _ _ _) (by simp [binOp, heq]), .ubool _⟩
      · cases hx
    · rename_i et r rs ht hr
      have hv := h1.rows hr
      rcases hv.slice_inv with ⟨h, _⟩ | ⟨_, _, _, _, rfl, _⟩
      · cases h
      · obtain ⟨r, r1, r2⟩ := notIf_run (G := G) (P := P) (t := t) (u := .slice (some _) _ _) (v := .slice none 0 0) hx (fun w => run_equal_slice_nil w t _ _ _ _ (tyElem_run ht)) rfl rfl w
        exact ⟨_, hexec (eqGuard_sl _ _ _ _ _ _ _ _ _ _ _) r1, r2⟩
    · cases hx
  · cases hx


theorem bytes_rows (l : List UInt8) : rowsOK 1 (bytes l) := by
  intro r hr
  simp only [bytes, List.mem_map] at hr
  obtain ⟨b, _, rfl⟩ := hr
  rfl

theorem sound_indexAddr (R : Rel E G s a w) {t : TypeId} {x i : Operand} (ho : o.op = .indexAddr t x i) {y : AV} (hx : indexE P t (s.eval x) (s.eval i) = some y) (K : Post E G s o ⟨y, []⟩ a next) : o.wp P a w next Q := by
  have h1 := R.eval x
  have h2 := R.eval i
  suffices H : ∃ v, (execOp a.eval o).run P w = .ok (.value v) w ∧ AR G y v by
    obtain ⟨v, hr, hz⟩ := H
    exact sound_val R hr hz K
  generalize hu : a.eval x = u at h1
  generalize hv : a.eval i = v at h2
  unfold indexE at hx
  split at hx
  · rename_i n off k i' e1 e2
    rw [e1] at h1; rw [e2] at h2
    cases h2.int_inv
    cases h1 with
    | ptr _ _ b hb =>
    split at hx
    · rename_i len e hl
      split at hx
      · rename_i z hz
        split at hx
        · rename_i hi
          cases hx
          refine ⟨.pointer (some ⟨b, off + i'.toNat * z, none⟩), ?_, .ptr n _ b hb⟩
          simp [execOp, ho, hu, hv, Instr.indexAt, asIntOf, run_underlying (tyArr_run hl), Instr.sureAddr, hi, tySize_run hz, add_at]
        · cases hx
      · cases hx
    · cases hx
  · rename_i cs k i' e1 e2
    rw [e1] at h1; rw [e2] at h2
    cases h2.int_inv
    cases h1 with
    | rptr _ b off hk =>
    split at hx
    · rename_i len e hl
      split at hx
      · rename_i z hz
        split at hx
        · rename_i hi
          cases hx
          refine ⟨.pointer (some ⟨b, off + i'.toNat * z, none⟩), ?_, .rptr _ b _ (hk.drop _)⟩
          simp [execOp, ho, hu, hv, Instr.indexAt, asIntOf, run_underlying (tyArr_run hl), Instr.sureAddr, hi, tySize_run hz, add_at]
        · cases hx
      · cases hx
    · cases hx
  · rename_i n off len ex k i' e1 e2
    rw [e1] at h1; rw [e2] at h2
    cases h2.int_inv
    cases h1 with
    | msl _ _ _ b cap _ hb hc he =>
    split at hx
    · rename_i e hl
      split at hx
      · rename_i z hz
        split at hx
        · rename_i hi
          cases hx
          refine ⟨.pointer (some ⟨b, off + i'.toNat * z, none⟩), ?_, .ptr n _ b hb⟩
          simp [execOp, ho, hu, hv, Instr.indexAt, asIntOf, run_underlying (tyElem_run hl), hi, tySize_run hz, add_at]
        · cases hx
      · cases hx
    · cases hx
  · rename_i k i' e2 _ _ _
    rw [e2] at h2
    cases h2.int_inv
    split at hx
    · rename_i e rows he hr
      split at hx
      · rename_i z hz
        split at hx
        · rename_i hi0
          split at hx
          · rename_i r hri
            split at hx
            · rename_i hrz
              cases hx
              have hv := h1.rows hr
              rcases hv.slice_inv with ⟨h, _⟩ | ⟨z', b, off, cap, rfl, hc, hs⟩
              · subst h; simp at hri
              · have hlt : i'.toNat < rows.length := (List.getElem?_eq_some_iff.1 hri).1
                have hz' : z' = z := by rw [← hrz]; exact (hs.1 r (List.mem_of_getElem? hri)).symm
                subst hz'
                refine ⟨.pointer (some ⟨b, off + i'.toNat * z', none⟩), ?_, .rptr _ b _ (hs.2 _ _ hri)⟩
                have hi : 0 ≤ i' ∧ i' < (rows.length : Int) := ⟨hi0, by omega⟩
                simp [execOp, ho, hu, *, Instr.indexAt, asIntOf, run_underlying (tyElem_run he), tySize_run hz, add_at]
            · cases hx
          · cases hx
        · cases hx
      · cases hx
    · cases hx
  · cases hx

theorem sound_index (R : Rel E G s a w) {t : TypeId} {x i : Operand} (ho : o.op = .index t x i) {l : List UInt8} {k : IntKind} {j : Int} {b : UInt8} (ex : s.eval x = .c (.str l)) (ei : s.eval i = .c (.int k j))
    (ht : tyStr P t = true) (hj : 0 ≤ j) (hb : l[j.toNat]? = some b) (K : Post E G s o ⟨.c (.int .u8 b.toNat), []⟩ a next) : o.wp P a w next Q := by
  have h1 := R.eval x
  have h2 := R.eval i
  rw [ex] at h1; rw [ei] at h2
  have hb' : (ByteArray.mk l.toArray)[j.toNat]? = some b := by
    have hlt : j.toNat < l.length := (List.getElem?_eq_some_iff.1 hb).1
    have hv := (List.getElem?_eq_some_iff.1 hb).2
    rw [getElem?_pos _ _ (by simp [ByteArray.size]; exact hlt)]
    congr 1
  refine sound_val R (v := .int .u8 b.toNat) ?_ (.int _ _) K
  simp [execOp, ho, h1.str_inv, h2.int_inv, Instr.index, asIntOf, run_underlying (tyStr_run ht), hj, hb']

theorem sound_indexA (R : Rel E G s a w) {t e : TypeId} {x i : Operand} (ho : o.op = .index t x i) {cs : List AV} {k : IntKind} {j : Int} {n z : Nat} {y : AV} (ex : s.eval x = .agg cs) (ei : s.eval i = .c (.int k j))
    (ht : tyArr P t = some (n, e)) (hz : tySize P e = some z) (hj : 0 ≤ j) (hj2 : j < (n : Int))
    (hy : (tyAgg P e = some true ∧ j.toNat * z + z ≤ cs.length ∧ y = .agg ((cs.drop (j.toNat * z)).take z)) ∨ (tyAgg P e = some false ∧ cs[j.toNat * z]? = some y)) (K : Post E G s o ⟨y, []⟩ a next) : o.wp P a w next Q := by
  have h := R.eval x
  have h2 := R.eval i
  rw [ex] at h; rw [ei] at h2
  generalize hv : a.eval x = v at h
  cases h with
  | agg _ us hl hc =>
    rcases hy with ⟨hag, hle, rfl⟩ | ⟨hag, hy⟩
    · refine sound_val R (v := .agg (us.extract (j.toNat * z) (j.toNat * z + z))) ?_ (.agg _ _ (by simp; omega) ?_) K
      · simp [execOp, ho, hv, h2.int_inv, Instr.index, asIntOf, run_underlying (tyArr_run ht), hj, hj2, part, tyAgg_run hag, tySize_run hz]
      · intro q x u e1 e2
        rw [List.getElem?_take] at e1
        split at e1
        · rename_i hq
          rw [List.getElem?_drop] at e1
          refine hc (j.toNat * z + q) x u e1 ?_
          rw [Array.getElem?_extract] at e2
          split at e2
          · exact e2
          · cases e2
        · cases e1
    · have hlt : j.toNat * z < us.size := by have := (List.getElem?_eq_some_iff.1 hy).1; omega
      refine sound_val R (v := us[j.toNat * z]) ?_ (hc (j.toNat * z) y _ hy (by simp [hlt])) K
      simp [execOp, ho, hv, h2.int_inv, Instr.index, asIntOf, run_underlying (tyArr_run ht), hj, hj2, part, tyAgg_run hag, tySize_run hz, hlt]

theorem boundE_run {xo : Option Operand} {d : Nat} {l : Int} (R : Rel E G s a w) (h : boundE (xo.map s.eval) d = some l) (hne : xo ≠ none) : ∃ k, xo.map a.eval = some (.int k l) := by
  cases xo with
  | none => exact absurd rfl hne
  | some x =>
    simp only [Option.map_some, boundE] at h
    have h1 := R.eval x
    split at h
    · rename_i e; cases e
    · rename_i k i e
      simp only [Option.some.injEq] at e h
      rw [e] at h1
      exact ⟨k, by rw [Option.map_some, h1.int_inv, h]⟩
    · cases h

theorem bound_ok {k : IntKind} {i : Int} {y : Nat} {c : BoundsCode} (h0 : 0 ≤ i) (h1 : i ≤ y) (w : World) : (Instr.sliceBound (.int k i) y c).run P w = .ok i.toNat w := by
  simp [Instr.sliceBound, asIntOf, h0, h1]

theorem bounds_run (R : Rel E G s a w) {lo hi : Option Operand} {isSlice : Bool} {len cap : Nat} {l h : Int} (el : boundE (lo.map s.eval) 0 = some l) (eh : boundE (hi.map s.eval) len = some h)
    (h0 : 0 ≤ l) (h1 : l ≤ h) (h2 : h ≤ (len : Int)) (hc : len ≤ cap) : (Instr.sliceBounds isSlice len cap (lo.map a.eval) (hi.map a.eval) none).run P w = .ok (l.toNat, h.toNat, cap) w := by
  have hh : hi = none → h = len := by rintro rfl; simpa [boundE] using eh.symm
  have hl : lo = none → l = 0 := by rintro rfl; simpa [boundE] using el.symm
  cases hi with
  | none =>
    have := hh rfl
    subst this
    cases lo with
    | none => have := hl rfl; subst this; simp [Instr.sliceBounds]
    | some x =>
      obtain ⟨k, e⟩ := boundE_run R el (by simp)
      rw [e]
      simp [Instr.sliceBounds, bound_ok h0 h1]
  | some y =>
    obtain ⟨k, e⟩ := boundE_run R eh (by simp)
    rw [e]
    cases lo with
    | none => have := hl rfl; subst this; simp [Instr.sliceBounds, bound_ok (P := P) (i := h) (y := cap) (by omega) (by omega)]
    | some x =>
      obtain ⟨k', e'⟩ := boundE_run R el (by simp)
      rw [e']
      simp [Instr.sliceBounds, bound_ok (P := P) (i := h) (y := cap) (by omega) (by omega), bound_ok (P := P) (i := l) (y := h.toNat) h0 (by omega)]

theorem bounds_run3 (R : Rel E G s a w) {lo hi mx : Option Operand} {isSlice : Bool} {len cap : Nat} {l h m : Int} (el : boundE (lo.map s.eval) 0 = some l) (hhi : hi ≠ none) (eh : boundE (hi.map s.eval) len = some h) {k : IntKind} (em : mx.map a.eval = some (.int k m))
    (h0 : 0 ≤ l) (h1 : l ≤ h) (h2 : h ≤ m) (h3 : m ≤ (len : Int)) (hc : len ≤ cap) : (Instr.sliceBounds isSlice len cap (lo.map a.eval) (hi.map a.eval) (mx.map a.eval)).run P w = .ok (l.toNat, h.toNat, m.toNat) w := by
  have hl : lo = none → l = 0 := by rintro rfl; simpa [boundE] using el.symm
  rw [em]
  cases hi with
  | none => exact absurd rfl hhi
  | some y =>
    obtain ⟨k, e⟩ := boundE_run R eh (by simp)
    rw [e]
    cases lo with
    | none => have := hl rfl; subst this; simp [Instr.sliceBounds, bound_ok (P := P) (i := m) (y := cap) (by omega) (by omega), bound_ok (P := P) (i := h) (y := m.toNat) (by omega) (by omega)]
    | some x =>
      obtain ⟨k', e'⟩ := boundE_run R el (by simp)
      rw [e']
      simp [Instr.sliceBounds, bound_ok (P := P) (i := m) (y := cap) (by omega) (by omega), bound_ok (P := P) (i := h) (y := m.toNat) (by omega) (by omega), bound_ok (P := P) (i := l) (y := h.toNat) h0 (by omega)]


theorem Slice.sub {K : Know} {z b off : Nat} {rows : List (List PC)} (h : Slice K z b off rows) (l m : Nat) : Slice K z b (off + l * z) ((rows.take m).drop l) := by
  refine ⟨fun r hr => h.1 r (List.mem_of_mem_take (List.mem_of_mem_drop hr)), fun j r hj => ?_⟩
  rw [List.getElem?_drop, List.getElem?_take] at hj
  split at hj
  · have := h.2 (l + j) r hj
    rw [Nat.add_mul, ← Nat.add_assoc] at this
    exact this
  · cases hj

theorem str_extract (l : List UInt8) (i j : Nat) (h : i ≤ j) (hj : j ≤ l.length) : (ByteArray.mk l.toArray).extract i j = ByteArray.mk ((l.take j).drop i).toArray := by
  apply ByteArray.ext
  apply Array.ext'
  simp [ByteArray.data_extract, List.extract_toArray, List.extract_eq_take_drop, List.drop_take]

theorem sliced {z l h cap : Nat} {rows : List (List PC)} {v : Value} (hv : VR G.K (.sl rows) v) (hz : rowsOK z rows) (hlh : l ≤ h) (hh : h ≤ rows.length) :
    ∃ A c, v = .slice A rows.length c ∧ rows.length ≤ c ∧ ∀ m, h ≤ m → m ≤ c → AR G (.c (.sl ((rows.take h).drop l))) (.slice (if m = l then A else A.map (·.add (l * z))) (h - l) (m - l)) := by
  have hlen : ((rows.take h).drop l).length = h - l := by simp; omega
  rcases hv.slice_inv with ⟨rfl, A, cap, rfl, hA⟩ | ⟨z', b, off, cap, rfl, hc, hs⟩
  · refine ⟨A, cap, rfl, by simp, fun m _ hm => ?_⟩
    have : h = 0 := by simpa using hh
    subst this
    have : l = 0 := by omega
    subst this
    cases A with
    | none =>
      have := hA rfl
      have : m = 0 := by omega
      subst this
      simp; exact .c _ _ .nil
    | some a =>
      simp only [List.take_nil, List.drop_nil, Nat.sub_self, Nat.sub_zero, Option.map_some]
      split <;> exact .c _ _ (.at0 _ _)
  · refine ⟨_, cap, rfl, hc, fun m hm hmc => ?_⟩
    by_cases e : ((rows.take h).drop l) = []
    · rw [e]
      have hl0 : h - l = 0 := by rw [← hlen, e]; rfl
      rw [hl0]
      have key : ∀ b' o', AR G (.c (.sl [])) (.slice (some ⟨b', o', none⟩) 0 (m - l)) := fun b' o' => .c _ _ (.sl [] 0 b' o' (m - l) (fun _ _ => .nilIface) (by simp) (by simp) (by simp) (by simp))
      split
      · exact key _ _
      · simp only [Option.map_some, add_at]; exact key _ _
    · have hz' : z' = z := by
        cases rows with
        | nil => simp at e
        | cons r rs => rw [← hs.1 r (by simp)]; exact hz r (by simp)
      subst hz'
      have hlt : l < h := by
        rcases Nat.lt_or_ge l h with h1 | h1
        · exact h1
        · have : ((rows.take h).drop l).length = 0 := by omega
          exact absurd (List.length_eq_zero_iff.1 this) e
      rw [if_neg (by omega)]
      simp only [Option.map_some, add_at]
      have := VR.of_slice (hs.sub l h) (cap := m - l) (by omega)
      rw [hlen] at this
      exact .c _ _ this

theorem sound_slice (R : Rel E G s a w) {t : TypeId} {x : Operand} {lo hi mx : Option Operand} (ho : o.op = .slice t x lo hi mx) {y : AV} (hx : sliceE P t (s.eval x) (lo.map s.eval) (hi.map s.eval) (mx.map s.eval) = some y) (K : Post E G s o ⟨y, []⟩ a next) : o.wp P a w next Q := by
  have h1 := R.eval x
  suffices H : ∃ v, (execOp a.eval o).run P w = .ok (.value v) w ∧ AR G y v by
    obtain ⟨v, hr, hz⟩ := H
    exact sound_val R hr hz K
  generalize hu : a.eval x = u at h1
  unfold sliceE at hx
  split at hx
  · rename_i str e
    rw [e] at h1
    cases h1.str_inv
    split at hx
    · rename_i l h ht em el eh
      split at hx
      · rename_i hc
        obtain ⟨c0, c1, c2⟩ := hc
        cases hx
        have hm : mx = none := by cases mx with | none => rfl | some _ => cases em
        subst hm
        have hs : (ByteArray.mk str.toArray).size = str.length := by simp [ByteArray.size]
        have hb := bounds_run (P := P) (isSlice := false) (cap := str.length) R el eh c0 c1 c2 (Nat.le_refl _)
        refine ⟨_, ?_, .str _⟩
        have hex := str_extract str l.toNat h.toNat (by omega) (by omega)
        simp [execOp, ho, hu, Instr.sliceAt, run_underlying (tyStr_run ht), Instr.slice, hs, hb, hex]
      · cases hx
    · cases hx
  · rename_i n off e
    rw [e] at h1
    cases h1 with
    | ptr _ _ b hb =>
    split at hx
    · rename_i len el' hl
      split at hx
      · rename_i z l h hz el eh em
        have hm : mx = none := by cases mx with | none => rfl | some _ => cases em
        subst hm
        split at hx
        · rename_i hc
          obtain ⟨c0, c1, c2, c3⟩ := hc
          cases hx
          have hb' := bounds_run (P := P) (isSlice := false) (cap := len) R el eh c0 c1 c2 (Nat.le_refl _)
          refine ⟨.slice (some ⟨b, off + l.toNat * z, none⟩) (h.toNat - l.toNat) (len - l.toNat), ?_, .msl n _ _ b _ _ hb (by omega) (fun hd => by have := of_decide_eq_true hd; omega)⟩
          have ha : (if len = l.toNat then (⟨b, off, none⟩ : Addr) else (⟨b, off, none⟩ : Addr).add (l.toNat * z)) = ⟨b, off + l.toNat * z, none⟩ := by
            rw [add_at]
            split
            · have : l.toNat = 0 := by omega
              rw [this]; simp
            · rfl
          simp [execOp, ho, hu, Instr.sliceAt, run_underlying (tyArr_run hl), Instr.sureAddr, hb', tySize_run hz, ha]
        · cases hx
      · cases hx
    · cases hx
  · rename_i n off len ex e
    rw [e] at h1
    cases h1 with
    | msl _ _ _ b cap _ hb hcp hex =>
    split at hx
    · rename_i el' hl
      split at hx
      · rename_i z l h hz el eh em
        have hm : mx = none := by cases mx with | none => rfl | some _ => cases em
        subst hm
        split at hx
        · rename_i hc
          obtain ⟨c0, c1, c2, c3⟩ := hc
          cases hx
          have hb' := bounds_run (P := P) (isSlice := true) (cap := cap) R el eh c0 c1 c2 hcp
          refine ⟨.slice (some ⟨b, off + l.toNat * z, none⟩) (h.toNat - l.toNat) (cap - l.toNat), ?_, .msl n _ _ b _ _ hb (by omega) (fun hd => by
            rw [Bool.and_eq_true] at hd
            have h1 := hex hd.1
            have h2 := of_decide_eq_true hd.2
            omega)⟩
          have ha : (if cap = l.toNat then (some (⟨b, off, none⟩ : Addr)) else (some (⟨b, off, none⟩ : Addr)).map (·.add (l.toNat * z))) = some ⟨b, off + l.toNat * z, none⟩ := by
            simp only [Option.map_some, add_at]
            split
            · have : l.toNat = 0 := by omega
              rw [this]; simp
            · rfl
          simp only [Option.map_some] at ha
          simp [execOp, ho, hu, Instr.sliceAt, run_underlying (tyElem_run hl), Instr.slice, hb', tySize_run hz, ha]
        · cases hx
      · cases hx
    · cases hx
  · split at hx
    · rename_i e rows he hr
      split at hx
      · rename_i z l h hz el eh
        have hv := h1.rows hr
        split at hx
        · rename_i em
          have hm : mx = none := by cases mx with | none => rfl | some _ => cases em
          subst hm
          split at hx
          · rename_i hc
            obtain ⟨cz, c0, c1, c2⟩ := hc
            cases hx
            obtain ⟨A, c, rfl, hcap, hA⟩ := sliced (z := z) (l := l.toNat) (h := h.toNat) (cap := 0) hv cz (by omega) (by omega)
            have hb := bounds_run (P := P) (isSlice := true) (cap := c) R el eh c0 c1 c2 hcap
            refine ⟨_, ?_, hA c (by omega) (Nat.le_refl _)⟩
            simp [execOp, ho, hu, Instr.sliceAt, run_underlying (tyElem_run he), Instr.slice, hb, tySize_run hz]
          · cases hx
        · rename_i k m em
          split at hx
          · rename_i hc
            obtain ⟨chi, cz, c0, c1, c2, c3⟩ := hc
            cases hx
            obtain ⟨A, c, rfl, hcap, hA⟩ := sliced (z := z) (l := l.toNat) (h := h.toNat) (cap := 0) hv cz (by omega) (by omega)
            have em' : mx.map a.eval = some (.int k m) := by
              cases mx with
              | none => cases em
              | some q =>
                simp only [Option.map_some, Option.some.injEq] at em ⊢
                have := R.eval q
                rw [em] at this
                exact this.int_inv
            by_cases hhi : hi = none
            · exfalso
              subst hhi
              cases chi
            · have hb := bounds_run3 (P := P) (isSlice := true) (cap := c) R el hhi eh em' c0 c1 c2 c3 hcap
              refine ⟨_, ?_, hA m.toNat (by omega) (by omega)⟩
              simp [execOp, ho, hu, Instr.sliceAt, run_underlying (tyElem_run he), Instr.slice, hb, tySize_run hz]
          · cases hx
        · cases hx
      · cases hx
    · cases hx

theorem bytesOf_bytes (l : List UInt8) : bytesOf (bytes l) = some l := by
  induction l with
  | nil => rfl
  | cons b l ih =>
    show (match bytesOf (bytes l) with | some l => some (UInt8.ofNat (b.toNat : Int).toNat :: l) | none => none) = _
    rw [ih]; simp

theorem bytes_of_string (G : Gh) (l : List UInt8) : ∀ (j : Nat) (r : List PC) (i : Nat) (c : PC), (bytes l)[j]? = some r → r[i]? = some c → i = 0 ∧ ∃ b, l[j]? = some b ∧ c = .int .u8 b.toNat := by
  intro j r i c hj hi
  simp only [bytes, List.getElem?_map, Option.map_eq_some_iff] at hj
  obtain ⟨b, hb, rfl⟩ := hj
  cases i with
  | zero => simp at hi; exact ⟨rfl, b, hb, hi.symm⟩
  | succ i => simp at hi

theorem bytesOf_inv : ∀ {rows : List (List PC)} {l : List UInt8}, bytesOf rows = some l → ∃ xs : List Int, rows = xs.map (fun n => [PC.int .u8 n]) ∧ l = xs.map fun n => UInt8.ofNat n.toNat
  | [], l, h => by simp only [bytesOf, Option.some.injEq] at h; subst h; exact ⟨[], rfl, rfl⟩
  | [.int .u8 n] :: rows, l, h => by
    simp only [bytesOf] at h
    split at h
    · rename_i l' h'
      cases h
      obtain ⟨xs, rfl, rfl⟩ := bytesOf_inv h'
      exact ⟨n :: xs, rfl, rfl⟩
    · cases h
  | [] :: rows, l, h => by simp [bytesOf] at h
  | [.bool _] :: rows, l, h => by simp [bytesOf] at h
  | [.str _] :: rows, l, h => by simp [bytesOf] at h
  | [.sl _] :: rows, l, h => by simp [bytesOf] at h
  | [.int .i8 _] :: rows, l, h => by simp [bytesOf] at h
  | [.int .i16 _] :: rows, l, h => by simp [bytesOf] at h
  | [.int .i32 _] :: rows, l, h => by simp [bytesOf] at h
  | [.int .i64 _] :: rows, l, h => by simp [bytesOf] at h
  | [.int .u16 _] :: rows, l, h => by simp [bytesOf] at h
  | [.int .u32 _] :: rows, l, h => by simp [bytesOf] at h
  | [.int .u64 _] :: rows, l, h => by simp [bytesOf] at h
  | (_ :: _ :: _) :: rows, l, h => by simp [bytesOf] at h

theorem sound_convert (R : Rel E G s a w) {src dst : TypeId} {x : Operand} (ho : o.op = .convert src dst x) {y : AV} (hx : convE P src dst (s.eval x) = some y) (K : Post E G s o ⟨y, []⟩ a next) : o.wp P a w next Q := by
  have h1 := R.eval x
  generalize hu : a.eval x = u at h1
  unfold convE at hx
  split at hx
  · rename_i k n e
    rw [e] at h1
    cases h1.int_inv
    split at hx
    · rename_i k' hk
      split at hx
      · rename_i hs
        cases hx
        obtain ⟨d, hd⟩ := Option.isSome_iff_exists.1 hs
        exact sound_val R (v := .int k' (k'.wrap n)) (by simp [execOp, ho, hu, convert, run_underlying (tyInt_run hk), run_underlying hd, Conv.intToInt]) (.int _ _) K
      · cases hx
    · cases hx
  · rename_i l e
    rw [e] at h1
    cases h1.str_inv
    split at hx
    · rename_i ht
      split at hx
      · rename_i hs
        cases hx
        obtain ⟨d, hd⟩ := Option.isSome_iff_exists.1 hs
        rw [e] at K
        exact sound_val R (v := .string ⟨l.toArray⟩) (by simp [execOp, ho, hu, convert, run_underlying (tyStr_run ht), run_underlying hd]) (.str _) K
      · cases hx
    · split at hx
      · rename_i el hel
        split at hx
        · rename_i hc
          obtain ⟨hk, hs⟩ := hc
          cases hx
          obtain ⟨d, hd⟩ := Option.isSome_iff_exists.1 hs
          have hrun := Lib.run_convert_string_bytes (P := P) w src dst el ⟨l.toArray⟩ hd (tyElem_run hel) (tyInt_run hk)
          let f : Nat → Option Value := fun j => (l[j]?).map fun b => .int .u8 b.toNat
          have hsz : (ByteArray.mk l.toArray).size = l.length := by simp [ByteArray.size]
          obtain ⟨hle, hM⟩ := R.mem.newKnown (w' := Lib.bytesWorld w el ⟨l.toArray⟩) f (by
            intro j v hj
            simp only [f, Option.map_eq_some_iff] at hj
            obtain ⟨b, hb, rfl⟩ := hj
            have hlt : j < l.length := (List.getElem?_eq_some_iff.1 hb).1
            rw [Lib.bytesWorld_cell w el _ j (by omega)]
            simp [List.getD, hb]) (fun b hb => Lib.bytesWorld_at_old w el _ b hb) rfl rfl rfl (by rw [Lib.bytesWorld_size]; omega)
          refine wp_value (v := .slice (some ⟨w.heap.size, 0, none⟩) l.length (grownCap w (ByteArray.mk l.toArray).size 0 el)) (w' := Lib.bytesWorld w el ⟨l.toArray⟩) ?_ (K _ _ _ hle ?_ hM)
          · simp [execOp, ho, hu, hrun, hsz]
          · have hlen : (bytes l).length = l.length := by simp [bytes]
            have hcap : l.length ≤ grownCap w (ByteArray.mk l.toArray).size 0 el := by
              rw [hsz]; exact Nat.le_add_right _ _
            have := VR.of_slice (K := Know.ext G.K w.heap.size f) (z := 1) (b := w.heap.size) (off := 0) (rows := bytes l) (cap := grownCap w (ByteArray.mk l.toArray).size 0 el) ⟨bytes_rows l, fun j r hj i c hi => by
              obtain ⟨rfl, b, hb, rfl⟩ := bytes_of_string G l j r i c hj hi
              exact ⟨.int .u8 b.toNat, by simp [Know.ext, f, hb], .int _ _⟩⟩ (by omega)
            rw [hlen] at this
            exact .c _ _ this
        · cases hx
      · cases hx
  · split at hx
    · rename_i el rows hel hr
      split at hx
      · rename_i hc
        obtain ⟨ht, hk⟩ := hc
        obtain ⟨l, hl, rfl⟩ := Option.map_eq_some_iff.1 hx
        obtain ⟨xs, rfl, rfl⟩ := bytesOf_inv hl
        have hv := h1.rows hr
        rcases hv.slice_inv with ⟨h, A, cap, rfl, hA⟩ | ⟨z, b, off, cap, rfl, hcap, hs⟩
        · have : xs = [] := by simpa using h
          subst this
          cases A with
          | none =>
            have := hA rfl
            subst this
            have := run_convert_bytes_nil (P := P) w src el (tyElem_run hel) (tyInt_run hk) 0 0 dst (tyStr_run ht)
            exact sound_val R (v := .string ⟨#[]⟩) (by simp [execOp, ho, hu, this]; rfl) (.str []) K
          | some a0 =>
            have := run_convert_bytes_back (P := P) w src dst el a0 cap [] (tyElem_run hel) (tyInt_run hk) (tyStr_run ht) (fun j hj => by simp at hj)
            have this' : (convert src dst (.slice (some a0) 0 cap)).run P w = .ok (.string ⟨#[]⟩) w := by simpa using this
            exact sound_val R (v := .string ⟨#[]⟩) (by simp [execOp, ho, hu, this']) (.str []) K
        · have hcell : ∀ i, i < xs.length → w.cell? ⟨b, off + i, none⟩ = some (.int .u8 (xs.getD i 0)) := by
            intro i hi
            have hz : z = 1 := by
              cases xs with
              | nil => simp at hi
              | cons x xs => exact (hs.1 [PC.int .u8 x] (by simp)).symm
            subst hz
            obtain ⟨v, h1, h2⟩ := hs.2 i [PC.int .u8 xs[i]] (by simp [hi]) 0 _ rfl
            cases h2
            have := R.mem.agree _ _ _ h1
            simpa [hi] using this
          have := run_convert_bytes_arg (P := P) w src el (tyElem_run hel) (tyInt_run hk) b off xs.length cap xs rfl hcell dst (tyStr_run ht)
          refine sound_val R (v := .string (strOfNums xs)) (by simp [execOp, ho, hu, this]) ?_ K
          exact .str _
      · cases hx
    · cases hx

theorem freeze1 (w : World) (b n : Nat) {vs : Array Value} {ty : TypeId} {p : Nat × Nat} (h : w.heap[b]? = some (.cells vs ty p)) (hp : FrOK vs.size p) (hn : n = vs.size) :
    (w.freeze ⟨b, n, none⟩ 1).heap[b]? = some (.cells vs ty (n, n + 1)) ∧ (∀ k, k ≠ b → (w.freeze ⟨b, n, none⟩ 1).heap[k]? = w.heap[k]?) ∧ (w.freeze ⟨b, n, none⟩ 1).os = w.os ∧ (w.freeze ⟨b, n, none⟩ 1).tape = w.tape ∧ (w.freeze ⟨b, n, none⟩ 1).output = w.output ∧ (w.freeze ⟨b, n, none⟩ 1).heap.size = w.heap.size := by
  subst hn
  unfold World.freeze
  rw [if_neg (by decide)]
  have hlt : b < w.heap.size := (Array.getElem?_eq_some_iff.1 h).1
  have hv : w.heap[b] = .cells vs ty p := (Array.getElem?_eq_some_iff.1 h).2
  refine ⟨?_, fun k hk => ?_, rfl, rfl, rfl, by simp⟩
  · show (w.heap.modify b _)[b]? = _
    rw [Array.getElem?_eq_getElem (by simpa using hlt), Array.getElem_modify, if_pos rfl, hv]
    rcases hp with rfl | rfl
    · simp
    · simp
  · show (w.heap.modify b _)[k]? = _
    rcases Nat.lt_or_ge k w.heap.size with h1 | h1
    · rw [Array.getElem?_eq_getElem (by simpa using h1), Array.getElem_modify, if_neg (Ne.symm hk), Array.getElem?_eq_getElem h1]
    · rw [Array.getElem?_eq_none (by simpa using h1), Array.getElem?_eq_none h1]

/-- A row of octets, converted to its own type. -/
theorem sound_convSame (R : Rel E G s a w) {t el : TypeId} {x : Operand} (ho : o.op = .convert t t x) {r z : Nat} {rows : List (List PC)} (hx : s.eval x = .own r z rows) (hel : tyElem P t = some el) (hk : tyInt P el = some .u8) (h0 : 0 < rows.length)
    (hm : s.mem r = some (.row z rows.length)) (K : Post E G s o ⟨.own r z rows, [(r, .row z rows.length)]⟩ a next) : o.wp P a w next Q := by
  have h1 := R.eval x
  rw [hx] at h1
  generalize hu : a.eval x = u at h1
  have h1' := h1
  cases h1 with
  | own _ _ _ _ bk fr hh hl hr hv ha =>
  have hhome := R.mem.home r
  rw [hm, hh] at hhome
  obtain ⟨_, hfr, hrow⟩ := hhome
  have hu' := ha hfr
  cases bk with
  | none =>
    have : rows.length = 0 := hrow
    omega
  | some p =>
    obtain ⟨b, cap⟩ := p
    obtain ⟨vs, ty, ⟨q, q1, qf⟩, q2, q3, q4, q5, q6⟩ := hrow
    have hu2 : u = .slice (some ⟨b, 0, none⟩) rows.length cap := hu'
    subst hu2
    obtain ⟨f1, f2, f3, f4, f5, f6⟩ := freeze1 w b vs.size q1 qf rfl
    have hrun : (execOp a.eval o).run P w = .ok (.value (.slice (some ⟨b, 0, none⟩) rows.length cap)) (w.freeze ⟨b, vs.size, none⟩ 1) := by
      have hsh : w.shape? b = some (ty, vs.size) := by unfold World.shape?; rw [q1]
      simp [execOp, ho, hu, convert, run_underlying (tyElem_run hel), run_underlying (tyInt_run hk), markStringish, hsh]
    have hc : ∀ b' o', (w.freeze ⟨b, vs.size, none⟩ 1).cell? ⟨b', o', none⟩ = w.cell? ⟨b', o', none⟩ := by
      intro b' o'
      by_cases e : b' = b
      · subst e; simp only [World.cell?, f1, q1]
      · simp only [World.cell?, f2 b' e]
    refine wp_value hrun (K G _ _ (Gh.le_refl G) h1' ?_)
    refine (R.mem.update (w' := w.freeze ⟨b, vs.size, none⟩ 1) (Gh.le_refl G) r (.row z rows.length) (.row z (some (b, cap)) fr) ?_ (fun _ _ => rfl) hh ?_ ?_ f3 f4 f5 (by rw [f6]; exact Nat.le_refl _) ?_ (fun _ _ _ _ => rfl)).congr (AS.mem_wr1 s r _)
    · intro b' o' v hk'
      rw [hc]; exact R.mem.agree b' o' v hk'
    · exact ⟨rfl, hfr, vs, ty, ⟨_, f1, .inr rfl⟩, q2, q3, q4, q5, q6⟩
    · intro i x' b' hi e1 e2
      have hne : b' ≠ b := fun e => hi (R.mem.inj i r x' _ b' e1 hh e2 (by rw [e]; rfl))
      exact ⟨f2 b' hne, fun _ => rfl, fun e => hne (by simpa [Home.blk] using e.symm)⟩
    · intro k hk' hx'
      refine f2 k fun e => ?_
      subst e
      rcases q5 with h | h
      · omega
      · exact hx' h

end

section
variable {P : Program} {E : Env} {G : Gh} {s : AS} {a : Act} {w : World} {o : Oper} {next : Act → World → Prop} {Q : Exit → Act → World → Prop}

theorem PC.one {K : Know} {c : PC} {v : Value} (h : VR K c v) : v.oneCell' = true := h.one

/-- A row's cells, one behind the other. -/
theorem flat_rows {K : Know} {z : Nat} : ∀ {rows : List (List PC)} {us : List Value}, (∀ r ∈ rows, r.length = z) → us.length = rows.length * z →
    (∀ (j : Nat) (r : List PC) (i : Nat) (c : PC), rows[j]? = some r → r[i]? = some c → ∃ v, us[j * z + i]? = some v ∧ VR K c v) → 0 < z → ∀ u ∈ us, ∃ c, VR K c u := by
  intro rows us hz hl h h0 u hu
  obtain ⟨k, hk⟩ := List.mem_iff_getElem?.1 hu
  have hkl : k < us.length := (List.getElem?_eq_some_iff.1 hk).1
  have hj : k / z < rows.length := by rw [Nat.div_lt_iff_lt_mul h0]; omega
  have hi : k % z < z := Nat.mod_lt _ h0
  have hrz : rows[k / z].length = z := hz _ (List.getElem_mem hj)
  obtain ⟨v, h1, h2⟩ := h (k / z) rows[k / z] (k % z) (rows[k / z]'hj)[k % z] (by simp [hj]) (by simp)
  have e : k / z * z + k % z = k := by rw [Nat.mul_comm]; exact Nat.div_add_mod k z
  rw [e, hk] at h1
  cases h1
  exact ⟨_, h2⟩

/-- What append adds, read in whatever world holds what is known. -/
theorem added_run {t : TypeId} {x : AV} {v : Value} {ys : List (List PC)} {z : Nat} (hx : AR G x v) (h : addedE P t x = some ys) (hz : rowsOK z ys) (h0 : 0 < z) (hstr : ∀ str, x = .c (.str str) → z = 1) :
    (P.underlying t = some .string ∨ ∃ e, P.underlying t = some (.slice e)) ∧ (∀ w : World, (Builtin.lenOf v).run P w = .ok ys.length w) ∧
    ∃ news : List Value, news.length = ys.length * z ∧ (∀ (j : Nat) (r : List PC) (i : Nat) (c : PC), ys[j]? = some r → r[i]? = some c → ∃ u, news[j * z + i]? = some u ∧ VR G.K c u) ∧
      ∀ w : World, (∀ b o v, G.K b o = some v → w.cell? ⟨b, o, none⟩ = some v) → (Builtin.firstCells z ys.length v).run P w = .ok news.toArray w := by
  unfold addedE at h
  split at h
  · rename_i str
    have hz1 : z = 1 := hstr str rfl
    subst hz1
    cases hx.str_inv
    split at h
    · rename_i ht
      cases h
      refine ⟨.inl (tyStr_run ht), fun w => by simp [Builtin.lenOf, bytes, ByteArray.size], str.map (fun b => Value.int .u8 b.toNat), by simp [bytes], ?_, ?_⟩
      · intro j r i c hj hi
        obtain ⟨rfl, b, hb, rfl⟩ := bytes_of_string G str j r i c hj hi
        exact ⟨.int .u8 b.toNat, by simp [hb], .int _ _⟩
      · intro w _
        have e : (ByteArray.mk str.toArray).extract 0 (bytes str).length = ByteArray.mk str.toArray := by
          have := str_extract str 0 (bytes str).length (Nat.zero_le _) (by simp [bytes])
          rw [this]; simp [bytes]
        simp [Builtin.firstCells, e]
    · cases h
  · split at h
    · rename_i e he
      have hv := hx.rows h
      refine ⟨.inr ⟨e, tyElem_run he⟩, ?_, ?_⟩
      · intro w
        rcases hv.slice_inv with ⟨rfl, _, _, rfl, _⟩ | ⟨_, _, _, _, rfl, _⟩ <;> simp [Builtin.lenOf]
      · rcases hv.slice_inv with ⟨rfl, A, cap, rfl, hA⟩ | ⟨z', b, off, cap, rfl, hc, hs⟩
        · cases A with
          | none => exact ⟨[], by simp, by simp, fun w _ => by simp [Builtin.firstCells, hA rfl]⟩
          | some a0 =>
            refine ⟨[], by simp, by simp, fun w _ => ?_⟩
            exact run_firstCells_some (P := P) w z 0 _ _ _ [] (by simp) (by simp)
        · cases hys : ys with
          | nil =>
            refine ⟨[], by simp, by simp, fun w _ => ?_⟩
            exact run_firstCells_some (P := P) w z 0 _ _ _ [] (by simp) (by simp)
          | cons r0 rs =>
            rw [← hys]
            have hz' : z' = z := by
              rw [← hs.1 r0 (by simp [hys])]; exact hz r0 (by simp [hys])
            subst hz'
            let news : List Value := (List.range (ys.length * z')).map fun k => (G.K b (off + k)).getD (.bool false)
            have hnews : ∀ (j : Nat) (r : List PC) (i : Nat) (c : PC), ys[j]? = some r → r[i]? = some c → ∃ u, news[j * z' + i]? = some u ∧ VR G.K c u ∧ G.K b (off + (j * z' + i)) = some u := by
              intro j r i c hj hi
              obtain ⟨u, h1, h2⟩ := hs.2 j r hj i c hi
              have hjl : j < ys.length := (List.getElem?_eq_some_iff.1 hj).1
              have hil : i < z' := by
                have := (List.getElem?_eq_some_iff.1 hi).1
                rw [hz r (List.mem_of_getElem? hj)] at this; exact this
              have hlt : j * z' + i < ys.length * z' := by
                have h3 : j * z' + z' ≤ ys.length * z' := by rw [← Nat.succ_mul]; exact Nat.mul_le_mul_right z' hjl
                omega
              rw [Nat.add_assoc] at h1
              exact ⟨u, by simp [news, hlt, h1], h2, h1⟩
            refine ⟨news, by simp [news], fun j r i c hj hi => let ⟨u, h1, h2, _⟩ := hnews j r i c hj hi; ⟨u, h1, h2⟩, fun w hw => ?_⟩
            refine run_firstCells_some (P := P) w z' ys.length _ _ _ news (by simp [news]) ?_
            intro k u hk
            have hkl : k < ys.length * z' := by have := (List.getElem?_eq_some_iff.1 hk).1; simpa [news] using this
            have hj : k / z' < ys.length := by rw [Nat.div_lt_iff_lt_mul h0]; omega
            have hi : k % z' < z' := Nat.mod_lt _ h0
            have hrz : ys[k / z'].length = z' := hz _ (List.getElem_mem hj)
            obtain ⟨u', h1, _, h3⟩ := hnews (k / z') ys[k / z'] (k % z') (ys[k / z']'hj)[k % z'] (by simp [hj]) (by simp)
            have e : k / z' * z' + k % z' = k := by rw [Nat.mul_comm]; exact Nat.div_add_mod k z'
            rw [e] at h1 h3
            rw [hk] at h1
            cases h1
            rw [add_at]
            exact hw _ _ _ h3
    · cases h


theorem seg_rows {K : Know} {z : Nat} {rows ys : List (List PC)} {A B C : List Value} (hA : A.length = rows.length * z) (hz : ∀ r ∈ rows, r.length = z) (hzy : ∀ r ∈ ys, r.length = z)
    (h1 : ∀ (j : Nat) (r : List PC) (i : Nat) (c : PC), rows[j]? = some r → r[i]? = some c → ∃ v, A[j * z + i]? = some v ∧ VR K c v)
    (h2 : ∀ (j : Nat) (r : List PC) (i : Nat) (c : PC), ys[j]? = some r → r[i]? = some c → ∃ v, B[j * z + i]? = some v ∧ VR K c v) :
    ∀ (j : Nat) (r : List PC) (i : Nat) (c : PC), (rows ++ ys)[j]? = some r → r[i]? = some c → ∃ v, (A ++ B ++ C)[j * z + i]? = some v ∧ VR K c v := by
  intro j r i c hj hi
  rcases Nat.lt_or_ge j rows.length with h | h
  · rw [List.getElem?_append_left h] at hj
    obtain ⟨v, e, hv⟩ := h1 j r i c hj hi
    have := (List.getElem?_eq_some_iff.1 e).1
    exact ⟨v, by rw [List.append_assoc, List.getElem?_append_left this]; exact e, hv⟩
  · rw [List.getElem?_append_right h] at hj
    obtain ⟨v, e, hv⟩ := h2 _ r i c hj hi
    have hlt := (List.getElem?_eq_some_iff.1 e).1
    have e2 : j * z + i - A.length = (j - rows.length) * z + i := by
      rw [hA, Nat.sub_mul]
      have : rows.length * z ≤ j * z := Nat.mul_le_mul_right z h
      omega
    have hge : A.length ≤ j * z + i := by
      rw [hA]
      have : rows.length * z ≤ j * z := Nat.mul_le_mul_right z h
      omega
    exact ⟨v, by rw [List.append_assoc, List.getElem?_append_right hge, e2, List.getElem?_append_left hlt]; exact e, hv⟩

theorem heap_push_old (w : World) (d : Nat) (c : Obj) (b : Nat) (hb : b < w.heap.size) : ({ w with heap := w.heap.push c, drawn := d } : World).heap[b]? = w.heap[b]? := by
  show (w.heap.push _)[b]? = _
  rw [Array.getElem?_push, if_neg (by omega)]

/-- Growing: the run. -/
theorem grow_run {st xt ty e : TypeId} {i : TypeInfo} {zv : Value} {z by_ n m cap : Nat} {A : Option Addr} {x : Value} {olds news : List Value}
    (ht : P.underlying st = some (.slice e)) (hx : P.underlying xt = some .string ∨ ∃ e, P.underlying xt = some (.slice e)) (hi : P.info? e = some i) (hz : i.size = z) (hb : i.bytes = by_) (hzero : i.zero = some zv)
    (hb0 : 0 < by_) (hlen : ∀ w : World, (Builtin.lenOf x).run P w = .ok m w) (hgrow : cap < n + m) (hfit : (n + m) * by_ ≤ 140737488355328)
    (hold : (Builtin.firstCells z n (.slice A n cap)).run P w.drew = .ok olds.toArray w.drew) (hnew : (Builtin.firstCells z m x).run P w.drew = .ok news.toArray w.drew) :
    (Builtin.append_ #[st, xt] ty #[.slice A n cap, x]).run P w =
      .ok (.slice (some ⟨w.heap.size, 0, none⟩) (n + m) (grownCap w (n + m) cap e)) (w.drew.alloc (.cells (olds.toArray ++ news.toArray ++ Builtin.zeroCells zv.cells (grownCap w (n + m) cap e - (n + m))) e)) := by
  have h1 : ¬ (n + m ≤ cap) := by omega
  have h2 : ¬ (Builtin.nextslicecap (n + m) cap * by_ > 281474976710656) := by have := growslice_fits hgrow hfit; omega
  have h3 : by_ ≠ 0 := by omega
  rcases hx with hx | ⟨e', hx⟩
  all_goals
    simp [Builtin.append_, run_underlying ht, run_underlying hx, sizeOf, typeInfo, hi, hz, hb, hlen, h1, h2, h3, Question.forced, newRow, zeroValue, hzero]
    have hc : (Question.appendCap (n + m) cap e).cut (w.tape w.drawn (.appendCap (n + m) cap e)) = grownCap w (n + m) cap e := rfl
    simp [hold, hnew, hc]
    congr 2
    rw [← Array.append_assoc]
    simp


theorem storeCells_fr (P : Program) (g o : Nat) (t : TypeId) (p : Nat × Nat) (n : Nat) (hp : FrOK n p) : ∀ (vs : List Value) (i : Nat) (cur : Array Value) (w : World), cur.size = n → w.heap[g]? = some (.cells cur t p) → o + i + vs.length ≤ cur.size → (∀ v ∈ vs, v.oneCell' = true) →
    (storeCells ⟨g, o, none⟩ vs i).run P w = .ok () (w.setRow g (cur.toList.take (o + i) ++ vs ++ cur.toList.drop (o + i + vs.length)).toArray)
  | [], i, cur, w, hn, hg, _, _ => by
    simp only [storeCells, List.append_nil, List.length_nil, Nat.add_zero, List.take_append_drop, Array.toArray_toList]
    rw [setRow_self w g cur t p hg]
    rfl
  | v :: rest, i, cur, w, hn, hg, hl, h1 => by
    have hi : o + i < cur.size := by simp at hl; omega
    have hadd : (⟨g, o, none⟩ : Addr).add i = ⟨g, o + i, none⟩ := by unfold Addr.add; split <;> simp_all
    have hcell : w.cell? ⟨g, o + i, none⟩ = some cur[o + i] := by simp [World.cell?, hg, hi]
    have hfro : w.frozen? ⟨g, o + i, none⟩ = false := by
      rcases hp with rfl | rfl
      · simp [World.frozen?, hg]
      · simp only [World.frozen?, hg, Bool.and_eq_false_iff, decide_eq_false_iff_not]
        left; omega
    have hst : (store ((⟨g, o, none⟩ : Addr).add i) v).run P w = .ok () (w.setRow g (cur.setIfInBounds (o + i) v)) := by
      rw [hadd, run_store P w _ v _ (h1 v (by simp)), hcell]
      simp [hfro, setCell_eq_setRow w g (o + i) cur t p v hg]
    have ih := storeCells_fr P g o t p n hp rest (i + 1) (cur.setIfInBounds (o + i) v) (w.setRow g (cur.setIfInBounds (o + i) v)) (by simpa using hn) (setRow_heap w g cur _ t _ hg) (by simp at hl ⊢; omega) (fun x hx => h1 x (by simp [hx]))
    simp only [storeCells, Sem.run_bind, hst, Result.andThen_ok, ih, setRow_setRow]
    congr 3
    have e := list_seg_step cur.toList (o + i) v rest (by simp at hl ⊢; omega)
    simpa [Array.toList_setIfInBounds, Nat.add_assoc] using e

theorem room_run {pq : Nat × Nat} {st xt ty e et : TypeId} {i : TypeInfo} {z n m cap b : Nat} {x : Value} {news : List Value} {cur : Array Value}
    (ht : P.underlying st = some (.slice e)) (hx : P.underlying xt = some .string ∨ ∃ e, P.underlying xt = some (.slice e)) (hi : P.info? e = some i) (hz : i.size = z)
    (hlen : ∀ w : World, (Builtin.lenOf x).run P w = .ok m w) (hroom : n + m ≤ cap) (hsz : cur.size = cap * z) (hnl : news.length = m * z)
    (hcur : w.heap[b]? = some (.cells cur et pq)) (hfz : FrOK cur.size pq) (hone : ∀ u ∈ news, u.oneCell' = true)
    (hnew : (Builtin.firstCells z m x).run P w = .ok news.toArray w) :
    (Builtin.append_ #[st, xt] ty #[.slice (some ⟨b, 0, none⟩) n cap, x]).run P w =
      .ok (.slice (some ⟨b, 0, none⟩) (n + m) cap) (w.setRow b (cur.toList.take (n * z) ++ news ++ cur.toList.drop (n * z + news.length)).toArray) := by
  have hfit : n * z + news.length ≤ cur.size := by rw [hnl, hsz, ← Nat.add_mul]; exact Nat.mul_le_mul_right z hroom
  have hst := storeCells_fr P b (n * z) et pq cur.size hfz news 0 cur w rfl hcur (by simpa using hfit) hone
  simp only [Nat.add_zero] at hst
  rcases hx with hx | ⟨e', hx⟩
  all_goals
    simp [Builtin.append_, run_underlying ht, run_underlying hx, sizeOf, typeInfo, hi, hz, hlen, hroom, hnew, add_at, hst]

theorem sound_append (R : Rel E G s a w) {st xt : TypeId} {x y : AV} {u v : Value} {d : Nat} {ty : TypeId} (hux : AR G x u) (hvy : AR G y v)
    (hexec : ∀ {r w'}, (Builtin.append_ #[st, xt] ty #[u, v]).run P w = .ok r w' → (execOp a.eval o).run P w = .ok (.value r) w')
    {e : Eff} {l : List Nat} (h : (appendE P d st xt x y).run s.mem = some (e, l)) (K : Post E G s o e a next) : o.wp P a w next Q := by
  unfold appendE at h
  split at h
  · rename_i el ys hel hys
    split at h
    · rename_i z by_ zero hz hby hzero
      split at h
      · rename_i hc
        obtain ⟨c0, cb0, czl, crows, cstr⟩ := hc
        obtain ⟨i, zv, hi, hzv, hzl, _⟩ := zero_rel G hzero
        have hisz : i.size = z := by obtain ⟨i', h1, h2⟩ := tySize_info hz; rw [hi] at h1; cases h1; exact h2
        have hiby : i.bytes = by_ := by obtain ⟨i', h1, h2⟩ := tyBytes_info hby; rw [hi] at h1; cases h1; exact h2
        have hzcs : zv.cells.size = z := by omega
        obtain ⟨hxt, hlen, news, hnl, hnv, hnrun⟩ := added_run (P := P) hvy hys crows c0 (fun str e => by subst e; simpa [strz] using cstr)
        have hnewsone : ∀ u ∈ news, u.oneCell' = true := fun u hu => by
          obtain ⟨c, hc⟩ := flat_rows (K := G.K) crows hnl hnv c0 u hu
          exact PC.one hc
        have hst := tyElem_run hel
        have agd : ∀ b o v, G.K b o = some v → w.drew.cell? ⟨b, o, none⟩ = some v := R.mem.agree
        -- growing out of nothing
        have fromNil : ∀ (nm : Nat), u = .slice none 0 0 → (0 < ys.length → ys.length * by_ ≤ 140737488355328) →
            (0 < ys.length → (execOp a.eval o).run P w = .ok (.value (.slice (some ⟨w.heap.size, 0, none⟩) ys.length (grownCap w ys.length 0 el))) (w.drew.alloc (.cells (news.toArray ++ Builtin.zeroCells zv.cells (grownCap w ys.length 0 el - ys.length)) el))) ∧
            (ys = [] → (execOp a.eval o).run P w = .ok (.value (.slice none 0 0)) w) := by
          intro nm hu hfit
          subst hu
          refine ⟨fun hp => hexec ?_, fun h0 => hexec ?_⟩
          · have := grow_run (P := P) (w := w) (ty := ty) (A := none) (n := 0) (m := ys.length) (cap := 0) (olds := []) (news := news) (x := v) hst hxt hi hisz hiby hzv cb0 hlen (by omega) (by simpa using hfit hp) (by simp [Builtin.firstCells]) (hnrun _ agd)
            simpa using this
          · subst h0
            have h1 := hlen w
            rcases hxt with hx | ⟨e', hx⟩ <;> simp [Builtin.append_, run_underlying hst, run_underlying hx, sizeOf, typeInfo, hi, h1, hnrun w R.mem.agree]
            all_goals (have := hnrun w R.mem.agree; simp [hisz] at this ⊢; simp [this])
        have hnilcap : ys.length ≤ grownCap w ys.length 0 el := grownCap_ge w _ _ _
        split at h
        · -- nil
          cases hux
          split at h
          · rename_i hfit
            unfold newRowE at h
            obtain ⟨l', h, _⟩ := EP.ask_inv h
            split at h
            · rename_i hm
              obtain ⟨rfl, _⟩ := EP.ret_inv h
              obtain ⟨f1, f2⟩ := fromNil 0 rfl (fun _ => hfit)
              rcases Nat.eq_zero_or_pos ys.length with h0 | hp
              · have h0' : ys = [] := List.length_eq_zero_iff.1 h0
                subst h0'
                obtain ⟨G', g1, g2, g3⟩ := R.mem.nilRow hm z
                exact wp_value (f2 rfl) (K G' _ _ g1 g2 (g3.congr (AS.mem_wr1 s _ _)))
              · obtain ⟨G', g1, g2, g3⟩ := R.mem.newRow (w' := w.drew.alloc (.cells (news.toArray ++ Builtin.zeroCells zv.cells (grownCap w ys.length 0 el - ys.length)) el)) hm (z := z) (cap := grownCap w ys.length 0 el) (rows := ys)
                  (vs := news.toArray ++ Builtin.zeroCells zv.cells (grownCap w ys.length 0 el - ys.length)) (ty := el) c0 crows hnilcap
                  (by simp only [Array.size_append, List.size_toArray, size_zeroCells, hzcs, hnl, ← Nat.add_mul]; congr 1; omega)
                  (by show (w.heap.push _)[w.heap.size]? = _; simp)
                  (fun j r i c hj hi => by
                    obtain ⟨q, q1, q2⟩ := hnv j r i c hj hi
                    have hlt := (List.getElem?_eq_some_iff.1 q1).1
                    exact ⟨q, by rw [Array.getElem?_append_left (by simpa using hlt)]; simpa using q1, q2⟩)
                  (fun b hb => heap_push_old w _ _ b hb) rfl rfl rfl (by show _ ≤ (w.heap.push _).size; simp)
                exact wp_value (f1 hp) (K G' _ _ g1 g2 (g3.congr (AS.mem_wr1 s _ _)))
            · exact EP.fail_inv h
          · exact EP.fail_inv h
        · rename_i r z' rows
          split at h
          · rename_i hc2
            obtain ⟨rfl, hfit⟩ := hc2
            obtain ⟨l', h, _⟩ := EP.ask_inv h
            split at h
            · rename_i z2 fr hm
              split at h
              · rename_i hfr
                subst hfr
                obtain ⟨rfl, _⟩ := EP.ret_inv h
                cases hux with
                | own _ _ _ _ bk fr hh hl hr hv ha =>
                have h0 := R.mem.home r
                rw [hm, hh] at h0
                obtain ⟨hz2, hfr, h0⟩ := h0
                subst hz2
                subst hfr
                have hu := ha rfl
                have hrows : ∀ x ∈ rows ++ ys, x.length = z2 := fun x hx => by
                  rcases List.mem_append.1 hx with h | h
                  · exact hr x h
                  · exact crows x h
                have hm' : s.mem r = some (.row z2 rows.length) := hm
                cases bk with
                | none =>
                  have hr0 : rows = [] := List.length_eq_zero_iff.1 h0
                  subst hr0
                  obtain ⟨f1, f2⟩ := fromNil 0 hu (fun _ => by simpa using hfit)
                  rcases Nat.eq_zero_or_pos ys.length with hy0 | hp
                  · have h0' : ys = [] := List.length_eq_zero_iff.1 hy0
                    subst h0'
                    refine wp_value (f2 rfl) (K G _ _ (Gh.le_refl G) ?_ (R.mem.congr fun i => ?_))
                    · rw [hu] at *
                      exact .own r z2 [] _ none 0 hh (Nat.le_refl _) (by simp) .nil (fun _ => rfl)
                    · rw [AS.mem_wr1]
                      unfold mset
                      split
                      · rename_i e; subst e; rw [hm']; rfl
                      · rfl
                  · obtain ⟨G', g1, g2, g3⟩ := R.mem.turnRow (w' := w.drew.alloc (.cells (news.toArray ++ Builtin.zeroCells zv.cells (grownCap w ys.length 0 el - ys.length)) el)) (rows := []) (ys := ys) (b' := w.heap.size) (cap' := grownCap w ys.length 0 el)
                      (vs' := news.toArray ++ Builtin.zeroCells zv.cells (grownCap w ys.length 0 el - ys.length)) (ty := el) hm' hh (.inr ⟨rfl, hp⟩) c0 hrows (by simpa using hnilcap)
                      (by simp only [Array.size_append, List.size_toArray, size_zeroCells, hzcs, hnl, ← Nat.add_mul]; congr 1; omega)
                      ⟨(0, 0), by show (w.heap.push _)[w.heap.size]? = _; simp, .inl rfl⟩
                      (fun j r i c hj hi => by
                        obtain ⟨q, q1, q2⟩ := hnv j r i c (by simpa using hj) hi
                        have hlt := (List.getElem?_eq_some_iff.1 q1).1
                        exact ⟨q, by rw [Array.getElem?_append_left (by simpa using hlt)]; simpa using q1, q2⟩)
                      (fun o v hv => by rw [R.mem.k_new (Nat.le_refl _)] at hv; cases hv)
                      (fun b _ hb => heap_push_old w _ _ b hb) rfl rfl rfl (by show _ ≤ (w.heap.push _).size; simp)
                    refine wp_value (f1 hp) (K G' _ _ g1 (by simpa using g2) (g3.congr fun i => ?_))
                    rw [AS.mem_wr1]; simp
                | some p =>
                  obtain ⟨b, cap⟩ := p
                  obtain ⟨cur, et, ⟨pq, q1, qf⟩, q2, q3, q4, q5, q6⟩ := h0
                  have hu' : u = .slice (some ⟨b, 0, none⟩) rows.length cap := hu
                  subst hu'
                  have holdcells : ∀ (j : Nat) (r : List PC) (i : Nat) (c : PC), rows[j]? = some r → r[i]? = some c → ∃ v, cur[j * z2 + i]? = some v ∧ VR G.K c v ∧ j * z2 + i < rows.length * z2 := by
                    intro j r i c hj hi
                    rcases hv.slice_inv with ⟨h, _⟩ | ⟨z3, b3, off3, cap3, he3, _, hs3⟩
                    · subst h; simp at hj
                    · cases he3
                      have hz3 : z3 = z2 := by rw [← hs3.1 r (List.mem_of_getElem? hj)]; exact hr r (List.mem_of_getElem? hj)
                      subst hz3
                      obtain ⟨v, h1, h2⟩ := hs3.2 j r hj i c hi
                      have := R.mem.agree _ _ _ h1
                      simp only [World.cell?, q1, Nat.zero_add] at this
                      have hjl : j < rows.length := (List.getElem?_eq_some_iff.1 hj).1
                      have hil : i < z3 := by
                        have := (List.getElem?_eq_some_iff.1 hi).1
                        rw [hr r (List.mem_of_getElem? hj)] at this; exact this
                      have h3 : j * z3 + z3 ≤ rows.length * z3 := by rw [← Nat.succ_mul]; exact Nat.mul_le_mul_right z3 hjl
                      exact ⟨v, by simpa using this, h2, by omega⟩
                  have hkeepK : ∀ o v, G.K b o = some v → o < rows.length * z2 ∧ cur[o]? = some v := by
                    intro o v hk
                    have h1 := R.mem.agree _ _ _ hk
                    simp only [World.cell?, q1] at h1
                    refine ⟨?_, by simpa using h1⟩
                    rcases Nat.lt_or_ge o (rows.length * z2) with h | h
                    · exact h
                    · rw [q6 o h] at hk; cases hk
                  have hcurl : rows.length * z2 ≤ cur.size := by rw [q2]; exact Nat.mul_le_mul_right z2 q3
                  by_cases hroom : rows.length + ys.length ≤ cap
                  · have hrun := hexec (room_run (P := P) (w := w) (ty := ty) hst hxt hi hisz hlen hroom q2 hnl q1 qf hnewsone (hnrun w R.mem.agree))
                    have hcl : (cur.toList.take (rows.length * z2)).length = rows.length * z2 := by simp; omega
                    obtain ⟨G', g1, g2, g3⟩ := R.mem.turnRow (w' := w.setRow b (cur.toList.take (rows.length * z2) ++ news ++ cur.toList.drop (rows.length * z2 + news.length)).toArray) (rows := rows) (ys := ys) (b' := b) (cap' := cap)
                      (vs' := (cur.toList.take (rows.length * z2) ++ news ++ cur.toList.drop (rows.length * z2 + news.length)).toArray) (ty := et) hm' hh (.inl rfl) c0 hrows (by simpa using hroom)
                      (by simp [hnl]; rw [← q2]; have : rows.length * z2 + ys.length * z2 ≤ cur.size := by rw [q2, ← Nat.add_mul]; exact Nat.mul_le_mul_right z2 hroom
                          omega)
                      ⟨pq, setRow_heap w b cur _ et _ q1, by
                        have : (cur.toList.take (rows.length * z2) ++ news ++ cur.toList.drop (rows.length * z2 + news.length)).toArray.size = cur.size := by
                          have : rows.length * z2 + ys.length * z2 ≤ cur.size := by rw [q2, ← Nat.add_mul]; exact Nat.mul_le_mul_right z2 hroom
                          simp [hnl]; omega
                        rw [this]; exact qf⟩
                      (fun j r i c hj hi => by
                        have := seg_rows (K := G.K) (C := cur.toList.drop (rows.length * z2 + news.length)) hcl hr crows (fun j r i c hj hi => by
                          obtain ⟨v, h1, h2, h3⟩ := holdcells j r i c hj hi
                          exact ⟨v, by rw [List.getElem?_take, if_pos h3]; simpa using h1, h2⟩) hnv j r i c hj hi
                        simpa using this)
                      (fun o v hk => by
                        obtain ⟨h1, h2⟩ := hkeepK o v hk
                        simp only [List.getElem?_toArray]
                        rw [List.append_assoc, List.getElem?_append_left (by omega), List.getElem?_take, if_pos h1]
                        simpa using h2)
                      (fun k hk _ => setRow_other w b k _ hk) rfl rfl rfl (by simp [World.setRow])
                    refine wp_value hrun (K G' _ _ g1 (by simpa using g2) (g3.congr fun i => ?_))
                    rw [AS.mem_wr1]; simp
                  · have hgrow : cap < rows.length + ys.length := by omega
                    have hp : 0 < ys.length := by omega
                    have hold : (Builtin.firstCells z2 rows.length (.slice (some ⟨b, 0, none⟩) rows.length cap)).run P w.drew = .ok (cur.toList.take (rows.length * z2)).toArray w.drew := by
                      refine run_firstCells_some (P := P) w.drew z2 rows.length _ _ _ _ (by simp; omega) ?_
                      intro j v hj
                      rw [List.getElem?_take] at hj
                      split at hj
                      · rw [add_at]
                        simp only [World.cell?, Nat.zero_add]
                        have : w.drew.heap[b]? = some (.cells cur et pq) := q1
                        rw [this]; simpa using hj
                      · cases hj
                    have hrun := hexec (grow_run (P := P) (w := w) (ty := ty) (n := rows.length) (m := ys.length) hst hxt hi hisz hiby hzv cb0 hlen hgrow hfit hold (hnrun _ agd))
                    have hcl : (cur.toList.take (rows.length * z2)).length = rows.length * z2 := by simp; omega
                    obtain ⟨G', g1, g2, g3⟩ := R.mem.turnRow (w' := w.drew.alloc (.cells ((cur.toList.take (rows.length * z2)).toArray ++ news.toArray ++ Builtin.zeroCells zv.cells (grownCap w (rows.length + ys.length) cap el - (rows.length + ys.length))) el)) (rows := rows) (ys := ys) (b' := w.heap.size) (cap' := grownCap w (rows.length + ys.length) cap el)
                      (vs' := (cur.toList.take (rows.length * z2)).toArray ++ news.toArray ++ Builtin.zeroCells zv.cells (grownCap w (rows.length + ys.length) cap el - (rows.length + ys.length))) (ty := el) hm' hh (.inr ⟨rfl, hp⟩) c0 hrows
                      (by simpa using grownCap_ge w (rows.length + ys.length) cap el)
                      (by have hge := grownCap_ge w (rows.length + ys.length) cap el
                          simp only [Array.size_append, List.size_toArray, size_zeroCells, hzcs, hnl, hcl, ← Nat.add_mul]; congr 1; omega)
                      ⟨(0, 0), by show (w.heap.push _)[w.heap.size]? = _; simp, .inl rfl⟩
                      (fun j r i c hj hi => by
                        have := seg_rows (K := G.K) (C := (Builtin.zeroCells zv.cells (grownCap w (rows.length + ys.length) cap el - (rows.length + ys.length))).toList) hcl hr crows (fun j r i c hj hi => by
                          obtain ⟨v, h1, h2, h3⟩ := holdcells j r i c hj hi
                          exact ⟨v, by rw [List.getElem?_take, if_pos h3]; simpa using h1, h2⟩) hnv j r i c hj hi
                        obtain ⟨v, h1, h2⟩ := this
                        refine ⟨v, ?_, h2⟩
                        rw [← h1, ← Array.getElem?_toList]
                        congr 1
                        simp)
                      (fun o v hv => by rw [R.mem.k_new (Nat.le_refl _)] at hv; cases hv)
                      (fun b _ hb => heap_push_old w _ _ b hb) rfl rfl rfl (by show _ ≤ (w.heap.push _).size; simp)
                    refine wp_value hrun (K G' _ _ g1 (by simpa using g2) (g3.congr fun i => ?_))
                    rw [AS.mem_wr1]; simp
              · exact EP.fail_inv h
            · exact EP.fail_inv h
          · exact EP.fail_inv h
        · exact EP.fail_inv h
      · exact EP.fail_inv h
    · exact EP.fail_inv h
  · exact EP.fail_inv h

end
end Go.Proofs.Ytofkehedjcinhaa.AM
