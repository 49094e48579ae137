/-
  THE ABSTRACT MACHINE, part 13: how it is run by simp.
-/
import Derived.Test.YtjdokoldiemobaaAmC
set_option linter.unusedVariables false
set_option linter.defProp false
set_option linter.unusedSimpArgs false
namespace Go.Proofs.Ytjdokoldiemobaa.AM
open Go

/-- What is at hand, then what follows: simp sees to the first alone. -/
def obind {α β : Type} (x : Option α) (f : α → Option β) : Option β := match x with | some a => f a | none => none
/- Not definitional steps: the kernel would compare 'some a' with what comes next, and evaluate it. -/
theorem obind_some {α β : Type} (a : α) (f : α → Option β) : obind (some a) f = f a := Eq.trans (Eq.refl _) (Eq.refl _)
theorem obind_none {α β : Type} (f : α → Option β) : obind none f = none := rfl
@[congr] theorem obind_congr {α β : Type} {x x' : Option α} {f : α → Option β} (h : x = x') : obind x f = obind x' f := by rw [h]
theorem obind_ifE {α β : Type} (b : Bool) (x y : Option α) (f : α → Option β) : obind (ifE b x y) f = ifE b (obind x f) (obind y f) := by cases b <;> rfl
@[congr] theorem ifE_congr {α : Type} {b b' : Bool} {x y : α} (h : b = b') : ifE b x y = ifE b' x y := by rw [h]

/-- A region that draws its order: what is owed, in the text's order. -/
def drawnP (ops : Array Oper) (r : Option (AS × List FP)) (K : AS → Prop) : Prop := regionB ops = true ∧ andThen r fun r => orderB ops r.2 = true ∧ K r.1
@[congr] theorem drawnP_congr {ops : Array Oper} {r r' : Option (AS × List FP)} {K : AS → Prop} (h : r = r') : drawnP ops r K = drawnP ops r' K := by rw [h]
theorem drawnP_introH {ops : Array Oper} {s : AS} {fs : List FP} {E : Env} {id : Nat} {K : AS → Prop} (hF : E.N.adv = ⟨[], []⟩) (h1 : regionB ops = true) (h2 : orderB ops fs = true) (h3 : K s) : drawnP ops (some (s, fs)) (hintP E.ns id K E.N.adv.hints) := ⟨h1, h2, by rw [hF]; exact h3⟩
theorem drawnP_intro {ops : Array Oper} {s : AS} {fs : List FP} {K : AS → Prop} (h1 : regionB ops = true) (h2 : orderB ops fs = true) (h3 : K s) : drawnP ops (some (s, fs)) K := ⟨h1, h2, h3⟩

section
variable (Γ : FuncId → Contract) (P : Program) (N : Lim) (ops : Array Oper) (E : Env) (Q : Exit → AS → Prop) (s : AS)

theorem vc_skip : vc Γ P E .skip Q s = Q .normal s := rfl
theorem vc_region (id : Nat) : vc Γ P E (.region id ops false) Q s = andThen (aOps Γ P E.N ops ops.toList s) fun r => hintP E.ns id (Q .normal) E.N.adv.hints r.1 := rfl
theorem vc_drawn (id : Nat) : vc Γ P E (.region id ops true) Q s = drawnP ops (aOps Γ P E.N ops ops.toList s) (hintP E.ns id (Q .normal) E.N.adv.hints) := by
  simp only [vc, drawnP]
theorem vc_seq (a b : Code) : vc Γ P E (.seq a b) Q s = vc Γ P E a (thenA (vc Γ P E b Q) Q) s := rfl
theorem vc_cond (c : Operand) (x y : Code) : vc Γ P E (.cond c x y) Q s = andThen (cndE (s.eval c)) fun c => cndQ c (vc Γ P E x Q s) (vc Γ P E y Q s) := rfl
theorem vc_block (id : Nat) (b : Code) : vc Γ P E (.block id b) Q s = vc Γ P E b (inBlockA id Q) s := rfl
theorem vc_loop (b : Code) : vc Γ P E (.loop b) Q s = AWP P E (.loop b) Q s := rfl
theorem vc_exit (id : Nat) : vc Γ P E (.exit id) Q s = Q (.exit id) s := rfl
theorem vc_label (l : Nat) : vc Γ P E (.label l) Q s = Q .normal s := rfl
theorem vc_ret : vc Γ P E .ret Q s = Q .ret s := rfl

theorem thenA_normal (K : AS → Prop) : thenA K Q .normal s = K s := rfl
theorem thenA_ret (K : AS → Prop) : thenA K Q .ret s = Q .ret s := rfl
theorem thenA_exit (K : AS → Prop) (i : Nat) : thenA K Q (.exit i) s = Q (.exit i) s := rfl
theorem inBlockA_normal (i : Nat) : inBlockA i Q .normal s = Q .normal s := rfl
theorem inBlockA_ret (i : Nat) : inBlockA i Q .ret s = Q .ret s := rfl
theorem inBlockA_here (i : Nat) : inBlockA i Q (.exit i) s = Q .normal s := by simp [inBlockA]
theorem inBlockA_exit (i j : Nat) (h : j ≠ i) : inBlockA i Q (.exit j) s = Q (.exit j) s := by simp [inBlockA, h]

theorem aOps_nil : aOps Γ P N ops [] s = some (s, []) := rfl
theorem aOps_cons (o : Oper) (l : List Oper) : aOps Γ P N ops (o :: l) s = obind (aStep Γ P N ops o s) fun r => obind (aOps Γ P N ops l r.1) fun q => some (q.1, r.2 :: q.2) := by
  simp only [aOps, obind]
  split <;> simp_all
  split <;> simp_all

theorem aStep_eq (o : Oper) : aStep Γ P N ops o s = if dstOK N o = true then obind (guardE ops o s) (fun b => ifE b (obind ((opE Γ P N.adv.mu o s.eval).run s.mem) fun r => some (s.step o r.1, ⟨r.2, r.1.wr.map (·.1)⟩)) (some (s.put o.dst (.tup []), ⟨[], []⟩))) else none := by
  unfold aStep obind
  split
  · split
    · rename_i b hb
      rw [hb]
      cases b with
      | true =>
        simp only [ifE_true]
        split <;> simp_all
      | false => rfl
    · rename_i hb; rw [hb]
  · rfl

theorem dstOK_some {d : Nat} {op : Op} {ty : TypeId} {pos : String} {af : Array Edge} {g : Option (Nat × Bool)} : dstOK N ⟨some d, op, ty, pos, af, g⟩ = decide (d < N.n) := rfl
theorem dstOK_none {op : Op} {ty : TypeId} {pos : String} {af : Array Edge} {g : Option (Nat × Bool)} : dstOK N ⟨none, op, ty, pos, af, g⟩ = true := rfl
theorem guardE_none {d : Option Tmp} {op : Op} {ty : TypeId} {pos : String} {af : Array Edge} : guardE ops ⟨d, op, ty, pos, af, none⟩ s = some true := rfl
def boolE (want : Bool) (x : AV) : Option Bool := match x with | .c (.bool b) => some (b == want) | .tup [] => some false | _ => none
theorem boolE_tup (want : Bool) : boolE want (.tup []) = some false := rfl
theorem boolE_c (want b : Bool) : boolE want (.c (.bool b)) = some (b == want) := rfl
theorem guardE_some {d : Option Tmp} {op : Op} {ty : TypeId} {pos : String} {af : Array Edge} {j : Nat} {want : Bool} : guardE ops ⟨d, op, ty, pos, af, some (j, want)⟩ s = obind ((ops[j]?).bind (·.dst)) fun t => boolE want (s.get t) := by
  unfold guardE boolE
  dsimp only
  cases h : (ops[j]?).bind (·.dst) with
  | none => rfl
  | some t =>
    simp only [Option.map_some, obind]
    cases s.get t with
    | c x => cases x <;> rfl
    | tup l => cases l <;> rfl
    | _ => rfl

theorem run_ret {α : Type} (m : Nat → Option MC) (a : α) : (EP.ret a).run m = some (a, []) := Eq.trans (Eq.refl _) (Eq.refl _)
theorem run_fail {α : Type} (m : Nat → Option MC) : (EP.fail : EP α).run m = none := rfl
theorem run_ask {α : Type} (m : Nat → Option MC) (n : Nat) (k : Option MC → EP α) : (EP.ask n k).run m = obind ((k (m n)).run m) fun r => some (r.1, n :: r.2) := by
  simp only [EP.run, obind]
  split <;> rename_i h <;> simp [h]
theorem run_bind {α β : Type} (m : Nat → Option MC) (f : α → EP β) : ∀ (p : EP α), (p.bind f).run m = obind (p.run m) fun r => obind ((f r.1).run m) fun q => some (q.1, r.2 ++ q.2)
  | .ret a => by
    simp only [EP.bind, EP.run, obind]
    cases (f a).run m with
    | none => rfl
    | some q => simp
  | .fail => rfl
  | .ask n k => by
    rw [EP.bind, run_ask, run_ask, run_bind m f (k (m n))]
    cases (k (m n)).run m with
    | none => rfl
    | some r =>
      simp only [obind]
      cases (f r.1).run m with
      | none => rfl
      | some q => simp
theorem run_ifE {α : Type} (m : Nat → Option MC) (b : Bool) (x y : EP α) : (ifE b x y).run m = ifE b (x.run m) (y.run m) := by cases b <;> rfl
theorem run_ite {α : Type} (m : Nat → Option MC) (c : Prop) [Decidable c] (x y : EP α) : (if c then x else y).run m = if c then x.run m else y.run m := by split <;> rfl

theorem get_mk (t : List (Nat × AV)) (m : List (Nat × MC)) (i : Nat) : (AS.mk t m).get i = (look t i).getD .undef := rfl
theorem mem_mk (t : List (Nat × AV)) (m : List (Nat × MC)) (i : Nat) : (AS.mk t m).mem i = look m i := rfl
theorem step_mk (t : List (Nat × AV)) (m : List (Nat × MC)) (d : Nat) (op : Op) (ty : TypeId) (pos : String) (af : Array Edge) (g : Option (Nat × Bool)) (v : AV) (wr : List (Nat × MC)) :
    (AS.mk t m).step ⟨some d, op, ty, pos, af, g⟩ ⟨v, wr⟩ = ⟨(d, v) :: t, wr ++ m⟩ := rfl
theorem step_mk' (t : List (Nat × AV)) (m : List (Nat × MC)) (op : Op) (ty : TypeId) (pos : String) (af : Array Edge) (g : Option (Nat × Bool)) (v : AV) (wr : List (Nat × MC)) :
    (AS.mk t m).step ⟨none, op, ty, pos, af, g⟩ ⟨v, wr⟩ = ⟨t, wr ++ m⟩ := rfl
theorem put_mk (t : List (Nat × AV)) (m : List (Nat × MC)) (d : Nat) (v : AV) : (AS.mk t m).put (some d) v = ⟨(d, v) :: t, m⟩ := rfl
theorem put_mk' (t : List (Nat × AV)) (m : List (Nat × MC)) (v : AV) : (AS.mk t m).put none v = ⟨t, m⟩ := rfl
theorem look_nil {α : Type} (i : Nat) : look ([] : List (Nat × α)) i = none := rfl
theorem look_cons {α : Type} (j : Nat) (x : α) (l : List (Nat × α)) (i : Nat) : look ((j, x) :: l) i = if j = i then some x else look l i := rfl
theorem eval_tmp (t : Nat) : s.eval (.tmp t) = s.get t := rfl
theorem eval_func (f : Nat) : s.eval (.func f) = .clo f [] := rfl
theorem eval_int (k : IntKind) (n : Int) : s.eval (.const (.int k n)) = .c (.int k n) := rfl
theorem eval_bool (b : Bool) : s.eval (.const (.bool b)) = .c (.bool b) := rfl
theorem eval_str (b : ByteArray) : s.eval (.const (.string b)) = .c (.str b.data.toList) := rfl
theorem eval_nilsl : s.eval (.const (.slice none 0 0)) = .nilsl := rfl
theorem eval_nilptr : s.eval (.const (.pointer none)) = .nilptr := rfl
theorem eval_nilmp : s.eval (.const (.map none)) = .nilmp := rfl

variable (M : List Nat) (ρ : Operand → AV) (d : Option Tmp) (dd : Tmp) (ty : TypeId) (pos : String) (af : Array Edge) (g : Option (Nat × Bool))
theorem op_move (x : Operand) : opE Γ P M ⟨d, .move x, ty, pos, af, g⟩ ρ = .ret ⟨ρ x, []⟩ := rfl
theorem op_assign (x : Operand) : opE Γ P M ⟨d, .assign x, ty, pos, af, g⟩ ρ = .ret ⟨ρ x, []⟩ := rfl
def pickE (x a b : AV) : EP Eff := match x with | .c (.bool t) => ifE t (.ret ⟨a, []⟩) (.ret ⟨b, []⟩) | _ => .fail
theorem op_pick (c x y : Operand) : opE Γ P M ⟨d, .pick c x y, ty, pos, af, g⟩ ρ = pickE (ρ c) (ρ x) (ρ y) := rfl
theorem pickE_c (t : Bool) (a b : AV) : pickE (.c (.bool t)) a b = ifE t (.ret ⟨a, []⟩) (.ret ⟨b, []⟩) := rfl
theorem op_load (t : TypeId) (x : Operand) : opE Γ P M ⟨d, .load t x, ty, pos, af, g⟩ ρ = okM (loadE P t (ρ x)) := rfl
theorem op_store (t : TypeId) (x y : Operand) : opE Γ P M ⟨d, .store t x y, ty, pos, af, g⟩ ρ = storeE P t (ρ x) (ρ y) := rfl
def ncE (x : AV) : EP Eff := match x with
    | .ptr n off => .ret ⟨.ptr n off, []⟩
    | .rptr cs => .ret ⟨.rptr cs, []⟩
    | .clo f caps => .ret ⟨.clo f caps, []⟩
    | _ => .fail
theorem op_nilCheck (x : Operand) : opE Γ P M ⟨d, .nilCheck x, ty, pos, af, g⟩ ρ = ncE (ρ x) := rfl
theorem op_binOp (op : BinOp) (t t' : TypeId) (x y : Operand) : opE Γ P M ⟨d, .binOp op t x y t', ty, pos, af, g⟩ ρ = okE (binE P op t (ρ x) (ρ y)) := rfl
theorem op_unOp (op : UnOp) (t : TypeId) (x : Operand) : opE Γ P M ⟨d, .unOp op t x, ty, pos, af, g⟩ ρ = okE (unE op (ρ x)) := rfl
theorem op_convert (t t' : TypeId) (x : Operand) : opE Γ P M ⟨d, .convert t t' x, ty, pos, af, g⟩ ρ = convO P t t' (ρ x) := rfl
def faE (P : Program) (t : TypeId) (i : Nat) (x : AV) : EP Eff := match tyField P t i with
    | some (off, _, z) => if z = 0 then .fail else match x with
      | .ptr n o => .ret ⟨.ptr n (o + off), []⟩
      | .rptr cs => .ret ⟨.rptr (cs.drop off), []⟩
      | _ => .fail
    | none => .fail
theorem op_fieldAddr (t : TypeId) (x : Operand) (i : Nat) : opE Γ P M ⟨d, .fieldAddr t x i, ty, pos, af, g⟩ ρ = faE P t i (ρ x) := rfl
def fieldE (P : Program) (t : TypeId) (i : Nat) (x : AV) : EP Eff := match tyField P t i, x with
    | some (off, ft, z), .agg cs => match tyAgg P ft with
      | some true => if off + z ≤ cs.length then .ret ⟨.agg ((cs.drop off).take z), []⟩ else .fail
      | some false => match cs[off]? with | some v => .ret ⟨v, []⟩ | none => .fail
      | none => .fail
    | _, _ => .fail
theorem op_field (t : TypeId) (x : Operand) (i : Nat) : opE Γ P M ⟨d, .field t x i, ty, pos, af, g⟩ ρ = fieldE P t i (ρ x) := rfl
theorem op_indexAddr (t : TypeId) (x i : Operand) : opE Γ P M ⟨d, .indexAddr t x i, ty, pos, af, g⟩ ρ = okE (indexE P t (ρ x) (ρ i)) := rfl
theorem op_slice (t : TypeId) (x : Operand) (lo hi mx : Option Operand) : opE Γ P M ⟨d, .slice t x lo hi mx, ty, pos, af, g⟩ ρ = okE (sliceE P t (ρ x) (lo.map ρ) (hi.map ρ) (mx.map ρ)) := rfl
def extE (x : AV) (i : Nat) : EP Eff := match x with | .tup vs => okE vs[i]? | _ => .fail
theorem op_extract (x : Operand) (i : Nat) : opE Γ P M ⟨d, .extract x i, ty, pos, af, g⟩ ρ = extE (ρ x) i := rfl
theorem op_alloc (t : TypeId) : opE Γ P M ⟨some dd, .alloc t, ty, pos, af, g⟩ ρ = match tyZero P t with | some cells => newObjE (objName dd) cells | none => .fail := rfl
theorem op_box (t : TypeId) (x : Operand) : opE Γ P M ⟨some dd, .box t x, ty, pos, af, g⟩ ρ = match (ρ x).flat with | some cells => newObjE (objName dd) cells | none => .fail := rfl
theorem op_build (t : TypeId) (parts : Array (Nat × Operand)) : opE Γ P M ⟨d, .build t parts, ty, pos, af, g⟩ ρ = okE ((buildE P t (parts.toList.map fun p => (p.1, ρ p.2))).map .agg) := rfl
theorem op_builtin (b : Builtin) (args : Array Operand) (ts : Array TypeId) : opE Γ P M ⟨some dd, .call ⟨.builtin b, args, ts⟩, ty, pos, af, g⟩ ρ = builtinE P dd b ts (args.toList.map ρ) := rfl
def cloE (Γ : FuncId → Contract) (dd : Nat) (x : AV) (args : List AV) : EP Eff := match x with | .clo f caps => callE Γ dd f (args ++ caps.map .rptr) | _ => .fail
theorem op_call (f : Operand) (args : Array Operand) (ts : Array TypeId) : opE Γ P M ⟨some dd, .call ⟨.value f, args, ts⟩, ty, pos, af, g⟩ ρ = cloE Γ dd (ρ f) (args.toList.map ρ) := rfl
def bsE (P : Program) (M : List Nat) (dd : Nat) (t : TypeId) (n : Nat) (parts : List (Nat × AV)) : EP Eff := match tyElem P t with
    | some e => match tyZero P e, tySize P e with
      | some zero, some z => if zero.length = z ∧ 0 < z ∧ n * z ≤ 16777216 then
          ifE (hasN M dd) (match fillE (fun i => some (i * z, z)) ((List.replicate n zero).flatten) parts with
          | some out => newMslE (objName dd) n out
          | none => .fail) (match (fillE (fun i => some (i * z, z)) ((List.replicate n zero).flatten) parts).bind toPCs with
          | some cs => newRowE (rowName dd) z (chunks z n cs)
          | none => .fail)
        else .fail
      | _, _ => .fail
    | none => .fail
theorem op_buildSlice (t : TypeId) (n : Nat) (parts : Array (Nat × Operand)) : opE Γ P M ⟨some dd, .buildSlice t n parts, ty, pos, af, g⟩ ρ = bsE P M dd t n (parts.toList.map fun p => (p.1, ρ p.2)) := by
  unfold opE bsE
  simp only [Option.isSome_some, true_and, Option.getD_some]
  cases tyElem P t with
  | none => rfl
  | some e =>
    dsimp only
    cases tyZero P e with
    | none => rfl
    | some zero =>
      cases tySize P e with
      | none => rfl
      | some z => rfl
def mkE (P : Program) (M : List Nat) (dd : Nat) (t : TypeId) (l c : AV) : EP Eff := match tyElem P t, l, c with
    | some e, .c (.int .i64 n), .c (.int .i64 m) => match tyZero P e, tySize P e, tyBytes P e with
      | some zero, some z, some by_ => match toPCs zero with
        | some zs => if zs.length = z ∧ 0 < z ∧ n ≤ m ∧ 0 ≤ n ∧ m ≤ 9223372036854775807 ∧ m * by_ ≤ 140737488355328 then ifE (hasN M dd) (if n = m then newMslE (objName dd) n.toNat (List.replicate n.toNat zero).flatten else .fail) (newRowE (rowName dd) z (List.replicate n.toNat zs)) else .fail
        | none => .fail
      | _, _, _ => .fail
    | _, _, _ => .fail
theorem op_makeSlice (t : TypeId) (l c : Operand) : opE Γ P M ⟨some dd, .makeSlice t l c, ty, pos, af, g⟩ ρ = mkE P M dd t (ρ l) (ρ c) := by
  unfold opE mkE
  simp only [Option.isSome_some, true_and, Option.getD_some]
  rfl
theorem hasN_nil (n : Nat) : hasN [] n = false := rfl
theorem hasN_cons (x n : Nat) (l : List Nat) : hasN (x :: l) n = (x == n || hasN l n) := rfl
theorem hintP_nil (ns : List Nat) (id : Nat) (K : AS → Prop) (s : AS) : hintP ns id K [] s = K s := rfl
theorem hintP_nil' (ns : List Nat) (id : Nat) (K : AS → Prop) : hintP ns id K [] = K := rfl
theorem hintP_cons (ns : List Nat) (id : Nat) (K : AS → Prop) (i : Nat) (h : Hint) (l : List (Nat × Hint)) (s : AS) : hintP ns id K ((i, h) :: l) s = if i = id then andThen (doHint ns h s) (hintP ns id K l) else hintP ns id K l s := rfl
theorem doHint_tidy (ns : List Nat) (l : List Nat) (s : AS) : doHint ns (.tidy l) s = some ⟨pickT s l, once s.m⟩ := rfl
theorem pickT_nil (s : AS) : pickT s [] = [] := rfl
theorem pickT_cons (s : AS) (i : Nat) (l : List Nat) : pickT s (i :: l) = (i, s.get i) :: pickT s l := rfl
theorem m_mk (t : List (Nat × AV)) (m : List (Nat × MC)) : (AS.mk t m).m = m := rfl
theorem t_mk (t : List (Nat × AV)) (m : List (Nat × MC)) : (AS.mk t m).t = t := rfl
def idxE (P : Program) (t : TypeId) (x i : AV) : EP Eff := match x, i with
    | .c (.str s), .c (.int _ i) => if tyStr P t ∧ 0 ≤ i then match s[i.toNat]? with | some b => .ret ⟨.c (.int .u8 b.toNat), []⟩ | none => .fail else .fail
    | .agg cs, .c (.int _ i) => match tyArr P t with
      | some (n, e) => match tySize P e, tyAgg P e with
        | some z, some false => if 0 ≤ i ∧ i < (n : Int) then match cs[i.toNat * z]? with | some v => .ret ⟨v, []⟩ | none => .fail else .fail
        | some z, some true => if 0 ≤ i ∧ i < (n : Int) ∧ i.toNat * z + z ≤ cs.length then .ret ⟨.agg ((cs.drop (i.toNat * z)).take z), []⟩ else .fail
        | _, _ => .fail
      | none => .fail
    | _, _ => .fail
theorem op_index (t : TypeId) (x i : Operand) : opE Γ P M ⟨d, .index t x i, ty, pos, af, g⟩ ρ = idxE P t (ρ x) (ρ i) := rfl

end

/-- Many alike: with a word that simp does not look behind. -/
def zrep (n : Nat) (x : AV) : List AV := List.replicate n x
theorem zrep_length (n : Nat) (x : AV) : (zrep n x).length = n := by simp [zrep]

/-- Contracts, one behind the other. -/
def ext (Γ : FuncId → Contract) (f : FuncId) (C : Contract) : FuncId → Contract := fun g => if g = f then C else Γ g
def none0 : FuncId → Contract := fun _ _ _ => none
theorem none0_sound {P : Program} : SoundG P none0 := fun _ _ _ _ h => by cases h
theorem ext_sound {P : Program} {Γ : FuncId → Contract} {f : FuncId} {C : Contract} (h : SoundG P Γ) (hC : SoundC P f C) : SoundG P (ext Γ f C) := by
  intro g args objs r hr
  unfold ext at hr ⊢
  split at hr
  · rename_i e; subst e; rw [if_pos rfl]; exact hC
  · rename_i e; rw [if_neg e]; exact h g args objs r hr
theorem ifE_self {α : Type} (b : Bool) (x : α) : ifE b x x = x := by cases b <;> rfl

theorem wrapI {n : Int} (h : -9223372036854775808 ≤ n ∧ n ≤ 9223372036854775807) : IntKind.i64.wrap n = n := by
  simp [IntKind.wrap, IntKind.bits, IntKind.signed]; omega
theorem wrapU {n : Int} (h : 0 ≤ n ∧ n < 18446744073709551616) : IntKind.u64.wrap n = n := by
  simp [IntKind.wrap, IntKind.bits, IntKind.signed]; omega
theorem wrapB (n : Int) : IntKind.u8.wrap n = n % 256 := by
  simp [IntKind.wrap, IntKind.bits, IntKind.signed]

/-- The rules of a walk, under one name. -/
def runA := And.intro @vc_skip <|
  And.intro @vc_region <|
  And.intro @vc_drawn <|
  And.intro @vc_seq <|
  And.intro @vc_cond <|
  And.intro @vc_block <|
  And.intro @vc_loop <|
  And.intro @vc_exit <|
  And.intro @vc_label <|
  And.intro @vc_ret <|
  And.intro @thenA_normal <|
  And.intro @thenA_ret <|
  And.intro @thenA_exit <|
  And.intro @inBlockA_normal <|
  And.intro @inBlockA_ret <|
  And.intro @inBlockA_here <|
  And.intro @aOps_nil <|
  And.intro @aOps_cons <|
  And.intro @aStep_eq <|
  And.intro @dstOK_some <|
  And.intro @dstOK_none <|
  And.intro @guardE_none <|
  And.intro @guardE_some <|
  And.intro @boolE_c <|
  And.intro @boolE_tup <|
  And.intro @run_ret <|
  And.intro @run_fail <|
  And.intro @run_ask <|
  And.intro @run_bind <|
  And.intro @run_ifE <|
  And.intro @run_ite <|
  And.intro @get_mk <|
  And.intro @mem_mk <|
  And.intro @step_mk <|
  And.intro @step_mk' <|
  And.intro @put_mk <|
  And.intro @put_mk' <|
  And.intro @look_nil <|
  And.intro @look_cons <|
  And.intro @eval_tmp <|
  And.intro @eval_func <|
  And.intro @eval_int <|
  And.intro @eval_bool <|
  And.intro @eval_str <|
  And.intro @eval_nilsl <|
  And.intro @eval_nilptr <|
  And.intro @eval_nilmp <|
  And.intro @op_move <|
  And.intro @op_assign <|
  And.intro @op_pick <|
  And.intro @pickE_c <|
  And.intro @op_load <|
  And.intro @op_store <|
  And.intro @op_nilCheck <|
  And.intro @op_binOp <|
  And.intro @op_unOp <|
  And.intro @op_convert <|
  And.intro @op_fieldAddr <|
  And.intro @op_field <|
  And.intro @op_indexAddr <|
  And.intro @op_slice <|
  And.intro @op_extract <|
  And.intro @op_alloc <|
  And.intro @op_box <|
  And.intro @op_build <|
  And.intro @op_builtin <|
  And.intro @op_call <|
  And.intro @op_buildSlice <|
  And.intro @op_index <|
  And.intro @obind_some <|
  And.intro @obind_none <|
  And.intro @obind_ifE <|
  And.intro @ifE_true <|
  And.intro @ifE_false <|
  And.intro @ifE_self <|
  And.intro @andThen_some <|
  And.intro @andThen_none <|
  And.intro @andThen_ifE <|
  And.intro @branch_true <|
  And.intro @branch_false <|
  And.intro @hintP_nil <|
  And.intro @hintP_nil' <|
  And.intro @hintP_cons <|
  And.intro @hasN_nil <|
  And.intro @hasN_cons <|
  And.intro @op_makeSlice <|
  And.intro @doHint_tidy <|
  And.intro @pickT_nil <|
  And.intro @pickT_cons <|
  @m_mk

end Go.Proofs.Ytjdokoldiemobaa.AM
