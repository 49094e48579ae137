/-
  Q5: AmC AmD AmF.
-/
import Derived.Test.YtofkehedjcinhaaQ4
import Derived.Test.YtofkehedjcinhaaRows
import Derived.Carry
import Derived.OpenShut
import Derived.ChangeOld
set_option linter.unusedVariables false
set_option linter.unusedSimpArgs false
set_option linter.defProp false
namespace Go.Proofs.Ytofkehedjcinhaa.AM
open Go

def retE (P : Program) (s : AS) : List ResultVar → Option (List AV)
  | [] => some []
  | .tmp t :: l => match retE P s l with | some xs => some (s.get t :: xs) | none => none
  | .cell a t :: l => match (loadE P t (s.get a)).run s.mem, retE P s l with | some (x, _), some xs => some (x :: xs) | _, _ => none

def cellPairs (nm : Nat → Nat) : Nat → List AV → List OV → List (Nat × Nat) × List (Nat × Nat)
  | j, x :: xs, y :: o => match x, y with
    | .own r _ _, .own _ _ => ((nm j, r) :: (cellPairs nm (j + 1) xs o).1, (cellPairs nm (j + 1) xs o).2)
    | .nilsl, .own z _ => ((cellPairs nm (j + 1) xs o).1, (nm j, z) :: (cellPairs nm (j + 1) xs o).2)
    | .mp r, .mp _ _ => ((nm j, r) :: (cellPairs nm (j + 1) xs o).1, (cellPairs nm (j + 1) xs o).2)
    | _, _ => cellPairs nm (j + 1) xs o
  | _, _, _ => ([], [])
def objCells (s : AS) (n : Nat) : List AV := match s.mem n with | some (.obj cells _) => cells | _ => []
def objPairs (s : AS) : Nat → List (List OV) → List (Nat × Nat) × List (Nat × Nat)
  | _, [] => ([], [])
  | i, o :: os => let c := cellPairs (inRow i) 0 (objCells s (inObj i)) o; let r := objPairs s (i + 1) os; ((inObj i, inObj i) :: (c.1 ++ r.1), c.2 ++ r.2)
def resPairs (s : AS) : Nat → List AV → List RV → List (Nat × Nat) × List (Nat × Nat)
  | i, x :: xs, y :: l => match x, y with
    | .own r _ _, .fresh _ _ => ((outName i, r) :: (resPairs s (i + 1) xs l).1, (resPairs s (i + 1) xs l).2)
    | .nilsl, .fresh z _ => ((resPairs s (i + 1) xs l).1, (outName i, z) :: (resPairs s (i + 1) xs l).2)
    | .ptr n _, .newobj o => let c := cellPairs (outCell i) 0 (objCells s n) o; ((outName i, n) :: (c.1 ++ (resPairs s (i + 1) xs l).1), c.2 ++ (resPairs s (i + 1) xs l).2)
    | _, _ => resPairs s (i + 1) xs l
  | _, _, _ => ([], [])

def retRen (W1 W2 : List (Nat × Nat)) (ex : List (Nat × MC)) : Ren :=
  ⟨fun n => if (look ex n).isSome then look W1 n else none, fun n => if (look ex n).isSome then look W2 n else none⟩
def retMem (ρ : Ren) (m : Nat → Option MC) : List (Nat × MC) → Prop
  | [] => True
  | (n, c) :: l => (match ρ.src n with
      | some q => match m q with | some c0 => CMd ρ c0 c | none => False
      | none => match ρ.ph n with | some z => (match c with | .row z' fr => z' = z ∧ fr = 0 | _ => False) | none => False) ∧ retMem ρ m l

def RetOK (ns : List Nat) (s : AS) (r : CRes) (xs : List AV) : Prop :=
  let o := objPairs s 0 r.objs
  let q := resPairs s 0 xs r.res
  let ρ := retRen (o.1 ++ q.1) (o.2 ++ q.2) (exitMem r)
  ((o.1 ++ q.1).map (·.2)).Nodup ∧ retMem ρ s.mem (exitMem r) ∧ AMds ρ xs (exitVals r) ∧ ∀ n ∈ ns, ρ.src n = some n

def retQ (P : Program) (ns : List Nat) (fn : Func) (r : CRes) : Exit → AS → Prop
  | .normal, s | .ret, s => andThen (retE P s fn.results.toList) fun xs => RetOK ns s r xs
  | _, _ => False

def entryT : Nat → List AV → List (Nat × AV)
  | _, [] => []
  | i, x :: l => (i, x) :: entryT (i + 1) l

def pureB : AV → Bool
  | .c _ | .nilptr | .nilsl | .rptr _ | .clo _ _ | .ubool => true
  | .agg cs => cs.all fun | .c _ => true | _ => false
  | _ => false
theorem pureB_spec {x : AV} (h : pureB x = true) : Pure x := by
  unfold pureB at h
  split at h
  · exact .c _
  · exact .nilptr
  · exact .nilsl
  · exact .rptr _
  · exact .clo _ _
  · exact .ubool
  · refine .agg _ fun y hy => ?_
    rw [List.all_eq_true] at h
    have := h y hy
    split at this
    · exact .c _
    · cases this
  · cases h
def resB : List RV → Bool
  | [] => true
  | .pv x :: l => pureB x && resB l
  | _ :: l => resB l
theorem resB_spec : ∀ {l : List RV}, resB l = true → ∀ x, RV.pv x ∈ l → Pure x
  | [], _, x, h => by simp at h
  | .pv y :: l, hb, x, h => by
    simp only [resB, Bool.and_eq_true] at hb
    rcases List.mem_cons.1 h with h | h
    · cases h; exact pureB_spec hb.1
    · exact resB_spec hb.2 x h
  | .fresh _ _ :: l, hb, x, h => by
    rcases List.mem_cons.1 h with h | h
    · cases h
    · exact resB_spec (l := l) hb x h
  | .newobj _ :: l, hb, x, h => by
    rcases List.mem_cons.1 h with h | h
    · cases h
    · exact resB_spec (l := l) hb x h
  | .ref _ :: l, hb, x, h => by
    rcases List.mem_cons.1 h with h | h
    · cases h
    · exact resB_spec (l := l) hb x h

section
variable {P : Program}

theorem MRel.conv {E E' : Env} {G : Gh} {m : Nat → Option MC} {w : World} (M : MRel E G m w) (h1 : E'.w0 = E.w0) (h2 : E'.B = E.B) (h3 : E'.Ext = E.Ext) (h4 : E'.K0 = E.K0) : MRel E' G m w := by
  obtain ⟨N, ns, H0, w0, B, Ext, K0⟩ := E
  obtain ⟨N', ns', H0', w0', B', Ext', K0'⟩ := E'
  dsimp only at h1 h2 h3 h4
  subst h1; subst h2; subst h3; subst h4
  refine ⟨M.agree, fun n => (M.home n).env fun x b e1 e2 => ?_, M.inj, M.os, M.tape, M.output, M.size0, M.sizeB, M.blk, M.k0, M.kfr⟩
  exact (e1 ▸ M.home n).mine e2

def resSem (tmps : Array Value) : ResultVar → Sem Value
  | .tmp t => pure (tmps.getD t Go.undef)
  | .cell p t => do loadVar t (← asAddr (tmps.getD p Go.undef))
theorem results_eq (fn : Func) (tmps : Array Value) : results fn tmps = (fn.results.mapM (resSem tmps) >>= fun vs => pure (if h : vs.size = 1 then vs[0] else .tuple vs)) := by
  unfold results
  first | done | rfl | (congr 1; congr 1; funext r; cases r <;> rfl)

theorem ret_run {E : Env} {G : Gh} {s : AS} {a : Act} {w : World} (R : Rel E G s a w) : ∀ (l : List ResultVar) (xs : List AV), retE P s l = some xs →
    ∃ us : List Value, (l.mapM (resSem a.tmps)).run P w = .ok us w ∧ xs.length = us.length ∧
      ∀ (i : Nat) (x : AV) (u : Value), xs[i]? = some x → us[i]? = some u → AR G x u
  | [], xs, h => by
    simp only [retE, Option.some.injEq] at h
    subst h
    exact ⟨[], by simp, rfl, fun i x u h => by simp at h⟩
  | .tmp t :: l, xs, h => by
    simp only [retE] at h
    split at h
    · rename_i xs' h1
      cases h
      obtain ⟨us, r1, r2, r3⟩ := ret_run R l xs' h1
      refine ⟨a.tmps.getD t Go.undef :: us, ?_, by simp [r2], fun i x u e1 e2 => ?_⟩
      · rw [List.mapM_cons]; simp only [resSem, Sem.run_bind, Sem.run_pure, Result.andThen_ok, r1]
      · cases i with
        | zero => simp only [List.getElem?_cons_zero, Option.some.injEq] at e1 e2; subst e1; subst e2; exact R.tmps t
        | succ i => exact r3 i x u (by simpa using e1) (by simpa using e2)
    · cases h
  | .cell p t :: l, xs, h => by
    simp only [retE] at h
    split at h
    · rename_i x l' xs' h0 h1
      cases h
      obtain ⟨us, r1, r2, r3⟩ := ret_run R l xs' h1
      obtain ⟨u, q1, q2⟩ := load_run R.mem (R.tmps p) h0
      have key : ∀ v, (Instr.loadAt t v).run P w = .ok u w → (do loadVar t (← asAddr v) : Sem Value).run P w = .ok u w := by
        intro v q1
        cases v with
        | pointer ad => cases ad with
          | none => simp [Instr.loadAt, Instr.sureAddr] at q1
          | some ad => simpa [Instr.loadAt, Instr.sureAddr, asAddr] using q1
        | _ => simp [Instr.loadAt, Instr.sureAddr] at q1
      have hq : (resSem a.tmps (.cell p t)).run P w = .ok u w := key _ q1
      refine ⟨u :: us, ?_, by simp [r2], fun i x u e1 e2 => ?_⟩
      · rw [List.mapM_cons]
        simp only [Sem.run_bind, hq, Result.andThen_ok, r1, Sem.run_pure]
      · cases i with
        | zero => simp only [List.getElem?_cons_zero, Option.some.injEq] at e1 e2; subst e1; subst e2; exact q2
        | succ i => exact r3 i x u (by simpa using e1) (by simpa using e2)
    · cases h

theorem one_rel {G : Gh} {xs : List AV} {us : List Value} (hl : xs.length = us.length) (h : ∀ (i : Nat) (x : AV) (u : Value), xs[i]? = some x → us[i]? = some u → AR G x u) : AR G (oneE xs) (if h : us.toArray.size = 1 then us.toArray[0] else .tuple us.toArray) := by
  match xs, us, hl, h with
  | [x], [u], _, h => exact h 0 x u rfl rfl
  | [], [], _, h => exact .tup _ _ rfl (fun i x u e1 e2 => by simp at e1)
  | x :: y :: xs, u :: v :: us, hl, h =>
    have : ¬ ((u :: v :: us).toArray.size = 1) := by simp
    rw [dif_neg this]
    exact .tup _ _ (by simpa using hl) (fun i x u e1 e2 => h i x u e1 (by simpa using e2))
  | [], _ :: _, hl, _ => simp at hl
  | _ :: _, [], hl, _ => simp at hl
  | [_], _ :: _ :: _, hl, _ => simp at hl
  | _ :: _ :: _, [_], hl, _ => simp at hl

theorem retMem_spec {ρ : Ren} {m : Nat → Option MC} : ∀ {l : List (Nat × MC)} {n : Nat} {c : MC}, retMem ρ m l → look l n = some c →
    (match ρ.src n with
      | some q => match m q with | some c0 => CMd ρ c0 c | none => False
      | none => match ρ.ph n with | some z => (match c with | .row z' fr => z' = z ∧ fr = 0 | _ => False) | none => False)
  | [], n, c, _, h => by cases h
  | (j, y) :: l, n, c, ⟨h1, h2⟩, h => by
    simp only [look] at h
    split at h
    · rename_i e; subst e; cases h; exact h1
    · exact retMem_spec h2 h

theorem look_inj : ∀ {W : List (Nat × Nat)}, (W.map (·.2)).Nodup → ∀ n n' q, look W n = some q → look W n' = some q → n = n'
  | [], _, n, n', q, h, _ => by cases h
  | (j, x) :: W, nd, n, n', q, h, h' => by
    simp only [List.map_cons, List.nodup_cons] at nd
    simp only [look] at h h'
    have key : ∀ n, look W n = some q → q ∈ W.map (·.2) := fun n h => List.mem_map.2 ⟨(n, q), look_mem h, rfl⟩
    split at h
    · rename_i e
      cases h
      split at h'
      · rename_i e'; exact e.symm.trans e'
      · exact absurd (key n' h') nd.1
    · split at h'
      · cases h'; exact absurd (key n h) nd.1
      · exact look_inj nd.2 n n' q h h'

theorem entryT_get : ∀ (l : List AV) (i k : Nat) (x : AV), l[k]? = some x → look (entryT i l) (i + k) = some x
  | [], i, k, x, h => by simp at h
  | y :: l, i, 0, x, h => by simp at h; subst h; simp [entryT, look]
  | y :: l, i, k + 1, x, h => by
    simp only [entryT, look]
    rw [if_neg (by omega)]
    have := entryT_get l (i + 1) k x (by simpa using h)
    rwa [show i + 1 + k = i + (k + 1) from by omega] at this
theorem entryT_none : ∀ (l : List AV) (i n : Nat), i + l.length ≤ n → look (entryT i l) n = none
  | [], i, n, _ => rfl
  | y :: l, i, n, h => by
    simp only [List.length_cons] at h
    simp only [entryT, look]
    rw [if_neg (by omega)]
    exact entryT_none l (i + 1) n (by omega)

theorem RetOK.out {E : Env} {G G0 : Gh} {s : AS} {a : Act} {w : World} (R : Rel E G s a w) {r : CRes} {xs : List AV} (h : RetOK E.ns s r xs) (hH : E.H0 = G0.h) (hK : E.K0 = G0.K) (hns : ∀ n x, G0.h n = some x → n ∈ E.ns)
    {v : Value} (hv : AR G (oneE xs) v) : ∃ G', G0.le G' ∧ MRel E G' (look (exitMem r)) w ∧ AR G' (oneE (exitVals r)) v := by
  obtain ⟨h1, h2, h3, h4⟩ := h
  generalize hρ : retRen ((objPairs s 0 r.objs).1 ++ (resPairs s 0 xs r.res).1) ((objPairs s 0 r.objs).2 ++ (resPairs s 0 xs r.res).2) (exitMem r) = ρ at h2 h3 h4
  have hren : RenOK ρ s.mem (look (exitMem r)) := by
    refine ⟨fun n n' q e1 e2 => ?_, fun n q e => ?_, fun n z e1 e2 => ?_, fun n e1 e2 => ?_⟩
    · rw [← hρ] at e1 e2
      simp only [retRen] at e1 e2
      split at e1
      · split at e2
        · exact look_inj h1 n n' q e1 e2
        · cases e2
      · cases e1
    · have hs : ∃ c, look (exitMem r) n = some c := by
        rw [← hρ] at e
        simp only [retRen] at e
        split at e
        · rename_i hs; exact Option.isSome_iff_exists.1 hs
        · cases e
      obtain ⟨c, hc⟩ := hs
      have := retMem_spec h2 hc
      rw [e] at this
      dsimp only at this
      cases hm : s.mem q with
      | none => rw [hm] at this; exact this.elim
      | some c0 => rw [hm] at this; rw [hc]; exact CMd.cm this
    · have hs : ∃ c, look (exitMem r) n = some c := by
        rw [← hρ] at e2
        simp only [retRen] at e2
        split at e2
        · rename_i hs; exact Option.isSome_iff_exists.1 hs
        · cases e2
      obtain ⟨c, hc⟩ := hs
      have := retMem_spec h2 hc
      rw [e1, e2] at this
      dsimp only at this
      rw [hc]
      cases c with
      | row z' fr => obtain ⟨rfl, rfl⟩ := this; rfl
      | _ => exact this.elim
    · cases hc : look (exitMem r) n with
      | none => rfl
      | some c =>
        have := retMem_spec h2 hc
        rw [e1, e2] at this
        exact this.elim
  refine ⟨ρ.gh G, ⟨by rw [← hK]; exact R.mem.k0, fun n x e => ?_⟩, R.mem.rename hren, ?_⟩
  · obtain ⟨y, y', e1, e2, l⟩ := R.ent n (hns n x e)
    rw [hH, e] at e1
    cases e1
    exact ⟨y', by simp only [Ren.gh, h4 n (hns n x e)]; exact e2, l⟩
  · refine AM.rel ?_ hv
    obtain ⟨a1, a2⟩ := h3.am
    generalize exitVals r = ys at a1 a2
    match xs, ys, a1, a2 with
    | [x], [y], _, h => exact h 0 x y rfl rfl
    | [], [], hl, h => exact .tup _ _ hl h
    | _ :: _ :: _, _ :: _ :: _, hl, h => exact .tup _ _ hl h
    | [], _ :: _, hl, _ => simp at hl
    | _ :: _, [], hl, _ => simp at hl
    | [_], _ :: _ :: _, hl, _ => simp at hl
    | _ :: _ :: _, [_], hl, _ => simp at hl

/-- A function's contract, out of what its body owes. -/
theorem sound_fnA (adv : Adv) {f : FuncId} {fn : Func} {body : Code} {N : Nat} {C : Contract} (hf : P.funcs[f]? = some fn) (hname : (fn.name == "runtime.NumGoroutine") = false) (hb : fn.body = some body) (hN : fn.ntmps = N)
    (h : ∀ args objs r, C args objs = some r → resB r.res = true ∧ args.length ≤ N ∧
      ∀ E : Env, E.N.n = N → E.ns = keys (entryMem 0 objs) → E.N.adv = adv → AWP P E body (retQ P (keys (entryMem 0 objs)) fn r) ⟨entryT 0 args, entryMem 0 objs⟩) : SoundC P f C := by
  refine ⟨⟨fn, hf, hname, by rw [hb]; rfl⟩, fun args objs r hr => ?_⟩
  obtain ⟨h1, h2, h3⟩ := h args objs r hr
  refine ⟨fun x hx => resB_spec h1 x hx, fun Ext G w vals M hl hx => ?_⟩
  let E : Env := ⟨⟨N, adv⟩, keys (entryMem 0 objs), G.h, w, w.heap.size, Ext, G.K, none, []⟩
  have hnsG : ∀ n x, G.h n = some x → n ∈ keys (entryMem 0 objs) := by
    intro n x e
    have := M.home n
    cases hc : look (entryMem 0 objs) n with
    | none => rw [hc, e] at this; exact this.elim
    | some c => exact List.mem_map_of_mem (f := (·.1)) (look_mem hc)
  refine calls_of_wp hf hb ?_
  have hsz : vals.toArray.size = args.length := by simp [hl]
  have R0 : Rel E G ⟨entryT 0 args, entryMem 0 objs⟩ { tmps := vals.toArray ++ Array.replicate (fn.ntmps - vals.toArray.size) Go.undef, defers := [] } w := by
    refine ⟨?_, rfl, fun i => ?_, M.conv rfl rfl rfl rfl, fun n hn => ?_⟩
    · show (vals.toArray ++ Array.replicate (fn.ntmps - vals.toArray.size) Go.undef).size = N
      simp; omega
    · rcases Nat.lt_or_ge i args.length with hi | hi
      · have hg : (AS.mk (entryT 0 args) (entryMem 0 objs)).get i = args[i] := by
          have := entryT_get args 0 i args[i] (by simp [hi])
          rw [Nat.zero_add] at this
          simp only [AS.get, this, Option.getD_some]
        rw [hg]
        have hv : i < vals.length := by omega
        have : (vals.toArray ++ Array.replicate (fn.ntmps - vals.toArray.size) Go.undef).getD i Go.undef = vals[i] := by
          simp [Array.getElem?_append, hv]
        show AR G _ ((vals.toArray ++ Array.replicate (fn.ntmps - vals.toArray.size) Go.undef).getD i Go.undef)
        rw [this]
        exact hx i _ _ (by simp [hi]) (by simp [hv])
      · have hg : (AS.mk (entryT 0 args) (entryMem 0 objs)).get i = .undef := by
          simp only [AS.get, entryT_none args 0 i (by omega), Option.getD_none]
        rw [hg]; exact .undef _
    · obtain ⟨c, hc⟩ := look_some (l := entryMem 0 objs) hn
      have := M.home n
      have hx : ∃ x, G.h n = some x := by
        cases hg : G.h n with
        | none => rw [hc, hg] at this; cases c <;> exact this.elim
        | some x => exact ⟨x, rfl⟩
      obtain ⟨x, hg⟩ := hx
      exact ⟨x, x, hg, hg, Home.le_refl x⟩
  refine wp_mono (wpIn_wide.1 (h3 E rfl rfl rfl G _ w R0)) ?_
  rintro e a' w' ⟨G', s', hq, R'⟩
  have fin : andThen (retE P s' fn.results.toList) (fun xs => RetOK (keys (entryMem 0 objs)) s' r xs) → a'.defers = [] ∧ ∃ v, (results fn a'.tmps).run P w' = .ok v w' ∧ CallPost (cEnv w Ext G.K) G r (.returned v) w' := by
    intro hq
    obtain ⟨xs, hxs, hret⟩ := andThen_iff.1 hq
    obtain ⟨us, r1, r2, r3⟩ := ret_run R' _ xs hxs
    refine ⟨R'.defs, if h : us.toArray.size = 1 then us.toArray[0] else .tuple us.toArray, ?_, ?_⟩
    · rw [results_eq, Array.mapM_eq_mapM_toList]
      simp only [Sem.run_bind, Sem.run_map, r1, Result.andThen_ok, Sem.run_pure]
    · obtain ⟨G2, g1, g2, g3⟩ := RetOK.out R' (G0 := G) hret rfl rfl hnsG (one_rel r2 r3)
      exact ⟨G2, _, rfl, g1, g2.conv rfl rfl rfl rfl, g3⟩
  cases e with
  | normal => exact fin hq
  | ret => exact fin hq
  | _ => exact hq.elim

theorem sound_fn {f : FuncId} {fn : Func} {body : Code} {N : Nat} {C : Contract} (hf : P.funcs[f]? = some fn) (hname : (fn.name == "runtime.NumGoroutine") = false) (hb : fn.body = some body) (hN : fn.ntmps = N)
    (h : ∀ args objs r, C args objs = some r → resB r.res = true ∧ args.length ≤ N ∧
      ∀ E : Env, E.N.n = N → E.ns = keys (entryMem 0 objs) → E.N.adv = ⟨[], []⟩ → AWP P E body (retQ P (keys (entryMem 0 objs)) fn r) ⟨entryT 0 args, entryMem 0 objs⟩) : SoundC P f C :=
  sound_fnA ⟨[], []⟩ hf hname hb hN h

end

/-- What is at hand, then what follows: simp sees to the first alone. -/
def obind {α β : Type} (x : Option α) (f : α → Option β) : Option β := match x with | some a => f a | none => none
theorem obind_some {α β : Type} (a : α) (f : α → Option β) : obind (some a) f = f a := Eq.trans (Eq.refl _) (Eq.refl _)
theorem obind_none {α β : Type} (f : α → Option β) : obind none f = none := rfl
@[congr] theorem obind_congr {α β : Type} {x x' : Option α} {f : α → Option β} (h : x = x') : obind x f = obind x' f := by rw [h]
theorem obind_ifE {α β : Type} (b : Bool) (x y : Option α) (f : α → Option β) : obind (ifE b x y) f = ifE b (obind x f) (obind y f) := by cases b <;> rfl
@[congr] theorem ifE_congr {α : Type} {b b' : Bool} {x y : α} (h : b = b') : ifE b x y = ifE b' x y := by rw [h]

/-- A region that draws its order: what is owed, in the text's order. -/
def drawnP (ops : Array Oper) (r : Option (AS × List FP)) (K : AS → Prop) : Prop := regionB ops = true ∧ andThen r fun r => orderB ops r.2 = true ∧ K r.1
@[congr] theorem drawnP_congr {ops : Array Oper} {r r' : Option (AS × List FP)} {K : AS → Prop} (h : r = r') : drawnP ops r K = drawnP ops r' K := by rw [h]
theorem drawnP_introH {ops : Array Oper} {s : AS} {fs : List FP} {E : Env} {id : Nat} {K : AS → Prop} (hF : E.N.adv = ⟨[], []⟩) (h1 : regionB ops = true) (h2 : orderB ops fs = true) (h3 : K s) : drawnP ops (some (s, fs)) (hintP E.ns id K E.N.adv.hints) := ⟨h1, h2, by rw [hF]; exact h3⟩
theorem drawnP_intro {ops : Array Oper} {s : AS} {fs : List FP} {K : AS → Prop} (h1 : regionB ops = true) (h2 : orderB ops fs = true) (h3 : K s) : drawnP ops (some (s, fs)) K := ⟨h1, h2, h3⟩

section
variable (Γ : FuncId → Contract) (P : Program) (N : Lim) (ops : Array Oper) (E : Env) (Q : Exit → AS → Prop) (s : AS)

theorem vc_skip : vc Γ P E .skip Q s = Q .normal s := rfl
theorem vc_region (id : Nat) : vc Γ P E (.region id ops false) Q s = andThen (aOps Γ P E.N ops ops.toList s) fun r => hintP E.ns id (Q .normal) E.N.adv.hints r.1 := rfl
theorem vc_drawn (id : Nat) : vc Γ P E (.region id ops true) Q s = drawnP ops (aOps Γ P E.N ops ops.toList s) (hintP E.ns id (Q .normal) E.N.adv.hints) := by
  simp only [vc, drawnP]
theorem vc_seq (a b : Code) : vc Γ P E (.seq a b) Q s = vc Γ P E a (thenA (vc Γ P E b Q) Q) s := rfl
theorem vc_cond (c : Operand) (x y : Code) : vc Γ P E (.cond c x y) Q s = andThen (cndE (s.eval c)) fun c => cndQ c (vc Γ P E x Q s) (vc Γ P E y Q s) := rfl
theorem vc_block (id : Nat) (b : Code) : vc Γ P E (.block id b) Q s = vc Γ P E b (inBlockA id Q) s := rfl
theorem vc_loop (b : Code) : vc Γ P E (.loop b) Q s = AWP P E (.loop b) Q s := rfl
theorem vc_exit (id : Nat) : vc Γ P E (.exit id) Q s = Q (.exit id) s := rfl
theorem vc_label (l : Nat) : vc Γ P E (.label l) Q s = Q .normal s := rfl
theorem vc_ret : vc Γ P E .ret Q s = Q .ret s := rfl

theorem thenA_normal (K : AS → Prop) : thenA K Q .normal s = K s := rfl
theorem thenA_ret (K : AS → Prop) : thenA K Q .ret s = Q .ret s := rfl
theorem thenA_exit (K : AS → Prop) (i : Nat) : thenA K Q (.exit i) s = Q (.exit i) s := rfl
theorem inBlockA_normal (i : Nat) : inBlockA i Q .normal s = Q .normal s := rfl
theorem inBlockA_ret (i : Nat) : inBlockA i Q .ret s = Q .ret s := rfl
theorem inBlockA_here (i : Nat) : inBlockA i Q (.exit i) s = Q .normal s := by simp [inBlockA]
theorem aOps_nil : aOps Γ P N ops [] s = some (s, []) := rfl
theorem aOps_cons (o : Oper) (l : List Oper) : aOps Γ P N ops (o :: l) s = obind (aStep Γ P N ops o s) fun r => obind (aOps Γ P N ops l r.1) fun q => some (q.1, r.2 :: q.2) := by
  simp only [aOps, obind]
  split <;> simp_all
  split <;> simp_all

theorem dstOK_some {d : Nat} {op : Op} {ty : TypeId} {pos : String} {af : Array Edge} {g : Option (Nat × Bool)} : dstOK N ⟨some d, op, ty, pos, af, g⟩ = decide (d < N.n) := rfl
theorem dstOK_none {op : Op} {ty : TypeId} {pos : String} {af : Array Edge} {g : Option (Nat × Bool)} : dstOK N ⟨none, op, ty, pos, af, g⟩ = true := rfl
theorem guardE_none {d : Option Tmp} {op : Op} {ty : TypeId} {pos : String} {af : Array Edge} : guardE ops ⟨d, op, ty, pos, af, none⟩ s = some true := rfl
def boolE (want : Bool) (x : AV) : Option Bool := match x with | .c (.bool b) => some (b == want) | .tup [] => some false | _ => none
theorem boolE_tup (want : Bool) : boolE want (.tup []) = some false := rfl
theorem boolE_c (want b : Bool) : boolE want (.c (.bool b)) = some (b == want) := rfl
theorem guardE_some {d : Option Tmp} {op : Op} {ty : TypeId} {pos : String} {af : Array Edge} {j : Nat} {want : Bool} : guardE ops ⟨d, op, ty, pos, af, some (j, want)⟩ s = obind ((ops[j]?).bind (·.dst)) fun t => boolE want (s.get t) := by
  unfold guardE boolE
  dsimp only
  cases h : (ops[j]?).bind (·.dst) with
  | none => rfl
  | some t =>
    simp only [Option.map_some, obind]
    cases s.get t with
    | c x => cases x <;> rfl
    | tup l => cases l <;> rfl
    | _ => rfl

theorem run_ret {α : Type} (m : Nat → Option MC) (a : α) : (EP.ret a).run m = some (a, []) := Eq.trans (Eq.refl _) (Eq.refl _)
theorem run_fail {α : Type} (m : Nat → Option MC) : (EP.fail : EP α).run m = none := rfl
theorem run_ask {α : Type} (m : Nat → Option MC) (n : Nat) (k : Option MC → EP α) : (EP.ask n k).run m = obind ((k (m n)).run m) fun r => some (r.1, n :: r.2) := by
  simp only [EP.run, obind]
  split <;> rename_i h <;> simp [h]
theorem run_bind {α β : Type} (m : Nat → Option MC) (f : α → EP β) : ∀ (p : EP α), (p.bind f).run m = obind (p.run m) fun r => obind ((f r.1).run m) fun q => some (q.1, r.2 ++ q.2)
  | .ret a => by
    simp only [EP.bind, EP.run, obind]
    cases (f a).run m with
    | none => rfl
    | some q => simp
  | .fail => rfl
  | .ask n k => by
    rw [EP.bind, run_ask, run_ask, run_bind m f (k (m n))]
    cases (k (m n)).run m with
    | none => rfl
    | some r =>
      simp only [obind]
      cases (f r.1).run m with
      | none => rfl
      | some q => simp
theorem run_ifE {α : Type} (m : Nat → Option MC) (b : Bool) (x y : EP α) : (ifE b x y).run m = ifE b (x.run m) (y.run m) := by cases b <;> rfl
theorem run_ite {α : Type} (m : Nat → Option MC) (c : Prop) [Decidable c] (x y : EP α) : (if c then x else y).run m = if c then x.run m else y.run m := by split <;> rfl

theorem get_mk (t : List (Nat × AV)) (m : List (Nat × MC)) (i : Nat) : (AS.mk t m).get i = (look t i).getD .undef := rfl
theorem mem_mk (t : List (Nat × AV)) (m : List (Nat × MC)) (i : Nat) : (AS.mk t m).mem i = look m i := rfl
theorem step_mk (t : List (Nat × AV)) (m : List (Nat × MC)) (d : Nat) (op : Op) (ty : TypeId) (pos : String) (af : Array Edge) (g : Option (Nat × Bool)) (v : AV) (wr : List (Nat × MC)) :
    (AS.mk t m).step ⟨some d, op, ty, pos, af, g⟩ ⟨v, wr⟩ = ⟨(d, v) :: t, wr ++ m⟩ := rfl
theorem step_mk' (t : List (Nat × AV)) (m : List (Nat × MC)) (op : Op) (ty : TypeId) (pos : String) (af : Array Edge) (g : Option (Nat × Bool)) (v : AV) (wr : List (Nat × MC)) :
    (AS.mk t m).step ⟨none, op, ty, pos, af, g⟩ ⟨v, wr⟩ = ⟨t, wr ++ m⟩ := rfl
theorem put_mk (t : List (Nat × AV)) (m : List (Nat × MC)) (d : Nat) (v : AV) : (AS.mk t m).put (some d) v = ⟨(d, v) :: t, m⟩ := rfl
theorem put_mk' (t : List (Nat × AV)) (m : List (Nat × MC)) (v : AV) : (AS.mk t m).put none v = ⟨t, m⟩ := rfl
theorem look_nil {α : Type} (i : Nat) : look ([] : List (Nat × α)) i = none := rfl
theorem look_cons {α : Type} (j : Nat) (x : α) (l : List (Nat × α)) (i : Nat) : look ((j, x) :: l) i = if j = i then some x else look l i := rfl
theorem eval_tmp (t : Nat) : s.eval (.tmp t) = s.get t := rfl
theorem eval_func (f : Nat) : s.eval (.func f) = .clo f [] := rfl
theorem eval_int (k : IntKind) (n : Int) : s.eval (.const (.int k n)) = .c (.int k n) := rfl
theorem eval_bool (b : Bool) : s.eval (.const (.bool b)) = .c (.bool b) := rfl
theorem eval_str (b : ByteArray) : s.eval (.const (.string b)) = .c (.str b.data.toList) := rfl
theorem eval_nilsl : s.eval (.const (.slice none 0 0)) = .nilsl := rfl
theorem eval_nilptr : s.eval (.const (.pointer none)) = .nilptr := rfl
theorem eval_nilmp : s.eval (.const (.map none)) = .nilmp := rfl

variable (M : List Nat) (ρ : Operand → AV) (d : Option Tmp) (dd : Tmp) (ty : TypeId) (pos : String) (af : Array Edge) (g : Option (Nat × Bool))
theorem op_move (x : Operand) : opE Γ P M ⟨d, .move x, ty, pos, af, g⟩ ρ = .ret ⟨ρ x, []⟩ := rfl
theorem op_assign (x : Operand) : opE Γ P M ⟨d, .assign x, ty, pos, af, g⟩ ρ = .ret ⟨ρ x, []⟩ := rfl
def pickE (x a b : AV) : EP Eff := match x with | .c (.bool t) => ifE t (.ret ⟨a, []⟩) (.ret ⟨b, []⟩) | _ => .fail
theorem op_pick (c x y : Operand) : opE Γ P M ⟨d, .pick c x y, ty, pos, af, g⟩ ρ = pickE (ρ c) (ρ x) (ρ y) := rfl
theorem op_load (t : TypeId) (x : Operand) : opE Γ P M ⟨d, .load t x, ty, pos, af, g⟩ ρ = okM (loadE P t (ρ x)) := rfl
theorem op_store (t : TypeId) (x y : Operand) : opE Γ P M ⟨d, .store t x y, ty, pos, af, g⟩ ρ = storeE P t (ρ x) (ρ y) := rfl
def ncE (x : AV) : EP Eff := match x with
    | .ptr n off => .ret ⟨.ptr n off, []⟩
    | .rptr cs => .ret ⟨.rptr cs, []⟩
    | .clo f caps => .ret ⟨.clo f caps, []⟩
    | _ => .fail
theorem op_nilCheck (x : Operand) : opE Γ P M ⟨d, .nilCheck x, ty, pos, af, g⟩ ρ = ncE (ρ x) := rfl
theorem op_binOp (op : BinOp) (t t' : TypeId) (x y : Operand) : opE Γ P M ⟨d, .binOp op t x y t', ty, pos, af, g⟩ ρ = okE (binE P op t (ρ x) (ρ y)) := rfl
theorem op_unOp (op : UnOp) (t : TypeId) (x : Operand) : opE Γ P M ⟨d, .unOp op t x, ty, pos, af, g⟩ ρ = okE (unE op (ρ x)) := rfl
theorem op_convert (t t' : TypeId) (x : Operand) : opE Γ P M ⟨d, .convert t t' x, ty, pos, af, g⟩ ρ = convO P t t' (ρ x) := rfl
def faE (P : Program) (t : TypeId) (i : Nat) (x : AV) : EP Eff := match tyField P t i with
    | some (off, _, z) => if z = 0 then .fail else match x with
      | .ptr n o => .ret ⟨.ptr n (o + off), []⟩
      | .rptr cs => .ret ⟨.rptr (cs.drop off), []⟩
      | _ => .fail
    | none => .fail
theorem op_fieldAddr (t : TypeId) (x : Operand) (i : Nat) : opE Γ P M ⟨d, .fieldAddr t x i, ty, pos, af, g⟩ ρ = faE P t i (ρ x) := rfl
def fieldE (P : Program) (t : TypeId) (i : Nat) (x : AV) : EP Eff := match tyField P t i, x with
    | some (off, ft, z), .agg cs => match tyAgg P ft with
      | some true => if off + z ≤ cs.length then .ret ⟨.agg ((cs.drop off).take z), []⟩ else .fail
      | some false => match cs[off]? with | some v => .ret ⟨v, []⟩ | none => .fail
      | none => .fail
    | _, _ => .fail
theorem op_field (t : TypeId) (x : Operand) (i : Nat) : opE Γ P M ⟨d, .field t x i, ty, pos, af, g⟩ ρ = fieldE P t i (ρ x) := rfl
theorem op_indexAddr (t : TypeId) (x i : Operand) : opE Γ P M ⟨d, .indexAddr t x i, ty, pos, af, g⟩ ρ = okE (indexE P t (ρ x) (ρ i)) := rfl
theorem op_slice (t : TypeId) (x : Operand) (lo hi mx : Option Operand) : opE Γ P M ⟨d, .slice t x lo hi mx, ty, pos, af, g⟩ ρ = okE (sliceE P t (ρ x) (lo.map ρ) (hi.map ρ) (mx.map ρ)) := rfl
def extE (x : AV) (i : Nat) : EP Eff := match x with | .tup vs => okE vs[i]? | _ => .fail
theorem op_extract (x : Operand) (i : Nat) : opE Γ P M ⟨d, .extract x i, ty, pos, af, g⟩ ρ = extE (ρ x) i := rfl
theorem op_alloc (t : TypeId) : opE Γ P M ⟨some dd, .alloc t, ty, pos, af, g⟩ ρ = match tyZero P t with | some cells => newObjE (objName dd) cells | none => .fail := rfl
theorem op_box (t : TypeId) (x : Operand) : opE Γ P M ⟨some dd, .box t x, ty, pos, af, g⟩ ρ = match (ρ x).flat with | some cells => newObjE (objName dd) cells | none => .fail := rfl
theorem op_build (t : TypeId) (parts : Array (Nat × Operand)) : opE Γ P M ⟨d, .build t parts, ty, pos, af, g⟩ ρ = okE ((buildE P t (parts.toList.map fun p => (p.1, ρ p.2))).map .agg) := rfl
theorem op_builtin (b : Builtin) (args : Array Operand) (ts : Array TypeId) : opE Γ P M ⟨some dd, .call ⟨.builtin b, args, ts⟩, ty, pos, af, g⟩ ρ = builtinE P dd b ts (args.toList.map ρ) := rfl
def cloE (Γ : FuncId → Contract) (dd : Nat) (x : AV) (args : List AV) : EP Eff := match x with | .clo f caps => callE Γ dd f (args ++ caps.map .rptr) | _ => .fail
theorem op_call (f : Operand) (args : Array Operand) (ts : Array TypeId) : opE Γ P M ⟨some dd, .call ⟨.value f, args, ts⟩, ty, pos, af, g⟩ ρ = cloE Γ dd (ρ f) (args.toList.map ρ) := rfl
def bsE (P : Program) (M : List Nat) (dd : Nat) (t : TypeId) (n : Nat) (parts : List (Nat × AV)) : EP Eff := match tyElem P t with
    | some e => match tyZero P e, tySize P e with
      | some zero, some z => if zero.length = z ∧ 0 < z ∧ n * z ≤ 16777216 then
          ifE (hasN M dd) (match fillE (fun i => some (i * z, z)) ((List.replicate n zero).flatten) parts with
          | some out => newMslE (objName dd) n out
          | none => .fail) (match (fillE (fun i => some (i * z, z)) ((List.replicate n zero).flatten) parts).bind toPCs with
          | some cs => newRowE (rowName dd) z (chunks z n cs)
          | none => .fail)
        else .fail
      | _, _ => .fail
    | none => .fail
theorem op_buildSlice (t : TypeId) (n : Nat) (parts : Array (Nat × Operand)) : opE Γ P M ⟨some dd, .buildSlice t n parts, ty, pos, af, g⟩ ρ = bsE P M dd t n (parts.toList.map fun p => (p.1, ρ p.2)) := by
  unfold opE bsE
  simp only [Option.isSome_some, true_and, Option.getD_some]
  cases tyElem P t with
  | none => rfl
  | some e =>
    dsimp only
    cases tyZero P e with
    | none => rfl
    | some zero =>
      cases tySize P e with
      | none => rfl
      | some z => rfl
def mkE (P : Program) (M : List Nat) (dd : Nat) (t : TypeId) (l c : AV) : EP Eff := match tyElem P t, l, c with
    | some e, .c (.int .i64 n), .c (.int .i64 m) => match tyZero P e, tySize P e, tyBytes P e with
      | some zero, some z, some by_ => match toPCs zero with
        | some zs => if zs.length = z ∧ 0 < z ∧ n ≤ m ∧ 0 ≤ n ∧ m ≤ 9223372036854775807 ∧ m * by_ ≤ 140737488355328 then ifE (hasN M dd) (if n = m then newMslE (objName dd) n.toNat (List.replicate n.toNat zero).flatten else .fail) (newRowE (rowName dd) z (List.replicate n.toNat zs)) else .fail
        | none => .fail
      | _, _, _ => .fail
    | _, _, _ => .fail
theorem op_makeSlice (t : TypeId) (l c : Operand) : opE Γ P M ⟨some dd, .makeSlice t l c, ty, pos, af, g⟩ ρ = mkE P M dd t (ρ l) (ρ c) := by
  unfold opE mkE
  simp only [Option.isSome_some, true_and, Option.getD_some]
  rfl
theorem hasN_nil (n : Nat) : hasN [] n = false := rfl
theorem hasN_cons (x n : Nat) (l : List Nat) : hasN (x :: l) n = (x == n || hasN l n) := rfl
theorem hintP_nil (ns : List Nat) (id : Nat) (K : AS → Prop) (s : AS) : hintP ns id K [] s = K s := rfl
theorem hintP_nil' (ns : List Nat) (id : Nat) (K : AS → Prop) : hintP ns id K [] = K := rfl
theorem hintP_cons (ns : List Nat) (id : Nat) (K : AS → Prop) (i : Nat) (h : Hint) (l : List (Nat × Hint)) (s : AS) : hintP ns id K ((i, h) :: l) s = if i = id then andThen (doHint ns h s) (hintP ns id K l) else hintP ns id K l s := rfl
theorem doHint_tidy (ns : List Nat) (l : List Nat) (s : AS) : doHint ns (.tidy l) s = some ⟨pickT s l, once s.m⟩ := rfl
theorem pickT_nil (s : AS) : pickT s [] = [] := rfl
theorem pickT_cons (s : AS) (i : Nat) (l : List Nat) : pickT s (i :: l) = (i, s.get i) :: pickT s l := rfl
theorem m_mk (t : List (Nat × AV)) (m : List (Nat × MC)) : (AS.mk t m).m = m := rfl
def idxE (P : Program) (t : TypeId) (x i : AV) : EP Eff := match x, i with
    | .c (.str s), .c (.int _ i) => if tyStr P t ∧ 0 ≤ i then match s[i.toNat]? with | some b => .ret ⟨.c (.int .u8 b.toNat), []⟩ | none => .fail else .fail
    | .agg cs, .c (.int _ i) => match tyArr P t with
      | some (n, e) => match tySize P e, tyAgg P e with
        | some z, some false => if 0 ≤ i ∧ i < (n : Int) then match cs[i.toNat * z]? with | some v => .ret ⟨v, []⟩ | none => .fail else .fail
        | some z, some true => if 0 ≤ i ∧ i < (n : Int) ∧ i.toNat * z + z ≤ cs.length then .ret ⟨.agg ((cs.drop (i.toNat * z)).take z), []⟩ else .fail
        | _, _ => .fail
      | none => .fail
    | _, _ => .fail
theorem op_lookup (t : TypeId) (x k : Operand) (ok : Bool) : opE Γ P M ⟨d, .lookup t x k ok, ty, pos, af, g⟩ ρ = okM (lookupE P t (ρ x) (ρ k) ok) := rfl
theorem op_mapUpdate (t : TypeId) (m k x : Operand) : opE Γ P M ⟨d, .mapUpdate t m k x, ty, pos, af, g⟩ ρ = mapSetE P t (ρ m) (ρ k) (ρ x) := rfl
theorem op_index (t : TypeId) (x i : Operand) : opE Γ P M ⟨d, .index t x i, ty, pos, af, g⟩ ρ = idxE P t (ρ x) (ρ i) := rfl

end

/-- Many alike: with a word that simp does not look behind. -/
def zrep (n : Nat) (x : AV) : List AV := List.replicate n x
def gval (b : Bool) (v : AV) : AV := match b with | true => v | false => .tup []
@[congr] theorem gval_congr {b b' : Bool} {v : AV} (h : b = b') : gval b v = gval b' v := by rw [h]
theorem gval_true (v : AV) : gval true v = v := Eq.trans (Eq.refl _) (Eq.refl _)
theorem gval_false (v : AV) : gval false v = .tup [] := Eq.trans (Eq.refl _) (Eq.refl _)
def gfp (b : Bool) (rd : List Nat) : FP := match b with | true => ⟨rd, []⟩ | false => ⟨[], []⟩
theorem gfp_true (rd : List Nat) : gfp true rd = ⟨rd, []⟩ := Eq.trans (Eq.refl _) (Eq.refl _)
theorem gfp_false (rd : List Nat) : gfp false rd = ⟨[], []⟩ := Eq.trans (Eq.refl _) (Eq.refl _)
def gstep (b : Bool) (s : AS) (o : Oper) (R : Option (Eff × List Nat)) : Option (AS × FP) := ifE b (obind R fun r => some (s.step o r.1, ⟨r.2, r.1.wr.map (·.1)⟩)) (some (s.put o.dst (.tup []), ⟨[], []⟩))
@[congr] theorem gstep_congr {b b' : Bool} {s : AS} {o : Oper} {R : Option (Eff × List Nat)} (h : b = b') : gstep b s o R = gstep b' s o R := by rw [h]
theorem gstep_true (s : AS) (o : Oper) (R : Option (Eff × List Nat)) : gstep true s o R = obind R fun r => some (s.step o r.1, ⟨r.2, r.1.wr.map (·.1)⟩) := Eq.trans (Eq.refl _) (Eq.refl _)
theorem gstep_false (s : AS) (o : Oper) (R : Option (Eff × List Nat)) : gstep false s o R = some (s.put o.dst (.tup []), ⟨[], []⟩) := Eq.trans (Eq.refl _) (Eq.refl _)
def gctx (b : Bool) (s : AS) (o : Oper) (R : Option (Eff × List Nat)) : Option (AS × FP) := gstep b s o R
@[congr] theorem gctx_congr {b b' : Bool} {s : AS} {o : Oper} {R R' : Option (Eff × List Nat)} (h : b = b') (hR : b' = true → R = R') : gctx b s o R = gctx b' s o R' := by
  subst h
  cases b with
  | true => rw [hR rfl]
  | false => rfl
theorem gstep_dec {p : Prop} {i : Decidable p} (s : AS) (o : Oper) (R : Option (Eff × List Nat)) : gstep (@decide p i) s o R = gctx (@decide p i) s o R := rfl
theorem gstep_not (b : Bool) (s : AS) (o : Oper) (R : Option (Eff × List Nat)) : gstep (!b) s o R = gctx (!b) s o R := rfl
theorem gstep_and (a b : Bool) (s : AS) (o : Oper) (R : Option (Eff × List Nat)) : gstep (a && b) s o R = gctx (a && b) s o R := rfl
theorem gstep_or (a b : Bool) (s : AS) (o : Oper) (R : Option (Eff × List Nat)) : gstep (a || b) s o R = gctx (a || b) s o R := rfl
theorem gstep_beq {β : Type} {i : BEq β} (a b : β) (s : AS) (o : Oper) (R : Option (Eff × List Nat)) : gstep (a == b) s o R = gctx (a == b) s o R := rfl
theorem gstep_bne {β : Type} {i : BEq β} (a b : β) (s : AS) (o : Oper) (R : Option (Eff × List Nat)) : gstep (a != b) s o R = gctx (a != b) s o R := rfl
theorem gctx_true (s : AS) (o : Oper) (R : Option (Eff × List Nat)) : gctx true s o R = gstep true s o R := rfl
theorem gctx_false (s : AS) (o : Oper) (R : Option (Eff × List Nat)) : gctx false s o R = gstep false s o R := rfl
theorem gctx_ret (b : Bool) (s : AS) (o : Oper) (v : AV) (rd : List Nat) : gctx b s o (some (⟨v, []⟩, rd)) = some (s.put o.dst (gval b v), gfp b rd) := by
  cases b <;> rfl
theorem gctx_wr (b : Bool) (s : AS) (o : Oper) (v : AV) (x : Nat × MC) (w : List (Nat × MC)) (rd : List Nat) : gctx b s o (some (⟨v, x :: w⟩, rd)) = ifE b (some (s.step o ⟨v, x :: w⟩, ⟨rd, (x :: w).map (·.1)⟩)) (some (s.put o.dst (.tup []), ⟨[], []⟩)) := rfl
theorem boolE_gval (w b x : Bool) : boolE w (gval b (.c (.bool x))) = some (b && (x == w)) := by cases b <;> rfl
/-- One of two. -/
def pv (t : Bool) (a b : AV) : AV := match t with | true => a | false => b
theorem pv_true (a b : AV) : pv true a b = a := Eq.trans (Eq.refl _) (Eq.refl _)
theorem pv_false (a b : AV) : pv false a b = b := Eq.trans (Eq.refl _) (Eq.refl _)
theorem pv_or (t x : Bool) : pv t (.c (.bool true)) (gval (!t) (.c (.bool x))) = .c (.bool (t || x)) := by cases t <;> rfl
theorem pv_or' (t x : Bool) : pv t (.c (.bool true)) (.c (.bool x)) = .c (.bool (t || x)) := by cases t <;> rfl
theorem pv_orn (t x : Bool) : pv (!t) (.c (.bool true)) (gval t (.c (.bool x))) = .c (.bool (!t || x)) := by cases t <;> rfl
theorem pv_and (t x : Bool) : pv t (gval t (.c (.bool x))) (.c (.bool false)) = .c (.bool (t && x)) := by cases t <;> rfl
theorem pv_and' (t x : Bool) : pv t (.c (.bool x)) (.c (.bool false)) = .c (.bool (t && x)) := by cases t <;> rfl
theorem pickE_v (t : Bool) (a b : AV) : pickE (.c (.bool t)) a b = .ret ⟨pv t a b, []⟩ := by cases t <;> rfl
theorem aStep_g (Γ : FuncId → Contract) (P : Program) (N : Lim) (ops : Array Oper) (s : AS) (o : Oper) : aStep Γ P N ops o s = if dstOK N o = true then obind (guardE ops o s) (fun b => gstep b s o ((opE Γ P N.adv.mu o s.eval).run s.mem)) else none := by
  unfold aStep obind
  split
  · split
    · rename_i b hb
      rw [hb]
      cases b with
      | true =>
        simp only [gstep_true, ifE_true, obind]
        split <;> simp_all
      | false => rfl
    · rename_i hb; rw [hb]
  · rfl

/-- Contracts, one behind the other. -/
def ext (Γ : FuncId → Contract) (f : FuncId) (C : Contract) : FuncId → Contract := fun g => if g = f then C else Γ g
def none0 : FuncId → Contract := fun _ _ _ => none
theorem none0_sound {P : Program} : SoundG P none0 := fun _ _ _ _ h => by cases h
theorem ext_sound {P : Program} {Γ : FuncId → Contract} {f : FuncId} {C : Contract} (h : SoundG P Γ) (hC : SoundC P f C) : SoundG P (ext Γ f C) := by
  intro g args objs r hr
  unfold ext at hr ⊢
  split at hr
  · rename_i e; subst e; rw [if_pos rfl]; exact hC
  · rename_i e; rw [if_neg e]; exact h g args objs r hr
theorem ifE_self {α : Type} (b : Bool) (x : α) : ifE b x x = x := by cases b <;> rfl

theorem wrapI {n : Int} (h : -9223372036854775808 ≤ n ∧ n ≤ 9223372036854775807) : IntKind.i64.wrap n = n := by
  simp [IntKind.wrap, IntKind.bits, IntKind.signed]; omega
theorem wrapU {n : Int} (h : 0 ≤ n ∧ n < 18446744073709551616) : IntKind.u64.wrap n = n := by
  simp [IntKind.wrap, IntKind.bits, IntKind.signed]; omega
theorem wrapB (n : Int) : IntKind.u8.wrap n = n % 256 := by
  simp [IntKind.wrap, IntKind.bits, IntKind.signed]

/-- The rules of a walk, under one name. -/
def runA := And.intro @vc_skip <|
  And.intro @vc_region <|
  And.intro @vc_drawn <|
  And.intro @vc_seq <|
  And.intro @vc_cond <|
  And.intro @vc_block <|
  And.intro @vc_loop <|
  And.intro @vc_exit <|
  And.intro @vc_label <|
  And.intro @vc_ret <|
  And.intro @thenA_normal <|
  And.intro @thenA_ret <|
  And.intro @thenA_exit <|
  And.intro @inBlockA_normal <|
  And.intro @inBlockA_ret <|
  And.intro @inBlockA_here <|
  And.intro @aOps_nil <|
  And.intro @aOps_cons <|
  And.intro @aStep_g <|
  And.intro @dstOK_some <|
  And.intro @dstOK_none <|
  And.intro @guardE_none <|
  And.intro @guardE_some <|
  And.intro @boolE_c <|
  And.intro @boolE_tup <|
  And.intro @run_ret <|
  And.intro @run_fail <|
  And.intro @run_ask <|
  And.intro @run_bind <|
  And.intro @run_ifE <|
  And.intro @run_ite <|
  And.intro @get_mk <|
  And.intro @mem_mk <|
  And.intro @step_mk <|
  And.intro @step_mk' <|
  And.intro @put_mk <|
  And.intro @put_mk' <|
  And.intro @look_nil <|
  And.intro @look_cons <|
  And.intro @eval_tmp <|
  And.intro @eval_func <|
  And.intro @eval_int <|
  And.intro @eval_bool <|
  And.intro @eval_str <|
  And.intro @eval_nilsl <|
  And.intro @eval_nilptr <|
  And.intro @eval_nilmp <|
  And.intro @op_move <|
  And.intro @op_assign <|
  And.intro @op_pick <|
  And.intro @pickE_v <|
  And.intro @gval_true <|
  And.intro @gval_false <|
  And.intro @gfp_true <|
  And.intro @gfp_false <|
  And.intro @gstep_true <|
  And.intro @gstep_false <|
  And.intro @gstep_dec <|
  And.intro @gstep_not <|
  And.intro @gstep_and <|
  And.intro @gstep_or <|
  And.intro @gstep_beq <|
  And.intro @gstep_bne <|
  And.intro @gctx_true <|
  And.intro @gctx_false <|
  And.intro @gctx_ret <|
  And.intro @gctx_wr <|
  And.intro @boolE_gval <|
  And.intro @pv_true <|
  And.intro @pv_false <|
  And.intro @pv_or <|
  And.intro @pv_or' <|
  And.intro @pv_orn <|
  And.intro @pv_and <|
  And.intro @pv_and' <|
  And.intro @op_load <|
  And.intro @op_store <|
  And.intro @op_nilCheck <|
  And.intro @op_binOp <|
  And.intro @op_unOp <|
  And.intro @op_convert <|
  And.intro @op_fieldAddr <|
  And.intro @op_field <|
  And.intro @op_indexAddr <|
  And.intro @op_slice <|
  And.intro @op_extract <|
  And.intro @op_alloc <|
  And.intro @op_box <|
  And.intro @op_build <|
  And.intro @op_builtin <|
  And.intro @op_call <|
  And.intro @op_buildSlice <|
  And.intro @op_index <|
  And.intro @op_lookup <|
  And.intro @op_mapUpdate <|
  And.intro @obind_some <|
  And.intro @obind_none <|
  And.intro @obind_ifE <|
  And.intro @ifE_true <|
  And.intro @ifE_false <|
  And.intro @ifE_self <|
  And.intro @andThen_some <|
  And.intro @andThen_none <|
  And.intro @andThen_ifE <|
  And.intro @branch_true <|
  And.intro @branch_false <|
  And.intro @hintP_nil <|
  And.intro @hintP_nil' <|
  And.intro @hintP_cons <|
  And.intro @hasN_nil <|
  And.intro @hasN_cons <|
  And.intro @op_makeSlice <|
  And.intro @doHint_tidy <|
  And.intro @pickT_nil <|
  And.intro @pickT_cons <|
  @m_mk

/-- Rules of lists, options, truth values that every walk needs. -/
theorem runB : (∀ (α : Type) (l : List α), l ++ [] = l) ∧
  (∀ (α : Type) (l : List α), [] ++ l = l) ∧
  (∀ (α : Type) (a : α) (l m : List α), (a :: l) ++ m = a :: (l ++ m)) ∧
  (∀ (α β : Type) (f : α → β) (a : α), (some a).map f = some (f a)) ∧
  (∀ (α β : Type) (f : α → β), (none : Option α).map f = none) ∧
  (∀ (h : Decidable True), @decide True h = true) ∧
  (∀ (h : Decidable False), @decide False h = false) ∧
  (∀ (α : Type) (a b : α), (some a).getD b = a) ∧
  (∀ (α : Type) (b : α), (none : Option α).getD b = b) ∧
  (∀ (α : Type) (a : α) (l : List α), (a :: l)[0]? = some a) ∧
  (∀ (α : Type) (a : α) (l : List α) (i : Nat), (a :: l)[i + 1]? = l[i]?) ∧
  (∀ (α : Type) (a : α) (l : List α), (a :: l).length = l.length + 1) ∧
  (∀ (α : Type), ([] : List α).length = 0) ∧
  (∀ (α β : Type) (f : α → β) (a : α) (l : List α), (a :: l).map f = f a :: l.map f) ∧
  (∀ (α β : Type) (f : α → β), ([] : List α).map f = []) ∧
  (∀ (p : Prop), (p ∧ p) = p) ∧
  (∀ (p : Prop), (p ∧ True) = p) ∧
  (∀ (p : Prop), (True ∧ p) = p) ∧
  (∀ (α : Type) (p : α → Bool) (a : α) (l : List α), (a :: l).all p = (p a && l.all p)) ∧
  (∀ (α : Type) (p : α → Bool), ([] : List α).all p = true) ∧
  (∀ (b : Bool), (b && b) = b) ∧
  (∀ (b : Bool), (b && true) = b) ∧
  (∀ (α β : Type) (a : α) (f : α → Option β), (some a).bind f = f a) ∧
  (∀ (α β : Type) (f : α → Option β), (none : Option α).bind f = none) ∧
  ((false = true) = False) ∧
  (∀ (α : Type) (a : α) (l : List α), (a :: l).Nodup ↔ a ∉ l ∧ l.Nodup) ∧
  (∀ (α : Type) (a b : α) (l : List α), a ∈ b :: l ↔ a = b ∨ a ∈ l) ∧
  (∀ (α : Type) (a : α), ¬ a ∈ ([] : List α)) ∧
  (∀ (p : Prop), (p ∨ False) = p) ∧
  ((¬ False) = True) ∧
  (∀ (α : Type), ([] : List α).Nodup) ∧
  (∀ (α : Type) (l : List α) (i : Nat), l.toArray[i]? = l[i]?) ∧
  (∀ (α : Type) (a : List α) (l : List (List α)), (a :: l).flatten = a ++ l.flatten) ∧
  (∀ (α : Type), ([] : List (List α)).flatten = []) ∧
  (∀ (n : Nat), 0 + n = n) ∧
  (∀ (n : Nat), n * 1 = n) ∧
  (∀ (n : Nat), 1 * n = n) ∧
  (∀ (n : Nat), 0 ≤ n) ∧
  (∀ (n : Nat), n + 0 = n) ∧
  (∀ (α : Type) (l m : List α), (l ++ m).length = l.length + m.length) ∧
  (∀ (b : Bool), (b == true) = b) ∧
  (∀ (b : Bool), (b == false) = !b) ∧
  ((!true) = false) ∧
  ((!false) = true) ∧
  (∀ (α : Type) [BEq α] [ReflBEq α] (a : α), (a == a) = true) ∧
  (∀ (n : Nat), ((n : Int)).toNat = n) ∧
  (∀ (n : Nat), (0 : Int) ≤ (n : Int)) ∧
  (∀ (b : Bool), (b || false) = b) ∧
  (∀ (b : Bool), (b || true) = true) ∧
  (∀ (b : Bool), (false || b) = b) ∧
  (∀ (b : Bool), (true || b) = true) ∧
  (∀ (α : Type) (l m : List α), List.append l m = l ++ m) ∧
  (∀ (b : Bool), (true && b) = b) ∧
  (∀ (b : Bool), (false && b) = false) ∧
  (∀ (b : Bool), (b && false) = false) ∧
  (∀ (b : Bool), (!(!b)) = b) :=
  ⟨by intros; simp,
  by intros; simp,
  by intros; simp,
  by intros; simp,
  by intros; simp,
  fun h => by cases h <;> first | rfl | exact absurd trivial (by assumption),
  fun h => by cases h <;> first | rfl | exact absurd (by assumption) id,
  by intros; simp,
  by intros; simp,
  by intros; simp,
  by intros; simp,
  by intros; simp,
  by intros; simp,
  by intros; simp,
  by intros; simp,
  and_self,
  and_true,
  true_and,
  by intros; simp,
  by intros; simp,
  by intros; simp,
  by intros; simp,
  by intros; simp,
  by intros; simp,
  Bool.false_eq_true,
  fun _ _ _ => List.nodup_cons,
  fun _ _ _ _ => List.mem_cons,
  fun _ _ => List.not_mem_nil,
  or_false,
  not_false_eq_true,
  fun _ => List.nodup_nil,
  by intros; simp,
  by intros; simp,
  by intros; simp,
  by intros; simp,
  by intros; simp,
  by intros; simp,
  by intros; simp,
  by intros; simp,
  by intros; simp,
  by intros; simp,
  by intros; simp,
  Bool.not_true,
  Bool.not_false,
  fun _ _ _ a => beq_self_eq_true a,
  by intros; simp,
  by intros; simp,
  by intros; simp,
  by intros; simp,
  by intros; simp,
  by intros; simp,
  by intros; simp,
  Bool.true_and,
  Bool.false_and,
  Bool.and_false,
  Bool.not_not⟩

/-- What the operations are, under one name. -/
def runC := And.intro @ncE.eq_1 <|
  And.intro @ncE.eq_2 <|
  And.intro @ncE.eq_3 <|
  And.intro @ncE.eq_4 <|
  And.intro @faE.eq_1 <|
  And.intro @extE.eq_1 <|
  And.intro @extE.eq_2 <|
  And.intro @cloE.eq_1 <|
  And.intro @cloE.eq_2 <|
  And.intro @bsE.eq_1 <|
  And.intro @idxE.eq_1 <|
  And.intro @idxE.eq_2 <|
  And.intro @idxE.eq_3 <|
  And.intro @okE.eq_1 <|
  And.intro @okE.eq_2 <|
  And.intro @okM.eq_1 <|
  And.intro @entryT.eq_1 <|
  And.intro @entryT.eq_2 <|
  And.intro @entryMem.eq_1 <|
  And.intro @entryMem.eq_2 <|
  And.intro @cellsAt.eq_1 <|
  And.intro @cellsAt.eq_2 <|
  And.intro @cellsAt.eq_3 <|
  And.intro @cellsAt.eq_4 <|
  And.intro @cellsAt.eq_5 <|
  And.intro @cellsAt.eq_6 <|
  And.intro @cellsAt.eq_7 <|
  And.intro @loadE.eq_1 <|
  And.intro @loadE.eq_2 <|
  And.intro @loadE.eq_3 <|
  And.intro @isSh.eq_1 <|
  And.intro @isSh.eq_2 <|
  And.intro @isSh.eq_3 <|
  And.intro @intOp.eq_1 <|
  And.intro @intOp.eq_2 <|
  And.intro @intOp.eq_3 <|
  And.intro @intOp.eq_4 <|
  And.intro @intOp.eq_5 <|
  And.intro @intOp.eq_6 <|
  And.intro @intOp.eq_7 <|
  And.intro @intOp.eq_8 <|
  And.intro @intOp.eq_9 <|
  And.intro @intOp.eq_10 <|
  And.intro @intOp.eq_11 <|
  And.intro @intOp.eq_12 <|
  And.intro @intOp.eq_13 <|
  And.intro @intOp.eq_14 <|
  And.intro @intOp.eq_15 <|
  And.intro @intOp.eq_16 <|
  And.intro @AV.flat.eq_1 <|
  @AV.flat.eq_2
def runD := And.intro @AV.flat.eq_3 <|
  And.intro @AV.flat.eq_4 <|
  And.intro @objName.eq_1 <|
  And.intro @rowName.eq_1 <|
  And.intro @resName.eq_1 <|
  And.intro @resCell.eq_1 <|
  And.intro @inObj.eq_1 <|
  And.intro @inRow.eq_1 <|
  And.intro @outName.eq_1 <|
  And.intro @outCell.eq_1 <|
  And.intro @EP.bind.eq_1 <|
  And.intro @EP.bind.eq_2 <|
  And.intro @EP.bind.eq_3 <|
  And.intro @cndE.eq_1 <|
  And.intro @cndE.eq_2 <|
  And.intro @cndE.eq_3 <|
  And.intro @AV.scal.eq_1 <|
  And.intro @AV.scal.eq_2 <|
  And.intro @AV.scal.eq_3 <|
  And.intro @AV.scal.eq_4 <|
  And.intro @List.take.eq_1.{0} <|
  And.intro @List.take.eq_2.{0} <|
  And.intro @List.take.eq_3.{0} <|
  And.intro @List.drop.eq_1.{0} <|
  And.intro @List.drop.eq_2.{0} <|
  And.intro @List.drop.eq_3.{0} <|
  And.intro @callE.eq_1 <|
  And.intro @argsE.eq_1 <|
  And.intro @argsE.eq_2 <|
  And.intro @argsE.eq_3 <|
  And.intro @argsE.eq_4 <|
  And.intro @AV.pure?.eq_1 <|
  And.intro @AV.pure?.eq_2 <|
  And.intro @AV.pure?.eq_3 <|
  And.intro @AV.pure?.eq_4 <|
  And.intro @AV.pure?.eq_5 <|
  And.intro @AV.pure?.eq_6 <|
  And.intro @AV.toPC.eq_1 <|
  And.intro @AV.toPC.eq_2 <|
  And.intro @AV.toPC.eq_3 <|
  And.intro @AV.toPC.eq_4 <|
  And.intro @toPCs.eq_1 <|
  And.intro @toPCs.eq_2 <|
  And.intro @objsE.eq_1 <|
  And.intro @objsE.eq_2 <|
  And.intro @cellsE.eq_1 <|
  And.intro @cellsE.eq_2 <|
  And.intro @cellsE.eq_3 <|
  And.intro @cellsE.eq_4 <|
  And.intro @cellsE.eq_5 <|
  And.intro @cellsE.eq_6 <|
  And.intro @cellsE.eq_7 <|
  And.intro @resAt.eq_1 <|
  And.intro @resAt.eq_2 <|
  @resAt.eq_3
def runE := And.intro @resAt.eq_4 <|
  And.intro @resAt.eq_5 <|
  And.intro @backObjs.eq_1 <|
  And.intro @backObjs.eq_2 <|
  And.intro @backCells.eq_1 <|
  And.intro @backCells.eq_2 <|
  And.intro @backCells.eq_3 <|
  And.intro @backCells.eq_4 <|
  And.intro @backCells.eq_5 <|
  And.intro @backCells.eq_6 <|
  And.intro @backCells.eq_7 <|
  And.intro @backCells.eq_8 <|
  And.intro @backCells.eq_9 <|
  And.intro @freeE.eq_1 <|
  And.intro @freeE.eq_2 <|
  And.intro @keys.eq_1 <|
  And.intro @exitMem.eq_1 <|
  And.intro @shapeOf.eq_1 <|
  And.intro @shapeOf.eq_2 <|
  And.intro @shapeOf.eq_3 <|
  And.intro @shapeOf.eq_4 <|
  And.intro @shapeOf.eq_5 <|
  And.intro @shapeOf.eq_6 <|
  And.intro @shapeOf.eq_7 <|
  And.intro @oneE.eq_1 <|
  And.intro @oneE.eq_2 <|
  And.intro @ext.eq_1 <|
  And.intro @builtinE.eq_1 <|
  And.intro @builtinE.eq_2 <|
  And.intro @builtinE.eq_3 <|
  And.intro @builtinE.eq_4 <|
  And.intro @builtinE.eq_5 <|
  And.intro @lenE.eq_1 <|
  And.intro @lenE.eq_2 <|
  And.intro @lenE.eq_3 <|
  And.intro @lenE.eq_4 <|
  And.intro @lenE.eq_5 <|
  And.intro @AV.rows.eq_1 <|
  And.intro @AV.rows.eq_2 <|
  And.intro @AV.rows.eq_3 <|
  And.intro @AV.rows.eq_4 <|
  And.intro @appendE.eq_1 <|
  And.intro @addedE.eq_1 <|
  And.intro @addedE.eq_2 <|
  And.intro @newRowE.eq_1 <|
  And.intro @newObjE.eq_1 <|
  And.intro @strz.eq_1 <|
  And.intro @strz.eq_2 <|
  And.intro @mm.eq_1 <|
  And.intro @mm.eq_2 <|
  And.intro @fillE.eq_1 <|
  And.intro @fillE.eq_2 <|
  And.intro @chunks.eq_1 <|
  And.intro @chunks.eq_2 <|
  @List.flatten.eq_1.{0}
def runF := And.intro @List.flatten.eq_2.{0} <|
  And.intro @guardE.eq_1 <|
  And.intro @cndQ.eq_1 <|
  And.intro @cndQ.eq_2 <|
  And.intro @List.flatMap.eq_1.{0, 0} <|
  And.intro @Option.map.eq_1.{0, 0} <|
  And.intro @Option.map.eq_2.{0, 0} <|
  And.intro @strOp.eq_1 <|
  And.intro @strOp.eq_2 <|
  And.intro @strOp.eq_3 <|
  And.intro @strOp.eq_4 <|
  And.intro @strOp.eq_5 <|
  And.intro @strOp.eq_6 <|
  And.intro @strOp.eq_7 <|
  And.intro @strOp.eq_8 <|
  And.intro @indexE.eq_1 <|
  And.intro @indexE.eq_2 <|
  And.intro @indexE.eq_3 <|
  And.intro @indexE.eq_4 <|
  And.intro @indexE.eq_5 <|
  And.intro @newMslE.eq_1 <|
  And.intro @look2.eq_1 <|
  And.intro @denil.eq_1 <|
  And.intro @denil.eq_2 <|
  And.intro @once.eq_1 <|
  And.intro @once.eq_2 <|
  And.intro @without.eq_1 <|
  And.intro @without.eq_2 <|
  And.intro @convO.eq_1 <|
  And.intro @convO.eq_2 <|
  And.intro @lookupE.eq_1 <|
  And.intro @lookFound.eq_1 <|
  And.intro @lookFound.eq_2 <|
  And.intro @lookOut.eq_1 <|
  And.intro @elemAV.eq_1 <|
  And.intro @keyE.eq_1 <|
  And.intro @keyE.eq_2 <|
  And.intro @AV.isAgg.eq_1 <|
  And.intro @AV.isAgg.eq_2 <|
  And.intro @refE.eq_1 <|
  And.intro @inNames.eq_1 <|
  @inNames.eq_2
/-- What is owed at an end, or at a loop's head, under one name. -/
def finC := And.intro @get_mk <|
  And.intro @mem_mk <|
  And.intro @look_nil <|
  And.intro @look_cons <|
  And.intro @andThen_some <|
  And.intro @andThen_none <|
  And.intro @run_ask <|
  And.intro @run_ret <|
  And.intro @run_fail <|
  And.intro @obind_some <|
  And.intro @obind_none <|
  And.intro @retQ.eq_1 <|
  And.intro @retQ.eq_2 <|
  And.intro @retQ.eq_3 <|
  And.intro @retE.eq_1 <|
  And.intro @retE.eq_2 <|
  And.intro @retE.eq_3 <|
  And.intro @RetOK.eq_1 <|
  And.intro @objPairs.eq_1 <|
  And.intro @objPairs.eq_2 <|
  And.intro @resPairs.eq_1 <|
  And.intro @resPairs.eq_2 <|
  And.intro @resPairs.eq_3 <|
  And.intro @resPairs.eq_4 <|
  And.intro @resPairs.eq_5 <|
  And.intro @cellPairs.eq_1 <|
  And.intro @cellPairs.eq_2 <|
  And.intro @cellPairs.eq_3 <|
  And.intro @cellPairs.eq_4 <|
  And.intro @cellPairs.eq_5 <|
  And.intro @objCells.eq_1 <|
  And.intro @retRen.eq_1 <|
  And.intro @retMem.eq_1 <|
  And.intro @retMem.eq_2 <|
  And.intro @exitMem.eq_1 <|
  And.intro @exitVals.eq_1 <|
  And.intro @resAt.eq_1 <|
  And.intro @resAt.eq_2 <|
  And.intro @resAt.eq_3 <|
  And.intro @resAt.eq_4 <|
  And.intro @resAt.eq_5 <|
  And.intro @entryMem.eq_1 <|
  And.intro @entryMem.eq_2 <|
  And.intro @cellsAt.eq_1 <|
  And.intro @cellsAt.eq_2 <|
  And.intro @cellsAt.eq_3 <|
  And.intro @cellsAt.eq_4 <|
  And.intro @cellsAt.eq_5 <|
  And.intro @cellsAt.eq_6 <|
  And.intro @cellsAt.eq_7 <|
  And.intro @AMds.eq_1 <|
  And.intro @AMds.eq_2 <|
  And.intro @AMds.eq_3 <|
  And.intro @AMd.eq_1 <|
  @AMd.eq_2
def finD := And.intro @AMd.eq_3 <|
  And.intro @AMd.eq_4 <|
  And.intro @AMd.eq_5 <|
  And.intro @AMd.eq_6 <|
  And.intro @AMd.eq_7 <|
  And.intro @AMd.eq_8 <|
  And.intro @AMd.eq_9 <|
  And.intro @AMd.eq_10 <|
  And.intro @AMd.eq_11 <|
  And.intro @AMd.eq_12 <|
  And.intro @AMd.eq_13 <|
  And.intro @AMd.eq_14 <|
  And.intro @AMd.eq_15 <|
  And.intro @AMd.eq_16 <|
  And.intro @AMd.eq_17 <|
  And.intro @AMd.eq_18 <|
  And.intro @AMd.eq_19 <|
  And.intro @AMd.eq_20 <|
  And.intro @AMd.eq_21 <|
  And.intro @AMd.eq_22 <|
  And.intro @pcLe_self <|
  And.intro @pcLe_junk <|
  And.intro @pcLe_int <|
  And.intro @pcLe_bool <|
  And.intro @pcLe_str <|
  And.intro @pcLe_sl <|
  And.intro @CMd.eq_1 <|
  And.intro @CMd.eq_2 <|
  And.intro @CMd.eq_3 <|
  And.intro @CMd.eq_4 <|
  And.intro @keys.eq_1 <|
  And.intro @inObj.eq_1 <|
  And.intro @inRow.eq_1 <|
  And.intro @outName.eq_1 <|
  And.intro @outCell.eq_1 <|
  And.intro @loadE.eq_1 <|
  And.intro @loadE.eq_2 <|
  And.intro @loadE.eq_3 <|
  And.intro @AMd.AMp.eq_1 <|
  And.intro @AMd.AMp.eq_2 <|
  And.intro @AMd.AMp.eq_3 <|
  And.intro @AMd.AMp.eq_4 <|
  And.intro @AMd.AMp.eq_5 <|
  And.intro @AMd.AMp.eq_6 <|
  And.intro @AMd.AMp.eq_7 <|
  And.intro @AMd.AMp.eq_8 <|
  And.intro @AMd.AMp.eq_9 <|
  And.intro @AMd.AMp.eq_10 <|
  And.intro @List.take.eq_1.{0} <|
  And.intro @List.take.eq_2.{0} <|
  And.intro @List.take.eq_3.{0} <|
  And.intro @List.drop.eq_1.{0} <|
  And.intro @List.drop.eq_2.{0} <|
  And.intro @List.drop.eq_3.{0} <|
  And.intro @inNames.eq_1 <|
  And.intro @inNames.eq_2 <|
  And.intro @refE.eq_1 <|
  And.intro @Weak.eq_1 <|
  And.intro @wkM.eq_1 <|
  And.intro @wkM.eq_2 <|
  And.intro @wkM.eq_3 <|
  And.intro @wkT.eq_1 <|
  And.intro @wkT.eq_2 <|
  @wkRen.eq_1

open Go Go.RowKit Go.ChangeShapes
open Go.Proofs.Ytofkehedjcinhaa.Rows (uptoBulk uptoBulkAll uptoSmall)

/-- All that a world holds. -/
def allK (w : World) : Know := fun b o => w.cell? ⟨b, o, none⟩

/-- Cells of a type: what they are made of; nothing is longer than N. -/
def PTn (P : Program) (N : Nat) : Nat → TypeId → List PC → Prop
  | 0, _, _ => False
  | n + 1, t, cs => match P.underlying t with
    | some .bool => ∃ b, cs = [.bool b]
    | some (.int k) => ∃ i, cs = [.int k i] ∧ (Lit.int k i).wf = true
    | some .string => ∃ s, cs = [.str s] ∧ s.length ≤ N
    | some (.slice e) => ∃ rows, cs = [.sl rows] ∧ rows.length ≤ N ∧ ∀ r ∈ rows, PTn P N n e r
    | some (.struct fs) => cs.length = P.cellsOf t ∧ ∀ f ∈ fs.toList, PTn P N n f.type ((cs.drop f.offset).take (P.cellsOf f.type))
    | _ => False
theorem bulk_mem {H : Type} : ∀ {l : List (DataW H)} {d : DataW H}, d ∈ l → uptoBulk d ≤ uptoBulkAll l
  | x :: l, d, h => by
    rw [uptoBulkAll]
    rcases List.mem_cons.1 h with rfl | h
    · omega
    · have := bulk_mem h; omega
theorem bulk_length {H : Type} : ∀ (l : List (DataW H)), l.length ≤ uptoBulkAll l
  | [] => Nat.zero_le _
  | x :: l => by
    have := bulk_length l
    have h1 : 1 ≤ uptoBulk x := by
      cases x with
      | lit l => cases l <;> simp [uptoBulk]
      | _ => simp [uptoBulk]
    rw [uptoBulkAll, List.length_cons]; omega

def contB (P : Program) (total : Nat) : Nat → List Field → Bool
  | pos, [] => pos == total
  | pos, f :: fs => f.offset == pos && contB P total (pos + P.cellsOf f.type) fs
/-- A type of scalars, texts, slices and structs of such, a struct's fields one behind the other. -/
def flatB (P : Program) : Nat → TypeId → Bool
  | 0, _ => false
  | n + 1, t => match P.underlying t with
    | some .bool | some (.int _) | some .string => P.cellsOf t == 1
    | some (.slice e) => P.cellsOf t == 1 && (decide (0 < P.cellsOf e) && flatB P n e)
    | some (.struct fs) => contB P (P.cellsOf t) 0 fs.toList && fs.toList.all fun f => flatB P n f.type
    | _ => false

theorem flatB_mono (P : Program) : ∀ (n : Nat) (t : TypeId), flatB P n t = true → flatB P (n + 1) t = true
  | 0, t, h => by simp [flatB] at h
  | n + 1, t, h => by
    rw [flatB] at h ⊢
    split at h
    · exact h
    · exact h
    · exact h
    · rename_i e hu
      rw [Bool.and_eq_true, Bool.and_eq_true] at h ⊢
      exact ⟨h.1, h.2.1, flatB_mono P n e h.2.2⟩
    · rename_i fs hu
      rw [Bool.and_eq_true, List.all_eq_true] at h ⊢
      exact ⟨h.1, fun f hf => flatB_mono P n f.type (h.2 f hf)⟩
    · cases h
theorem flatB_le {P : Program} {n m : Nat} {t : TypeId} (h : flatB P n t = true) (hl : n ≤ m) : flatB P m t = true := by
  induction hl with
  | refl => exact h
  | step _ ih => exact flatB_mono P _ t ih

variable {H : Type} {enc : TypeId × Value → H} {P : Program} {w : World}

/-- The cells of fields that lie one behind the other. -/
theorem fields_pcs {N n : Nat} {vs : List Value} {K : Know} {total : Nat} (hl : vs.length = total)  : ∀ (fs : List Field) (pos : Nat), contB P total pos fs = true → pos ≤ total →
    (∀ f ∈ fs, ∃ cs, VRs K cs ((vs.drop f.offset).take (P.cellsOf f.type)) ∧ PTn P N n f.type cs) →
    ∃ cs, VRs K cs (vs.drop pos) ∧ ∀ f ∈ fs, pos ≤ f.offset ∧ PTn P N n f.type ((cs.drop (f.offset - pos)).take (P.cellsOf f.type))
  | [], pos, h, hp, _ => by
    simp only [contB, beq_iff_eq] at h
    subst h
    refine ⟨[], ?_, fun f hf => by cases hf⟩
    rw [List.drop_of_length_le (by omega)]
    exact VRs.nil K
  | f :: fs, pos, h, hp, hf => by
    simp only [contB, Bool.and_eq_true, beq_iff_eq] at h
    obtain ⟨ho, h⟩ := h
    obtain ⟨c1, hv1, hp1⟩ := hf f (by simp)
    have hle : pos + P.cellsOf f.type ≤ total := by
      have : ∀ (fs : List Field) (pos : Nat), contB P total pos fs = true → pos ≤ total := by
        intro fs
        induction fs with
        | nil => intro pos h; simp only [contB, beq_iff_eq] at h; omega
        | cons f fs ih => intro pos h; simp only [contB, Bool.and_eq_true] at h; have := ih _ h.2; omega
      exact this _ _ h
    obtain ⟨c2, hv2, hp2⟩ := fields_pcs hl fs _ h hle (fun g hg => hf g (by simp [hg]))
    have hc1 : c1.length = P.cellsOf f.type := by
      have := hv1.1
      simp only [List.length_take, List.length_drop] at this
      omega
    refine ⟨c1 ++ c2, ?_, fun g hg => ?_⟩
    · have e : vs.drop pos = (vs.drop f.offset).take (P.cellsOf f.type) ++ vs.drop (pos + P.cellsOf f.type) := by
        rw [ho, ← List.drop_drop, List.take_append_drop]
      rw [e]
      refine ⟨by simp only [List.length_append, hv1.1, hv2.1], fun i c v hi hj => ?_⟩
      rw [List.getElem?_append] at hi hj
      rw [← hv1.1] at hj
      split at hi
      · rename_i hlt
        rw [if_pos hlt] at hj
        exact hv1.2 i c v hi hj
      · rename_i hlt
        rw [if_neg hlt] at hj
        exact hv2.2 _ c v hi hj
    · rcases List.mem_cons.1 hg with rfl | hg
      · refine ⟨by omega, ?_⟩
        rw [ho, Nat.sub_self, List.drop_zero, List.take_append_of_le_length (by omega), ← hc1, List.take_length]
        exact hp1
      · obtain ⟨a1, a2⟩ := hp2 g hg
        refine ⟨by omega, ?_⟩
        have e : (c1 ++ c2).drop (g.offset - pos) = c2.drop (g.offset - (pos + P.cellsOf f.type)) := by
          rw [List.drop_append, List.drop_of_length_le (by omega), List.nil_append]
          congr 1; omega
        rw [e]
        exact a2

theorem PTn.length {N n : Nat} {t : TypeId} {cs : List PC} (hf : flatB P n t = true) (h : PTn P N n t cs) : cs.length = P.cellsOf t := by
  cases n with
  | zero => exact h.elim
  | succ n =>
    rw [PTn] at h
    rw [flatB] at hf
    split at h
    · rename_i hu; simp only [hu, beq_iff_eq] at hf; obtain ⟨b, rfl⟩ := h; exact hf.symm
    · rename_i hu; simp only [hu, beq_iff_eq] at hf; obtain ⟨b, rfl, _⟩ := h; exact hf.symm
    · rename_i hu; simp only [hu, beq_iff_eq] at hf; obtain ⟨b, rfl, _⟩ := h; exact hf.symm
    · rename_i hu; simp only [hu, Bool.and_eq_true, beq_iff_eq] at hf; obtain ⟨b, rfl, _⟩ := h; exact hf.1.symm
    · exact h.1
    · exact h.elim

/-- What was read is pure values. -/
theorem trod_pcs {N : Nat} : ∀ (n : Nat) (t : TypeId) (vs : List Value) (d : DataW H) (ps : List MemPlace), DataW.trod enc P w 0 (fun _ => true) true n t vs = some (d, ps) → flatB P n t = true →
    (maxLen ≤ N ∨ uptoBulk d ≤ N) → ∃ cs, VRs (allK w) cs vs ∧ PTn P N n t cs
  | 0, _, _, _, _, h, _, _ => by simp [DataW.trod] at h
  | n + 1, t, vs, d, ps, h, hf, hN => by
    rw [flatB] at hf
    unfold DataW.trod at h
    split at hf
    · rename_i hu
      rw [hu] at h
      dsimp only at h
      split at h
      all_goals first | (rename_i h1 _; cases h1; done) | (rename_i h1; cases h1; done) | (cases h; done) | skip
      · rename_i b h1
        exact ⟨[.bool b], (VRs.nil _).cons (.bool b), by simp only [PTn, hu]; exact ⟨b, rfl⟩⟩
    · rename_i k hu
      rw [hu] at h
      dsimp only at h
      split at h
      all_goals first | (rename_i h1 _; cases h1; done) | (rename_i h1; cases h1; done) | (cases h; done) | skip
      · rename_i k0 k' i h1
        cases h1
        split at h
        · rename_i hc
          obtain ⟨rfl, hw⟩ := hc
          exact ⟨[.int k' i], (VRs.nil _).cons (.int k' i), by simp only [PTn, hu]; exact ⟨i, rfl, hw⟩⟩
        · cases h
    · rename_i hu
      rw [hu] at h
      dsimp only at h
      split at h
      all_goals first | (rename_i h1 _; cases h1; done) | (rename_i h1; cases h1; done) | (cases h; done) | skip
      · rename_i s h1
        split at h
        · rename_i hc
          have hle : s.data.toList.length ≤ N := by
            have hc' : s.data.toList.length ≤ maxLen := by simpa using hc
            cases h
            rcases hN with hN | hN
            · omega
            · rw [uptoBulk] at hN; omega
          refine ⟨[.str s.data.toList], (VRs.nil _).cons ?_, by simp only [PTn, hu]; exact ⟨_, rfl, hle⟩⟩
          have := VR.str (K := allK w) s.data.toList
          rwa [ba_eq] at this
        · cases h
    · rename_i e hu
      rw [Bool.and_eq_true, Bool.and_eq_true, decide_eq_true_eq] at hf
      rw [hu] at h
      dsimp only at h
      split at h
      all_goals first | (rename_i h1 _; cases h1; done) | (rename_i h1; cases h1; done) | (cases h; done) | skip
      · rename_i h1 _
        exact ⟨[.sl []], (VRs.nil _).cons .nil, by simp only [PTn, hu]; exact ⟨[], rfl, by simp, fun r hr => by cases hr⟩⟩
      · rename_i e' a len cap h1 
        cases h1
        split at h
        · rename_i hc
          obtain ⟨_, hlc, hcm⟩ := hc
          rw [Option.bind_eq_some_iff] at h
          obtain ⟨elems, h2, h⟩ := h
          rw [Option.map_eq_some_iff] at h
          obtain ⟨rest, _, h⟩ := h
          have hbulk : maxLen ≤ N ∨ uptoBulkAll (elems.map (·.1)) ≤ N := by
            cases h
            rcases hN with hN | hN
            · exact .inl hN
            · rw [uptoBulk] at hN; exact .inr (by omega)
          have hlenN : len ≤ N := by
            have hl := mapM_some_length h2
            rcases hbulk with hb | hb
            · omega
            · have := bulk_length (elems.map (·.1))
              simp at this hl; omega
          have hrow : ∀ i, i < len → ∃ (cs : List PC) (vs : List Value), w.cells? 0 (a.add (i * P.cellsOf e)) (P.cellsOf e) = some vs ∧ VRs (allK w) cs vs ∧ PTn P N n e cs := by
            intro i hi
            have h3 := mapM_some_get h2 i i (by simp [hi])
            have hl := mapM_some_length h2
            have h4 : ∃ y, elems[i]? = some y := ⟨elems[i]'(by simp at hl; omega), by simp⟩
            obtain ⟨y, hy⟩ := h4
            rw [hy, Option.bind_eq_some_iff] at h3
            obtain ⟨vs, h5, h6⟩ := h3
            obtain ⟨cs, h7, h8⟩ := trod_pcs n e vs y.1 y.2 h6 hf.2.2 (by
              rcases hbulk with hb | hb
              · exact .inl hb
              · have hm : y.1 ∈ elems.map (·.1) := List.mem_map_of_mem (List.mem_of_getElem? hy)
                have := bulk_mem hm
                exact .inr (by omega))
            exact ⟨cs, vs, h5, h7, h8⟩
          rcases Nat.eq_zero_or_pos len with h0 | hpos
          · subst h0
            exact ⟨[.sl []], (VRs.nil _).cons (.at0 a cap), by simp only [PTn, hu]; exact ⟨[], rfl, by simp, fun r hr => by cases hr⟩⟩
          · have hspot : a.spot = none := by
              obtain ⟨cs, vs, h5, h7, h8⟩ := hrow 0 hpos
              obtain ⟨_, hvl, hcell⟩ := World.cells?_some h5
              have := hcell 0 hf.2.1
              have hv0 : ∃ v, vs[0]? = some v := ⟨vs[0]'(by omega), by simp⟩
              obtain ⟨v, hv⟩ := hv0
              rw [hv] at this
              unfold World.cell? at this
              split at this
              · split at this
                · cases this
                · rename_i hs; simpa [Addr.add] using hs
              · cases this
            obtain ⟨b, off, spot⟩ := a
            cases hspot
            have hrow' : ∀ i, ∃ (cs : List PC) (vs : List Value), i < len → w.cells? 0 (Addr.add ⟨b, off, none⟩ (i * P.cellsOf e)) (P.cellsOf e) = some vs ∧ VRs (allK w) cs vs ∧ PTn P N n e cs := by
              intro i
              by_cases hi : i < len
              · obtain ⟨cs, vs, h⟩ := hrow i hi; exact ⟨cs, vs, fun _ => h⟩
              · exact ⟨[], [], fun h => absurd h hi⟩
            obtain ⟨fc, hfc⟩ := Classical.axiomOfChoice hrow'
            obtain ⟨fv, hfv⟩ := Classical.axiomOfChoice hfc
            refine ⟨[.sl ((List.range len).map fc)], (VRs.nil _).cons ?_, by
              simp only [PTn, hu]
              refine ⟨_, rfl, by simpa using hlenN, fun r hr => ?_⟩
              simp only [List.mem_map, List.mem_range] at hr
              obtain ⟨i, hi, rfl⟩ := hr
              exact (hfv i hi).2.2⟩
            have hlen : ∀ i, i < len → (fc i).length = P.cellsOf e := fun i hi => by
              have := (World.cells?_some (hfv i hi).1).2.1
              rw [(hfv i hi).2.1.1]; exact this
            have key : VR (allK w) (.sl ((List.range len).map fc)) (.slice (some ⟨b, off, none⟩) ((List.range len).map fc).length cap) := by
              refine VR.of_slice (z := P.cellsOf e) ⟨fun r hr => ?_, fun j r hj i c hi => ?_⟩ (by simpa using hlc)
              · simp only [List.mem_map, List.mem_range] at hr
                obtain ⟨i, hi, rfl⟩ := hr
                exact hlen i hi
              · have hjl : j < len := by
                  have := (List.getElem?_eq_some_iff.1 hj).1
                  simpa using this
                have : r = fc j := by simpa [hjl] using hj.symm
                subst this
                obtain ⟨g1, g2, g3⟩ := hfv j hjl
                obtain ⟨_, hvl, hcell⟩ := World.cells?_some g1
                have hil : i < P.cellsOf e := by rw [← hlen j hjl]; exact (List.getElem?_eq_some_iff.1 hi).1
                have hv0 : ∃ v, (fv j)[i]? = some v := ⟨(fv j)[i]'(by omega), by simp⟩
                obtain ⟨v, hv⟩ := hv0
                refine ⟨v, ?_, g2.2 i c v hi hv⟩
                have := hcell i hil
                rw [hv] at this
                show w.cell? ⟨b, off + j * P.cellsOf e + i, none⟩ = some v
                rw [← this, add_at, add_at]
            simpa using key
        · cases h
    · rename_i fs hu
      rw [Bool.and_eq_true, List.all_eq_true] at hf
      rw [hu] at h
      dsimp only at h
      split at h
      · rename_i hc
        rw [Option.map_eq_some_iff] at h
        obtain ⟨xs, h2, h⟩ := h
        have hbulk : maxLen ≤ N ∨ uptoBulkAll (xs.map (·.1)) ≤ N := by
          cases h
          rcases hN with hN | hN
          · exact .inl hN
          · rw [uptoBulk] at hN; exact .inr (by omega)
        obtain ⟨cs, h3, h4⟩ := fields_pcs (N := N) (n := n) (K := allK w) hc fs.toList 0 hf.1 (Nat.zero_le _) (fun f hf' => by
          obtain ⟨i, hi⟩ := List.mem_iff_getElem?.1 hf'
          have hy := mapM_some_get h2 i f hi
          have hl := mapM_some_length h2
          have hil := (List.getElem?_eq_some_iff.1 hi).1
          obtain ⟨y, hy'⟩ : ∃ y, xs[i]? = some y := ⟨xs[i]'(by omega), by simp⟩
          rw [hy'] at hy
          refine trod_pcs n f.type _ y.1 y.2 hy (hf.2 f hf') ?_
          rcases hbulk with hb | hb
          · exact .inl hb
          · have hm : y.1 ∈ xs.map (·.1) := List.mem_map_of_mem (List.mem_of_getElem? hy')
            have := bulk_mem hm
            exact .inr (by omega))
        rw [List.drop_zero] at h3
        refine ⟨cs, h3, ?_⟩
        simp only [PTn, hu]
        refine ⟨h3.1.trans hc, fun f hf' => ?_⟩
        have := (h4 f hf').2
        rwa [Nat.sub_zero] at this
      · cases h
    · cases hf

/-- A law's argument, as a contract takes it. -/
def AVTn (P : Program) (N : Nat) (t : TypeId) (x : AV) : Prop := ∃ n cs, PTn P N n t cs ∧ (match P.underlying t with
  | some (.struct _) => x = .agg (cs.map .c)
  | _ => ∃ c, cs = [c] ∧ x = .c c)
def AVTsn (P : Program) (N : Nat) : List TypeId → List AV → Prop
  | [], [] => True
  | t :: ts, x :: xs => AVTn P N t x ∧ AVTsn P N ts xs
  | _, _ => False
theorem arg_av {N : Nat} {t : TypeId} {v : Value} {d : DataW H} {ps : List MemPlace} (h : DataW.Trod enc P w 0 (fun _ => true) true t v d ps) (hf : flatB P 40 t = true) (hN : maxLen ≤ N ∨ uptoBulk d ≤ N) {base : Nat} (hv : Value.okWide P w .any base t v) :
    ∃ x, AVTn P N t x ∧ AR ⟨allK w, fun _ => none⟩ x v := by
  obtain ⟨fuel, h⟩ := h
  have h' := DataW.trod_le (m := max fuel 40) (by omega) h
  obtain ⟨cs, h1, h2⟩ := trod_pcs (max fuel 40) t _ d ps h' (flatB_le hf (by omega)) hN
  have hlen := PTn.length (flatB_le hf (by omega : 40 ≤ max fuel 40)) h2
  unfold Value.okWide at hv
  have hone : ∀ (v : Value), v.cells = #[v] → VRs (allK w) cs v.cells.toList → ∃ c, cs = [c] ∧ VR (allK w) c v := by
    intro v e hs
    rw [e] at hs
    obtain ⟨hl, hs⟩ := hs
    match cs, hl with
    | [c], _ => exact ⟨c, rfl, hs 0 c v rfl rfl⟩
  have hagg : ∀ us : Array Value, v = .agg us → AR ⟨allK w, fun _ => none⟩ (.agg (cs.map .c)) v := by
    rintro us rfl
    refine .agg _ _ (by simpa [Value.cells] using h1.1) fun i x u e1 e2 => ?_
    simp only [List.getElem?_map, Option.map_eq_some_iff] at e1
    obtain ⟨c, hc, rfl⟩ := e1
    exact .c _ _ (h1.2 i c u hc (by simpa [Value.cells] using e2))
  split at hv
  · rename_i fs hu
    obtain ⟨us, rfl, _⟩ := hv
    exact ⟨.agg (cs.map .c), ⟨_, cs, h2, by rw [hu]⟩, hagg us rfl⟩
  · rename_i n e hu
    exfalso
    rw [flatB] at hf
    simp [hu] at hf
  · rename_i hns _
    have hc : ∃ c, cs = [c] ∧ VR (allK w) c v := by
      refine hone v ?_ h1
      unfold Cell.okWide Cell.ok at hv
      cases v <;> first | rfl | skip
      exfalso
      split at hv <;> first | (rename_i h0; cases h0; done) | (rename_i h0 _; cases h0; done) | skip
      all_goals (split at hv <;> first | exact hv | (rename_i h0 _; cases h0; done) | (rename_i h0; cases h0; done) | (rename_i h0 _ _; cases h0; done) | contradiction)
    obtain ⟨c, rfl, hc⟩ := hc
    refine ⟨.c c, ⟨_, [c], h2, ?_⟩, .c _ _ hc⟩
    split
    · rename_i fs hu; exact absurd hu (hns fs)
    · exact ⟨c, rfl, rfl⟩

theorem law_calls {N : Nat} {f : FuncId} {C : Contract} (hS : SoundC P f C) {args : Array Value} {ts : List TypeId} {ds : List (DataW H)} {p : List MemPlace}
    (hA : DataW.TrodAll enc P w 0 (fun _ => true) true ts args.toList ds p) {base : Nat}
    (hval : ∀ (j : Nat) (t : TypeId) (v : Value), ts[j]? = some t → args[j]? = some v → Value.okWide P w .any base t v)
    (hflat : ∀ t ∈ ts, flatB P 40 t = true) (hN : maxLen ≤ N ∨ uptoBulkAll ds ≤ N)
    (hC : ∀ xs, AVTsn P N ts xs → C xs [] = some ⟨[.pv (.c (.bool true))], []⟩) :
    Calls P f args w fun e W' => e = .returned (.bool true) ∧ Below w.heap.size w W' := by
  have key : ∀ (ts : List TypeId) (vs : List Value) (ds : List (DataW H)) (p : List MemPlace), DataW.TrodAll enc P w 0 (fun _ => true) true ts vs ds p →
      (∀ (j : Nat) (t : TypeId) (v : Value), ts[j]? = some t → vs[j]? = some v → Value.okWide P w .any base t v) → (∀ t ∈ ts, flatB P 40 t = true) → (maxLen ≤ N ∨ uptoBulkAll ds ≤ N) →
      ∃ xs, AVTsn P N ts xs ∧ xs.length = vs.length ∧ ∀ (i : Nat) (x : AV) (v : Value), xs[i]? = some x → vs[i]? = some v → AR ⟨allK w, fun _ => none⟩ x v := by
    intro ts
    induction ts with
    | nil =>
      intro vs ds p hA _ _ _
      obtain ⟨rfl, rfl, rfl⟩ : vs = [] ∧ ds = [] ∧ p = [] := by
        cases vs <;> cases ds <;> simp_all [DataW.TrodAll]
      exact ⟨[], trivial, rfl, fun i x v h => by simp at h⟩
    | cons t ts ih =>
      intro vs ds p hA hval hflat hN
      obtain ⟨v, vs', d, ds', p', q, rfl, rfl, rfl, h, hs⟩ := trodAll_cons hA
      rw [uptoBulkAll] at hN
      obtain ⟨x, h1, h2⟩ := arg_av (N := N) h (hflat t (by simp)) (by rcases hN with h | h <;> omega) (hval 0 t v rfl rfl)
      obtain ⟨xs, h3, h4, h5⟩ := ih vs' ds' q hs (fun j t v e1 e2 => hval (j + 1) t v (by simpa using e1) (by simpa using e2)) (fun t ht => hflat t (by simp [ht])) (by rcases hN with h | h <;> omega)
      refine ⟨x :: xs, ⟨h1, h3⟩, by simp [h4], fun i x' v' e1 e2 => ?_⟩
      cases i with
      | zero => simp at e1 e2; subst e1; subst e2; exact h2
      | succ i => exact h5 i x' v' (by simpa using e1) (by simpa using e2)
  obtain ⟨xs, h1, h2, h3⟩ := key ts args.toList ds p hA (fun j t v e1 e2 => hval j t v e1 (by simpa using e2)) hflat hN
  have M : MRel (cEnv w (fun _ => False) (allK w)) ⟨allK w, fun _ => none⟩ (look (entryMem 0 [])) w := by
    refine ⟨fun b o v h => h, fun n => ?_, fun n n' h h' b e => (by cases e), rfl, rfl, rfl, Nat.le_refl _, Nat.le_refl _, fun _ _ _ => rfl, Know.le_refl _, fun _ _ _ _ => rfl⟩
    show HomeOK _ _ _ none none
    exact trivial
  have := (hS.2 xs [] _ (hC xs h1)).2 (fun _ => False) ⟨allK w, fun _ => none⟩ w args.toList M h2 h3
  refine Calls.mono (by simpa using this) ?_
  rintro e W' ⟨G', v, rfl, _, M', hv⟩
  have : v = .bool true := by
    cases hv with
    | c x v h => cases h; rfl
  subst this
  exact ⟨rfl, M'.os, M'.tape, M'.output, M'.size0, fun k hk => M'.blk k hk (fun h => h)⟩

theorem law_doneN {N : Nat} {s : ChangeSpec} {fn : Func} (hl : laidOutB P = true) {f : FuncId} {C : Contract} (hS : SoundC P f C) (hvars : s.vars = []) {ts : List TypeId} (hts : fn.params.toList = ts) {tb : TypeId} (hrt : fn.resultTypes.toList = [tb])
    (hb : P.underlying tb = some .bool) (hflat : ∀ t ∈ ts, flatB P 40 t = true) (hrec : ∀ t ∈ ts, P.readableRec t = true ∧ t < P.types.size)
    (hspec : ∀ ds : List (DataW H), ds.length = ts.length → s.fn H ds = { results := [.lit (.bool true)], args := ds })
    (hC : ∀ xs, AVTsn P N ts xs → C xs [] = some ⟨[.pv (.c (.bool true))], []⟩)
    {args : Array Value} {ds gs : List (DataW H)} {before : List MemPlace} {base : Nat}
    (hval : ∀ (j : Nat) (t : TypeId) (v : Value), fn.params[j]? = some t → args[j]? = some v → Value.okWide P w .any base t v)
    (hW : DataW.Whole enc P fn.params.toList s.vars false w args.toList ds gs before) (hN : maxLen ≤ N ∨ uptoBulkAll ds ≤ N) :
    Calls P f args w fun e W' => ∃ v, e = .returned v ∧ s.post enc P fn false true false false w args v W' := by
  have hW' := hW
  obtain ⟨p, q, hA, hV, rfl, hfz, hnd⟩ := hW
  rw [hvars] at hV
  obtain ⟨rfl, rfl⟩ := trodVars_none hV
  rw [hts] at hA
  have key : ∀ (ts : List TypeId) (vs : List Value) (ds : List (DataW H)) (p : List MemPlace), DataW.TrodAll enc P w 0 (fun _ => true) true ts vs ds p → ds.length = ts.length := by
    intro ts
    induction ts with
    | nil => intro vs ds p h; cases vs <;> cases ds <;> simp_all [DataW.TrodAll]
    | cons t ts ih =>
      intro vs ds p h
      obtain ⟨v, vs', d, ds', p', q, rfl, rfl, rfl, h, hs⟩ := trodAll_cons h
      simp [ih _ _ _ hs]
  have hlen := key _ _ _ _ hA
  refine (law_calls hS hA (fun j t v e1 e2 => hval j t v (by rw [← hts] at e1; simpa using e1) e2) hflat hN hC).mono ?_
  rintro e W' ⟨rfl, bel⟩
  refine ⟨_, rfl, ds, [], p ++ [], [], p, [], hW', ?_, ?_, ?_, bel.frame _, fun h => by cases h⟩
  · rw [List.append_nil, hspec ds hlen, hrt]
    have hsz : fn.resultTypes.size = 1 := by rw [← Array.length_toList, hrt]; rfl
    rw [hsz]
    exact trodAll_mk1 (shut_bool hb _)
  · rw [List.append_nil, hspec ds hlen, hts]
    have back : ∀ (ts : List TypeId) (vs : List Value) (ds : List (DataW H)) (p : List MemPlace), DataW.TrodAll enc P w 0 (fun _ => true) true ts vs ds p → (∀ t ∈ ts, P.readableRec t = true ∧ t < P.types.size) →
        DataW.TrodAll enc P W' 0 (fun b => decide (b < w.heap.size)) true ts vs ds p := by
      intro ts
      induction ts with
      | nil => intro vs ds p h _; cases vs <;> cases ds <;> simp_all [DataW.TrodAll]
      | cons t ts ih =>
        intro vs ds p h hr
        obtain ⟨v, vs', d, ds', p', q, rfl, rfl, rfl, h, hs⟩ := trodAll_cons h
        obtain ⟨r1, r2⟩ := hr t (by simp)
        refine trodAll_cons_mk (Below.trod hl r1 r2 h bel fun x hx => ?_) (ih _ _ _ hs fun t ht => hr t (by simp [ht]))
        obtain ⟨m, hm⟩ := h
        exact DataW.trod_lt m _ _ _ hm x hx
    exact back _ _ _ _ hA hrec
  · rw [hvars, List.append_nil, hspec ds hlen]
    rfl

end Go.Proofs.Ytofkehedjcinhaa.AM
