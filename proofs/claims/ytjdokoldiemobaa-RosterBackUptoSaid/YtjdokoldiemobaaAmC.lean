/-
  THE ABSTRACT MACHINE, part 12: whole functions: a contract out of what the body owes.
-/
import Derived.Test.YtjdokoldiemobaaAmB
set_option linter.unusedVariables false
set_option linter.unusedSimpArgs false
namespace Go.Proofs.Ytjdokoldiemobaa.AM
open Go

def retE (P : Program) (s : AS) : List ResultVar → Option (List AV)
  | [] => some []
  | .tmp t :: l => match retE P s l with | some xs => some (s.get t :: xs) | none => none
  | .cell a t :: l => match (loadE P t (s.get a)).run s.mem, retE P s l with | some (x, _), some xs => some (x :: xs) | _, _ => none

def cellPairs (nm : Nat → Nat) : Nat → List AV → List OV → List (Nat × Nat) × List (Nat × Nat)
  | j, x :: xs, y :: o => match x, y with
    | .own r _ _, .own _ _ => ((nm j, r) :: (cellPairs nm (j + 1) xs o).1, (cellPairs nm (j + 1) xs o).2)
    | .nilsl, .own z _ => ((cellPairs nm (j + 1) xs o).1, (nm j, z) :: (cellPairs nm (j + 1) xs o).2)
    | _, _ => cellPairs nm (j + 1) xs o
  | _, _, _ => ([], [])
def objCells (s : AS) (n : Nat) : List AV := match s.mem n with | some (.obj cells _) => cells | _ => []
def objPairs (s : AS) : Nat → List (List OV) → List (Nat × Nat) × List (Nat × Nat)
  | _, [] => ([], [])
  | i, o :: os => let c := cellPairs (inRow i) 0 (objCells s (inObj i)) o; let r := objPairs s (i + 1) os; ((inObj i, inObj i) :: (c.1 ++ r.1), c.2 ++ r.2)
def resPairs (s : AS) : Nat → List AV → List RV → List (Nat × Nat) × List (Nat × Nat)
  | i, x :: xs, y :: l => match x, y with
    | .own r _ _, .fresh _ _ => ((outName i, r) :: (resPairs s (i + 1) xs l).1, (resPairs s (i + 1) xs l).2)
    | .nilsl, .fresh z _ => ((resPairs s (i + 1) xs l).1, (outName i, z) :: (resPairs s (i + 1) xs l).2)
    | .ptr n _, .newobj o => let c := cellPairs (outCell i) 0 (objCells s n) o; ((outName i, n) :: (c.1 ++ (resPairs s (i + 1) xs l).1), c.2 ++ (resPairs s (i + 1) xs l).2)
    | _, _ => resPairs s (i + 1) xs l
  | _, _, _ => ([], [])

def retRen (W1 W2 : List (Nat × Nat)) (ex : List (Nat × MC)) : Ren :=
  ⟨fun n => if (look ex n).isSome then look W1 n else none, fun n => if (look ex n).isSome then look W2 n else none⟩
def retMem (ρ : Ren) (m : Nat → Option MC) : List (Nat × MC) → Prop
  | [] => True
  | (n, c) :: l => (match ρ.src n with
      | some q => match m q with | some c0 => CMd ρ c0 c | none => False
      | none => match ρ.ph n with | some z => (match c with | .row z' fr => z' = z ∧ fr = 0 | _ => False) | none => False) ∧ retMem ρ m l

def RetOK (ns : List Nat) (s : AS) (r : CRes) (xs : List AV) : Prop :=
  let o := objPairs s 0 r.objs
  let q := resPairs s 0 xs r.res
  let ρ := retRen (o.1 ++ q.1) (o.2 ++ q.2) (exitMem r)
  ((o.1 ++ q.1).map (·.2)).Nodup ∧ retMem ρ s.mem (exitMem r) ∧ AMds ρ xs (exitVals r) ∧ ∀ n ∈ ns, ρ.src n = some n

def retQ (P : Program) (ns : List Nat) (fn : Func) (r : CRes) : Exit → AS → Prop
  | .normal, s | .ret, s => andThen (retE P s fn.results.toList) fun xs => RetOK ns s r xs
  | _, _ => False

def entryT : Nat → List AV → List (Nat × AV)
  | _, [] => []
  | i, x :: l => (i, x) :: entryT (i + 1) l

def pureB : AV → Bool
  | .c _ | .nilptr | .nilsl | .rptr _ | .clo _ _ | .ubool => true
  | .agg cs => cs.all fun | .c _ => true | _ => false
  | _ => false
theorem pureB_spec {x : AV} (h : pureB x = true) : Pure x := by
  unfold pureB at h
  split at h
  · exact .c _
  · exact .nilptr
  · exact .nilsl
  · exact .rptr _
  · exact .clo _ _
  · exact .ubool
  · refine .agg _ fun y hy => ?_
    rw [List.all_eq_true] at h
    have := h y hy
    split at this
    · exact .c _
    · cases this
  · cases h
def resB : List RV → Bool
  | [] => true
  | .pv x :: l => pureB x && resB l
  | _ :: l => resB l
theorem resB_spec : ∀ {l : List RV}, resB l = true → ∀ x, RV.pv x ∈ l → Pure x
  | [], _, x, h => by simp at h
  | .pv y :: l, hb, x, h => by
    simp only [resB, Bool.and_eq_true] at hb
    rcases List.mem_cons.1 h with h | h
    · cases h; exact pureB_spec hb.1
    · exact resB_spec hb.2 x h
  | .fresh _ _ :: l, hb, x, h => by
    rcases List.mem_cons.1 h with h | h
    · cases h
    · exact resB_spec (l := l) hb x h
  | .newobj _ :: l, hb, x, h => by
    rcases List.mem_cons.1 h with h | h
    · cases h
    · exact resB_spec (l := l) hb x h

section
variable {P : Program}

theorem MRel.conv {E E' : Env} {G : Gh} {m : Nat → Option MC} {w : World} (M : MRel E G m w) (h1 : E'.w0 = E.w0) (h2 : E'.B = E.B) (h3 : E'.Ext = E.Ext) (h4 : E'.K0 = E.K0) : MRel E' G m w := by
  obtain ⟨N, ns, H0, w0, B, Ext, K0⟩ := E
  obtain ⟨N', ns', H0', w0', B', Ext', K0'⟩ := E'
  dsimp only at h1 h2 h3 h4
  subst h1; subst h2; subst h3; subst h4
  refine ⟨M.agree, fun n => (M.home n).env fun x b e1 e2 => ?_, M.inj, M.os, M.tape, M.output, M.size0, M.sizeB, M.blk, M.k0, M.kfr⟩
  exact (e1 ▸ M.home n).mine e2

def resSem (tmps : Array Value) : ResultVar → Sem Value
  | .tmp t => pure (tmps.getD t Go.undef)
  | .cell p t => do loadVar t (← asAddr (tmps.getD p Go.undef))
theorem results_eq (fn : Func) (tmps : Array Value) : results fn tmps = (fn.results.mapM (resSem tmps) >>= fun vs => pure (if h : vs.size = 1 then vs[0] else .tuple vs)) := by
  unfold results
  first | done | rfl | (congr 1; congr 1; funext r; cases r <;> rfl)

theorem ret_run {E : Env} {G : Gh} {s : AS} {a : Act} {w : World} (R : Rel E G s a w) : ∀ (l : List ResultVar) (xs : List AV), retE P s l = some xs →
    ∃ us : List Value, (l.mapM (resSem a.tmps)).run P w = .ok us w ∧ xs.length = us.length ∧
      ∀ (i : Nat) (x : AV) (u : Value), xs[i]? = some x → us[i]? = some u → AR G x u
  | [], xs, h => by
    simp only [retE, Option.some.injEq] at h
    subst h
    exact ⟨[], by simp, rfl, fun i x u h => by simp at h⟩
  | .tmp t :: l, xs, h => by
    simp only [retE] at h
    split at h
    · rename_i xs' h1
      cases h
      obtain ⟨us, r1, r2, r3⟩ := ret_run R l xs' h1
      refine ⟨a.tmps.getD t Go.undef :: us, ?_, by simp [r2], fun i x u e1 e2 => ?_⟩
      · rw [List.mapM_cons]; simp only [resSem, Sem.run_bind, Sem.run_pure, Result.andThen_ok, r1]
      · cases i with
        | zero => simp only [List.getElem?_cons_zero, Option.some.injEq] at e1 e2; subst e1; subst e2; exact R.tmps t
        | succ i => exact r3 i x u (by simpa using e1) (by simpa using e2)
    · cases h
  | .cell p t :: l, xs, h => by
    simp only [retE] at h
    split at h
    · rename_i x l' xs' h0 h1
      cases h
      obtain ⟨us, r1, r2, r3⟩ := ret_run R l xs' h1
      obtain ⟨u, q1, q2⟩ := load_run R.mem (R.tmps p) h0
      have key : ∀ v, (Instr.loadAt t v).run P w = .ok u w → (do loadVar t (← asAddr v) : Sem Value).run P w = .ok u w := by
        intro v q1
        cases v with
        | pointer ad => cases ad with
          | none => simp [Instr.loadAt, Instr.sureAddr] at q1
          | some ad => simpa [Instr.loadAt, Instr.sureAddr, asAddr] using q1
        | _ => simp [Instr.loadAt, Instr.sureAddr] at q1
      have hq : (resSem a.tmps (.cell p t)).run P w = .ok u w := key _ q1
      refine ⟨u :: us, ?_, by simp [r2], fun i x u e1 e2 => ?_⟩
      · rw [List.mapM_cons]
        simp only [Sem.run_bind, hq, Result.andThen_ok, r1, Sem.run_pure]
      · cases i with
        | zero => simp only [List.getElem?_cons_zero, Option.some.injEq] at e1 e2; subst e1; subst e2; exact q2
        | succ i => exact r3 i x u (by simpa using e1) (by simpa using e2)
    · cases h

theorem one_rel {G : Gh} {xs : List AV} {us : List Value} (hl : xs.length = us.length) (h : ∀ (i : Nat) (x : AV) (u : Value), xs[i]? = some x → us[i]? = some u → AR G x u) : AR G (oneE xs) (if h : us.toArray.size = 1 then us.toArray[0] else .tuple us.toArray) := by
  match xs, us, hl, h with
  | [x], [u], _, h => exact h 0 x u rfl rfl
  | [], [], _, h => exact .tup _ _ rfl (fun i x u e1 e2 => by simp at e1)
  | x :: y :: xs, u :: v :: us, hl, h =>
    have : ¬ ((u :: v :: us).toArray.size = 1) := by simp
    rw [dif_neg this]
    exact .tup _ _ (by simpa using hl) (fun i x u e1 e2 => h i x u e1 (by simpa using e2))
  | [], _ :: _, hl, _ => simp at hl
  | _ :: _, [], hl, _ => simp at hl
  | [_], _ :: _ :: _, hl, _ => simp at hl
  | _ :: _ :: _, [_], hl, _ => simp at hl

theorem retMem_spec {ρ : Ren} {m : Nat → Option MC} : ∀ {l : List (Nat × MC)} {n : Nat} {c : MC}, retMem ρ m l → look l n = some c →
    (match ρ.src n with
      | some q => match m q with | some c0 => CMd ρ c0 c | none => False
      | none => match ρ.ph n with | some z => (match c with | .row z' fr => z' = z ∧ fr = 0 | _ => False) | none => False)
  | [], n, c, _, h => by cases h
  | (j, y) :: l, n, c, ⟨h1, h2⟩, h => by
    simp only [look] at h
    split at h
    · rename_i e; subst e; cases h; exact h1
    · exact retMem_spec h2 h

theorem look_inj : ∀ {W : List (Nat × Nat)}, (W.map (·.2)).Nodup → ∀ n n' q, look W n = some q → look W n' = some q → n = n'
  | [], _, n, n', q, h, _ => by cases h
  | (j, x) :: W, nd, n, n', q, h, h' => by
    simp only [List.map_cons, List.nodup_cons] at nd
    simp only [look] at h h'
    have key : ∀ n, look W n = some q → q ∈ W.map (·.2) := fun n h => List.mem_map.2 ⟨(n, q), look_mem h, rfl⟩
    split at h
    · rename_i e
      cases h
      split at h'
      · rename_i e'; exact e.symm.trans e'
      · exact absurd (key n' h') nd.1
    · split at h'
      · cases h'; exact absurd (key n h) nd.1
      · exact look_inj nd.2 n n' q h h'

theorem entryT_get : ∀ (l : List AV) (i k : Nat) (x : AV), l[k]? = some x → look (entryT i l) (i + k) = some x
  | [], i, k, x, h => by simp at h
  | y :: l, i, 0, x, h => by simp at h; subst h; simp [entryT, look]
  | y :: l, i, k + 1, x, h => by
    simp only [entryT, look]
    rw [if_neg (by omega)]
    have := entryT_get l (i + 1) k x (by simpa using h)
    rwa [show i + 1 + k = i + (k + 1) from by omega] at this
theorem entryT_none : ∀ (l : List AV) (i n : Nat), i + l.length ≤ n → look (entryT i l) n = none
  | [], i, n, _ => rfl
  | y :: l, i, n, h => by
    simp only [List.length_cons] at h
    simp only [entryT, look]
    rw [if_neg (by omega)]
    exact entryT_none l (i + 1) n (by omega)

theorem RetOK.out {E : Env} {G G0 : Gh} {s : AS} {a : Act} {w : World} (R : Rel E G s a w) {r : CRes} {xs : List AV} (h : RetOK E.ns s r xs) (hH : E.H0 = G0.h) (hK : E.K0 = G0.K) (hns : ∀ n x, G0.h n = some x → n ∈ E.ns)
    {v : Value} (hv : AR G (oneE xs) v) : ∃ G', G0.le G' ∧ MRel E G' (look (exitMem r)) w ∧ AR G' (oneE (exitVals r)) v := by
  obtain ⟨h1, h2, h3, h4⟩ := h
  generalize hρ : retRen ((objPairs s 0 r.objs).1 ++ (resPairs s 0 xs r.res).1) ((objPairs s 0 r.objs).2 ++ (resPairs s 0 xs r.res).2) (exitMem r) = ρ at h2 h3 h4
  have hren : RenOK ρ s.mem (look (exitMem r)) := by
    refine ⟨fun n n' q e1 e2 => ?_, fun n q e => ?_, fun n z e1 e2 => ?_, fun n e1 e2 => ?_⟩
    · rw [← hρ] at e1 e2
      simp only [retRen] at e1 e2
      split at e1
      · split at e2
        · exact look_inj h1 n n' q e1 e2
        · cases e2
      · cases e1
    · have hs : ∃ c, look (exitMem r) n = some c := by
        rw [← hρ] at e
        simp only [retRen] at e
        split at e
        · rename_i hs; exact Option.isSome_iff_exists.1 hs
        · cases e
      obtain ⟨c, hc⟩ := hs
      have := retMem_spec h2 hc
      rw [e] at this
      dsimp only at this
      cases hm : s.mem q with
      | none => rw [hm] at this; exact this.elim
      | some c0 => rw [hm] at this; rw [hc]; exact CMd.cm this
    · have hs : ∃ c, look (exitMem r) n = some c := by
        rw [← hρ] at e2
        simp only [retRen] at e2
        split at e2
        · rename_i hs; exact Option.isSome_iff_exists.1 hs
        · cases e2
      obtain ⟨c, hc⟩ := hs
      have := retMem_spec h2 hc
      rw [e1, e2] at this
      dsimp only at this
      rw [hc]
      cases c with
      | row z' fr => obtain ⟨rfl, rfl⟩ := this; rfl
      | _ => exact this.elim
    · cases hc : look (exitMem r) n with
      | none => rfl
      | some c =>
        have := retMem_spec h2 hc
        rw [e1, e2] at this
        exact this.elim
  refine ⟨ρ.gh G, ⟨by rw [← hK]; exact R.mem.k0, fun n x e => ?_⟩, R.mem.rename hren, ?_⟩
  · obtain ⟨y, y', e1, e2, l⟩ := R.ent n (hns n x e)
    rw [hH, e] at e1
    cases e1
    exact ⟨y', by simp only [Ren.gh, h4 n (hns n x e)]; exact e2, l⟩
  · refine AM.rel ?_ hv
    obtain ⟨a1, a2⟩ := h3.am
    generalize exitVals r = ys at a1 a2
    match xs, ys, a1, a2 with
    | [x], [y], _, h => exact h 0 x y rfl rfl
    | [], [], hl, h => exact .tup _ _ hl h
    | _ :: _ :: _, _ :: _ :: _, hl, h => exact .tup _ _ hl h
    | [], _ :: _, hl, _ => simp at hl
    | _ :: _, [], hl, _ => simp at hl
    | [_], _ :: _ :: _, hl, _ => simp at hl
    | _ :: _ :: _, [_], hl, _ => simp at hl

/-- A function's contract, out of what its body owes. -/
theorem sound_fnA (adv : Adv) {f : FuncId} {fn : Func} {body : Code} {N : Nat} {C : Contract} (hf : P.funcs[f]? = some fn) (hname : (fn.name == "runtime.NumGoroutine") = false) (hb : fn.body = some body) (hN : fn.ntmps = N)
    (h : ∀ args objs r, C args objs = some r → resB r.res = true ∧ args.length ≤ N ∧
      ∀ E : Env, E.N.n = N → E.ns = keys (entryMem 0 objs) → E.N.adv = adv → AWP P E body (retQ P (keys (entryMem 0 objs)) fn r) ⟨entryT 0 args, entryMem 0 objs⟩) : SoundC P f C := by
  refine ⟨⟨fn, hf, hname, by rw [hb]; rfl⟩, fun args objs r hr => ?_⟩
  obtain ⟨h1, h2, h3⟩ := h args objs r hr
  refine ⟨fun x hx => resB_spec h1 x hx, fun Ext G w vals M hl hx => ?_⟩
  let E : Env := ⟨⟨N, adv⟩, keys (entryMem 0 objs), G.h, w, w.heap.size, Ext, G.K, none, []⟩
  have hnsG : ∀ n x, G.h n = some x → n ∈ keys (entryMem 0 objs) := by
    intro n x e
    have := M.home n
    cases hc : look (entryMem 0 objs) n with
    | none => rw [hc, e] at this; exact this.elim
    | some c => exact List.mem_map_of_mem (f := (·.1)) (look_mem hc)
  refine calls_of_wp hf hb ?_
  have hsz : vals.toArray.size = args.length := by simp [hl]
  have R0 : Rel E G ⟨entryT 0 args, entryMem 0 objs⟩ { tmps := vals.toArray ++ Array.replicate (fn.ntmps - vals.toArray.size) Go.undef, defers := [] } w := by
    refine ⟨?_, rfl, fun i => ?_, M.conv rfl rfl rfl rfl, fun n hn => ?_⟩
    · show (vals.toArray ++ Array.replicate (fn.ntmps - vals.toArray.size) Go.undef).size = N
      simp; omega
    · rcases Nat.lt_or_ge i args.length with hi | hi
      · have hg : (AS.mk (entryT 0 args) (entryMem 0 objs)).get i = args[i] := by
          have := entryT_get args 0 i args[i] (by simp [hi])
          rw [Nat.zero_add] at this
          simp only [AS.get, this, Option.getD_some]
        rw [hg]
        have hv : i < vals.length := by omega
        have : (vals.toArray ++ Array.replicate (fn.ntmps - vals.toArray.size) Go.undef).getD i Go.undef = vals[i] := by
          simp [Array.getElem?_append, hv]
        show AR G _ ((vals.toArray ++ Array.replicate (fn.ntmps - vals.toArray.size) Go.undef).getD i Go.undef)
        rw [this]
        exact hx i _ _ (by simp [hi]) (by simp [hv])
      · have hg : (AS.mk (entryT 0 args) (entryMem 0 objs)).get i = .undef := by
          simp only [AS.get, entryT_none args 0 i (by omega), Option.getD_none]
        rw [hg]; exact .undef _
    · obtain ⟨c, hc⟩ := look_some (l := entryMem 0 objs) hn
      have := M.home n
      have hx : ∃ x, G.h n = some x := by
        cases hg : G.h n with
        | none => rw [hc, hg] at this; cases c <;> exact this.elim
        | some x => exact ⟨x, rfl⟩
      obtain ⟨x, hg⟩ := hx
      exact ⟨x, x, hg, hg, Home.le_refl x⟩
  refine wp_mono (wpIn_wide.1 (h3 E rfl rfl rfl G _ w R0)) ?_
  rintro e a' w' ⟨G', s', hq, R'⟩
  have fin : andThen (retE P s' fn.results.toList) (fun xs => RetOK (keys (entryMem 0 objs)) s' r xs) → a'.defers = [] ∧ ∃ v, (results fn a'.tmps).run P w' = .ok v w' ∧ CallPost (cEnv w Ext G.K) G r (.returned v) w' := by
    intro hq
    obtain ⟨xs, hxs, hret⟩ := andThen_iff.1 hq
    obtain ⟨us, r1, r2, r3⟩ := ret_run R' _ xs hxs
    refine ⟨R'.defs, if h : us.toArray.size = 1 then us.toArray[0] else .tuple us.toArray, ?_, ?_⟩
    · rw [results_eq, Array.mapM_eq_mapM_toList]
      simp only [Sem.run_bind, Sem.run_map, r1, Result.andThen_ok, Sem.run_pure]
    · obtain ⟨G2, g1, g2, g3⟩ := RetOK.out R' (G0 := G) hret rfl rfl hnsG (one_rel r2 r3)
      exact ⟨G2, _, rfl, g1, g2.conv rfl rfl rfl rfl, g3⟩
  cases e with
  | normal => exact fin hq
  | ret => exact fin hq
  | _ => exact hq.elim

theorem sound_fn {f : FuncId} {fn : Func} {body : Code} {N : Nat} {C : Contract} (hf : P.funcs[f]? = some fn) (hname : (fn.name == "runtime.NumGoroutine") = false) (hb : fn.body = some body) (hN : fn.ntmps = N)
    (h : ∀ args objs r, C args objs = some r → resB r.res = true ∧ args.length ≤ N ∧
      ∀ E : Env, E.N.n = N → E.ns = keys (entryMem 0 objs) → E.N.adv = ⟨[], []⟩ → AWP P E body (retQ P (keys (entryMem 0 objs)) fn r) ⟨entryT 0 args, entryMem 0 objs⟩) : SoundC P f C :=
  sound_fnA ⟨[], []⟩ hf hname hb hN h

end
end Go.Proofs.Ytjdokoldiemobaa.AM
