/-
  THE ABSTRACT MACHINE, part 10: a region that draws its order: one walk in the order of the text serves every order.
-/
import Derived.Test.YtjdokoldiemobaaAm9
set_option linter.unusedVariables false
set_option linter.unusedSimpArgs false
namespace Go.Proofs.Ytjdokoldiemobaa.AM
open Go

/-- A state by what it answers. -/
structure FS where
  g : Nat → AV
  m : Nat → Option MC

def AS.fs (s : AS) : FS := ⟨s.get, s.mem⟩
def constAV (v : Value) : AV := (AS.mk [] []).eval (.const v)
def FS.eval (F : FS) : Operand → AV
  | .tmp t => F.g t
  | x => (AS.mk [] []).eval x
theorem fs_eval (s : AS) (x : Operand) : s.fs.eval x = s.eval x := by cases x <;> rfl

def FS.step (F : FS) (d : Option Tmp) (x : AV) (l : List (Nat × MC)) : FS := ⟨fun i => if d = some i then x else F.g i, wrs F.m l⟩
theorem fs_step (s : AS) (o : Oper) (e : Eff) : (s.step o e).fs = s.fs.step o.dst e.val e.wr := by
  unfold AS.fs AS.step FS.step
  congr 1
  · funext i; rw [AS.get_put]; rfl
  · have : ((s.wr e.wr).put o.dst e.val).mem = (s.wr e.wr).mem := by cases o.dst <;> rfl
    rw [this]; funext i; exact AS.mem_wr s e.wr i
theorem fs_put (s : AS) (o : Oper) (x : AV) : (s.put o.dst x).fs = s.fs.step o.dst x [] := by
  unfold AS.fs FS.step
  congr 1
  · funext i; rw [AS.get_put]
  · have : (s.put o.dst x).mem = s.mem := by cases o.dst <;> rfl
    rw [this]; rfl

def fGuard (ops : Array Oper) (o : Oper) (F : FS) : Option Bool :=
  match o.guard with
  | none => some true
  | some (j, want) => match ((ops[j]?).bind (·.dst)).map F.g with
    | some (.c (.bool b)) => some (b == want)
    | some (.tup []) => some false
    | _ => none
def fEff (Γ : FuncId → Contract) (P : Program) (N : Lim) (ops : Array Oper) (o : Oper) (F : FS) : Option (AV × List (Nat × MC) × List Nat) :=
  if dstOK N o then
    match fGuard ops o F with
    | some b => ifE b (match (opE Γ P N.adv.mu o F.eval).run F.m with
        | some (e, rd) => some (e.val, e.wr, rd)
        | none => none) (some (.tup [], [], []))
    | none => none
  else none
def fStep (Γ : FuncId → Contract) (P : Program) (N : Lim) (ops : Array Oper) (o : Oper) (F : FS) : Option (FS × FP) :=
  (fEff Γ P N ops o F).map fun x => (F.step o.dst x.1 x.2.1, ⟨x.2.2, x.2.1.map (·.1)⟩)

theorem aStep_fs {Γ : FuncId → Contract} {P : Program} {N : Lim} {ops : Array Oper} {o : Oper} {s s' : AS} {fp : FP} (h : aStep Γ P N ops o s = some (s', fp)) : fStep Γ P N ops o s.fs = some (s'.fs, fp) := by
  unfold aStep at h
  unfold fStep fEff
  have he : s.fs.eval = s.eval := funext (fs_eval s)
  have hg : fGuard ops o s.fs = guardE ops o s := rfl
  split at h
  · rename_i hd
    rw [if_pos hd, hg, he]
    split at h
    · rename_i b hb
      rw [hb]
      cases b with
      | true =>
        simp only [ifE_true] at h ⊢
        split at h
        · rename_i e rd hrun
          cases h
          have : (opE Γ P N.adv.mu o s.eval).run s.fs.m = some (e, rd) := hrun
          simp only [this, Option.map_some, fs_step]
        · cases h
      | false =>
        simp only [ifE_false, Option.some.injEq, Prod.mk.injEq] at h ⊢
        obtain ⟨rfl, rfl⟩ := h
        simp only [Option.map_some, fs_put, List.map_nil]
    · cases h
  · cases h

theorem opE_congr {Γ : FuncId → Contract} {P : Program} {M : List Nat} {o : Oper} {ρ ρ' : Operand → AV} (h : ∀ x ∈ o.op.operands.toList, ρ x = ρ' x) : opE Γ P M o ρ = opE Γ P M o ρ' := by
  have mp : ∀ (l : List Operand), (∀ x ∈ l, ρ x = ρ' x) → l.map ρ = l.map ρ' := fun l hl => List.map_congr_left hl
  have mpp : ∀ (l : List (Nat × Operand)), (∀ x ∈ l.map (·.2), ρ x = ρ' x) → (l.map fun p => (p.1, ρ p.2)) = (l.map fun p => (p.1, ρ' p.2)) := fun l hl => by
    refine List.map_congr_left fun p hp => ?_
    rw [hl p.2 (List.mem_map_of_mem hp)]
  have mo : ∀ (x : Option Operand), (∀ y ∈ x.toList, ρ y = ρ' y) → x.map ρ = x.map ρ' := fun x hx => by
    cases x with
    | none => rfl
    | some y => simp [hx y (by simp)]
  unfold opE
  cases ho : o.op with
  | move x => rw [ho] at h; simp [Op.operands] at h; simp only [h]
  | assign x => rw [ho] at h; simp [Op.operands] at h; simp only [h]
  | pick c x y => rw [ho] at h; simp [Op.operands] at h; obtain ⟨h1, h2, h3⟩ := h; simp only [h1, h2, h3]
  | alloc t => rfl
  | box t x => rw [ho] at h; simp [Op.operands] at h; simp only [h]
  | build t parts => rw [ho] at h; simp only [Op.operands] at h; dsimp only; rw [mpp parts.toList (by simpa using h)]
  | buildSlice t n parts => rw [ho] at h; simp only [Op.operands] at h; dsimp only; rw [mpp parts.toList (by simpa using h)]
  | load t x => rw [ho] at h; simp [Op.operands] at h; simp only [h]
  | store t x y => rw [ho] at h; simp [Op.operands] at h; obtain ⟨h1, h2⟩ := h; simp only [h1, h2]
  | nilCheck x => rw [ho] at h; simp [Op.operands] at h; simp only [h]
  | binOp op t x y t' => rw [ho] at h; simp [Op.operands] at h; obtain ⟨h1, h2⟩ := h; simp only [h1, h2]
  | unOp op t x => rw [ho] at h; simp [Op.operands] at h; simp only [h]
  | convert src dst x => rw [ho] at h; simp [Op.operands] at h; simp only [h]
  | makeFunc fn first captured =>
    rw [ho] at h; simp only [Op.operands] at h
    cases fn with
    | func f => dsimp only; rw [mp captured.toList (fun x hx => h x (by simp [hx]))]
    | _ => rfl
  | makeMap t r => cases r <;> rfl
  | makeSlice t x y => rw [ho] at h; simp [Op.operands] at h; obtain ⟨h1, h2⟩ := h; simp only [h1, h2]
  | slice t x lo hi mx =>
    rw [ho] at h; simp only [Op.operands] at h
    have e0 := h x (by simp)
    have e1 := mo lo (fun y hy => h y (by cases lo <;> simp_all))
    have e2 := mo hi (fun y hy => h y (by cases hi <;> simp_all))
    have e3 := mo mx (fun y hy => h y (by cases mx <;> simp_all))
    dsimp only; rw [e0, e1, e2, e3]
  | fieldAddr t x i => rw [ho] at h; simp [Op.operands] at h; simp only [h]
  | field t x i => rw [ho] at h; simp [Op.operands] at h; simp only [h]
  | indexAddr t x i => rw [ho] at h; simp [Op.operands] at h; obtain ⟨h1, h2⟩ := h; simp only [h1, h2]
  | index t x i => rw [ho] at h; simp [Op.operands] at h; obtain ⟨h1, h2⟩ := h; simp only [h1, h2]
  | lookup t m k ok => rfl
  | mapUpdate t m k x => rfl
  | extract x i => rw [ho] at h; simp [Op.operands] at h; simp only [h]
  | call c =>
    rw [ho] at h; simp only [Op.operands, Call.operands] at h
    have e1 := mp c.args.toList (fun x hx => h x (by simp [hx]))
    dsimp only
    cases hc : c.callee with
    | builtin b => dsimp only; rw [e1]
    | value f =>
      have e2 := h f (by simp [hc])
      dsimp only; rw [e1, e2]
    | invoke r m => rfl
  | _ => rfl

def FP.apart (p q : FP) : Bool := p.wr.all (fun n => !q.rd.contains n && !q.wr.contains n) && q.wr.all (fun n => !p.rd.contains n)

theorem FP.apart_spec {p q : FP} (h : p.apart q = true) : (∀ n ∈ p.wr, n ∉ q.rd ∧ n ∉ q.wr) ∧ ∀ n ∈ q.wr, n ∉ p.rd := by
  simp only [FP.apart, Bool.and_eq_true, List.all_eq_true, Bool.not_eq_true', List.contains_eq_mem, decide_eq_false_iff_not] at h
  exact h

theorem wrs_other {m : Nat → Option MC} {l : List (Nat × MC)} {n : Nat} (h : n ∉ l.map (·.1)) : wrs m l n = m n := by
  simp only [wrs, look_none h]

theorem wrs_comm {m : Nat → Option MC} {l l' : List (Nat × MC)} (h : ∀ n ∈ l.map (·.1), n ∉ l'.map (·.1)) : wrs (wrs m l) l' = wrs (wrs m l') l := by
  funext n
  by_cases h1 : n ∈ l.map (·.1)
  · have h2 := h n h1
    rw [wrs_other h2]
    obtain ⟨c, hc⟩ := look_some h1
    simp only [wrs, hc]
  · rw [wrs_other h1]
    by_cases h2 : n ∈ l'.map (·.1)
    · obtain ⟨c, hc⟩ := look_some h2
      simp only [wrs, hc]
    · rw [wrs_other h2, wrs_other h2, wrs_other h1]

theorem fs_eval_step {F : FS} {d : Option Tmp} {x : AV} {l : List (Nat × MC)} {y : Operand} (h : ∀ t, d = some t → y ≠ .tmp t) : (F.step d x l).eval y = F.eval y := by
  cases y with
  | tmp t =>
    simp only [FS.eval, FS.step]
    rw [if_neg (fun e => h t e rfl)]
  | _ => rfl

/-- An operation hangs on what it looks at alone. -/
theorem fEff_congr {Γ : FuncId → Contract} {P : Program} {N : Lim} {ops : Array Oper} {o : Oper} {F F' : FS} {v : AV} {wr : List (Nat × MC)} {rd : List Nat} (hg : ∀ t ∈ o.looksAt ops, F'.g t = F.g t) (hm : ∀ n ∈ rd, F'.m n = F.m n)
    (h : fEff Γ P N ops o F = some (v, wr, rd)) : fEff Γ P N ops o F' = some (v, wr, rd) := by
  have hop : ∀ y ∈ o.op.operands.toList, F'.eval y = F.eval y := fun y hy => by
    cases y with
    | tmp t =>
      simp only [FS.eval]
      exact hg t (List.mem_append_left _ (List.mem_filterMap.2 ⟨_, hy, rfl⟩))
    | _ => rfl
  have hgd : fGuard ops o F' = fGuard ops o F := by
    unfold fGuard
    cases hgu : o.guard with
    | none => rfl
    | some p =>
      obtain ⟨j, want⟩ := p
      dsimp only
      cases hb : (ops[j]?).bind (·.dst) with
      | none => rfl
      | some t =>
        have : F'.g t = F.g t := hg t (List.mem_append_right _ (by rw [hgu]; simp [hb]))
        simp only [Option.map_some, this]
  unfold fEff at h ⊢
  split at h
  · rename_i hdst
    rw [if_pos hdst, hgd]
    split at h
    · rename_i b hb
      cases b with
      | true =>
        simp only [ifE_true] at h ⊢
        split at h
        · rename_i e rd' hrun
          cases h
          rw [opE_congr hop, EP.run_agree _ _ _ hrun hm]
        · cases h
      | false => simp only [ifE_false] at h ⊢; exact h
    · cases h
  · cases h

/-- Two operations that are apart: in the other order they come to the same. -/
theorem fStep_swap {Γ : FuncId → Contract} {P : Program} {N : Lim} {ops : Array Oper} {oi oj : Oper} {F F1 F2 : FS} {p q : FP} (hap : oi.apart ops oj = true) (hfp : p.apart q = true)
    (h1 : fStep Γ P N ops oi F = some (F1, p)) (h2 : fStep Γ P N ops oj F1 = some (F2, q)) : ∃ F1', fStep Γ P N ops oj F = some (F1', q) ∧ fStep Γ P N ops oi F1' = some (F2, p) := by
  obtain ⟨a1, a2, a3⟩ := Oper.apart_spec hap
  obtain ⟨b1, b2⟩ := FP.apart_spec hfp
  obtain ⟨⟨v, wr, rd⟩, e1, e2⟩ := Option.map_eq_some_iff.1 h1
  cases e2
  obtain ⟨⟨v2, wr2, rd2⟩, e3, e4⟩ := Option.map_eq_some_iff.1 h2
  cases e4
  dsimp only at *
  have g : ∀ (F : FS) (d : Option Tmp) (x : AV) (l : List (Nat × MC)) (t : Nat), d ≠ some t → (F.step d x l).g t = F.g t := fun F d x l t h => if_neg h
  have f1 : fEff Γ P N ops oj F = some (v2, wr2, rd2) := fEff_congr (fun t ht => (g F oi.dst v wr t fun e => a1 t e ht).symm) (fun n hn => (wrs_other fun h => (b1 n h).1 hn).symm) e3
  have f2 : fEff Γ P N ops oi (F.step oj.dst v2 wr2) = some (v, wr, rd) := fEff_congr (fun t ht => g F oj.dst v2 wr2 t fun e => a3 t e ht) (fun n hn => wrs_other fun h => b2 n h hn) e1
  refine ⟨_, Option.map_eq_some_iff.2 ⟨_, f1, rfl⟩, Option.map_eq_some_iff.2 ⟨_, f2, ?_⟩⟩
  dsimp only
  congr 1
  unfold FS.step
  congr 1
  · funext t
    dsimp only
    by_cases h : oi.dst = some t
    · rw [if_pos h, if_neg (a2 t h), if_pos h]
    · rw [if_neg h, if_neg h]
  · exact wrs_comm fun n hn h => (b1 n h).2 hn

/-! whatever order is picked -/
def fAny (Γ : FuncId → Contract) (P : Program) (N : Lim) (ops : Array Oper) (sf : FS) (fps : Nat → FP) : Nat → Array Bool → FS → Prop
  | 0, listed, F => Region.ready .any ops listed = [] ∧ F = sf
  | fuel + 1, listed, F => (Region.ready .any ops listed = [] → F = sf) ∧
    ∀ i ∈ Region.ready .any ops listed, ∀ o, ops[i]? = some o → ∃ F', fStep Γ P N ops o F = some (F', fps i) ∧ fAny Γ P N ops sf fps fuel (listed.setIfInBounds i true) F'

/-- What waits for what, through whatever stands between. -/
def waits (ops : Array Oper) (anc : Nat → Nat → Bool) : Prop := ∀ j o, ops[j]? = some o → ∀ i, anc j i = true → ∃ e ∈ o.after, Region.binds .any e = true ∧ (e.on = i ∨ (e.on < j ∧ anc e.on i = true))

def Closed (ops : Array Oper) (listed : Array Bool) : Prop := ∀ j o, ops[j]? = some o → listed.getD j false = true → ∀ e ∈ o.after, Region.binds .any e = true → listed.getD e.on false = true

theorem anc_listed {ops : Array Oper} {anc : Nat → Nat → Bool} (hw : waits ops anc) {listed : Array Bool} (hc : Closed ops listed) : ∀ (n j : Nat) (o : Oper), j < n → ops[j]? = some o → (∀ e ∈ o.after, Region.binds .any e = true → listed.getD e.on false = true) →
    ∀ i, anc j i = true → listed.getD i false = true
  | 0, j, o, h, _, _, _, _ => by omega
  | n + 1, j, o, hj, ho, hr, i, hi => by
    obtain ⟨e, he, hb, h⟩ := hw j o ho i hi
    have hl := hr e he hb
    rcases h with rfl | ⟨hlt, ha⟩
    · exact hl
    · cases hoe : ops[e.on]? with
      | none =>
        obtain ⟨e', _⟩ : ∃ x : Nat, x = x := ⟨0, rfl⟩
        have hlt2 : ¬ e.on < ops.size := by
          intro h; rw [Array.getElem?_eq_getElem h] at hoe; cases hoe
        have hjs : j < ops.size := (Array.getElem?_eq_some_iff.1 ho).1
        omega
      | some oe => exact anc_listed hw hc n e.on oe (by omega) hoe (hc e.on oe hoe hl) i ha

theorem fAny_first {Γ : FuncId → Contract} {P : Program} {N : Lim} {ops : Array Oper} {sf : FS} {i : Nat} {oi : Oper} (hi : ops[i]? = some oi) {anc : Nat → Nat → Bool} (hw : waits ops anc) (fps : Nat → FP) :
    ∀ (fuel : Nat) (listed : Array Bool) (F F1 : FS), Closed ops listed →
      (∀ j oj, ops[j]? = some oj → j ≠ i → listed.getD j true = false → anc j i = false → oi.apart ops oj = true ∧ (fps i).apart (fps j) = true) →
      i ∈ Region.ready .any ops listed → fStep Γ P N ops oi F = some (F1, fps i) →
      fAny Γ P N ops sf fps fuel (listed.setIfInBounds i true) F1 → fAny Γ P N ops sf fps (fuel + 1) listed F
  | 0, listed, F, F1, hc, hfree, hr, hst, H => by
    refine ⟨fun h => (by rw [h] at hr; cases hr), fun j hj oj hoj => ?_⟩
    by_cases hji : j = i
    · subst hji
      rw [hi] at hoj; cases hoj
      exact ⟨F1, hst, H⟩
    · have := ready_mono hj hji
      rw [H.1] at this
      cases this
  | fuel + 1, listed, F, F1, hc, hfree, hr, hst, H => by
    refine ⟨fun h => (by rw [h] at hr; cases hr), fun j hj oj hoj => ?_⟩
    by_cases hji : j = i
    · subst hji
      rw [hi] at hoj; cases hoj
      exact ⟨F1, hst, H⟩
    · obtain ⟨F2, h1, h2⟩ := H.2 j (ready_mono hj hji) oj hoj
      obtain ⟨hjun, oj', hoj', hall⟩ := mem_ready.1 hj
      rw [hoj] at hoj'; cases hoj'
      have hiun := (mem_ready.1 hr).1
      have hna : anc j i = false := by
        cases ha : anc j i with
        | false => rfl
        | true =>
          have := anc_listed hw hc (j + 1) j oj (by omega) hoj hall i ha
          rcases Nat.lt_or_ge i listed.size with h' | h'
          · simp [h'] at hiun this; rw [hiun] at this; cases this
          · simp [Array.getElem?_eq_none h'] at this
      obtain ⟨a1, a2⟩ := hfree j oj hoj hji hjun hna
      obtain ⟨F1', g1, g2⟩ := fStep_swap a1 a2 hst h1
      refine ⟨F1', g1, fAny_first hi hw fps fuel (listed.setIfInBounds j true) F1' F2 ?_ ?_ (ready_mono hr (Ne.symm hji)) g2 ?_⟩
      · intro k ok hk hl e he hb
        by_cases hkj : k = j
        · subst hkj
          rw [hoj] at hk; cases hk
          exact getD_set_true (hall e he hb)
        · have : listed.getD k false = true := by
            have := hl
            simp only [Array.getD_eq_getD_getElem?] at this ⊢
            rwa [Array.getElem?_setIfInBounds_ne (Ne.symm hkj)] at this
          exact getD_set_true (hc k ok hk this e he hb)
      · intro k ok hk hki hun hna'
        refine hfree k ok hk hki ?_ hna'
        by_cases hjk : j = k
        · subst hjk; exact hjun
        · rw [getD_set_ne true hjk] at hun; exact hun
      · rw [Array.setIfInBounds_comm _ _ hji]; exact h2

/-! ancestors, by bits -/
def direct (o : Oper) : List Nat := o.after.toList.filterMap fun e => if Region.binds .any e then some e.on else none
def maskOf (acc : List Nat) (l : List Nat) : Nat := l.foldl (fun s i => s ||| (2 ^ i ||| acc.getD i 0)) 0
def masks : List Oper → List Nat → List Nat
  | [], acc => acc
  | o :: rest, acc => masks rest (acc ++ [maskOf acc (direct o)])
def ancB (ms : List Nat) (j i : Nat) : Bool := (ms.getD j 0).testBit i

theorem mask_bit (acc : List Nat) (i : Nat) : ∀ (l : List Nat) (s0 : Nat), (l.foldl (fun s i => s ||| (2 ^ i ||| acc.getD i 0)) s0).testBit i = true → s0.testBit i = true ∨ ∃ k ∈ l, k = i ∨ (acc.getD k 0).testBit i = true
  | [], s0, h => .inl h
  | k :: l, s0, h => by
    rw [List.foldl_cons] at h
    rcases mask_bit acc i l _ h with h | ⟨k', hk, h⟩
    · rw [Nat.testBit_or, Nat.testBit_or, Bool.or_eq_true, Bool.or_eq_true] at h
      rcases h with h | h | h
      · exact .inl h
      · rw [Nat.testBit_two_pow] at h
        exact .inr ⟨k, by simp, .inl (by simpa using h)⟩
      · exact .inr ⟨k, by simp, .inr h⟩
    · exact .inr ⟨k', by simp [hk], h⟩

theorem masks_pre : ∀ (l : List Oper) (acc : List Nat), ∃ r, masks l acc = acc ++ r
  | [], acc => ⟨[], by simp [masks]⟩
  | o :: l, acc => by
    obtain ⟨r, h⟩ := masks_pre l (acc ++ [maskOf acc (direct o)])
    exact ⟨maskOf acc (direct o) :: r, by rw [masks, h]; simp⟩

theorem masks_get : ∀ (l : List Oper) (acc : List Nat) (k : Nat) (o : Oper), l[k]? = some o → ∃ pre, (∃ r, masks l acc = pre ++ maskOf pre (direct o) :: r) ∧ pre.length = acc.length + k
  | [], acc, k, o, h => by simp at h
  | o' :: l, acc, 0, o, h => by
    simp at h; subst h
    obtain ⟨r, h⟩ := masks_pre l (acc ++ [maskOf acc (direct o')])
    exact ⟨acc, ⟨r, by rw [masks, h]; simp⟩, by simp⟩
  | o' :: l, acc, k + 1, o, h => by
    obtain ⟨pre, ⟨r, h1⟩, h2⟩ := masks_get l (acc ++ [maskOf acc (direct o')]) k o (by simpa using h)
    exact ⟨pre, ⟨r, h1⟩, by rw [h2]; simp; omega⟩

theorem waits_masks (ops : Array Oper) : waits ops (ancB (masks ops.toList [])) := by
  intro j o ho i hi
  obtain ⟨pre, ⟨r, h1⟩, h2⟩ := masks_get ops.toList [] j o (by simpa using ho)
  simp only [List.length_nil, Nat.zero_add] at h2
  have hm : (masks ops.toList []).getD j 0 = maskOf pre (direct o) := by
    rw [h1, List.getD_eq_getElem?_getD, List.getElem?_append_right (by omega), h2]; simp
  unfold ancB at hi
  rw [hm] at hi
  rcases mask_bit pre i (direct o) 0 hi with h | ⟨k, hk, h⟩
  · simp at h
  · obtain ⟨e, he, heq⟩ := List.mem_filterMap.1 hk
    split at heq
    · rename_i hb
      cases heq
      refine ⟨e, by simpa using he, hb, ?_⟩
      rcases h with h | h
      · exact .inl h
      · refine .inr ?_
        have hlt : e.on < pre.length := by
          rcases Nat.lt_or_ge e.on pre.length with h' | h'
          · exact h'
          · rw [List.getD_eq_getElem?_getD, List.getElem?_eq_none h'] at h; simp at h
        refine ⟨by omega, ?_⟩
        unfold ancB
        rw [h1, List.getD_eq_getElem?_getD, List.getElem?_append_left hlt]
        rw [List.getD_eq_getElem?_getD] at h
        exact h
    · cases heq

/-! the checks: one of the text, one of what was read and written -/
def edgesB (l : List Oper) : Bool := l.zipIdx.all fun x => (direct x.1).all fun k => decide (k < x.2)
def apartB (ops : Array Oper) (ms : List Nat) : List (Oper × Nat) → Bool
  | [] => true
  | (oi, i) :: rest => (rest.all fun x => ancB ms x.2 i || oi.apart ops x.1) && apartB ops ms rest
def fpB (ms : List Nat) : List (FP × Nat) → Bool
  | [] => true
  | (p, i) :: rest => (rest.all fun x => ancB ms x.2 i || p.apart x.1) && fpB ms rest
def regionB (ops : Array Oper) : Bool := edgesB ops.toList && apartB ops (masks ops.toList []) ops.toList.zipIdx
def orderB (ops : Array Oper) (fps : List FP) : Bool := fpB (masks ops.toList []) fps.zipIdx

theorem apartB_spec {ops : Array Oper} {ms : List Nat} : ∀ {l : List (Oper × Nat)}, apartB ops ms l = true → ∀ (a b : Nat) (x y : Oper × Nat), a < b → l[a]? = some x → l[b]? = some y → ancB ms y.2 x.2 = false → x.1.apart ops y.1 = true
  | [], _, a, b, x, y, _, h, _, _ => by simp at h
  | (oi, i) :: rest, h, a, b, x, y, hab, h1, h2, hn => by
    simp only [apartB, Bool.and_eq_true, List.all_eq_true, Bool.or_eq_true] at h
    cases b with
    | zero => omega
    | succ b =>
      cases a with
      | zero =>
        simp at h1 h2; subst h1
        rcases h.1 y (List.mem_of_getElem? h2) with h | h
        · rw [hn] at h; cases h
        · exact h
      | succ a => exact apartB_spec h.2 a b x y (by omega) (by simpa using h1) (by simpa using h2) hn
theorem fpB_spec {ms : List Nat} : ∀ {l : List (FP × Nat)}, fpB ms l = true → ∀ (a b : Nat) (x y : FP × Nat), a < b → l[a]? = some x → l[b]? = some y → ancB ms y.2 x.2 = false → x.1.apart y.1 = true
  | [], _, a, b, x, y, _, h, _, _ => by simp at h
  | (oi, i) :: rest, h, a, b, x, y, hab, h1, h2, hn => by
    simp only [fpB, Bool.and_eq_true, List.all_eq_true, Bool.or_eq_true] at h
    cases b with
    | zero => omega
    | succ b =>
      cases a with
      | zero =>
        simp at h1 h2; subst h1
        rcases h.1 y (List.mem_of_getElem? h2) with h | h
        · rw [hn] at h; cases h
        · exact h
      | succ a => exact fpB_spec h.2 a b x y (by omega) (by simpa using h1) (by simpa using h2) hn

theorem fAny_lex {Γ : FuncId → Contract} {P : Program} {N : Lim} {ops : Array Oper} (fps : Nat → FP)
    (he : ∀ (j : Nat) (o : Oper), ops[j]? = some o → ∀ e ∈ o.after, Region.binds .any e = true → e.on < j)
    (hp : ∀ (i j : Nat) (oi oj : Oper), i < j → ops[i]? = some oi → ops[j]? = some oj → ancB (masks ops.toList []) j i = false → oi.apart ops oj = true ∧ (fps i).apart (fps j) = true) :
    ∀ (l : List Oper) (k : Nat) (s s' : AS) (fs : List FP), (∀ j, l[j]? = ops[k + j]?) → aOps Γ P N ops l s = some (s', fs) → (∀ j p, fs[j]? = some p → fps (k + j) = p) →
      ∀ (listed : Array Bool), listed.size = ops.size → (∀ j, j < ops.size → listed.getD j false = decide (j < k)) → fAny Γ P N ops s'.fs fps l.length listed s.fs
  | [], k, s, s', fs, hl, h, hf, listed, hs, hL => by
    simp only [aOps, Option.some.injEq, Prod.mk.injEq] at h
    obtain ⟨rfl, rfl⟩ := h
    refine ⟨?_, rfl⟩
    have hk : ops.size ≤ k := by
      have := hl 0
      simp at this
      omega
    cases hr : Region.ready .any ops listed with
    | nil => rfl
    | cons i r =>
      have : i ∈ Region.ready .any ops listed := by rw [hr]; simp
      obtain ⟨h1, o, ho, _⟩ := mem_ready.1 this
      have hi : i < ops.size := (Array.getElem?_eq_some_iff.1 ho).1
      have := hL i hi
      have e : listed.getD i true = listed.getD i false := by simp [hs, hi]
      rw [e, this] at h1
      simp at h1
      omega
  | o :: l, k, s, s', fs, hl, h, hf, listed, hs, hL => by
    have h0 : ops[k]? = some o := by simpa using (hl 0).symm
    have hk : k < ops.size := (Array.getElem?_eq_some_iff.1 h0).1
    simp only [aOps] at h
    split at h
    · rename_i s1 fp h1
      split at h
      · rename_i s2 fs' h2
        cases h
        have hfk : fps k = fp := hf 0 fp rfl
        have hst := aStep_fs h1
        rw [← hfk] at hst
        refine fAny_first h0 (waits_masks ops) fps l.length listed s.fs s1.fs ?_ ?_ ?_ hst ?_
        · intro j oj hj hlj e hee hb
          have hjs : j < ops.size := (Array.getElem?_eq_some_iff.1 hj).1
          rw [hL j hjs] at hlj
          have hjk : j < k := by simpa using hlj
          have hlt := he j oj hj e hee hb
          rw [hL e.on (by omega)]
          simp; omega
        · intro j oj hj hne hun hna
          have hjs : j < ops.size := (Array.getElem?_eq_some_iff.1 hj).1
          have := hL j hjs
          have hjk : ¬ j < k := by
            intro hlt
            simp [hs, hjs] at hun this
            rw [hun] at this
            simp at this
            omega
          exact hp k j o oj (by omega) h0 hj hna
        · refine mem_ready.2 ⟨?_, o, h0, fun e hee hb => ?_⟩
          · have := hL k hk
            simp [hs, hk] at this ⊢
            exact this
          · have hlt := he k o h0 e hee hb
            rw [hL e.on (by omega)]
            simp; exact hlt
        · refine fAny_lex fps he hp l (k + 1) s1 s' fs' (fun j => by have := hl (j + 1); simpa [Nat.add_assoc, Nat.add_comm 1 j] using this) h2 (fun j p hj => by
            have := hf (j + 1) p (by simpa using hj)
            rwa [show k + (j + 1) = k + 1 + j from by omega] at this) _ (by simp [hs]) ?_
          intro j hj
          by_cases e : j = k
          · subst e; simp [hs, hk]
          · have := hL j hj
            simp only [Array.getD_eq_getD_getElem?] at this ⊢
            rw [Array.getElem?_setIfInBounds_ne (Ne.symm e), this]
            congr 1
            simp; omega
      · cases h
    · cases h


section
variable {P : Program} {E : Env} {Q : Exit → Act → World → Prop}

theorem rel_of_fs {G : Gh} {s s' : AS} {a : Act} {w : World} (R : Rel E G s a w) (h : s'.fs = s.fs) : Rel E G s' a w := by
  have h1 : s'.get = s.get := congrArg FS.g h
  have h2 : s'.mem = s.mem := congrArg FS.m h
  exact ⟨R.size, R.defs, by rw [h1]; exact R.tmps, by rw [h2]; exact R.mem, R.ent⟩

theorem aStep_of_fs {Γ : FuncId → Contract} {N : Lim} {ops : Array Oper} {o : Oper} {s : AS} {F' : FS} {fp : FP} (h : fStep Γ P N ops o s.fs = some (F', fp)) : ∃ s', aStep Γ P N ops o s = some (s', fp) ∧ s'.fs = F' := by
  obtain ⟨⟨v, wr, rd⟩, e1, e2⟩ := Option.map_eq_some_iff.1 h
  cases e2
  unfold fEff at e1
  unfold aStep
  have he : s.fs.eval = s.eval := funext (fs_eval s)
  have hg : fGuard ops o s.fs = guardE ops o s := rfl
  split at e1
  · rename_i hd
    rw [if_pos hd]
    rw [hg] at e1
    split at e1
    · rename_i b hb
      rw [hb]
      cases b with
      | true =>
        simp only [ifE_true] at e1 ⊢
        rw [he] at e1
        split at e1
        · rename_i e rd' hrun
          cases e1
          have : (opE Γ P N.adv.mu o s.eval).run s.mem = some (e, rd) := hrun
          rw [this]
          exact ⟨_, rfl, fs_step s o e⟩
        · cases e1
      | false =>
        simp only [ifE_false] at e1 ⊢
        cases e1
        exact ⟨_, rfl, fs_put s o _⟩
    · cases e1
  · cases e1

theorem any_sound {Γ : FuncId → Contract} (hΓ : SoundG P Γ) {ops : Array Oper} {sf : FS} {fps : Nat → FP} : ∀ (fuel : Nat) (listed : Array Bool) (s : AS) (G : Gh) (a : Act) (w : World), fAny Γ P E.N ops sf fps fuel listed s.fs → Rel E G s a w →
    (∀ G' s' a' w', G.le G' → s'.fs = sf → Rel E G' s' a' w' → Q .normal a' w') → wpAnyIn (rF E.ro) 0 P .any ops Q fuel listed a w
  | 0, listed, s, G, a, w, h, R, k => ⟨h.1, k G s a w (Gh.le_refl G) h.2 R⟩
  | fuel + 1, listed, s, G, a, w, h, R, k => by
    refine ⟨fun h0 => k G s a w (Gh.le_refl G) (h.1 h0) R, fun i hi => ?_⟩
    obtain ⟨_, o, ho, _⟩ := mem_ready.1 hi
    obtain ⟨F', h1, h2⟩ := h.2 i hi o ho
    obtain ⟨s', h3, h4⟩ := aStep_of_fs h1
    unfold wpOpIn
    rw [ho]
    dsimp only
    refine step_sound hΓ R h3 fun G' a' w' hle R' => ?_
    rw [← h4] at h2
    exact any_sound hΓ fuel _ s' G' a' w' h2 R' fun G2 s2 a2 w2 hle2 e2 R2 => k G2 s2 a2 w2 (Gh.le_trans hle hle2) e2 R2

theorem drawn_sound {Γ : FuncId → Contract} (hΓ : SoundG P Γ) (hm : P.follows .mixedOrders = true) {ops : Array Oper} {id : Nat} {G : Gh} {s s' : AS} {a : Act} {w : World} {fs : List FP} (R : Rel E G s a w) (hB : regionB ops = true)
    (h : aOps Γ P E.N ops ops.toList s = some (s', fs)) (hO : orderB ops fs = true)
    (k : ∀ G' a' w', G.le G' → Rel E G' s' a' w' → Q .normal a' w') : (Code.region id ops true).wpIn (rF E.ro) 0 P Q a w := by
  simp only [regionB, Bool.and_eq_true] at hB
  obtain ⟨hE, hA⟩ := hB
  have he : ∀ (j : Nat) (o : Oper), ops[j]? = some o → ∀ e ∈ o.after, Region.binds .any e = true → e.on < j := by
    intro j o ho e hee hb
    unfold edgesB at hE
    rw [List.all_eq_true] at hE
    have h1 := hE (o, j) (by
      rw [List.mem_iff_getElem?]
      exact ⟨j, by simp [ho]⟩)
    rw [List.all_eq_true] at h1
    have h2 := h1 e.on (List.mem_filterMap.2 ⟨e, by simpa using hee, by rw [if_pos hb]⟩)
    simpa using h2
  have hfl : ∀ (l : List Oper) (s s' : AS) (fs : List FP), aOps Γ P E.N ops l s = some (s', fs) → fs.length = l.length := by
    intro l
    induction l with
    | nil => intro s s' fs h; simp only [aOps, Option.some.injEq, Prod.mk.injEq] at h; rw [← h.2]; rfl
    | cons o l ih =>
      intro s s' fs h
      simp only [aOps] at h
      split at h
      · split at h
        · rename_i h2; cases h; simp [ih _ _ _ h2]
        · cases h
      · cases h
  have hlen := hfl _ _ _ _ h
  refine wpIn_region_any hm ?_
  have hp : ∀ (i j : Nat) (oi oj : Oper), i < j → ops[i]? = some oi → ops[j]? = some oj → ancB (masks ops.toList []) j i = false → oi.apart ops oj = true ∧ (fs.getD i ⟨[], []⟩).apart (fs.getD j ⟨[], []⟩) = true := by
    intro i j oi oj hij h1 h2 hn
    have hj : j < fs.length := by
      have := (Array.getElem?_eq_some_iff.1 h2).1
      rw [hlen]; simpa using this
    refine ⟨apartB_spec hA i j (oi, i) (oj, j) hij (by simp [h1]) (by simp [h2]) hn, ?_⟩
    refine fpB_spec hO i j (fs.getD i ⟨[], []⟩, i) (fs.getD j ⟨[], []⟩, j) hij ?_ ?_ hn
    · have : i < fs.length := by omega
      simp [this]
    · simp [hj]
  have hany := fAny_lex (Γ := Γ) (P := P) (N := E.N) (fun i => fs.getD i ⟨[], []⟩) he hp ops.toList 0 s s' fs (by simp) h (by intro j p hj; simp [hj]) (Array.replicate ops.size false) (by simp) (by intro j hj; simp [hj])
  have := any_sound hΓ (Q := Q) ops.toList.length (Array.replicate ops.size false) s G a { w with drawn := w.drawn + 1 } hany ⟨R.size, R.defs, R.tmps, R.mem.drawn _, R.ent⟩
    (fun G' s2 a' w' hle e R' => k G' a' w' hle (rel_of_fs R' e.symm))
  simpa using this

end
end Go.Proofs.Ytjdokoldiemobaa.AM
