/-
  Q3: AmA AmB AmC AmD.
-/
import Derived.Test.YtcfijanfcgnnhaaDoorQ2
set_option linter.unusedVariables false
set_option linter.unusedSimpArgs false
set_option linter.defProp false
namespace Go.Proofs.YtcfijanfcgnnhaaDoor.AM
open Go

/-- A state by what it answers. -/
structure FS where
  g : Nat → AV
  m : Nat → Option MC

def AS.fs (s : AS) : FS := ⟨s.get, s.mem⟩
def FS.eval (F : FS) : Operand → AV
  | .tmp t => F.g t
  | x => (AS.mk [] []).eval x
theorem fs_eval (s : AS) (x : Operand) : s.fs.eval x = s.eval x := by cases x <;> rfl

def FS.step (F : FS) (d : Option Tmp) (x : AV) (l : List (Nat × MC)) : FS := ⟨fun i => if d = some i then x else F.g i, wrs F.m l⟩
theorem fs_step (s : AS) (o : Oper) (e : Eff) : (s.step o e).fs = s.fs.step o.dst e.val e.wr := by
  unfold AS.fs AS.step FS.step
  congr 1
  · funext i; rw [AS.get_put]; rfl
  · have : ((s.wr e.wr).put o.dst e.val).mem = (s.wr e.wr).mem := by cases o.dst <;> rfl
    rw [this]; funext i; exact AS.mem_wr s e.wr i
theorem fs_put (s : AS) (o : Oper) (x : AV) : (s.put o.dst x).fs = s.fs.step o.dst x [] := by
  unfold AS.fs FS.step
  congr 1
  · funext i; rw [AS.get_put]
  · have : (s.put o.dst x).mem = s.mem := by cases o.dst <;> rfl
    rw [this]; rfl

def fGuard (ops : Array Oper) (o : Oper) (F : FS) : Option Bool :=
  match o.guard with
  | none => some true
  | some (j, want) => match ((ops[j]?).bind (·.dst)).map F.g with
    | some (.c (.bool b)) => some (b == want)
    | some (.tup []) => some false
    | _ => none
def fEff (Γ : FuncId → Contract) (P : Program) (N : Lim) (ops : Array Oper) (o : Oper) (F : FS) : Option (AV × List (Nat × MC) × List Nat) :=
  if dstOK N o then
    match fGuard ops o F with
    | some b => ifE b (match (opE Γ P N.adv.mu o F.eval).run F.m with
        | some (e, rd) => some (e.val, e.wr, rd)
        | none => none) (some (.tup [], [], []))
    | none => none
  else none
def fStep (Γ : FuncId → Contract) (P : Program) (N : Lim) (ops : Array Oper) (o : Oper) (F : FS) : Option (FS × FP) :=
  (fEff Γ P N ops o F).map fun x => (F.step o.dst x.1 x.2.1, ⟨x.2.2, x.2.1.map (·.1)⟩)

theorem aStep_fs {Γ : FuncId → Contract} {P : Program} {N : Lim} {ops : Array Oper} {o : Oper} {s s' : AS} {fp : FP} (h : aStep Γ P N ops o s = some (s', fp)) : fStep Γ P N ops o s.fs = some (s'.fs, fp) := by
  unfold aStep at h
  unfold fStep fEff
  have he : s.fs.eval = s.eval := funext (fs_eval s)
  have hg : fGuard ops o s.fs = guardE ops o s := rfl
  split at h
  · rename_i hd
    rw [if_pos hd, hg, he]
    split at h
    · rename_i b hb
      rw [hb]
      cases b with
      | true =>
        simp only [ifE_true] at h ⊢
        split at h
        · rename_i e rd hrun
          cases h
          have : (opE Γ P N.adv.mu o s.eval).run s.fs.m = some (e, rd) := hrun
          simp only [this, Option.map_some, fs_step]
        · cases h
      | false =>
        simp only [ifE_false, Option.some.injEq, Prod.mk.injEq] at h ⊢
        obtain ⟨rfl, rfl⟩ := h
        simp only [Option.map_some, fs_put, List.map_nil]
    · cases h
  · cases h

theorem opE_congr {Γ : FuncId → Contract} {P : Program} {M : List Nat} {o : Oper} {ρ ρ' : Operand → AV} (h : ∀ x ∈ o.op.operands.toList, ρ x = ρ' x) : opE Γ P M o ρ = opE Γ P M o ρ' := by
  have mp : ∀ (l : List Operand), (∀ x ∈ l, ρ x = ρ' x) → l.map ρ = l.map ρ' := fun l hl => List.map_congr_left hl
  have mpp : ∀ (l : List (Nat × Operand)), (∀ x ∈ l.map (·.2), ρ x = ρ' x) → (l.map fun p => (p.1, ρ p.2)) = (l.map fun p => (p.1, ρ' p.2)) := fun l hl => by
    refine List.map_congr_left fun p hp => ?_
    rw [hl p.2 (List.mem_map_of_mem hp)]
  have mo : ∀ (x : Option Operand), (∀ y ∈ x.toList, ρ y = ρ' y) → x.map ρ = x.map ρ' := fun x hx => by
    cases x with
    | none => rfl
    | some y => simp [hx y (by simp)]
  unfold opE
  cases ho : o.op with
  | move x => rw [ho] at h; simp [Op.operands] at h; simp only [h]
  | assign x => rw [ho] at h; simp [Op.operands] at h; simp only [h]
  | pick c x y => rw [ho] at h; simp [Op.operands] at h; obtain ⟨h1, h2, h3⟩ := h; simp only [h1, h2, h3]
  | alloc t => rfl
  | box t x => rw [ho] at h; simp [Op.operands] at h; simp only [h]
  | build t parts => rw [ho] at h; simp only [Op.operands] at h; dsimp only; rw [mpp parts.toList (by simpa using h)]
  | buildSlice t n parts => rw [ho] at h; simp only [Op.operands] at h; dsimp only; rw [mpp parts.toList (by simpa using h)]
  | load t x => rw [ho] at h; simp [Op.operands] at h; simp only [h]
  | store t x y => rw [ho] at h; simp [Op.operands] at h; obtain ⟨h1, h2⟩ := h; simp only [h1, h2]
  | nilCheck x => rw [ho] at h; simp [Op.operands] at h; simp only [h]
  | binOp op t x y t' => rw [ho] at h; simp [Op.operands] at h; obtain ⟨h1, h2⟩ := h; simp only [h1, h2]
  | unOp op t x => rw [ho] at h; simp [Op.operands] at h; simp only [h]
  | convert src dst x => rw [ho] at h; simp [Op.operands] at h; simp only [h]
  | makeFunc fn first captured =>
    rw [ho] at h; simp only [Op.operands] at h
    cases fn with
    | func f => dsimp only; rw [mp captured.toList (fun x hx => h x (by simp [hx]))]
    | _ => rfl
  | makeMap t r => cases r <;> rfl
  | makeSlice t x y => rw [ho] at h; simp [Op.operands] at h; obtain ⟨h1, h2⟩ := h; simp only [h1, h2]
  | slice t x lo hi mx =>
    rw [ho] at h; simp only [Op.operands] at h
    have e0 := h x (by simp)
    have e1 := mo lo (fun y hy => h y (by cases lo <;> simp_all))
    have e2 := mo hi (fun y hy => h y (by cases hi <;> simp_all))
    have e3 := mo mx (fun y hy => h y (by cases mx <;> simp_all))
    dsimp only; rw [e0, e1, e2, e3]
  | fieldAddr t x i => rw [ho] at h; simp [Op.operands] at h; simp only [h]
  | field t x i => rw [ho] at h; simp [Op.operands] at h; simp only [h]
  | indexAddr t x i => rw [ho] at h; simp [Op.operands] at h; obtain ⟨h1, h2⟩ := h; simp only [h1, h2]
  | index t x i => rw [ho] at h; simp [Op.operands] at h; obtain ⟨h1, h2⟩ := h; simp only [h1, h2]
  | lookup t m k ok => rw [ho] at h; simp [Op.operands] at h; obtain ⟨h1, h2⟩ := h; simp only [h1, h2]
  | mapUpdate t m k x => rw [ho] at h; simp [Op.operands] at h; obtain ⟨h1, h2, h3⟩ := h; simp only [h1, h2, h3]
  | extract x i => rw [ho] at h; simp [Op.operands] at h; simp only [h]
  | call c =>
    rw [ho] at h; simp only [Op.operands, Call.operands] at h
    have e1 := mp c.args.toList (fun x hx => h x (by simp [hx]))
    dsimp only
    cases hc : c.callee with
    | builtin b => dsimp only; rw [e1]
    | value f =>
      have e2 := h f (by simp [hc])
      dsimp only; rw [e1, e2]
    | invoke r m => rfl
  | _ => rfl

def FP.apart (p q : FP) : Bool := p.wr.all (fun n => !q.rd.contains n && !q.wr.contains n) && q.wr.all (fun n => !p.rd.contains n)

theorem FP.apart_spec {p q : FP} (h : p.apart q = true) : (∀ n ∈ p.wr, n ∉ q.rd ∧ n ∉ q.wr) ∧ ∀ n ∈ q.wr, n ∉ p.rd := by
  simp only [FP.apart, Bool.and_eq_true, List.all_eq_true, Bool.not_eq_true', List.contains_eq_mem, decide_eq_false_iff_not] at h
  exact h

theorem wrs_other {m : Nat → Option MC} {l : List (Nat × MC)} {n : Nat} (h : n ∉ l.map (·.1)) : wrs m l n = m n := by
  simp only [wrs, look_none h]

theorem wrs_comm {m : Nat → Option MC} {l l' : List (Nat × MC)} (h : ∀ n ∈ l.map (·.1), n ∉ l'.map (·.1)) : wrs (wrs m l) l' = wrs (wrs m l') l := by
  funext n
  by_cases h1 : n ∈ l.map (·.1)
  · have h2 := h n h1
    rw [wrs_other h2]
    obtain ⟨c, hc⟩ := look_some h1
    simp only [wrs, hc]
  · rw [wrs_other h1]
    by_cases h2 : n ∈ l'.map (·.1)
    · obtain ⟨c, hc⟩ := look_some h2
      simp only [wrs, hc]
    · rw [wrs_other h2, wrs_other h2, wrs_other h1]

/-- An operation hangs on what it looks at alone. -/
theorem fEff_congr {Γ : FuncId → Contract} {P : Program} {N : Lim} {ops : Array Oper} {o : Oper} {F F' : FS} {v : AV} {wr : List (Nat × MC)} {rd : List Nat} (hg : ∀ t ∈ o.looksAt ops, F'.g t = F.g t) (hm : ∀ n ∈ rd, F'.m n = F.m n)
    (h : fEff Γ P N ops o F = some (v, wr, rd)) : fEff Γ P N ops o F' = some (v, wr, rd) := by
  have hop : ∀ y ∈ o.op.operands.toList, F'.eval y = F.eval y := fun y hy => by
    cases y with
    | tmp t =>
      simp only [FS.eval]
      exact hg t (List.mem_append_left _ (List.mem_filterMap.2 ⟨_, hy, rfl⟩))
    | _ => rfl
  have hgd : fGuard ops o F' = fGuard ops o F := by
    unfold fGuard
    cases hgu : o.guard with
    | none => rfl
    | some p =>
      obtain ⟨j, want⟩ := p
      dsimp only
      cases hb : (ops[j]?).bind (·.dst) with
      | none => rfl
      | some t =>
        have : F'.g t = F.g t := hg t (List.mem_append_right _ (by rw [hgu]; simp [hb]))
        simp only [Option.map_some, this]
  unfold fEff at h ⊢
  split at h
  · rename_i hdst
    rw [if_pos hdst, hgd]
    split at h
    · rename_i b hb
      cases b with
      | true =>
        simp only [ifE_true] at h ⊢
        split at h
        · rename_i e rd' hrun
          cases h
          rw [opE_congr hop, EP.run_agree _ _ _ hrun hm]
        · cases h
      | false => simp only [ifE_false] at h ⊢; exact h
    · cases h
  · cases h

/-- Two operations that are apart: in the other order they come to the same. -/
theorem fStep_swap {Γ : FuncId → Contract} {P : Program} {N : Lim} {ops : Array Oper} {oi oj : Oper} {F F1 F2 : FS} {p q : FP} (hap : oi.apart ops oj = true) (hfp : p.apart q = true)
    (h1 : fStep Γ P N ops oi F = some (F1, p)) (h2 : fStep Γ P N ops oj F1 = some (F2, q)) : ∃ F1', fStep Γ P N ops oj F = some (F1', q) ∧ fStep Γ P N ops oi F1' = some (F2, p) := by
  obtain ⟨a1, a2, a3⟩ := Oper.apart_spec hap
  obtain ⟨b1, b2⟩ := FP.apart_spec hfp
  obtain ⟨⟨v, wr, rd⟩, e1, e2⟩ := Option.map_eq_some_iff.1 h1
  cases e2
  obtain ⟨⟨v2, wr2, rd2⟩, e3, e4⟩ := Option.map_eq_some_iff.1 h2
  cases e4
  dsimp only at *
  have g : ∀ (F : FS) (d : Option Tmp) (x : AV) (l : List (Nat × MC)) (t : Nat), d ≠ some t → (F.step d x l).g t = F.g t := fun F d x l t h => if_neg h
  have f1 : fEff Γ P N ops oj F = some (v2, wr2, rd2) := fEff_congr (fun t ht => (g F oi.dst v wr t fun e => a1 t e ht).symm) (fun n hn => (wrs_other fun h => (b1 n h).1 hn).symm) e3
  have f2 : fEff Γ P N ops oi (F.step oj.dst v2 wr2) = some (v, wr, rd) := fEff_congr (fun t ht => g F oj.dst v2 wr2 t fun e => a3 t e ht) (fun n hn => wrs_other fun h => b2 n h hn) e1
  refine ⟨_, Option.map_eq_some_iff.2 ⟨_, f1, rfl⟩, Option.map_eq_some_iff.2 ⟨_, f2, ?_⟩⟩
  dsimp only
  congr 1
  unfold FS.step
  congr 1
  · funext t
    dsimp only
    by_cases h : oi.dst = some t
    · rw [if_pos h, if_neg (a2 t h), if_pos h]
    · rw [if_neg h, if_neg h]
  · exact wrs_comm fun n hn h => (b1 n h).2 hn

def fAny (Γ : FuncId → Contract) (P : Program) (N : Lim) (ops : Array Oper) (sf : FS) (fps : Nat → FP) : Nat → Array Bool → FS → Prop
  | 0, listed, F => Region.ready .any ops listed = [] ∧ F = sf
  | fuel + 1, listed, F => (Region.ready .any ops listed = [] → F = sf) ∧
    ∀ i ∈ Region.ready .any ops listed, ∀ o, ops[i]? = some o → ∃ F', fStep Γ P N ops o F = some (F', fps i) ∧ fAny Γ P N ops sf fps fuel (listed.setIfInBounds i true) F'

/-- What waits for what, through whatever stands between. -/
def waits (ops : Array Oper) (anc : Nat → Nat → Bool) : Prop := ∀ j o, ops[j]? = some o → ∀ i, anc j i = true → ∃ e ∈ o.after, Region.binds .any e = true ∧ (e.on = i ∨ (e.on < j ∧ anc e.on i = true))

def Closed (ops : Array Oper) (listed : Array Bool) : Prop := ∀ j o, ops[j]? = some o → listed.getD j false = true → ∀ e ∈ o.after, Region.binds .any e = true → listed.getD e.on false = true

theorem anc_listed {ops : Array Oper} {anc : Nat → Nat → Bool} (hw : waits ops anc) {listed : Array Bool} (hc : Closed ops listed) : ∀ (n j : Nat) (o : Oper), j < n → ops[j]? = some o → (∀ e ∈ o.after, Region.binds .any e = true → listed.getD e.on false = true) →
    ∀ i, anc j i = true → listed.getD i false = true
  | 0, j, o, h, _, _, _, _ => by omega
  | n + 1, j, o, hj, ho, hr, i, hi => by
    obtain ⟨e, he, hb, h⟩ := hw j o ho i hi
    have hl := hr e he hb
    rcases h with rfl | ⟨hlt, ha⟩
    · exact hl
    · cases hoe : ops[e.on]? with
      | none =>
        obtain ⟨e', _⟩ : ∃ x : Nat, x = x := ⟨0, rfl⟩
        have hlt2 : ¬ e.on < ops.size := by
          intro h; rw [Array.getElem?_eq_getElem h] at hoe; cases hoe
        have hjs : j < ops.size := (Array.getElem?_eq_some_iff.1 ho).1
        omega
      | some oe => exact anc_listed hw hc n e.on oe (by omega) hoe (hc e.on oe hoe hl) i ha

theorem fAny_first {Γ : FuncId → Contract} {P : Program} {N : Lim} {ops : Array Oper} {sf : FS} {i : Nat} {oi : Oper} (hi : ops[i]? = some oi) {anc : Nat → Nat → Bool} (hw : waits ops anc) (fps : Nat → FP) :
    ∀ (fuel : Nat) (listed : Array Bool) (F F1 : FS), Closed ops listed →
      (∀ j oj, ops[j]? = some oj → j ≠ i → listed.getD j true = false → anc j i = false → oi.apart ops oj = true ∧ (fps i).apart (fps j) = true) →
      i ∈ Region.ready .any ops listed → fStep Γ P N ops oi F = some (F1, fps i) →
      fAny Γ P N ops sf fps fuel (listed.setIfInBounds i true) F1 → fAny Γ P N ops sf fps (fuel + 1) listed F
  | 0, listed, F, F1, hc, hfree, hr, hst, H => by
    refine ⟨fun h => (by rw [h] at hr; cases hr), fun j hj oj hoj => ?_⟩
    by_cases hji : j = i
    · subst hji
      rw [hi] at hoj; cases hoj
      exact ⟨F1, hst, H⟩
    · have := ready_mono hj hji
      rw [H.1] at this
      cases this
  | fuel + 1, listed, F, F1, hc, hfree, hr, hst, H => by
    refine ⟨fun h => (by rw [h] at hr; cases hr), fun j hj oj hoj => ?_⟩
    by_cases hji : j = i
    · subst hji
      rw [hi] at hoj; cases hoj
      exact ⟨F1, hst, H⟩
    · obtain ⟨F2, h1, h2⟩ := H.2 j (ready_mono hj hji) oj hoj
      obtain ⟨hjun, oj', hoj', hall⟩ := mem_ready.1 hj
      rw [hoj] at hoj'; cases hoj'
      have hiun := (mem_ready.1 hr).1
      have hna : anc j i = false := by
        cases ha : anc j i with
        | false => rfl
        | true =>
          have := anc_listed hw hc (j + 1) j oj (by omega) hoj hall i ha
          rcases Nat.lt_or_ge i listed.size with h' | h'
          · simp [h'] at hiun this; rw [hiun] at this; cases this
          · simp [Array.getElem?_eq_none h'] at this
      obtain ⟨a1, a2⟩ := hfree j oj hoj hji hjun hna
      obtain ⟨F1', g1, g2⟩ := fStep_swap a1 a2 hst h1
      refine ⟨F1', g1, fAny_first hi hw fps fuel (listed.setIfInBounds j true) F1' F2 ?_ ?_ (ready_mono hr (Ne.symm hji)) g2 ?_⟩
      · intro k ok hk hl e he hb
        by_cases hkj : k = j
        · subst hkj
          rw [hoj] at hk; cases hk
          exact getD_set_true (hall e he hb)
        · have : listed.getD k false = true := by
            have := hl
            simp only [Array.getD_eq_getD_getElem?] at this ⊢
            rwa [Array.getElem?_setIfInBounds_ne (Ne.symm hkj)] at this
          exact getD_set_true (hc k ok hk this e he hb)
      · intro k ok hk hki hun hna'
        refine hfree k ok hk hki ?_ hna'
        by_cases hjk : j = k
        · subst hjk; exact hjun
        · rw [getD_set_ne true hjk] at hun; exact hun
      · rw [Array.setIfInBounds_comm _ _ hji]; exact h2

def direct (o : Oper) : List Nat := o.after.toList.filterMap fun e => if Region.binds .any e then some e.on else none
def maskOf (acc : List Nat) (l : List Nat) : Nat := l.foldl (fun s i => s ||| (2 ^ i ||| acc.getD i 0)) 0
def masks : List Oper → List Nat → List Nat
  | [], acc => acc
  | o :: rest, acc => masks rest (acc ++ [maskOf acc (direct o)])
def ancB (ms : List Nat) (j i : Nat) : Bool := (ms.getD j 0).testBit i

theorem mask_bit (acc : List Nat) (i : Nat) : ∀ (l : List Nat) (s0 : Nat), (l.foldl (fun s i => s ||| (2 ^ i ||| acc.getD i 0)) s0).testBit i = true → s0.testBit i = true ∨ ∃ k ∈ l, k = i ∨ (acc.getD k 0).testBit i = true
  | [], s0, h => .inl h
  | k :: l, s0, h => by
    rw [List.foldl_cons] at h
    rcases mask_bit acc i l _ h with h | ⟨k', hk, h⟩
    · rw [Nat.testBit_or, Nat.testBit_or, Bool.or_eq_true, Bool.or_eq_true] at h
      rcases h with h | h | h
      · exact .inl h
      · rw [Nat.testBit_two_pow] at h
        exact .inr ⟨k, by simp, .inl (by simpa using h)⟩
      · exact .inr ⟨k, by simp, .inr h⟩
    · exact .inr ⟨k', by simp [hk], h⟩

theorem masks_pre : ∀ (l : List Oper) (acc : List Nat), ∃ r, masks l acc = acc ++ r
  | [], acc => ⟨[], by simp [masks]⟩
  | o :: l, acc => by
    obtain ⟨r, h⟩ := masks_pre l (acc ++ [maskOf acc (direct o)])
    exact ⟨maskOf acc (direct o) :: r, by rw [masks, h]; simp⟩

theorem masks_get : ∀ (l : List Oper) (acc : List Nat) (k : Nat) (o : Oper), l[k]? = some o → ∃ pre, (∃ r, masks l acc = pre ++ maskOf pre (direct o) :: r) ∧ pre.length = acc.length + k
  | [], acc, k, o, h => by simp at h
  | o' :: l, acc, 0, o, h => by
    simp at h; subst h
    obtain ⟨r, h⟩ := masks_pre l (acc ++ [maskOf acc (direct o')])
    exact ⟨acc, ⟨r, by rw [masks, h]; simp⟩, by simp⟩
  | o' :: l, acc, k + 1, o, h => by
    obtain ⟨pre, ⟨r, h1⟩, h2⟩ := masks_get l (acc ++ [maskOf acc (direct o')]) k o (by simpa using h)
    exact ⟨pre, ⟨r, h1⟩, by rw [h2]; simp; omega⟩

theorem waits_masks (ops : Array Oper) : waits ops (ancB (masks ops.toList [])) := by
  intro j o ho i hi
  obtain ⟨pre, ⟨r, h1⟩, h2⟩ := masks_get ops.toList [] j o (by simpa using ho)
  simp only [List.length_nil, Nat.zero_add] at h2
  have hm : (masks ops.toList []).getD j 0 = maskOf pre (direct o) := by
    rw [h1, List.getD_eq_getElem?_getD, List.getElem?_append_right (by omega), h2]; simp
  unfold ancB at hi
  rw [hm] at hi
  rcases mask_bit pre i (direct o) 0 hi with h | ⟨k, hk, h⟩
  · simp at h
  · obtain ⟨e, he, heq⟩ := List.mem_filterMap.1 hk
    split at heq
    · rename_i hb
      cases heq
      refine ⟨e, by simpa using he, hb, ?_⟩
      rcases h with h | h
      · exact .inl h
      · refine .inr ?_
        have hlt : e.on < pre.length := by
          rcases Nat.lt_or_ge e.on pre.length with h' | h'
          · exact h'
          · rw [List.getD_eq_getElem?_getD, List.getElem?_eq_none h'] at h; simp at h
        refine ⟨by omega, ?_⟩
        unfold ancB
        rw [h1, List.getD_eq_getElem?_getD, List.getElem?_append_left hlt]
        rw [List.getD_eq_getElem?_getD] at h
        exact h
    · cases heq

def edgesB (l : List Oper) : Bool := l.zipIdx.all fun x => (direct x.1).all fun k => decide (k < x.2)
def apartB (ops : Array Oper) (ms : List Nat) : List (Oper × Nat) → Bool
  | [] => true
  | (oi, i) :: rest => (rest.all fun x => ancB ms x.2 i || oi.apart ops x.1) && apartB ops ms rest
def fpB (ms : List Nat) : List (FP × Nat) → Bool
  | [] => true
  | (p, i) :: rest => (rest.all fun x => ancB ms x.2 i || p.apart x.1) && fpB ms rest
def regionB (ops : Array Oper) : Bool := edgesB ops.toList && apartB ops (masks ops.toList []) ops.toList.zipIdx
def orderB (ops : Array Oper) (fps : List FP) : Bool := fpB (masks ops.toList []) fps.zipIdx

theorem apartB_spec {ops : Array Oper} {ms : List Nat} : ∀ {l : List (Oper × Nat)}, apartB ops ms l = true → ∀ (a b : Nat) (x y : Oper × Nat), a < b → l[a]? = some x → l[b]? = some y → ancB ms y.2 x.2 = false → x.1.apart ops y.1 = true
  | [], _, a, b, x, y, _, h, _, _ => by simp at h
  | (oi, i) :: rest, h, a, b, x, y, hab, h1, h2, hn => by
    simp only [apartB, Bool.and_eq_true, List.all_eq_true, Bool.or_eq_true] at h
    cases b with
    | zero => omega
    | succ b =>
      cases a with
      | zero =>
        simp at h1 h2; subst h1
        rcases h.1 y (List.mem_of_getElem? h2) with h | h
        · rw [hn] at h; cases h
        · exact h
      | succ a => exact apartB_spec h.2 a b x y (by omega) (by simpa using h1) (by simpa using h2) hn
theorem fpB_spec {ms : List Nat} : ∀ {l : List (FP × Nat)}, fpB ms l = true → ∀ (a b : Nat) (x y : FP × Nat), a < b → l[a]? = some x → l[b]? = some y → ancB ms y.2 x.2 = false → x.1.apart y.1 = true
  | [], _, a, b, x, y, _, h, _, _ => by simp at h
  | (oi, i) :: rest, h, a, b, x, y, hab, h1, h2, hn => by
    simp only [fpB, Bool.and_eq_true, List.all_eq_true, Bool.or_eq_true] at h
    cases b with
    | zero => omega
    | succ b =>
      cases a with
      | zero =>
        simp at h1 h2; subst h1
        rcases h.1 y (List.mem_of_getElem? h2) with h | h
        · rw [hn] at h; cases h
        · exact h
      | succ a => exact fpB_spec h.2 a b x y (by omega) (by simpa using h1) (by simpa using h2) hn

theorem fAny_lex {Γ : FuncId → Contract} {P : Program} {N : Lim} {ops : Array Oper} (fps : Nat → FP)
    (he : ∀ (j : Nat) (o : Oper), ops[j]? = some o → ∀ e ∈ o.after, Region.binds .any e = true → e.on < j)
    (hp : ∀ (i j : Nat) (oi oj : Oper), i < j → ops[i]? = some oi → ops[j]? = some oj → ancB (masks ops.toList []) j i = false → oi.apart ops oj = true ∧ (fps i).apart (fps j) = true) :
    ∀ (l : List Oper) (k : Nat) (s s' : AS) (fs : List FP), (∀ j, l[j]? = ops[k + j]?) → aOps Γ P N ops l s = some (s', fs) → (∀ j p, fs[j]? = some p → fps (k + j) = p) →
      ∀ (listed : Array Bool), listed.size = ops.size → (∀ j, j < ops.size → listed.getD j false = decide (j < k)) → fAny Γ P N ops s'.fs fps l.length listed s.fs
  | [], k, s, s', fs, hl, h, hf, listed, hs, hL => by
    simp only [aOps, Option.some.injEq, Prod.mk.injEq] at h
    obtain ⟨rfl, rfl⟩ := h
    refine ⟨?_, rfl⟩
    have hk : ops.size ≤ k := by
      have := hl 0
      simp at this
      omega
    cases hr : Region.ready .any ops listed with
    | nil => rfl
    | cons i r =>
      have : i ∈ Region.ready .any ops listed := by rw [hr]; simp
      obtain ⟨h1, o, ho, _⟩ := mem_ready.1 this
      have hi : i < ops.size := (Array.getElem?_eq_some_iff.1 ho).1
      have := hL i hi
      have e : listed.getD i true = listed.getD i false := by simp [hs, hi]
      rw [e, this] at h1
      simp at h1
      omega
  | o :: l, k, s, s', fs, hl, h, hf, listed, hs, hL => by
    have h0 : ops[k]? = some o := by simpa using (hl 0).symm
    have hk : k < ops.size := (Array.getElem?_eq_some_iff.1 h0).1
    simp only [aOps] at h
    split at h
    · rename_i s1 fp h1
      split at h
      · rename_i s2 fs' h2
        cases h
        have hfk : fps k = fp := hf 0 fp rfl
        have hst := aStep_fs h1
        rw [← hfk] at hst
        refine fAny_first h0 (waits_masks ops) fps l.length listed s.fs s1.fs ?_ ?_ ?_ hst ?_
        · intro j oj hj hlj e hee hb
          have hjs : j < ops.size := (Array.getElem?_eq_some_iff.1 hj).1
          rw [hL j hjs] at hlj
          have hjk : j < k := by simpa using hlj
          have hlt := he j oj hj e hee hb
          rw [hL e.on (by omega)]
          simp; omega
        · intro j oj hj hne hun hna
          have hjs : j < ops.size := (Array.getElem?_eq_some_iff.1 hj).1
          have := hL j hjs
          have hjk : ¬ j < k := by
            intro hlt
            simp [hs, hjs] at hun this
            rw [hun] at this
            simp at this
            omega
          exact hp k j o oj (by omega) h0 hj hna
        · refine mem_ready.2 ⟨?_, o, h0, fun e hee hb => ?_⟩
          · have := hL k hk
            simp [hs, hk] at this ⊢
            exact this
          · have hlt := he k o h0 e hee hb
            rw [hL e.on (by omega)]
            simp; exact hlt
        · refine fAny_lex fps he hp l (k + 1) s1 s' fs' (fun j => by have := hl (j + 1); simpa [Nat.add_assoc, Nat.add_comm 1 j] using this) h2 (fun j p hj => by
            have := hf (j + 1) p (by simpa using hj)
            rwa [show k + (j + 1) = k + 1 + j from by omega] at this) _ (by simp [hs]) ?_
          intro j hj
          by_cases e : j = k
          · subst e; simp [hs, hk]
          · have := hL j hj
            simp only [Array.getD_eq_getD_getElem?] at this ⊢
            rw [Array.getElem?_setIfInBounds_ne (Ne.symm e), this]
            congr 1
            simp; omega
      · cases h
    · cases h


section
variable {P : Program} {E : Env} {Q : Exit → Act → World → Prop}

theorem rel_of_fs {G : Gh} {s s' : AS} {a : Act} {w : World} (R : Rel E G s a w) (h : s'.fs = s.fs) : Rel E G s' a w := by
  have h1 : s'.get = s.get := congrArg FS.g h
  have h2 : s'.mem = s.mem := congrArg FS.m h
  exact ⟨R.size, R.defs, by rw [h1]; exact R.tmps, by rw [h2]; exact R.mem, R.ent⟩

theorem aStep_of_fs {Γ : FuncId → Contract} {N : Lim} {ops : Array Oper} {o : Oper} {s : AS} {F' : FS} {fp : FP} (h : fStep Γ P N ops o s.fs = some (F', fp)) : ∃ s', aStep Γ P N ops o s = some (s', fp) ∧ s'.fs = F' := by
  obtain ⟨⟨v, wr, rd⟩, e1, e2⟩ := Option.map_eq_some_iff.1 h
  cases e2
  unfold fEff at e1
  unfold aStep
  have he : s.fs.eval = s.eval := funext (fs_eval s)
  have hg : fGuard ops o s.fs = guardE ops o s := rfl
  split at e1
  · rename_i hd
    rw [if_pos hd]
    rw [hg] at e1
    split at e1
    · rename_i b hb
      rw [hb]
      cases b with
      | true =>
        simp only [ifE_true] at e1 ⊢
        rw [he] at e1
        split at e1
        · rename_i e rd' hrun
          cases e1
          have : (opE Γ P N.adv.mu o s.eval).run s.mem = some (e, rd) := hrun
          rw [this]
          exact ⟨_, rfl, fs_step s o e⟩
        · cases e1
      | false =>
        simp only [ifE_false] at e1 ⊢
        cases e1
        exact ⟨_, rfl, fs_put s o _⟩
    · cases e1
  · cases e1

theorem any_sound {Γ : FuncId → Contract} (hΓ : SoundG P Γ) {ops : Array Oper} {sf : FS} {fps : Nat → FP} : ∀ (fuel : Nat) (listed : Array Bool) (s : AS) (G : Gh) (a : Act) (w : World), fAny Γ P E.N ops sf fps fuel listed s.fs → Rel E G s a w →
    (∀ G' s' a' w', G.le G' → s'.fs = sf → Rel E G' s' a' w' → Q .normal a' w') → wpAnyIn (rF E.ro) 0 P .any ops Q fuel listed a w
  | 0, listed, s, G, a, w, h, R, k => ⟨h.1, k G s a w (Gh.le_refl G) h.2 R⟩
  | fuel + 1, listed, s, G, a, w, h, R, k => by
    refine ⟨fun h0 => k G s a w (Gh.le_refl G) (h.1 h0) R, fun i hi => ?_⟩
    obtain ⟨_, o, ho, _⟩ := mem_ready.1 hi
    obtain ⟨F', h1, h2⟩ := h.2 i hi o ho
    obtain ⟨s', h3, h4⟩ := aStep_of_fs h1
    unfold wpOpIn
    rw [ho]
    dsimp only
    refine step_sound hΓ R h3 fun G' a' w' hle R' => ?_
    rw [← h4] at h2
    exact any_sound hΓ fuel _ s' G' a' w' h2 R' fun G2 s2 a2 w2 hle2 e2 R2 => k G2 s2 a2 w2 (Gh.le_trans hle hle2) e2 R2

theorem drawn_sound {Γ : FuncId → Contract} (hΓ : SoundG P Γ) (hm : P.follows .mixedOrders = true) {ops : Array Oper} {id : Nat} {G : Gh} {s s' : AS} {a : Act} {w : World} {fs : List FP} (R : Rel E G s a w) (hB : regionB ops = true)
    (h : aOps Γ P E.N ops ops.toList s = some (s', fs)) (hO : orderB ops fs = true)
    (k : ∀ G' a' w', G.le G' → Rel E G' s' a' w' → Q .normal a' w') : (Code.region id ops true).wpIn (rF E.ro) 0 P Q a w := by
  simp only [regionB, Bool.and_eq_true] at hB
  obtain ⟨hE, hA⟩ := hB
  have he : ∀ (j : Nat) (o : Oper), ops[j]? = some o → ∀ e ∈ o.after, Region.binds .any e = true → e.on < j := by
    intro j o ho e hee hb
    unfold edgesB at hE
    rw [List.all_eq_true] at hE
    have h1 := hE (o, j) (by
      rw [List.mem_iff_getElem?]
      exact ⟨j, by simp [ho]⟩)
    rw [List.all_eq_true] at h1
    have h2 := h1 e.on (List.mem_filterMap.2 ⟨e, by simpa using hee, by rw [if_pos hb]⟩)
    simpa using h2
  have hfl : ∀ (l : List Oper) (s s' : AS) (fs : List FP), aOps Γ P E.N ops l s = some (s', fs) → fs.length = l.length := by
    intro l
    induction l with
    | nil => intro s s' fs h; simp only [aOps, Option.some.injEq, Prod.mk.injEq] at h; rw [← h.2]; rfl
    | cons o l ih =>
      intro s s' fs h
      simp only [aOps] at h
      split at h
      · split at h
        · rename_i h2; cases h; simp [ih _ _ _ h2]
        · cases h
      · cases h
  have hlen := hfl _ _ _ _ h
  refine wpIn_region_any hm ?_
  have hp : ∀ (i j : Nat) (oi oj : Oper), i < j → ops[i]? = some oi → ops[j]? = some oj → ancB (masks ops.toList []) j i = false → oi.apart ops oj = true ∧ (fs.getD i ⟨[], []⟩).apart (fs.getD j ⟨[], []⟩) = true := by
    intro i j oi oj hij h1 h2 hn
    have hj : j < fs.length := by
      have := (Array.getElem?_eq_some_iff.1 h2).1
      rw [hlen]; simpa using this
    refine ⟨apartB_spec hA i j (oi, i) (oj, j) hij (by simp [h1]) (by simp [h2]) hn, ?_⟩
    refine fpB_spec hO i j (fs.getD i ⟨[], []⟩, i) (fs.getD j ⟨[], []⟩, j) hij ?_ ?_ hn
    · have : i < fs.length := by omega
      simp [this]
    · simp [hj]
  have hany := fAny_lex (Γ := Γ) (P := P) (N := E.N) (fun i => fs.getD i ⟨[], []⟩) he hp ops.toList 0 s s' fs (by simp) h (by intro j p hj; simp [hj]) (Array.replicate ops.size false) (by simp) (by intro j hj; simp [hj])
  have := any_sound hΓ (Q := Q) ops.toList.length (Array.replicate ops.size false) s G a { w with drawn := w.drawn + 1 } hany ⟨R.size, R.defs, R.tmps, R.mem.drawn _, R.ent⟩
    (fun G' s2 a' w' hle e R' => k G' a' w' hle (rel_of_fs R' e.symm))
  simpa using this

end

def AWP (P : Program) (E : Env) (c : Code) (Q : Exit → AS → Prop) (s : AS) : Prop :=
  ∀ G a w, Rel E G s a w → c.wpIn (rF E.ro) 0 P (fun e a' w' => ∃ G' s', Q e s' ∧ Rel E G' s' a' w') a w

/-- What is at hand, then what follows. -/
def andThen {α : Type} (x : Option α) (f : α → Prop) : Prop := match x with | some a => f a | none => False
theorem andThen_some {α : Type} (a : α) (f : α → Prop) : andThen (some a) f = f a := Eq.trans (Eq.refl _) (Eq.refl _)
theorem andThen_none {α : Type} (f : α → Prop) : andThen none f = False := rfl
theorem andThen_iff {α : Type} {x : Option α} {f : α → Prop} : andThen x f ↔ ∃ a, x = some a ∧ f a := by
  cases x with
  | none => simp [andThen]
  | some a => simp [andThen]
@[congr] theorem andThen_congr {α : Type} {x x' : Option α} {f : α → Prop} (h : x = x') : andThen x f = andThen x' f := by rw [h]

/-- Two ways. -/
def branch (b : Bool) (X Y : Prop) : Prop := (b = true → X) ∧ (b = false → Y)
theorem branch_true (X Y : Prop) : branch true X Y = X := by simp [branch]
theorem branch_false (X Y : Prop) : branch false X Y = Y := by simp [branch]
@[congr] theorem branch_congr {b b' : Bool} {X Y : Prop} (h : b = b') : branch b X Y = branch b' X Y := by rw [h]
theorem branch_intro {b : Bool} {X Y : Prop} (h1 : b = true → X) (h2 : b = false → Y) : branch b X Y := ⟨h1, h2⟩
theorem andThen_ifE {α : Type} (b : Bool) (x y : Option α) (f : α → Prop) : andThen (ifE b x y) f = branch b (andThen x f) (andThen y f) := by
  cases b <;> simp [branch]

def thenA (K : AS → Prop) (Q : Exit → AS → Prop) : Exit → AS → Prop
  | .normal, s => K s
  | e, s => Q e s
def inBlockA (id : Nat) (Q : Exit → AS → Prop) : Exit → AS → Prop
  | .exit id', s => if id' = id then Q .normal s else Q (.exit id') s
  | e, s => Q e s

inductive Cnd where
  | b (t : Bool)
  | any
def cndE : AV → Option Cnd
  | .c (.bool t) => some (.b t)
  | .ubool => some .any
  | _ => none
def cndQ (c : Cnd) (X Y : Prop) : Prop := match c with | .b t => branch t X Y | .any => X ∧ Y

/-- A condition first: neither way is looked at before it is known. -/
@[congr] theorem cndQ_congr {c c' : Cnd} {X Y : Prop} (h : c = c') : cndQ c X Y = cndQ c' X Y := by rw [h]

/-! hints -/
/-- These slots alone. -/
def pickT (s : AS) : List Nat → List (Nat × AV)
  | [] => []
  | i :: l => (i, s.get i) :: pickT s l
def without (n : Nat) : List (Nat × MC) → List (Nat × MC)
  | [] => []
  | (k, c) :: l => if k = n then without n l else (k, c) :: without n l
/-- What is told twice is told once. -/
def once : List (Nat × MC) → List (Nat × MC)
  | [] => []
  | (k, c) :: l => (k, c) :: without k (once l)
def doHint (ns : List Nat) (h : Hint) (s : AS) : Option AS :=
  match h with
  | .frz d z => match s.get d with
    | .msl n off len _ => match s.mem n with
      | some (.obj cells _) => match toPCs cells with
        | some cs => if 0 < z ∧ off + len * z ≤ cs.length then some ⟨(d, .c (.sl (chunks z len (cs.drop off)))) :: s.t, (n, .obj cells true) :: s.m⟩ else none
        | none => none
      | _ => none
    | .c _ => some s
    | _ => none
  | .toOwn d z => none
  | .tidy l => some ⟨pickT s l, once s.m⟩
def hintP (ns : List Nat) (id : Nat) (K : AS → Prop) : List (Nat × Hint) → AS → Prop
  | [], s => K s
  | (i, h) :: l, s => if i = id then andThen (doHint ns h s) (hintP ns id K l) else hintP ns id K l s

def vc (Γ : FuncId → Contract) (P : Program) (E : Env) : Code → (Exit → AS → Prop) → AS → Prop
  | .skip, Q, s => Q .normal s
  | .region id ops false, Q, s => andThen (aOps Γ P E.N ops ops.toList s) fun r => hintP E.ns id (Q .normal) E.N.adv.hints r.1
  | .region id ops true, Q, s => regionB ops = true ∧ andThen (aOps Γ P E.N ops ops.toList s) fun r => orderB ops r.2 = true ∧ hintP E.ns id (Q .normal) E.N.adv.hints r.1
  | .seq a b, Q, s => vc Γ P E a (thenA (vc Γ P E b Q) Q) s
  | .cond c x y, Q, s => andThen (cndE (s.eval c)) fun c => cndQ c (vc Γ P E x Q s) (vc Γ P E y Q s)
  | .block id body, Q, s => vc Γ P E body (inBlockA id Q) s
  | .loop body, Q, s => AWP P E (.loop body) Q s
  | .exit id, Q, s => Q (.exit id) s
  | .label _, Q, s => Q .normal s
  | .ret, Q, s => Q .ret s
  | _, _, _ => False

section
variable {P : Program} {E : Env} {Γ : FuncId → Contract}

theorem AWP.mono {c : Code} {Q Q' : Exit → AS → Prop} {s : AS} (h : AWP P E c Q s) (hq : ∀ e s, Q e s → Q' e s) : AWP P E c Q' s :=
  fun G a w R => wpIn_mono (h G a w R) fun e a' w' ⟨G', s', h2, h3⟩ => ⟨G', s', hq e s' h2, h3⟩

theorem AWP.seq {x y : Code} {Q : Exit → AS → Prop} {s : AS} (h : AWP P E x (thenA (AWP P E y Q) Q) s) : AWP P E (.seq x y) Q s := by
  intro G a w R
  refine wpIn_seq (wpIn_mono (h G a w R) ?_)
  rintro e a' w' ⟨G', s', h2, h3⟩
  cases e with
  | normal =>
    refine wpIn_mono (h2 G' a' w' h3) ?_
    exact fun e a2 w2 h => h
  | _ => exact ⟨G', s', h2, h3⟩

theorem AWP.block {id : Nat} {c : Code} {Q : Exit → AS → Prop} {s : AS} (h : AWP P E c (inBlockA id Q) s) : AWP P E (.block id c) Q s := by
  intro G a w R
  refine wpIn_block (wpIn_mono (h G a w R) ?_)
  rintro e a' w' ⟨G', s', h2, h3⟩
  cases e with
  | exit id' =>
    simp only [inBlockA] at h2
    simp only [Exit.inBlock]
    by_cases e : id' = id
    · rw [if_pos e] at h2 ⊢; exact ⟨G', s', h2, h3⟩
    · rw [if_neg e] at h2 ⊢; exact ⟨G', s', h2, h3⟩
  | _ => exact ⟨G', s', h2, h3⟩

theorem chunk_rows {K : Know} {b off z len : Nat} {cs : List PC} (h0 : 0 < z) (hl : off + len * z ≤ cs.length) (hk : ∀ i c, cs[i]? = some c → ∃ v, K b i = some v ∧ VR K c v) : Slice K z b off (chunks z len (cs.drop off)) := by
  refine ⟨fun r hr => ?_, fun j r hj i c hi => ?_⟩
  · obtain ⟨j, hj⟩ := List.mem_iff_getElem?.1 hr
    have hjl : j < len := by have := (List.getElem?_eq_some_iff.1 hj).1; rwa [chunks_length] at this
    have := chunks_get _ _ _ _ _ hj
    have h3 : j * z + z ≤ len * z := by rw [← Nat.succ_mul]; exact Nat.mul_le_mul_right z hjl
    rw [this]; simp; omega
  · have := chunks_get _ _ _ _ _ hj
    rw [this, List.getElem?_take] at hi
    split at hi
    · rw [List.getElem?_drop, List.getElem?_drop] at hi
      rw [show off + j * z + i = off + (j * z + i) from by omega]
      exact hk _ c hi
    · cases hi

theorem look_without (n : Nat) : ∀ (l : List (Nat × MC)) (i : Nat), i ≠ n → look (without n l) i = look l i
  | [], i, _ => rfl
  | (k, c) :: l, i, h => by
    simp only [without]
    split
    · rename_i e
      simp only [look]
      rw [if_neg (by omega), look_without n l i h]
    · simp only [look]
      split
      · rfl
      · exact look_without n l i h
theorem look_once : ∀ (l : List (Nat × MC)) (i : Nat), look (once l) i = look l i
  | [], i => rfl
  | (k, c) :: l, i => by
    simp only [once, look]
    split
    · rfl
    · rename_i h
      rw [look_without k _ i (Ne.symm h), look_once l i]
theorem pickT_get (s : AS) : ∀ (l : List Nat) (i : Nat), (look (pickT s l) i).getD .undef = s.get i ∨ (look (pickT s l) i).getD .undef = .undef
  | [], i => .inr rfl
  | j :: l, i => by
    simp only [pickT, look]
    split
    · rename_i e; subst e; exact .inl rfl
    · exact pickT_get s l i

theorem hint_sound {G : Gh} {s s' : AS} {a : Act} {w : World} (R : Rel E G s a w) {h : Hint} (hs : doHint E.ns h s = some s') : ∃ G', Rel E G' s' a w := by
  have ht := R.tmps
  cases h with
  | tidy l =>
    simp only [doHint, Option.some.injEq] at hs
    subst hs
    refine ⟨G, R.size, R.defs, fun i => ?_, R.mem.congr (fun i => look_once s.m i), R.ent⟩
    have := pickT_get s l i
    show AR G ((look (pickT s l) i).getD .undef) _
    rcases this with h | h
    · rw [h]; exact ht i
    · rw [h]; exact .undef _
  | frz d z =>
    simp only [doHint] at hs
    split at hs
    · rename_i n off len ex hd
      split at hs
      · rename_i cells fz hm
        split at hs
        · rename_i cs hcs
          split at hs
          · rename_i hc
            cases hs
            have hv := ht d
            rw [hd] at hv
            generalize hvv : a.tmps.getD d Go.undef = v at hv
            cases hv with
            | msl _ _ _ b cap _ hb hcap he =>
            obtain ⟨G', g1, g2, g3, g4⟩ := R.mem.freeze hm hb
            obtain ⟨t1, t2⟩ := toPCs_spec hcs
            refine ⟨G', R.size, R.defs, fun i => ?_, g4.congr (fun i => AS.mem_wr1 ⟨s.t, s.m⟩ n _ i), fun k hk => ?_⟩
            · simp only [AS.get, look]
              split
              · rename_i e; subst e
                rw [hvv, Option.getD_some]
                have hsl := chunk_rows (K := G'.K) (b := b) (cs := cs) hc.1 hc.2 (fun i c hi => by
                  have hil : i < cells.length := by have := (List.getElem?_eq_some_iff.1 hi).1; omega
                  obtain ⟨v, v1, v2⟩ := g3 i cells[i] (by simp [hil])
                  exact ⟨v, v1, v2.toPC (t2 i _ c (by simp [hil]) hi)⟩)
                have := VR.of_slice hsl (cap := cap) (by rw [chunks_length]; exact hcap)
                rw [chunks_length] at this
                exact .c _ _ this
              · exact (ht i).mono g1
            · obtain ⟨x, x', e1, e2, l⟩ := R.ent k hk
              exact ⟨x, x', e1, by rw [g2]; exact e2, l⟩
          · cases hs
        · cases hs
      · cases hs
    · cases hs
      exact ⟨G, R.size, R.defs, ht, R.mem, R.ent⟩
    · cases hs
  | toOwn d z => cases hs

theorem hintP_sound {id : Nat} {K : AS → Prop} {a : Act} {w : World} : ∀ {l : List (Nat × Hint)} {G : Gh} {s : AS}, Rel E G s a w → hintP E.ns id K l s → ∃ G' s', K s' ∧ Rel E G' s' a w
  | [], G, s, R, h => ⟨G, s, h, R⟩
  | (i, x) :: l, G, s, R, h => by
    simp only [hintP] at h
    split at h
    · obtain ⟨s1, h1, h2⟩ := andThen_iff.1 h
      obtain ⟨G1, R1⟩ := hint_sound R h1
      exact hintP_sound R1 h2
    · exact hintP_sound R h

theorem vc_sound (hΓ : SoundG P Γ) (hm : P.follows .mixedOrders = true) : ∀ (c : Code) (Q : Exit → AS → Prop) (s : AS), vc Γ P E c Q s → AWP P E c Q s
  | .skip, Q, s, h => fun G a w R => wpIn_skip ⟨G, s, h, R⟩
  | .region id ops false, Q, s, h => fun G a w R => by
    simp only [vc] at h
    obtain ⟨⟨s', fs⟩, h1, h2⟩ := andThen_iff.1 h
    exact region_sound hΓ R h1 fun G' a' w' hle R' => hintP_sound R' h2
  | .region id ops true, Q, s, h => fun G a w R => by
    simp only [vc] at h
    obtain ⟨hB, h⟩ := h
    obtain ⟨⟨s', fs⟩, h1, hO, h2⟩ := andThen_iff.1 h
    exact drawn_sound hΓ hm R hB h1 hO fun G' a' w' hle R' => hintP_sound R' h2
  | .seq x y, Q, s, h => by
    simp only [vc] at h
    refine AWP.seq ((vc_sound hΓ hm x _ s h).mono ?_)
    intro e s h
    cases e with
    | normal => exact vc_sound hΓ hm y Q s h
    | _ => exact h
  | .cond c x y, Q, s, h => fun G a w R => by
    simp only [vc] at h
    obtain ⟨t, h1, h2⟩ := andThen_iff.1 h
    have hc := R.eval c
    unfold cndE at h1
    split at h1
    · rename_i b e
      cases h1
      rw [e] at hc
      refine wpIn_cond_split hc.bool_inv (fun hb => ?_) (fun hb => ?_)
      · exact vc_sound hΓ hm x Q s (h2.1 hb) G a w R
      · exact vc_sound hΓ hm y Q s (h2.2 hb) G a w R
    · rename_i e
      cases h1
      rw [e] at hc
      generalize hv : a.eval c = v at hc
      cases hc with
      | ubool b =>
      refine wpIn_cond_split hv (fun hb => ?_) (fun hb => ?_)
      · exact vc_sound hΓ hm x Q s h2.1 G a w R
      · exact vc_sound hΓ hm y Q s h2.2 G a w R
    · cases h1
  | .block id c, Q, s, h => by
    simp only [vc] at h
    exact AWP.block (vc_sound hΓ hm c _ s h)
  | .loop c, Q, s, h => h
  | .exit id, Q, s, h => fun G a w R => wpIn_exit ⟨G, s, h, R⟩
  | .label l, Q, s, h => fun G a w R => wpIn_label ⟨G, s, h, R⟩
  | .ret, Q, s, h => fun G a w R => wpIn_ret ⟨G, s, h, R⟩
  | .rangeFunc _ _ _ _, _, _, h => h.elim
  | .scope _, _, _, h => h.elim
  | .goto _, _, _, h => h.elim
  | .refuse _, _, _, h => h.elim

def AMd (ρ : Ren) : AV → AV → Prop
  | _, .undef => True
  | .c x, .c y => x = y
  | .nilsl, .c y => y = .sl []
  | .own _ _ rows, .c y => y = .sl rows
  | .nilsl, .nilsl => True
  | .nilsl, .own n z rows => rows = [] ∧ ρ.src n = none ∧ ρ.ph n = some z
  | .own r z rows, .own n z' rows' => ρ.src n = some r ∧ z = z' ∧ rows = rows'
  | .ptr q o, .ptr n o' => ρ.src n = some q ∧ o = o'
  | .msl q o l e, .msl n o' l' e' => ρ.src n = some q ∧ o = o' ∧ l = l' ∧ e = e'
  | .nilptr, .nilptr => True
  | .rptr cs, .rptr cs' => cs = cs'
  | .clo f caps, .clo f' caps' => f = f' ∧ caps = caps'
  | .mp q, .mp n => ρ.src n = some q
  | .nilmp, .nilmp => True
  | .ubool, .ubool => True
  | .agg cs, .agg cs' => cs.length = cs'.length ∧ ∀ p ∈ cs.zip cs', AMp p.1 p.2
  | _, _ => False
where AMp : AV → AV → Prop
  | _, .undef => True
  | .c x, .c y => x = y
  | .nilsl, .c y => y = .sl []
  | .own _ _ rows, .c y => y = .sl rows
  | .nilsl, .nilsl => True
  | _, _ => False

theorem AMd.am {ρ : Ren} {x y : AV} (h : AMd ρ x y) : AM ρ x y := by
  unfold AMd at h
  split at h
  · exact .undef _
  · subst h; exact .c _
  · subst h; exact .nilc
  · subst h; exact .ownc _ _ _
  · exact .nilsl
  · obtain ⟨rfl, h1, h2⟩ := h; exact .nilo _ _ h1 h2
  · obtain ⟨h1, rfl, rfl⟩ := h; exact .own _ _ _ _ h1
  · obtain ⟨h1, rfl⟩ := h; exact .ptr _ _ _ h1
  · obtain ⟨h1, rfl, rfl, rfl⟩ := h; exact .msl _ _ _ _ _ h1
  · exact .nilptr
  · subst h; exact .rptr _
  · obtain ⟨rfl, rfl⟩ := h; exact .clo _ _
  · exact .mp _ _ h
  · exact .nilmp
  · exact .ubool
  · obtain ⟨hl, h⟩ := h
    refine .agg _ _ hl fun i x y e1 e2 => ?_
    have this : AMd.AMp x y := h (x, y) (List.mem_of_getElem? (i := i) (by simp [List.getElem?_zip_eq_some, e1, e2]))
    unfold AMd.AMp at this
    split at this
    · exact .undef _
    · subst this; exact .c _
    · subst this; exact .nilc
    · subst this; exact .ownc _ _ _
    · exact .nilsl
    · exact this.elim
  · exact h.elim

def AMds (ρ : Ren) : List AV → List AV → Prop
  | [], [] => True
  | x :: xs, y :: ys => AMd ρ x y ∧ AMds ρ xs ys
  | _, _ => False
theorem AMds.am {ρ : Ren} : ∀ {xs ys : List AV}, AMds ρ xs ys → xs.length = ys.length ∧ ∀ (i : Nat) (x y : AV), xs[i]? = some x → ys[i]? = some y → AM ρ x y
  | [], [], _ => ⟨rfl, fun i x y h => by simp at h⟩
  | x :: xs, y :: ys, ⟨h1, h2⟩ => by
    obtain ⟨a1, a2⟩ := AMds.am h2
    refine ⟨by simp [a1], fun i u v e1 e2 => ?_⟩
    cases i with
    | zero => simp at e1 e2; subst e1; subst e2; exact h1.am
    | succ i => exact a2 i u v (by simpa using e1) (by simpa using e2)
  | [], _ :: _, h => h.elim
  | _ :: _, [], h => h.elim

def CMd (ρ : Ren) : MC → MC → Prop
  | .obj cells fz, .obj cells' fz' => fz = fz' ∧ AMds ρ cells cells'
  | .row z fr, .row z' fr' => z = z' ∧ fr = fr'
  | .mp ag es, .mp ag' es' => ag = ag' ∧ es = es'
  | _, _ => False
theorem CMd.cm {ρ : Ren} {x y : MC} (h : CMd ρ x y) : CM ρ (some x) (some y) := by
  unfold CMd at h
  split at h
  · obtain ⟨rfl, h⟩ := h; exact ⟨rfl, h.am⟩
  · exact h
  · exact h
  · exact h.elim

def wkRen (m : Nat → Option MC) (m2 : List (Nat × MC)) : Ren where
  src n := match look m2 n with | some _ => (m n).map fun _ => n | none => none
  ph n := match look m2 n with | some (.row z _) => some z | _ => none
def wkM (ρ : Ren) (m : Nat → Option MC) : List (Nat × MC) → Prop
  | [] => True
  | (n, c) :: l => (match m n with | some c0 => CMd ρ c0 c | none => match c with | .row _ fr => fr = 0 | _ => False) ∧ wkM ρ m l
def wkT (ρ : Ren) (s : AS) : List (Nat × AV) → Prop
  | [] => True
  | (i, y) :: l => AMd ρ (s.get i) y ∧ wkT ρ s l
/-- s2 says less than s. -/
def Weak (ns : List Nat) (s s2 : AS) : Prop := (∀ n ∈ ns, (look s2.m n).isSome = true) ∧ wkM (wkRen s.mem s2.m) s.mem s2.m ∧ wkT (wkRen s.mem s2.m) s s2.t

theorem wkM_spec {ρ : Ren} {m : Nat → Option MC} : ∀ {l : List (Nat × MC)} {n : Nat} {c : MC}, wkM ρ m l → look l n = some c → (match m n with | some c0 => CMd ρ c0 c | none => match c with | .row _ fr => fr = 0 | _ => False)
  | [], n, c, _, h => by cases h
  | (j, y) :: l, n, c, ⟨h1, h2⟩, h => by
    simp only [look] at h
    split at h
    · rename_i e; subst e; cases h; exact h1
    · exact wkM_spec h2 h

theorem Weak.rel {G : Gh} {s s2 : AS} {a : Act} {w : World} (R : Rel E G s a w) (h : Weak E.ns s s2) : ∃ G', G.K = G'.K ∧ Rel E G' s2 a w := by
  obtain ⟨h0, h1, h2⟩ := h
  have hren : RenOK (wkRen s.mem s2.m) s.mem (look s2.m) := by
    refine ⟨fun n n' q e1 e2 => ?_, fun n q e => ?_, fun n z e1 e2 => ?_, fun n e1 e2 => ?_⟩
    · simp only [wkRen] at e1 e2
      split at e1
      · split at e2
        · obtain ⟨_, _, rfl⟩ := Option.map_eq_some_iff.1 e1
          obtain ⟨_, _, rfl⟩ := Option.map_eq_some_iff.1 e2
          rfl
        · cases e2
      · cases e1
    · simp only [wkRen] at e
      split at e
      · rename_i c hc
        obtain ⟨c0, hc0, rfl⟩ := Option.map_eq_some_iff.1 e
        have := wkM_spec h1 hc
        rw [hc0] at this
        rw [hc0, hc]
        exact CMd.cm this
      · cases e
    · simp only [wkRen] at e1 e2
      split at e2
      · rename_i z' fr hc
        cases e2
        have := wkM_spec h1 hc
        rw [hc] at e1
        cases hm : s.mem n with
        | some c0 => rw [hm] at e1; simp at e1
        | none => rw [hm] at this; rw [hc]; dsimp only at this; rw [this]
      · cases e2
    · simp only [wkRen] at e1 e2
      cases hc : look s2.m n with
      | none => rfl
      | some c =>
        rw [hc] at e1 e2
        have := wkM_spec h1 hc
        cases hm : s.mem n with
        | some c0 => rw [hm] at e1; simp at e1
        | none =>
          rw [hm] at this
          cases c with
          | row z fr => simp at e2
          | obj => exact this.elim
          | mp => exact this.elim
  refine ⟨(wkRen s.mem s2.m).gh G, rfl, R.size, R.defs, fun i => ?_, R.mem.rename hren, fun n hn => ?_⟩
  case refine_2 =>
    obtain ⟨x, x', e1, e2, l⟩ := R.ent n hn
    obtain ⟨c, hc⟩ := Option.isSome_iff_exists.1 (h0 n hn)
    refine ⟨x, x', e1, ?_, l⟩
    have hm : ∃ c0, s.mem n = some c0 := by
      cases hm : s.mem n with
      | some c0 => exact ⟨c0, rfl⟩
      | none => have := R.mem.home n; rw [hm, e2] at this; exact this.elim
    obtain ⟨c0, hm⟩ := hm
    have hs : (wkRen s.mem s2.m).src n = some n := by simp only [wkRen, hc, hm, Option.map_some]
    simp only [Ren.gh, hs]; exact e2
  have : ∀ (l : List (Nat × AV)), wkT (wkRen s.mem s2.m) s l → AM (wkRen s.mem s2.m) (s.get i) ((look l i).getD .undef) := by
    intro l
    induction l with
    | nil => intro _; exact .undef _
    | cons p l ih =>
      obtain ⟨j, y⟩ := p
      rintro ⟨g1, g2⟩
      simp only [look]
      split
      · rename_i e; subst e; exact g1.am
      · exact ih g2
  exact (this s2.t h2).rel (R.tmps i)


/-- A loop: what holds at each round's head with so many rounds to come at most. -/
theorem AWP.loop {c : Code} {Q : Exit → AS → Prop} {s : AS} (I : Nat → AS → Prop) (h0 : ∃ n s1, Weak E.ns s s1 ∧ I n s1)
    (hr : ∀ n s, I n s → AWP P E c (thenA (fun s' => ∃ m s2, m < n ∧ Weak E.ns s' s2 ∧ I m s2) Q) s) : AWP P E (.loop c) Q s := by
  intro G a w R b k cs hro hb hrm
  have key : ∀ n s G a w, I n s → Rel E G s a w → ∃ e a' w', (∃ G' s', Q e s' ∧ Rel E G' s' a' w') ∧ ArrivesIn (Machine.fenced P (rF E.ro)) P (lone (b.atR a (.code c :: .inLoop c :: k)) cs w) b k cs e a' w' := by
    intro n
    induction n using Nat.strongRecOn with
    | _ n ih =>
      intro s G a w hI R
      obtain ⟨e, a₁, w₁, ⟨G1, s1, g2, g3⟩, harr⟩ := hr n s hI G a w R b (.inLoop c :: k) cs hro hb hrm
      cases e with
      | normal =>
        obtain ⟨m, s2, hlt, hw, hI2⟩ := g2
        obtain ⟨G2, _, R2⟩ := hw.rel g3
        obtain ⟨e₂, a₂, w₂, hq₂, harr₂⟩ := ih m hlt s2 G2 a₁ w₁ hI2 R2
        exact ⟨e₂, a₂, w₂, hq₂, .of_steps (StepsIn.trans harr (.one (fenced_calm hb hrm rfl) stepR_inLoop)) harr₂⟩
      | exit id => exact ⟨_, a₁, w₁, ⟨G1, s1, g2, g3⟩, .pass (x := .inLoop c) rfl (fun _ _ => .inl (by simp)) harr⟩
      | goto l => exact ⟨_, a₁, w₁, ⟨G1, s1, g2, g3⟩, .pass (x := .inLoop c) rfl (fun _ _ => .inl (by simp)) harr⟩
      | ret => exact ⟨_, a₁, w₁, ⟨G1, s1, g2, g3⟩, .pass (x := .inLoop c) rfl (fun _ _ => .inl (by simp)) harr⟩
      | panic ch => exact ⟨_, a₁, w₁, ⟨G1, s1, g2, g3⟩, .pass (x := .inLoop c) rfl (fun _ _ => .inl (by simp)) harr⟩
      | outgrown => exact ⟨_, a₁, w₁, ⟨G1, s1, g2, g3⟩, .pass (x := .inLoop c) rfl (fun _ _ => .inl (by simp)) harr⟩
  obtain ⟨n, s1, hw, hI⟩ := h0
  obtain ⟨G1, _, R1⟩ := hw.rel R
  obtain ⟨e, a', w', hq, harr⟩ := key n s1 G1 a w hI R1
  exact ⟨e, a', w', hq, .of_steps (.one (fenced_calm hb hrm rfl) stepR_loop) harr⟩

end

def retE (P : Program) (s : AS) : List ResultVar → Option (List AV)
  | [] => some []
  | .tmp t :: l => match retE P s l with | some xs => some (s.get t :: xs) | none => none
  | .cell a t :: l => match (loadE P t (s.get a)).run s.mem, retE P s l with | some (x, _), some xs => some (x :: xs) | _, _ => none

def cellPairs (nm : Nat → Nat) : Nat → List AV → List OV → List (Nat × Nat) × List (Nat × Nat)
  | j, x :: xs, y :: o => match x, y with
    | .own r _ _, .own _ _ => ((nm j, r) :: (cellPairs nm (j + 1) xs o).1, (cellPairs nm (j + 1) xs o).2)
    | .nilsl, .own z _ => ((cellPairs nm (j + 1) xs o).1, (nm j, z) :: (cellPairs nm (j + 1) xs o).2)
    | .mp r, .mp _ _ => ((nm j, r) :: (cellPairs nm (j + 1) xs o).1, (cellPairs nm (j + 1) xs o).2)
    | _, _ => cellPairs nm (j + 1) xs o
  | _, _, _ => ([], [])
def objCells (s : AS) (n : Nat) : List AV := match s.mem n with | some (.obj cells _) => cells | _ => []
def objPairs (s : AS) : Nat → List (List OV) → List (Nat × Nat) × List (Nat × Nat)
  | _, [] => ([], [])
  | i, o :: os => let c := cellPairs (inRow i) 0 (objCells s (inObj i)) o; let r := objPairs s (i + 1) os; ((inObj i, inObj i) :: (c.1 ++ r.1), c.2 ++ r.2)
def resPairs (s : AS) : Nat → List AV → List RV → List (Nat × Nat) × List (Nat × Nat)
  | i, x :: xs, y :: l => match x, y with
    | .own r _ _, .fresh _ _ => ((outName i, r) :: (resPairs s (i + 1) xs l).1, (resPairs s (i + 1) xs l).2)
    | .nilsl, .fresh z _ => ((resPairs s (i + 1) xs l).1, (outName i, z) :: (resPairs s (i + 1) xs l).2)
    | .ptr n _, .newobj o => let c := cellPairs (outCell i) 0 (objCells s n) o; ((outName i, n) :: (c.1 ++ (resPairs s (i + 1) xs l).1), c.2 ++ (resPairs s (i + 1) xs l).2)
    | _, _ => resPairs s (i + 1) xs l
  | _, _, _ => ([], [])

def retRen (W1 W2 : List (Nat × Nat)) (ex : List (Nat × MC)) : Ren :=
  ⟨fun n => if (look ex n).isSome then look W1 n else none, fun n => if (look ex n).isSome then look W2 n else none⟩
def retMem (ρ : Ren) (m : Nat → Option MC) : List (Nat × MC) → Prop
  | [] => True
  | (n, c) :: l => (match ρ.src n with
      | some q => match m q with | some c0 => CMd ρ c0 c | none => False
      | none => match ρ.ph n with | some z => (match c with | .row z' fr => z' = z ∧ fr = 0 | _ => False) | none => False) ∧ retMem ρ m l

def RetOK (ns : List Nat) (s : AS) (r : CRes) (xs : List AV) : Prop :=
  let o := objPairs s 0 r.objs
  let q := resPairs s 0 xs r.res
  let ρ := retRen (o.1 ++ q.1) (o.2 ++ q.2) (exitMem r)
  ((o.1 ++ q.1).map (·.2)).Nodup ∧ retMem ρ s.mem (exitMem r) ∧ AMds ρ xs (exitVals r) ∧ ∀ n ∈ ns, ρ.src n = some n

def retQ (P : Program) (ns : List Nat) (fn : Func) (r : CRes) : Exit → AS → Prop
  | .normal, s | .ret, s => andThen (retE P s fn.results.toList) fun xs => RetOK ns s r xs
  | _, _ => False

def entryT : Nat → List AV → List (Nat × AV)
  | _, [] => []
  | i, x :: l => (i, x) :: entryT (i + 1) l

def pureB : AV → Bool
  | .c _ | .nilptr | .nilsl | .rptr _ | .clo _ _ | .ubool => true
  | .agg cs => cs.all fun | .c _ => true | _ => false
  | _ => false
theorem pureB_spec {x : AV} (h : pureB x = true) : Pure x := by
  unfold pureB at h
  split at h
  · exact .c _
  · exact .nilptr
  · exact .nilsl
  · exact .rptr _
  · exact .clo _ _
  · exact .ubool
  · refine .agg _ fun y hy => ?_
    rw [List.all_eq_true] at h
    have := h y hy
    split at this
    · exact .c _
    · cases this
  · cases h
def resB : List RV → Bool
  | [] => true
  | .pv x :: l => pureB x && resB l
  | _ :: l => resB l
theorem resB_spec : ∀ {l : List RV}, resB l = true → ∀ x, RV.pv x ∈ l → Pure x
  | [], _, x, h => by simp at h
  | .pv y :: l, hb, x, h => by
    simp only [resB, Bool.and_eq_true] at hb
    rcases List.mem_cons.1 h with h | h
    · cases h; exact pureB_spec hb.1
    · exact resB_spec hb.2 x h
  | .fresh _ _ :: l, hb, x, h => by
    rcases List.mem_cons.1 h with h | h
    · cases h
    · exact resB_spec (l := l) hb x h
  | .newobj _ :: l, hb, x, h => by
    rcases List.mem_cons.1 h with h | h
    · cases h
    · exact resB_spec (l := l) hb x h
  | .ref _ :: l, hb, x, h => by
    rcases List.mem_cons.1 h with h | h
    · cases h
    · exact resB_spec (l := l) hb x h

section
variable {P : Program}

theorem MRel.conv {E E' : Env} {G : Gh} {m : Nat → Option MC} {w : World} (M : MRel E G m w) (h1 : E'.w0 = E.w0) (h2 : E'.B = E.B) (h3 : E'.Ext = E.Ext) (h4 : E'.K0 = E.K0) : MRel E' G m w := by
  obtain ⟨N, ns, H0, w0, B, Ext, K0⟩ := E
  obtain ⟨N', ns', H0', w0', B', Ext', K0'⟩ := E'
  dsimp only at h1 h2 h3 h4
  subst h1; subst h2; subst h3; subst h4
  refine ⟨M.agree, fun n => (M.home n).env fun x b e1 e2 => ?_, M.inj, M.os, M.tape, M.output, M.size0, M.sizeB, M.blk, M.k0, M.kfr⟩
  exact (e1 ▸ M.home n).mine e2

def resSem (tmps : Array Value) : ResultVar → Sem Value
  | .tmp t => pure (tmps.getD t Go.undef)
  | .cell p t => do loadVar t (← asAddr (tmps.getD p Go.undef))
theorem results_eq (fn : Func) (tmps : Array Value) : results fn tmps = (fn.results.mapM (resSem tmps) >>= fun vs => pure (if h : vs.size = 1 then vs[0] else .tuple vs)) := by
  unfold results
  first | done | rfl | (congr 1; congr 1; funext r; cases r <;> rfl)

theorem ret_run {E : Env} {G : Gh} {s : AS} {a : Act} {w : World} (R : Rel E G s a w) : ∀ (l : List ResultVar) (xs : List AV), retE P s l = some xs →
    ∃ us : List Value, (l.mapM (resSem a.tmps)).run P w = .ok us w ∧ xs.length = us.length ∧
      ∀ (i : Nat) (x : AV) (u : Value), xs[i]? = some x → us[i]? = some u → AR G x u
  | [], xs, h => by
    simp only [retE, Option.some.injEq] at h
    subst h
    exact ⟨[], by simp, rfl, fun i x u h => by simp at h⟩
  | .tmp t :: l, xs, h => by
    simp only [retE] at h
    split at h
    · rename_i xs' h1
      cases h
      obtain ⟨us, r1, r2, r3⟩ := ret_run R l xs' h1
      refine ⟨a.tmps.getD t Go.undef :: us, ?_, by simp [r2], fun i x u e1 e2 => ?_⟩
      · rw [List.mapM_cons]; simp only [resSem, Sem.run_bind, Sem.run_pure, Result.andThen_ok, r1]
      · cases i with
        | zero => simp only [List.getElem?_cons_zero, Option.some.injEq] at e1 e2; subst e1; subst e2; exact R.tmps t
        | succ i => exact r3 i x u (by simpa using e1) (by simpa using e2)
    · cases h
  | .cell p t :: l, xs, h => by
    simp only [retE] at h
    split at h
    · rename_i x l' xs' h0 h1
      cases h
      obtain ⟨us, r1, r2, r3⟩ := ret_run R l xs' h1
      obtain ⟨u, q1, q2⟩ := load_run R.mem (R.tmps p) h0
      have key : ∀ v, (Instr.loadAt t v).run P w = .ok u w → (do loadVar t (← asAddr v) : Sem Value).run P w = .ok u w := by
        intro v q1
        cases v with
        | pointer ad => cases ad with
          | none => simp [Instr.loadAt, Instr.sureAddr] at q1
          | some ad => simpa [Instr.loadAt, Instr.sureAddr, asAddr] using q1
        | _ => simp [Instr.loadAt, Instr.sureAddr] at q1
      have hq : (resSem a.tmps (.cell p t)).run P w = .ok u w := key _ q1
      refine ⟨u :: us, ?_, by simp [r2], fun i x u e1 e2 => ?_⟩
      · rw [List.mapM_cons]
        simp only [Sem.run_bind, hq, Result.andThen_ok, r1, Sem.run_pure]
      · cases i with
        | zero => simp only [List.getElem?_cons_zero, Option.some.injEq] at e1 e2; subst e1; subst e2; exact q2
        | succ i => exact r3 i x u (by simpa using e1) (by simpa using e2)
    · cases h

theorem one_rel {G : Gh} {xs : List AV} {us : List Value} (hl : xs.length = us.length) (h : ∀ (i : Nat) (x : AV) (u : Value), xs[i]? = some x → us[i]? = some u → AR G x u) : AR G (oneE xs) (if h : us.toArray.size = 1 then us.toArray[0] else .tuple us.toArray) := by
  match xs, us, hl, h with
  | [x], [u], _, h => exact h 0 x u rfl rfl
  | [], [], _, h => exact .tup _ _ rfl (fun i x u e1 e2 => by simp at e1)
  | x :: y :: xs, u :: v :: us, hl, h =>
    have : ¬ ((u :: v :: us).toArray.size = 1) := by simp
    rw [dif_neg this]
    exact .tup _ _ (by simpa using hl) (fun i x u e1 e2 => h i x u e1 (by simpa using e2))
  | [], _ :: _, hl, _ => simp at hl
  | _ :: _, [], hl, _ => simp at hl
  | [_], _ :: _ :: _, hl, _ => simp at hl
  | _ :: _ :: _, [_], hl, _ => simp at hl

theorem retMem_spec {ρ : Ren} {m : Nat → Option MC} : ∀ {l : List (Nat × MC)} {n : Nat} {c : MC}, retMem ρ m l → look l n = some c →
    (match ρ.src n with
      | some q => match m q with | some c0 => CMd ρ c0 c | none => False
      | none => match ρ.ph n with | some z => (match c with | .row z' fr => z' = z ∧ fr = 0 | _ => False) | none => False)
  | [], n, c, _, h => by cases h
  | (j, y) :: l, n, c, ⟨h1, h2⟩, h => by
    simp only [look] at h
    split at h
    · rename_i e; subst e; cases h; exact h1
    · exact retMem_spec h2 h

theorem look_inj : ∀ {W : List (Nat × Nat)}, (W.map (·.2)).Nodup → ∀ n n' q, look W n = some q → look W n' = some q → n = n'
  | [], _, n, n', q, h, _ => by cases h
  | (j, x) :: W, nd, n, n', q, h, h' => by
    simp only [List.map_cons, List.nodup_cons] at nd
    simp only [look] at h h'
    have key : ∀ n, look W n = some q → q ∈ W.map (·.2) := fun n h => List.mem_map.2 ⟨(n, q), look_mem h, rfl⟩
    split at h
    · rename_i e
      cases h
      split at h'
      · rename_i e'; exact e.symm.trans e'
      · exact absurd (key n' h') nd.1
    · split at h'
      · cases h'; exact absurd (key n h) nd.1
      · exact look_inj nd.2 n n' q h h'

theorem entryT_get : ∀ (l : List AV) (i k : Nat) (x : AV), l[k]? = some x → look (entryT i l) (i + k) = some x
  | [], i, k, x, h => by simp at h
  | y :: l, i, 0, x, h => by simp at h; subst h; simp [entryT, look]
  | y :: l, i, k + 1, x, h => by
    simp only [entryT, look]
    rw [if_neg (by omega)]
    have := entryT_get l (i + 1) k x (by simpa using h)
    rwa [show i + 1 + k = i + (k + 1) from by omega] at this
theorem entryT_none : ∀ (l : List AV) (i n : Nat), i + l.length ≤ n → look (entryT i l) n = none
  | [], i, n, _ => rfl
  | y :: l, i, n, h => by
    simp only [List.length_cons] at h
    simp only [entryT, look]
    rw [if_neg (by omega)]
    exact entryT_none l (i + 1) n (by omega)

theorem RetOK.out {E : Env} {G G0 : Gh} {s : AS} {a : Act} {w : World} (R : Rel E G s a w) {r : CRes} {xs : List AV} (h : RetOK E.ns s r xs) (hH : E.H0 = G0.h) (hK : E.K0 = G0.K) (hns : ∀ n x, G0.h n = some x → n ∈ E.ns)
    {v : Value} (hv : AR G (oneE xs) v) : ∃ G', G0.le G' ∧ MRel E G' (look (exitMem r)) w ∧ AR G' (oneE (exitVals r)) v := by
  obtain ⟨h1, h2, h3, h4⟩ := h
  generalize hρ : retRen ((objPairs s 0 r.objs).1 ++ (resPairs s 0 xs r.res).1) ((objPairs s 0 r.objs).2 ++ (resPairs s 0 xs r.res).2) (exitMem r) = ρ at h2 h3 h4
  have hren : RenOK ρ s.mem (look (exitMem r)) := by
    refine ⟨fun n n' q e1 e2 => ?_, fun n q e => ?_, fun n z e1 e2 => ?_, fun n e1 e2 => ?_⟩
    · rw [← hρ] at e1 e2
      simp only [retRen] at e1 e2
      split at e1
      · split at e2
        · exact look_inj h1 n n' q e1 e2
        · cases e2
      · cases e1
    · have hs : ∃ c, look (exitMem r) n = some c := by
        rw [← hρ] at e
        simp only [retRen] at e
        split at e
        · rename_i hs; exact Option.isSome_iff_exists.1 hs
        · cases e
      obtain ⟨c, hc⟩ := hs
      have := retMem_spec h2 hc
      rw [e] at this
      dsimp only at this
      cases hm : s.mem q with
      | none => rw [hm] at this; exact this.elim
      | some c0 => rw [hm] at this; rw [hc]; exact CMd.cm this
    · have hs : ∃ c, look (exitMem r) n = some c := by
        rw [← hρ] at e2
        simp only [retRen] at e2
        split at e2
        · rename_i hs; exact Option.isSome_iff_exists.1 hs
        · cases e2
      obtain ⟨c, hc⟩ := hs
      have := retMem_spec h2 hc
      rw [e1, e2] at this
      dsimp only at this
      rw [hc]
      cases c with
      | row z' fr => obtain ⟨rfl, rfl⟩ := this; rfl
      | _ => exact this.elim
    · cases hc : look (exitMem r) n with
      | none => rfl
      | some c =>
        have := retMem_spec h2 hc
        rw [e1, e2] at this
        exact this.elim
  refine ⟨ρ.gh G, ⟨by rw [← hK]; exact R.mem.k0, fun n x e => ?_⟩, R.mem.rename hren, ?_⟩
  · obtain ⟨y, y', e1, e2, l⟩ := R.ent n (hns n x e)
    rw [hH, e] at e1
    cases e1
    exact ⟨y', by simp only [Ren.gh, h4 n (hns n x e)]; exact e2, l⟩
  · refine AM.rel ?_ hv
    obtain ⟨a1, a2⟩ := h3.am
    generalize exitVals r = ys at a1 a2
    match xs, ys, a1, a2 with
    | [x], [y], _, h => exact h 0 x y rfl rfl
    | [], [], hl, h => exact .tup _ _ hl h
    | _ :: _ :: _, _ :: _ :: _, hl, h => exact .tup _ _ hl h
    | [], _ :: _, hl, _ => simp at hl
    | _ :: _, [], hl, _ => simp at hl
    | [_], _ :: _ :: _, hl, _ => simp at hl
    | _ :: _ :: _, [_], hl, _ => simp at hl

/-- A function's contract, out of what its body owes. -/
theorem sound_fnA (adv : Adv) {f : FuncId} {fn : Func} {body : Code} {N : Nat} {C : Contract} (hf : P.funcs[f]? = some fn) (hname : (fn.name == "runtime.NumGoroutine") = false) (hb : fn.body = some body) (hN : fn.ntmps = N)
    (h : ∀ args objs r, C args objs = some r → resB r.res = true ∧ args.length ≤ N ∧
      ∀ E : Env, E.N.n = N → E.ns = keys (entryMem 0 objs) → E.N.adv = adv → AWP P E body (retQ P (keys (entryMem 0 objs)) fn r) ⟨entryT 0 args, entryMem 0 objs⟩) : SoundC P f C := by
  refine ⟨⟨fn, hf, hname, by rw [hb]; rfl⟩, fun args objs r hr => ?_⟩
  obtain ⟨h1, h2, h3⟩ := h args objs r hr
  refine ⟨fun x hx => resB_spec h1 x hx, fun Ext G w vals M hl hx => ?_⟩
  let E : Env := ⟨⟨N, adv⟩, keys (entryMem 0 objs), G.h, w, w.heap.size, Ext, G.K, none, []⟩
  have hnsG : ∀ n x, G.h n = some x → n ∈ keys (entryMem 0 objs) := by
    intro n x e
    have := M.home n
    cases hc : look (entryMem 0 objs) n with
    | none => rw [hc, e] at this; exact this.elim
    | some c => exact List.mem_map_of_mem (f := (·.1)) (look_mem hc)
  refine calls_of_wp hf hb ?_
  have hsz : vals.toArray.size = args.length := by simp [hl]
  have R0 : Rel E G ⟨entryT 0 args, entryMem 0 objs⟩ { tmps := vals.toArray ++ Array.replicate (fn.ntmps - vals.toArray.size) Go.undef, defers := [] } w := by
    refine ⟨?_, rfl, fun i => ?_, M.conv rfl rfl rfl rfl, fun n hn => ?_⟩
    · show (vals.toArray ++ Array.replicate (fn.ntmps - vals.toArray.size) Go.undef).size = N
      simp; omega
    · rcases Nat.lt_or_ge i args.length with hi | hi
      · have hg : (AS.mk (entryT 0 args) (entryMem 0 objs)).get i = args[i] := by
          have := entryT_get args 0 i args[i] (by simp [hi])
          rw [Nat.zero_add] at this
          simp only [AS.get, this, Option.getD_some]
        rw [hg]
        have hv : i < vals.length := by omega
        have : (vals.toArray ++ Array.replicate (fn.ntmps - vals.toArray.size) Go.undef).getD i Go.undef = vals[i] := by
          simp [Array.getElem?_append, hv]
        show AR G _ ((vals.toArray ++ Array.replicate (fn.ntmps - vals.toArray.size) Go.undef).getD i Go.undef)
        rw [this]
        exact hx i _ _ (by simp [hi]) (by simp [hv])
      · have hg : (AS.mk (entryT 0 args) (entryMem 0 objs)).get i = .undef := by
          simp only [AS.get, entryT_none args 0 i (by omega), Option.getD_none]
        rw [hg]; exact .undef _
    · obtain ⟨c, hc⟩ := look_some (l := entryMem 0 objs) hn
      have := M.home n
      have hx : ∃ x, G.h n = some x := by
        cases hg : G.h n with
        | none => rw [hc, hg] at this; cases c <;> exact this.elim
        | some x => exact ⟨x, rfl⟩
      obtain ⟨x, hg⟩ := hx
      exact ⟨x, x, hg, hg, Home.le_refl x⟩
  refine wp_mono (wpIn_wide.1 (h3 E rfl rfl rfl G _ w R0)) ?_
  rintro e a' w' ⟨G', s', hq, R'⟩
  have fin : andThen (retE P s' fn.results.toList) (fun xs => RetOK (keys (entryMem 0 objs)) s' r xs) → a'.defers = [] ∧ ∃ v, (results fn a'.tmps).run P w' = .ok v w' ∧ CallPost (cEnv w Ext G.K) G r (.returned v) w' := by
    intro hq
    obtain ⟨xs, hxs, hret⟩ := andThen_iff.1 hq
    obtain ⟨us, r1, r2, r3⟩ := ret_run R' _ xs hxs
    refine ⟨R'.defs, if h : us.toArray.size = 1 then us.toArray[0] else .tuple us.toArray, ?_, ?_⟩
    · rw [results_eq, Array.mapM_eq_mapM_toList]
      simp only [Sem.run_bind, Sem.run_map, r1, Result.andThen_ok, Sem.run_pure]
    · obtain ⟨G2, g1, g2, g3⟩ := RetOK.out R' (G0 := G) hret rfl rfl hnsG (one_rel r2 r3)
      exact ⟨G2, _, rfl, g1, g2.conv rfl rfl rfl rfl, g3⟩
  cases e with
  | normal => exact fin hq
  | ret => exact fin hq
  | _ => exact hq.elim

theorem sound_fn {f : FuncId} {fn : Func} {body : Code} {N : Nat} {C : Contract} (hf : P.funcs[f]? = some fn) (hname : (fn.name == "runtime.NumGoroutine") = false) (hb : fn.body = some body) (hN : fn.ntmps = N)
    (h : ∀ args objs r, C args objs = some r → resB r.res = true ∧ args.length ≤ N ∧
      ∀ E : Env, E.N.n = N → E.ns = keys (entryMem 0 objs) → E.N.adv = ⟨[], []⟩ → AWP P E body (retQ P (keys (entryMem 0 objs)) fn r) ⟨entryT 0 args, entryMem 0 objs⟩) : SoundC P f C :=
  sound_fnA ⟨[], []⟩ hf hname hb hN h

end

/-- What is at hand, then what follows: simp sees to the first alone. -/
def obind {α β : Type} (x : Option α) (f : α → Option β) : Option β := match x with | some a => f a | none => none
theorem obind_some {α β : Type} (a : α) (f : α → Option β) : obind (some a) f = f a := Eq.trans (Eq.refl _) (Eq.refl _)
theorem obind_none {α β : Type} (f : α → Option β) : obind none f = none := rfl
@[congr] theorem obind_congr {α β : Type} {x x' : Option α} {f : α → Option β} (h : x = x') : obind x f = obind x' f := by rw [h]
theorem obind_ifE {α β : Type} (b : Bool) (x y : Option α) (f : α → Option β) : obind (ifE b x y) f = ifE b (obind x f) (obind y f) := by cases b <;> rfl
@[congr] theorem ifE_congr {α : Type} {b b' : Bool} {x y : α} (h : b = b') : ifE b x y = ifE b' x y := by rw [h]

/-- A region that draws its order: what is owed, in the text's order. -/
def drawnP (ops : Array Oper) (r : Option (AS × List FP)) (K : AS → Prop) : Prop := regionB ops = true ∧ andThen r fun r => orderB ops r.2 = true ∧ K r.1
@[congr] theorem drawnP_congr {ops : Array Oper} {r r' : Option (AS × List FP)} {K : AS → Prop} (h : r = r') : drawnP ops r K = drawnP ops r' K := by rw [h]
theorem drawnP_introH {ops : Array Oper} {s : AS} {fs : List FP} {E : Env} {id : Nat} {K : AS → Prop} (hF : E.N.adv = ⟨[], []⟩) (h1 : regionB ops = true) (h2 : orderB ops fs = true) (h3 : K s) : drawnP ops (some (s, fs)) (hintP E.ns id K E.N.adv.hints) := ⟨h1, h2, by rw [hF]; exact h3⟩
theorem drawnP_intro {ops : Array Oper} {s : AS} {fs : List FP} {K : AS → Prop} (h1 : regionB ops = true) (h2 : orderB ops fs = true) (h3 : K s) : drawnP ops (some (s, fs)) K := ⟨h1, h2, h3⟩

section
variable (Γ : FuncId → Contract) (P : Program) (N : Lim) (ops : Array Oper) (E : Env) (Q : Exit → AS → Prop) (s : AS)

theorem vc_skip : vc Γ P E .skip Q s = Q .normal s := rfl
theorem vc_region (id : Nat) : vc Γ P E (.region id ops false) Q s = andThen (aOps Γ P E.N ops ops.toList s) fun r => hintP E.ns id (Q .normal) E.N.adv.hints r.1 := rfl
theorem vc_drawn (id : Nat) : vc Γ P E (.region id ops true) Q s = drawnP ops (aOps Γ P E.N ops ops.toList s) (hintP E.ns id (Q .normal) E.N.adv.hints) := by
  simp only [vc, drawnP]
theorem vc_seq (a b : Code) : vc Γ P E (.seq a b) Q s = vc Γ P E a (thenA (vc Γ P E b Q) Q) s := rfl
theorem vc_cond (c : Operand) (x y : Code) : vc Γ P E (.cond c x y) Q s = andThen (cndE (s.eval c)) fun c => cndQ c (vc Γ P E x Q s) (vc Γ P E y Q s) := rfl
theorem vc_block (id : Nat) (b : Code) : vc Γ P E (.block id b) Q s = vc Γ P E b (inBlockA id Q) s := rfl
theorem vc_loop (b : Code) : vc Γ P E (.loop b) Q s = AWP P E (.loop b) Q s := rfl
theorem vc_exit (id : Nat) : vc Γ P E (.exit id) Q s = Q (.exit id) s := rfl
theorem vc_label (l : Nat) : vc Γ P E (.label l) Q s = Q .normal s := rfl
theorem vc_ret : vc Γ P E .ret Q s = Q .ret s := rfl

theorem thenA_normal (K : AS → Prop) : thenA K Q .normal s = K s := rfl
theorem thenA_ret (K : AS → Prop) : thenA K Q .ret s = Q .ret s := rfl
theorem thenA_exit (K : AS → Prop) (i : Nat) : thenA K Q (.exit i) s = Q (.exit i) s := rfl
theorem inBlockA_normal (i : Nat) : inBlockA i Q .normal s = Q .normal s := rfl
theorem inBlockA_ret (i : Nat) : inBlockA i Q .ret s = Q .ret s := rfl
theorem inBlockA_here (i : Nat) : inBlockA i Q (.exit i) s = Q .normal s := by simp [inBlockA]
theorem aOps_nil : aOps Γ P N ops [] s = some (s, []) := rfl
theorem aOps_cons (o : Oper) (l : List Oper) : aOps Γ P N ops (o :: l) s = obind (aStep Γ P N ops o s) fun r => obind (aOps Γ P N ops l r.1) fun q => some (q.1, r.2 :: q.2) := by
  simp only [aOps, obind]
  split <;> simp_all
  split <;> simp_all

theorem dstOK_some {d : Nat} {op : Op} {ty : TypeId} {pos : String} {af : Array Edge} {g : Option (Nat × Bool)} : dstOK N ⟨some d, op, ty, pos, af, g⟩ = decide (d < N.n) := rfl
theorem dstOK_none {op : Op} {ty : TypeId} {pos : String} {af : Array Edge} {g : Option (Nat × Bool)} : dstOK N ⟨none, op, ty, pos, af, g⟩ = true := rfl
theorem guardE_none {d : Option Tmp} {op : Op} {ty : TypeId} {pos : String} {af : Array Edge} : guardE ops ⟨d, op, ty, pos, af, none⟩ s = some true := rfl
def boolE (want : Bool) (x : AV) : Option Bool := match x with | .c (.bool b) => some (b == want) | .tup [] => some false | _ => none
theorem boolE_tup (want : Bool) : boolE want (.tup []) = some false := rfl
theorem boolE_c (want b : Bool) : boolE want (.c (.bool b)) = some (b == want) := rfl
theorem guardE_some {d : Option Tmp} {op : Op} {ty : TypeId} {pos : String} {af : Array Edge} {j : Nat} {want : Bool} : guardE ops ⟨d, op, ty, pos, af, some (j, want)⟩ s = obind ((ops[j]?).bind (·.dst)) fun t => boolE want (s.get t) := by
  unfold guardE boolE
  dsimp only
  cases h : (ops[j]?).bind (·.dst) with
  | none => rfl
  | some t =>
    simp only [Option.map_some, obind]
    cases s.get t with
    | c x => cases x <;> rfl
    | tup l => cases l <;> rfl
    | _ => rfl

theorem run_ret {α : Type} (m : Nat → Option MC) (a : α) : (EP.ret a).run m = some (a, []) := Eq.trans (Eq.refl _) (Eq.refl _)
theorem run_fail {α : Type} (m : Nat → Option MC) : (EP.fail : EP α).run m = none := rfl
theorem run_ask {α : Type} (m : Nat → Option MC) (n : Nat) (k : Option MC → EP α) : (EP.ask n k).run m = obind ((k (m n)).run m) fun r => some (r.1, n :: r.2) := by
  simp only [EP.run, obind]
  split <;> rename_i h <;> simp [h]
theorem run_bind {α β : Type} (m : Nat → Option MC) (f : α → EP β) : ∀ (p : EP α), (p.bind f).run m = obind (p.run m) fun r => obind ((f r.1).run m) fun q => some (q.1, r.2 ++ q.2)
  | .ret a => by
    simp only [EP.bind, EP.run, obind]
    cases (f a).run m with
    | none => rfl
    | some q => simp
  | .fail => rfl
  | .ask n k => by
    rw [EP.bind, run_ask, run_ask, run_bind m f (k (m n))]
    cases (k (m n)).run m with
    | none => rfl
    | some r =>
      simp only [obind]
      cases (f r.1).run m with
      | none => rfl
      | some q => simp
theorem run_ifE {α : Type} (m : Nat → Option MC) (b : Bool) (x y : EP α) : (ifE b x y).run m = ifE b (x.run m) (y.run m) := by cases b <;> rfl
theorem run_ite {α : Type} (m : Nat → Option MC) (c : Prop) [Decidable c] (x y : EP α) : (if c then x else y).run m = if c then x.run m else y.run m := by split <;> rfl

theorem get_mk (t : List (Nat × AV)) (m : List (Nat × MC)) (i : Nat) : (AS.mk t m).get i = (look t i).getD .undef := rfl
theorem mem_mk (t : List (Nat × AV)) (m : List (Nat × MC)) (i : Nat) : (AS.mk t m).mem i = look m i := rfl
theorem step_mk (t : List (Nat × AV)) (m : List (Nat × MC)) (d : Nat) (op : Op) (ty : TypeId) (pos : String) (af : Array Edge) (g : Option (Nat × Bool)) (v : AV) (wr : List (Nat × MC)) :
    (AS.mk t m).step ⟨some d, op, ty, pos, af, g⟩ ⟨v, wr⟩ = ⟨(d, v) :: t, wr ++ m⟩ := rfl
theorem step_mk' (t : List (Nat × AV)) (m : List (Nat × MC)) (op : Op) (ty : TypeId) (pos : String) (af : Array Edge) (g : Option (Nat × Bool)) (v : AV) (wr : List (Nat × MC)) :
    (AS.mk t m).step ⟨none, op, ty, pos, af, g⟩ ⟨v, wr⟩ = ⟨t, wr ++ m⟩ := rfl
theorem put_mk (t : List (Nat × AV)) (m : List (Nat × MC)) (d : Nat) (v : AV) : (AS.mk t m).put (some d) v = ⟨(d, v) :: t, m⟩ := rfl
theorem put_mk' (t : List (Nat × AV)) (m : List (Nat × MC)) (v : AV) : (AS.mk t m).put none v = ⟨t, m⟩ := rfl
theorem look_nil {α : Type} (i : Nat) : look ([] : List (Nat × α)) i = none := rfl
theorem look_cons {α : Type} (j : Nat) (x : α) (l : List (Nat × α)) (i : Nat) : look ((j, x) :: l) i = if j = i then some x else look l i := rfl
theorem eval_tmp (t : Nat) : s.eval (.tmp t) = s.get t := rfl
theorem eval_func (f : Nat) : s.eval (.func f) = .clo f [] := rfl
theorem eval_int (k : IntKind) (n : Int) : s.eval (.const (.int k n)) = .c (.int k n) := rfl
theorem eval_bool (b : Bool) : s.eval (.const (.bool b)) = .c (.bool b) := rfl
theorem eval_str (b : ByteArray) : s.eval (.const (.string b)) = .c (.str b.data.toList) := rfl
theorem eval_nilsl : s.eval (.const (.slice none 0 0)) = .nilsl := rfl
theorem eval_nilptr : s.eval (.const (.pointer none)) = .nilptr := rfl
theorem eval_nilmp : s.eval (.const (.map none)) = .nilmp := rfl

variable (M : List Nat) (ρ : Operand → AV) (d : Option Tmp) (dd : Tmp) (ty : TypeId) (pos : String) (af : Array Edge) (g : Option (Nat × Bool))
theorem op_move (x : Operand) : opE Γ P M ⟨d, .move x, ty, pos, af, g⟩ ρ = .ret ⟨ρ x, []⟩ := rfl
theorem op_assign (x : Operand) : opE Γ P M ⟨d, .assign x, ty, pos, af, g⟩ ρ = .ret ⟨ρ x, []⟩ := rfl
def pickE (x a b : AV) : EP Eff := match x with | .c (.bool t) => ifE t (.ret ⟨a, []⟩) (.ret ⟨b, []⟩) | _ => .fail
theorem op_pick (c x y : Operand) : opE Γ P M ⟨d, .pick c x y, ty, pos, af, g⟩ ρ = pickE (ρ c) (ρ x) (ρ y) := rfl
theorem op_load (t : TypeId) (x : Operand) : opE Γ P M ⟨d, .load t x, ty, pos, af, g⟩ ρ = okM (loadE P t (ρ x)) := rfl
theorem op_store (t : TypeId) (x y : Operand) : opE Γ P M ⟨d, .store t x y, ty, pos, af, g⟩ ρ = storeE P t (ρ x) (ρ y) := rfl
def ncE (x : AV) : EP Eff := match x with
    | .ptr n off => .ret ⟨.ptr n off, []⟩
    | .rptr cs => .ret ⟨.rptr cs, []⟩
    | .clo f caps => .ret ⟨.clo f caps, []⟩
    | _ => .fail
theorem op_nilCheck (x : Operand) : opE Γ P M ⟨d, .nilCheck x, ty, pos, af, g⟩ ρ = ncE (ρ x) := rfl
theorem op_binOp (op : BinOp) (t t' : TypeId) (x y : Operand) : opE Γ P M ⟨d, .binOp op t x y t', ty, pos, af, g⟩ ρ = okE (binE P op t (ρ x) (ρ y)) := rfl
theorem op_unOp (op : UnOp) (t : TypeId) (x : Operand) : opE Γ P M ⟨d, .unOp op t x, ty, pos, af, g⟩ ρ = okE (unE op (ρ x)) := rfl
theorem op_convert (t t' : TypeId) (x : Operand) : opE Γ P M ⟨d, .convert t t' x, ty, pos, af, g⟩ ρ = convO P t t' (ρ x) := rfl
def faE (P : Program) (t : TypeId) (i : Nat) (x : AV) : EP Eff := match tyField P t i with
    | some (off, _, z) => if z = 0 then .fail else match x with
      | .ptr n o => .ret ⟨.ptr n (o + off), []⟩
      | .rptr cs => .ret ⟨.rptr (cs.drop off), []⟩
      | _ => .fail
    | none => .fail
theorem op_fieldAddr (t : TypeId) (x : Operand) (i : Nat) : opE Γ P M ⟨d, .fieldAddr t x i, ty, pos, af, g⟩ ρ = faE P t i (ρ x) := rfl
def fieldE (P : Program) (t : TypeId) (i : Nat) (x : AV) : EP Eff := match tyField P t i, x with
    | some (off, ft, z), .agg cs => match tyAgg P ft with
      | some true => if off + z ≤ cs.length then .ret ⟨.agg ((cs.drop off).take z), []⟩ else .fail
      | some false => match cs[off]? with | some v => .ret ⟨v, []⟩ | none => .fail
      | none => .fail
    | _, _ => .fail
theorem op_field (t : TypeId) (x : Operand) (i : Nat) : opE Γ P M ⟨d, .field t x i, ty, pos, af, g⟩ ρ = fieldE P t i (ρ x) := rfl
theorem op_indexAddr (t : TypeId) (x i : Operand) : opE Γ P M ⟨d, .indexAddr t x i, ty, pos, af, g⟩ ρ = okE (indexE P t (ρ x) (ρ i)) := rfl
theorem op_slice (t : TypeId) (x : Operand) (lo hi mx : Option Operand) : opE Γ P M ⟨d, .slice t x lo hi mx, ty, pos, af, g⟩ ρ = okE (sliceE P t (ρ x) (lo.map ρ) (hi.map ρ) (mx.map ρ)) := rfl
def extE (x : AV) (i : Nat) : EP Eff := match x with | .tup vs => okE vs[i]? | _ => .fail
theorem op_extract (x : Operand) (i : Nat) : opE Γ P M ⟨d, .extract x i, ty, pos, af, g⟩ ρ = extE (ρ x) i := rfl
theorem op_alloc (t : TypeId) : opE Γ P M ⟨some dd, .alloc t, ty, pos, af, g⟩ ρ = match tyZero P t with | some cells => newObjE (objName dd) cells | none => .fail := rfl
theorem op_box (t : TypeId) (x : Operand) : opE Γ P M ⟨some dd, .box t x, ty, pos, af, g⟩ ρ = match (ρ x).flat with | some cells => newObjE (objName dd) cells | none => .fail := rfl
theorem op_build (t : TypeId) (parts : Array (Nat × Operand)) : opE Γ P M ⟨d, .build t parts, ty, pos, af, g⟩ ρ = okE ((buildE P t (parts.toList.map fun p => (p.1, ρ p.2))).map .agg) := rfl
theorem op_builtin (b : Builtin) (args : Array Operand) (ts : Array TypeId) : opE Γ P M ⟨some dd, .call ⟨.builtin b, args, ts⟩, ty, pos, af, g⟩ ρ = builtinE P dd b ts (args.toList.map ρ) := rfl
def cloE (Γ : FuncId → Contract) (dd : Nat) (x : AV) (args : List AV) : EP Eff := match x with | .clo f caps => callE Γ dd f (args ++ caps.map .rptr) | _ => .fail
theorem op_call (f : Operand) (args : Array Operand) (ts : Array TypeId) : opE Γ P M ⟨some dd, .call ⟨.value f, args, ts⟩, ty, pos, af, g⟩ ρ = cloE Γ dd (ρ f) (args.toList.map ρ) := rfl
def bsE (P : Program) (M : List Nat) (dd : Nat) (t : TypeId) (n : Nat) (parts : List (Nat × AV)) : EP Eff := match tyElem P t with
    | some e => match tyZero P e, tySize P e with
      | some zero, some z => if zero.length = z ∧ 0 < z ∧ n * z ≤ 16777216 then
          ifE (hasN M dd) (match fillE (fun i => some (i * z, z)) ((List.replicate n zero).flatten) parts with
          | some out => newMslE (objName dd) n out
          | none => .fail) (match (fillE (fun i => some (i * z, z)) ((List.replicate n zero).flatten) parts).bind toPCs with
          | some cs => newRowE (rowName dd) z (chunks z n cs)
          | none => .fail)
        else .fail
      | _, _ => .fail
    | none => .fail
theorem op_buildSlice (t : TypeId) (n : Nat) (parts : Array (Nat × Operand)) : opE Γ P M ⟨some dd, .buildSlice t n parts, ty, pos, af, g⟩ ρ = bsE P M dd t n (parts.toList.map fun p => (p.1, ρ p.2)) := by
  unfold opE bsE
  simp only [Option.isSome_some, true_and, Option.getD_some]
  cases tyElem P t with
  | none => rfl
  | some e =>
    dsimp only
    cases tyZero P e with
    | none => rfl
    | some zero =>
      cases tySize P e with
      | none => rfl
      | some z => rfl
def mkE (P : Program) (M : List Nat) (dd : Nat) (t : TypeId) (l c : AV) : EP Eff := match tyElem P t, l, c with
    | some e, .c (.int .i64 n), .c (.int .i64 m) => match tyZero P e, tySize P e, tyBytes P e with
      | some zero, some z, some by_ => match toPCs zero with
        | some zs => if zs.length = z ∧ 0 < z ∧ n ≤ m ∧ 0 ≤ n ∧ m ≤ 9223372036854775807 ∧ m * by_ ≤ 140737488355328 then ifE (hasN M dd) (if n = m then newMslE (objName dd) n.toNat (List.replicate n.toNat zero).flatten else .fail) (newRowE (rowName dd) z (List.replicate n.toNat zs)) else .fail
        | none => .fail
      | _, _, _ => .fail
    | _, _, _ => .fail
theorem op_makeSlice (t : TypeId) (l c : Operand) : opE Γ P M ⟨some dd, .makeSlice t l c, ty, pos, af, g⟩ ρ = mkE P M dd t (ρ l) (ρ c) := by
  unfold opE mkE
  simp only [Option.isSome_some, true_and, Option.getD_some]
  rfl
theorem hasN_nil (n : Nat) : hasN [] n = false := rfl
theorem hasN_cons (x n : Nat) (l : List Nat) : hasN (x :: l) n = (x == n || hasN l n) := rfl
theorem hintP_nil (ns : List Nat) (id : Nat) (K : AS → Prop) (s : AS) : hintP ns id K [] s = K s := rfl
theorem hintP_nil' (ns : List Nat) (id : Nat) (K : AS → Prop) : hintP ns id K [] = K := rfl
theorem hintP_cons (ns : List Nat) (id : Nat) (K : AS → Prop) (i : Nat) (h : Hint) (l : List (Nat × Hint)) (s : AS) : hintP ns id K ((i, h) :: l) s = if i = id then andThen (doHint ns h s) (hintP ns id K l) else hintP ns id K l s := rfl
theorem doHint_tidy (ns : List Nat) (l : List Nat) (s : AS) : doHint ns (.tidy l) s = some ⟨pickT s l, once s.m⟩ := rfl
theorem pickT_nil (s : AS) : pickT s [] = [] := rfl
theorem pickT_cons (s : AS) (i : Nat) (l : List Nat) : pickT s (i :: l) = (i, s.get i) :: pickT s l := rfl
theorem m_mk (t : List (Nat × AV)) (m : List (Nat × MC)) : (AS.mk t m).m = m := rfl
def idxE (P : Program) (t : TypeId) (x i : AV) : EP Eff := match x, i with
    | .c (.str s), .c (.int _ i) => if tyStr P t ∧ 0 ≤ i then match s[i.toNat]? with | some b => .ret ⟨.c (.int .u8 b.toNat), []⟩ | none => .fail else .fail
    | .agg cs, .c (.int _ i) => match tyArr P t with
      | some (n, e) => match tySize P e, tyAgg P e with
        | some z, some false => if 0 ≤ i ∧ i < (n : Int) then match cs[i.toNat * z]? with | some v => .ret ⟨v, []⟩ | none => .fail else .fail
        | some z, some true => if 0 ≤ i ∧ i < (n : Int) ∧ i.toNat * z + z ≤ cs.length then .ret ⟨.agg ((cs.drop (i.toNat * z)).take z), []⟩ else .fail
        | _, _ => .fail
      | none => .fail
    | _, _ => .fail
theorem op_lookup (t : TypeId) (x k : Operand) (ok : Bool) : opE Γ P M ⟨d, .lookup t x k ok, ty, pos, af, g⟩ ρ = okM (lookupE P t (ρ x) (ρ k) ok) := rfl
theorem op_mapUpdate (t : TypeId) (m k x : Operand) : opE Γ P M ⟨d, .mapUpdate t m k x, ty, pos, af, g⟩ ρ = mapSetE P t (ρ m) (ρ k) (ρ x) := rfl
theorem op_index (t : TypeId) (x i : Operand) : opE Γ P M ⟨d, .index t x i, ty, pos, af, g⟩ ρ = idxE P t (ρ x) (ρ i) := rfl

end

def gval (b : Bool) (v : AV) : AV := match b with | true => v | false => .tup []
@[congr] theorem gval_congr {b b' : Bool} {v : AV} (h : b = b') : gval b v = gval b' v := by rw [h]
theorem gval_true (v : AV) : gval true v = v := Eq.trans (Eq.refl _) (Eq.refl _)
theorem gval_false (v : AV) : gval false v = .tup [] := Eq.trans (Eq.refl _) (Eq.refl _)
def gfp (b : Bool) (rd : List Nat) : FP := match b with | true => ⟨rd, []⟩ | false => ⟨[], []⟩
theorem gfp_true (rd : List Nat) : gfp true rd = ⟨rd, []⟩ := Eq.trans (Eq.refl _) (Eq.refl _)
theorem gfp_false (rd : List Nat) : gfp false rd = ⟨[], []⟩ := Eq.trans (Eq.refl _) (Eq.refl _)
def gstep (b : Bool) (s : AS) (o : Oper) (R : Option (Eff × List Nat)) : Option (AS × FP) := ifE b (obind R fun r => some (s.step o r.1, ⟨r.2, r.1.wr.map (·.1)⟩)) (some (s.put o.dst (.tup []), ⟨[], []⟩))
@[congr] theorem gstep_congr {b b' : Bool} {s : AS} {o : Oper} {R : Option (Eff × List Nat)} (h : b = b') : gstep b s o R = gstep b' s o R := by rw [h]
theorem gstep_true (s : AS) (o : Oper) (R : Option (Eff × List Nat)) : gstep true s o R = obind R fun r => some (s.step o r.1, ⟨r.2, r.1.wr.map (·.1)⟩) := Eq.trans (Eq.refl _) (Eq.refl _)
theorem gstep_false (s : AS) (o : Oper) (R : Option (Eff × List Nat)) : gstep false s o R = some (s.put o.dst (.tup []), ⟨[], []⟩) := Eq.trans (Eq.refl _) (Eq.refl _)
def gctx (b : Bool) (s : AS) (o : Oper) (R : Option (Eff × List Nat)) : Option (AS × FP) := gstep b s o R
@[congr] theorem gctx_congr {b b' : Bool} {s : AS} {o : Oper} {R R' : Option (Eff × List Nat)} (h : b = b') (hR : b' = true → R = R') : gctx b s o R = gctx b' s o R' := by
  subst h
  cases b with
  | true => rw [hR rfl]
  | false => rfl
theorem gstep_dec {p : Prop} {i : Decidable p} (s : AS) (o : Oper) (R : Option (Eff × List Nat)) : gstep (@decide p i) s o R = gctx (@decide p i) s o R := rfl
theorem gstep_not (b : Bool) (s : AS) (o : Oper) (R : Option (Eff × List Nat)) : gstep (!b) s o R = gctx (!b) s o R := rfl
theorem gstep_and (a b : Bool) (s : AS) (o : Oper) (R : Option (Eff × List Nat)) : gstep (a && b) s o R = gctx (a && b) s o R := rfl
theorem gstep_or (a b : Bool) (s : AS) (o : Oper) (R : Option (Eff × List Nat)) : gstep (a || b) s o R = gctx (a || b) s o R := rfl
theorem gstep_beq {β : Type} {i : BEq β} (a b : β) (s : AS) (o : Oper) (R : Option (Eff × List Nat)) : gstep (a == b) s o R = gctx (a == b) s o R := rfl
theorem gstep_bne {β : Type} {i : BEq β} (a b : β) (s : AS) (o : Oper) (R : Option (Eff × List Nat)) : gstep (a != b) s o R = gctx (a != b) s o R := rfl
theorem gctx_true (s : AS) (o : Oper) (R : Option (Eff × List Nat)) : gctx true s o R = gstep true s o R := rfl
theorem gctx_false (s : AS) (o : Oper) (R : Option (Eff × List Nat)) : gctx false s o R = gstep false s o R := rfl
theorem gctx_ret (b : Bool) (s : AS) (o : Oper) (v : AV) (rd : List Nat) : gctx b s o (some (⟨v, []⟩, rd)) = some (s.put o.dst (gval b v), gfp b rd) := by
  cases b <;> rfl
theorem gctx_wr (b : Bool) (s : AS) (o : Oper) (v : AV) (x : Nat × MC) (w : List (Nat × MC)) (rd : List Nat) : gctx b s o (some (⟨v, x :: w⟩, rd)) = ifE b (some (s.step o ⟨v, x :: w⟩, ⟨rd, (x :: w).map (·.1)⟩)) (some (s.put o.dst (.tup []), ⟨[], []⟩)) := rfl
theorem boolE_gval (w b x : Bool) : boolE w (gval b (.c (.bool x))) = some (b && (x == w)) := by cases b <;> rfl
/-- One of two. -/
def pv (t : Bool) (a b : AV) : AV := match t with | true => a | false => b
theorem pv_true (a b : AV) : pv true a b = a := Eq.trans (Eq.refl _) (Eq.refl _)
theorem pv_false (a b : AV) : pv false a b = b := Eq.trans (Eq.refl _) (Eq.refl _)
theorem pv_or (t x : Bool) : pv t (.c (.bool true)) (gval (!t) (.c (.bool x))) = .c (.bool (t || x)) := by cases t <;> rfl
theorem pv_or' (t x : Bool) : pv t (.c (.bool true)) (.c (.bool x)) = .c (.bool (t || x)) := by cases t <;> rfl
theorem pv_orn (t x : Bool) : pv (!t) (.c (.bool true)) (gval t (.c (.bool x))) = .c (.bool (!t || x)) := by cases t <;> rfl
theorem pv_and (t x : Bool) : pv t (gval t (.c (.bool x))) (.c (.bool false)) = .c (.bool (t && x)) := by cases t <;> rfl
theorem pv_and' (t x : Bool) : pv t (.c (.bool x)) (.c (.bool false)) = .c (.bool (t && x)) := by cases t <;> rfl
theorem pickE_v (t : Bool) (a b : AV) : pickE (.c (.bool t)) a b = .ret ⟨pv t a b, []⟩ := by cases t <;> rfl
theorem aStep_g (Γ : FuncId → Contract) (P : Program) (N : Lim) (ops : Array Oper) (s : AS) (o : Oper) : aStep Γ P N ops o s = if dstOK N o = true then obind (guardE ops o s) (fun b => gstep b s o ((opE Γ P N.adv.mu o s.eval).run s.mem)) else none := by
  unfold aStep obind
  split
  · split
    · rename_i b hb
      rw [hb]
      cases b with
      | true =>
        simp only [gstep_true, ifE_true, obind]
        split <;> simp_all
      | false => rfl
    · rename_i hb; rw [hb]
  · rfl

/-- Contracts, one behind the other. -/
def ext (Γ : FuncId → Contract) (f : FuncId) (C : Contract) : FuncId → Contract := fun g => if g = f then C else Γ g
def none0 : FuncId → Contract := fun _ _ _ => none
theorem none0_sound {P : Program} : SoundG P none0 := fun _ _ _ _ h => by cases h
theorem ext_sound {P : Program} {Γ : FuncId → Contract} {f : FuncId} {C : Contract} (h : SoundG P Γ) (hC : SoundC P f C) : SoundG P (ext Γ f C) := by
  intro g args objs r hr
  unfold ext at hr ⊢
  split at hr
  · rename_i e; subst e; rw [if_pos rfl]; exact hC
  · rename_i e; rw [if_neg e]; exact h g args objs r hr
theorem ifE_self {α : Type} (b : Bool) (x : α) : ifE b x x = x := by cases b <;> rfl

theorem wrapI {n : Int} (h : -9223372036854775808 ≤ n ∧ n ≤ 9223372036854775807) : IntKind.i64.wrap n = n := by
  simp [IntKind.wrap, IntKind.bits, IntKind.signed]; omega
theorem wrapB (n : Int) : IntKind.u8.wrap n = n % 256 := by
  simp [IntKind.wrap, IntKind.bits, IntKind.signed]

/-- The rules of a walk, under one name. -/
def runA := And.intro @vc_skip <|
  And.intro @vc_region <|
  And.intro @vc_drawn <|
  And.intro @vc_seq <|
  And.intro @vc_cond <|
  And.intro @vc_block <|
  And.intro @vc_loop <|
  And.intro @vc_exit <|
  And.intro @vc_label <|
  And.intro @vc_ret <|
  And.intro @thenA_normal <|
  And.intro @thenA_ret <|
  And.intro @thenA_exit <|
  And.intro @inBlockA_normal <|
  And.intro @inBlockA_ret <|
  And.intro @inBlockA_here <|
  And.intro @aOps_nil <|
  And.intro @aOps_cons <|
  And.intro @aStep_g <|
  And.intro @dstOK_some <|
  And.intro @dstOK_none <|
  And.intro @guardE_none <|
  And.intro @guardE_some <|
  And.intro @boolE_c <|
  And.intro @boolE_tup <|
  And.intro @run_ret <|
  And.intro @run_fail <|
  And.intro @run_ask <|
  And.intro @run_bind <|
  And.intro @run_ifE <|
  And.intro @run_ite <|
  And.intro @get_mk <|
  And.intro @mem_mk <|
  And.intro @step_mk <|
  And.intro @step_mk' <|
  And.intro @put_mk <|
  And.intro @put_mk' <|
  And.intro @look_nil <|
  And.intro @look_cons <|
  And.intro @eval_tmp <|
  And.intro @eval_func <|
  And.intro @eval_int <|
  And.intro @eval_bool <|
  And.intro @eval_str <|
  And.intro @eval_nilsl <|
  And.intro @eval_nilptr <|
  And.intro @eval_nilmp <|
  And.intro @op_move <|
  And.intro @op_assign <|
  And.intro @op_pick <|
  And.intro @pickE_v <|
  And.intro @gval_true <|
  And.intro @gval_false <|
  And.intro @gfp_true <|
  And.intro @gfp_false <|
  And.intro @gstep_true <|
  And.intro @gstep_false <|
  And.intro @gstep_dec <|
  And.intro @gstep_not <|
  And.intro @gstep_and <|
  And.intro @gstep_or <|
  And.intro @gstep_beq <|
  And.intro @gstep_bne <|
  And.intro @gctx_true <|
  And.intro @gctx_false <|
  And.intro @gctx_ret <|
  And.intro @gctx_wr <|
  And.intro @boolE_gval <|
  And.intro @pv_true <|
  And.intro @pv_false <|
  And.intro @pv_or <|
  And.intro @pv_or' <|
  And.intro @pv_orn <|
  And.intro @pv_and <|
  And.intro @pv_and' <|
  And.intro @op_load <|
  And.intro @op_store <|
  And.intro @op_nilCheck <|
  And.intro @op_binOp <|
  And.intro @op_unOp <|
  And.intro @op_convert <|
  And.intro @op_fieldAddr <|
  And.intro @op_field <|
  And.intro @op_indexAddr <|
  And.intro @op_slice <|
  And.intro @op_extract <|
  And.intro @op_alloc <|
  And.intro @op_box <|
  And.intro @op_build <|
  And.intro @op_builtin <|
  And.intro @op_call <|
  And.intro @op_buildSlice <|
  And.intro @op_index <|
  And.intro @op_lookup <|
  And.intro @op_mapUpdate <|
  And.intro @obind_some <|
  And.intro @obind_none <|
  And.intro @obind_ifE <|
  And.intro @ifE_true <|
  And.intro @ifE_false <|
  And.intro @ifE_self <|
  And.intro @andThen_some <|
  And.intro @andThen_none <|
  And.intro @andThen_ifE <|
  And.intro @branch_true <|
  And.intro @branch_false <|
  And.intro @hintP_nil <|
  And.intro @hintP_nil' <|
  And.intro @hintP_cons <|
  And.intro @hasN_nil <|
  And.intro @hasN_cons <|
  And.intro @op_makeSlice <|
  And.intro @doHint_tidy <|
  And.intro @pickT_nil <|
  And.intro @pickT_cons <|
  @m_mk

/-- Rules of lists, options, truth values that every walk needs. -/
theorem runB : (∀ (α : Type) (l : List α), l ++ [] = l) ∧
  (∀ (α : Type) (l : List α), [] ++ l = l) ∧
  (∀ (α : Type) (a : α) (l m : List α), (a :: l) ++ m = a :: (l ++ m)) ∧
  (∀ (α β : Type) (f : α → β) (a : α), (some a).map f = some (f a)) ∧
  (∀ (α β : Type) (f : α → β), (none : Option α).map f = none) ∧
  (∀ (h : Decidable True), @decide True h = true) ∧
  (∀ (h : Decidable False), @decide False h = false) ∧
  (∀ (α : Type) (a b : α), (some a).getD b = a) ∧
  (∀ (α : Type) (b : α), (none : Option α).getD b = b) ∧
  (∀ (α : Type) (a : α) (l : List α), (a :: l)[0]? = some a) ∧
  (∀ (α : Type) (a : α) (l : List α) (i : Nat), (a :: l)[i + 1]? = l[i]?) ∧
  (∀ (α : Type) (a : α) (l : List α), (a :: l).length = l.length + 1) ∧
  (∀ (α : Type), ([] : List α).length = 0) ∧
  (∀ (α β : Type) (f : α → β) (a : α) (l : List α), (a :: l).map f = f a :: l.map f) ∧
  (∀ (α β : Type) (f : α → β), ([] : List α).map f = []) ∧
  (∀ (p : Prop), (p ∧ p) = p) ∧
  (∀ (p : Prop), (p ∧ True) = p) ∧
  (∀ (p : Prop), (True ∧ p) = p) ∧
  (∀ (α : Type) (p : α → Bool) (a : α) (l : List α), (a :: l).all p = (p a && l.all p)) ∧
  (∀ (α : Type) (p : α → Bool), ([] : List α).all p = true) ∧
  (∀ (b : Bool), (b && b) = b) ∧
  (∀ (b : Bool), (b && true) = b) ∧
  (∀ (α β : Type) (a : α) (f : α → Option β), (some a).bind f = f a) ∧
  (∀ (α β : Type) (f : α → Option β), (none : Option α).bind f = none) ∧
  ((false = true) = False) ∧
  (∀ (α : Type) (a : α) (l : List α), (a :: l).Nodup ↔ a ∉ l ∧ l.Nodup) ∧
  (∀ (α : Type) (a b : α) (l : List α), a ∈ b :: l ↔ a = b ∨ a ∈ l) ∧
  (∀ (α : Type) (a : α), ¬ a ∈ ([] : List α)) ∧
  (∀ (p : Prop), (p ∨ False) = p) ∧
  ((¬ False) = True) ∧
  (∀ (α : Type), ([] : List α).Nodup) ∧
  (∀ (α : Type) (l : List α) (i : Nat), l.toArray[i]? = l[i]?) ∧
  (∀ (α : Type) (a : List α) (l : List (List α)), (a :: l).flatten = a ++ l.flatten) ∧
  (∀ (α : Type), ([] : List (List α)).flatten = []) ∧
  (∀ (n : Nat), 0 + n = n) ∧
  (∀ (n : Nat), n * 1 = n) ∧
  (∀ (n : Nat), 1 * n = n) ∧
  (∀ (n : Nat), 0 ≤ n) ∧
  (∀ (n : Nat), n + 0 = n) ∧
  (∀ (α : Type) (l m : List α), (l ++ m).length = l.length + m.length) ∧
  (∀ (b : Bool), (b == true) = b) ∧
  (∀ (b : Bool), (b == false) = !b) ∧
  ((!true) = false) ∧
  ((!false) = true) ∧
  (∀ (α : Type) [BEq α] [ReflBEq α] (a : α), (a == a) = true) ∧
  (∀ (n : Nat), ((n : Int)).toNat = n) ∧
  (∀ (n : Nat), (0 : Int) ≤ (n : Int)) ∧
  (∀ (b : Bool), (b || false) = b) ∧
  (∀ (b : Bool), (b || true) = true) ∧
  (∀ (b : Bool), (false || b) = b) ∧
  (∀ (b : Bool), (true || b) = true) ∧
  (∀ (α : Type) (l m : List α), List.append l m = l ++ m) ∧
  (∀ (b : Bool), (true && b) = b) ∧
  (∀ (b : Bool), (false && b) = false) ∧
  (∀ (b : Bool), (b && false) = false) ∧
  (∀ (b : Bool), (!(!b)) = b) :=
  ⟨by intros; simp,
  by intros; simp,
  by intros; simp,
  by intros; simp,
  by intros; simp,
  fun h => by cases h <;> first | rfl | exact absurd trivial (by assumption),
  fun h => by cases h <;> first | rfl | exact absurd (by assumption) id,
  by intros; simp,
  by intros; simp,
  by intros; simp,
  by intros; simp,
  by intros; simp,
  by intros; simp,
  by intros; simp,
  by intros; simp,
  and_self,
  and_true,
  true_and,
  by intros; simp,
  by intros; simp,
  by intros; simp,
  by intros; simp,
  by intros; simp,
  by intros; simp,
  Bool.false_eq_true,
  fun _ _ _ => List.nodup_cons,
  fun _ _ _ _ => List.mem_cons,
  fun _ _ => List.not_mem_nil,
  or_false,
  not_false_eq_true,
  fun _ => List.nodup_nil,
  by intros; simp,
  by intros; simp,
  by intros; simp,
  by intros; simp,
  by intros; simp,
  by intros; simp,
  by intros; simp,
  by intros; simp,
  by intros; simp,
  by intros; simp,
  by intros; simp,
  Bool.not_true,
  Bool.not_false,
  fun _ _ _ a => beq_self_eq_true a,
  by intros; simp,
  by intros; simp,
  by intros; simp,
  by intros; simp,
  by intros; simp,
  by intros; simp,
  by intros; simp,
  Bool.true_and,
  Bool.false_and,
  Bool.and_false,
  Bool.not_not⟩

/-- What the operations are, under one name. -/
def runC := And.intro @ncE.eq_1 <|
  And.intro @ncE.eq_2 <|
  And.intro @ncE.eq_3 <|
  And.intro @ncE.eq_4 <|
  And.intro @faE.eq_1 <|
  And.intro @extE.eq_1 <|
  And.intro @extE.eq_2 <|
  And.intro @cloE.eq_1 <|
  And.intro @cloE.eq_2 <|
  And.intro @bsE.eq_1 <|
  And.intro @idxE.eq_1 <|
  And.intro @idxE.eq_2 <|
  And.intro @idxE.eq_3 <|
  And.intro @okE.eq_1 <|
  And.intro @okE.eq_2 <|
  And.intro @okM.eq_1 <|
  And.intro @entryT.eq_1 <|
  And.intro @entryT.eq_2 <|
  And.intro @entryMem.eq_1 <|
  And.intro @entryMem.eq_2 <|
  And.intro @cellsAt.eq_1 <|
  And.intro @cellsAt.eq_2 <|
  And.intro @cellsAt.eq_3 <|
  And.intro @cellsAt.eq_4 <|
  And.intro @cellsAt.eq_5 <|
  And.intro @cellsAt.eq_6 <|
  And.intro @cellsAt.eq_7 <|
  And.intro @loadE.eq_1 <|
  And.intro @loadE.eq_2 <|
  And.intro @loadE.eq_3 <|
  And.intro @isSh.eq_1 <|
  And.intro @isSh.eq_2 <|
  And.intro @isSh.eq_3 <|
  And.intro @intOp.eq_1 <|
  And.intro @intOp.eq_2 <|
  And.intro @intOp.eq_3 <|
  And.intro @intOp.eq_4 <|
  And.intro @intOp.eq_5 <|
  And.intro @intOp.eq_6 <|
  And.intro @intOp.eq_7 <|
  And.intro @intOp.eq_8 <|
  And.intro @intOp.eq_9 <|
  And.intro @intOp.eq_10 <|
  And.intro @intOp.eq_11 <|
  And.intro @intOp.eq_12 <|
  And.intro @intOp.eq_13 <|
  And.intro @intOp.eq_14 <|
  And.intro @intOp.eq_15 <|
  And.intro @intOp.eq_16 <|
  And.intro @AV.flat.eq_1 <|
  @AV.flat.eq_2
def runD := And.intro @AV.flat.eq_3 <|
  And.intro @AV.flat.eq_4 <|
  And.intro @objName.eq_1 <|
  And.intro @rowName.eq_1 <|
  And.intro @resName.eq_1 <|
  And.intro @resCell.eq_1 <|
  And.intro @inObj.eq_1 <|
  And.intro @inRow.eq_1 <|
  And.intro @outName.eq_1 <|
  And.intro @outCell.eq_1 <|
  And.intro @EP.bind.eq_1 <|
  And.intro @EP.bind.eq_2 <|
  And.intro @EP.bind.eq_3 <|
  And.intro @cndE.eq_1 <|
  And.intro @cndE.eq_2 <|
  And.intro @cndE.eq_3 <|
  And.intro @AV.scal.eq_1 <|
  And.intro @AV.scal.eq_2 <|
  And.intro @AV.scal.eq_3 <|
  And.intro @AV.scal.eq_4 <|
  And.intro @List.take.eq_1.{0} <|
  And.intro @List.take.eq_2.{0} <|
  And.intro @List.take.eq_3.{0} <|
  And.intro @List.drop.eq_1.{0} <|
  And.intro @List.drop.eq_2.{0} <|
  And.intro @List.drop.eq_3.{0} <|
  And.intro @callE.eq_1 <|
  And.intro @argsE.eq_1 <|
  And.intro @argsE.eq_2 <|
  And.intro @argsE.eq_3 <|
  And.intro @argsE.eq_4 <|
  And.intro @AV.pure?.eq_1 <|
  And.intro @AV.pure?.eq_2 <|
  And.intro @AV.pure?.eq_3 <|
  And.intro @AV.pure?.eq_4 <|
  And.intro @AV.pure?.eq_5 <|
  And.intro @AV.pure?.eq_6 <|
  And.intro @AV.toPC.eq_1 <|
  And.intro @AV.toPC.eq_2 <|
  And.intro @AV.toPC.eq_3 <|
  And.intro @AV.toPC.eq_4 <|
  And.intro @toPCs.eq_1 <|
  And.intro @toPCs.eq_2 <|
  And.intro @objsE.eq_1 <|
  And.intro @objsE.eq_2 <|
  And.intro @cellsE.eq_1 <|
  And.intro @cellsE.eq_2 <|
  And.intro @cellsE.eq_3 <|
  And.intro @cellsE.eq_4 <|
  And.intro @cellsE.eq_5 <|
  And.intro @cellsE.eq_6 <|
  And.intro @cellsE.eq_7 <|
  And.intro @resAt.eq_1 <|
  And.intro @resAt.eq_2 <|
  @resAt.eq_3
def runE := And.intro @resAt.eq_4 <|
  And.intro @resAt.eq_5 <|
  And.intro @backObjs.eq_1 <|
  And.intro @backObjs.eq_2 <|
  And.intro @backCells.eq_1 <|
  And.intro @backCells.eq_2 <|
  And.intro @backCells.eq_3 <|
  And.intro @backCells.eq_4 <|
  And.intro @backCells.eq_5 <|
  And.intro @backCells.eq_6 <|
  And.intro @backCells.eq_7 <|
  And.intro @backCells.eq_8 <|
  And.intro @backCells.eq_9 <|
  And.intro @freeE.eq_1 <|
  And.intro @freeE.eq_2 <|
  And.intro @keys.eq_1 <|
  And.intro @exitMem.eq_1 <|
  And.intro @shapeOf.eq_1 <|
  And.intro @shapeOf.eq_2 <|
  And.intro @shapeOf.eq_3 <|
  And.intro @shapeOf.eq_4 <|
  And.intro @shapeOf.eq_5 <|
  And.intro @shapeOf.eq_6 <|
  And.intro @shapeOf.eq_7 <|
  And.intro @oneE.eq_1 <|
  And.intro @oneE.eq_2 <|
  And.intro @ext.eq_1 <|
  And.intro @builtinE.eq_1 <|
  And.intro @builtinE.eq_2 <|
  And.intro @builtinE.eq_3 <|
  And.intro @builtinE.eq_4 <|
  And.intro @builtinE.eq_5 <|
  And.intro @lenE.eq_1 <|
  And.intro @lenE.eq_2 <|
  And.intro @lenE.eq_3 <|
  And.intro @lenE.eq_4 <|
  And.intro @lenE.eq_5 <|
  And.intro @AV.rows.eq_1 <|
  And.intro @AV.rows.eq_2 <|
  And.intro @AV.rows.eq_3 <|
  And.intro @AV.rows.eq_4 <|
  And.intro @appendE.eq_1 <|
  And.intro @addedE.eq_1 <|
  And.intro @addedE.eq_2 <|
  And.intro @newRowE.eq_1 <|
  And.intro @newObjE.eq_1 <|
  And.intro @strz.eq_1 <|
  And.intro @strz.eq_2 <|
  And.intro @mm.eq_1 <|
  And.intro @mm.eq_2 <|
  And.intro @fillE.eq_1 <|
  And.intro @fillE.eq_2 <|
  And.intro @chunks.eq_1 <|
  And.intro @chunks.eq_2 <|
  @List.flatten.eq_1.{0}
def runF := And.intro @List.flatten.eq_2.{0} <|
  And.intro @guardE.eq_1 <|
  And.intro @cndQ.eq_1 <|
  And.intro @cndQ.eq_2 <|
  And.intro @List.flatMap.eq_1.{0, 0} <|
  And.intro @Option.map.eq_1.{0, 0} <|
  And.intro @Option.map.eq_2.{0, 0} <|
  And.intro @strOp.eq_1 <|
  And.intro @strOp.eq_2 <|
  And.intro @strOp.eq_3 <|
  And.intro @strOp.eq_4 <|
  And.intro @strOp.eq_5 <|
  And.intro @strOp.eq_6 <|
  And.intro @strOp.eq_7 <|
  And.intro @strOp.eq_8 <|
  And.intro @indexE.eq_1 <|
  And.intro @indexE.eq_2 <|
  And.intro @indexE.eq_3 <|
  And.intro @indexE.eq_4 <|
  And.intro @indexE.eq_5 <|
  And.intro @newMslE.eq_1 <|
  And.intro @look2.eq_1 <|
  And.intro @denil.eq_1 <|
  And.intro @denil.eq_2 <|
  And.intro @once.eq_1 <|
  And.intro @once.eq_2 <|
  And.intro @without.eq_1 <|
  And.intro @without.eq_2 <|
  And.intro @convO.eq_1 <|
  And.intro @convO.eq_2 <|
  And.intro @lookupE.eq_1 <|
  And.intro @lookFound.eq_1 <|
  And.intro @lookFound.eq_2 <|
  And.intro @lookOut.eq_1 <|
  And.intro @elemAV.eq_1 <|
  And.intro @keyE.eq_1 <|
  And.intro @keyE.eq_2 <|
  And.intro @AV.isAgg.eq_1 <|
  And.intro @AV.isAgg.eq_2 <|
  And.intro @refE.eq_1 <|
  And.intro @inNames.eq_1 <|
  @inNames.eq_2
/-- What is owed at an end, or at a loop's head, under one name. -/
def finC := And.intro @get_mk <|
  And.intro @mem_mk <|
  And.intro @look_nil <|
  And.intro @look_cons <|
  And.intro @andThen_some <|
  And.intro @andThen_none <|
  And.intro @run_ask <|
  And.intro @run_ret <|
  And.intro @run_fail <|
  And.intro @obind_some <|
  And.intro @obind_none <|
  And.intro @retQ.eq_1 <|
  And.intro @retQ.eq_2 <|
  And.intro @retQ.eq_3 <|
  And.intro @retE.eq_1 <|
  And.intro @retE.eq_2 <|
  And.intro @retE.eq_3 <|
  And.intro @RetOK.eq_1 <|
  And.intro @objPairs.eq_1 <|
  And.intro @objPairs.eq_2 <|
  And.intro @resPairs.eq_1 <|
  And.intro @resPairs.eq_2 <|
  And.intro @resPairs.eq_3 <|
  And.intro @resPairs.eq_4 <|
  And.intro @resPairs.eq_5 <|
  And.intro @cellPairs.eq_1 <|
  And.intro @cellPairs.eq_2 <|
  And.intro @cellPairs.eq_3 <|
  And.intro @cellPairs.eq_4 <|
  And.intro @cellPairs.eq_5 <|
  And.intro @objCells.eq_1 <|
  And.intro @retRen.eq_1 <|
  And.intro @retMem.eq_1 <|
  And.intro @retMem.eq_2 <|
  And.intro @exitMem.eq_1 <|
  And.intro @exitVals.eq_1 <|
  And.intro @resAt.eq_1 <|
  And.intro @resAt.eq_2 <|
  And.intro @resAt.eq_3 <|
  And.intro @resAt.eq_4 <|
  And.intro @resAt.eq_5 <|
  And.intro @entryMem.eq_1 <|
  And.intro @entryMem.eq_2 <|
  And.intro @cellsAt.eq_1 <|
  And.intro @cellsAt.eq_2 <|
  And.intro @cellsAt.eq_3 <|
  And.intro @cellsAt.eq_4 <|
  And.intro @cellsAt.eq_5 <|
  And.intro @cellsAt.eq_6 <|
  And.intro @cellsAt.eq_7 <|
  And.intro @AMds.eq_1 <|
  And.intro @AMds.eq_2 <|
  And.intro @AMds.eq_3 <|
  And.intro @AMd.eq_1 <|
  @AMd.eq_2
def finD := And.intro @AMd.eq_3 <|
  And.intro @AMd.eq_4 <|
  And.intro @AMd.eq_5 <|
  And.intro @AMd.eq_6 <|
  And.intro @AMd.eq_7 <|
  And.intro @AMd.eq_8 <|
  And.intro @AMd.eq_9 <|
  And.intro @AMd.eq_10 <|
  And.intro @AMd.eq_11 <|
  And.intro @AMd.eq_12 <|
  And.intro @AMd.eq_13 <|
  And.intro @AMd.eq_14 <|
  And.intro @AMd.eq_15 <|
  And.intro @AMd.eq_16 <|
  And.intro @AMd.eq_17 <|
  And.intro @CMd.eq_1 <|
  And.intro @CMd.eq_2 <|
  And.intro @CMd.eq_3 <|
  And.intro @CMd.eq_4 <|
  And.intro @keys.eq_1 <|
  And.intro @inObj.eq_1 <|
  And.intro @inRow.eq_1 <|
  And.intro @outName.eq_1 <|
  And.intro @outCell.eq_1 <|
  And.intro @loadE.eq_1 <|
  And.intro @loadE.eq_2 <|
  And.intro @loadE.eq_3 <|
  And.intro @AMd.AMp.eq_1 <|
  And.intro @AMd.AMp.eq_2 <|
  And.intro @AMd.AMp.eq_3 <|
  And.intro @AMd.AMp.eq_4 <|
  And.intro @AMd.AMp.eq_5 <|
  And.intro @AMd.AMp.eq_6 <|
  And.intro @List.take.eq_1.{0} <|
  And.intro @List.take.eq_2.{0} <|
  And.intro @List.take.eq_3.{0} <|
  And.intro @List.drop.eq_1.{0} <|
  And.intro @List.drop.eq_2.{0} <|
  And.intro @List.drop.eq_3.{0} <|
  And.intro @inNames.eq_1 <|
  And.intro @inNames.eq_2 <|
  And.intro @refE.eq_1 <|
  And.intro @Weak.eq_1 <|
  And.intro @wkM.eq_1 <|
  And.intro @wkM.eq_2 <|
  And.intro @wkM.eq_3 <|
  And.intro @wkT.eq_1 <|
  And.intro @wkT.eq_2 <|
  @wkRen.eq_1

end Go.Proofs.YtcfijanfcgnnhaaDoor.AM
