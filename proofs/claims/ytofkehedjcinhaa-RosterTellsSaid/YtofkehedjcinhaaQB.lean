/-
  QB: AmR.
-/
import Derived.Test.YtofkehedjcinhaaQ5
import Derived.RangeFuncLeaves
import Derived.RangeFuncFrom
set_option linter.unusedVariables false
set_option linter.unusedSimpArgs false
namespace Go.Proofs.Ytofkehedjcinhaa.AM
open Go Go.RowKit

section
variable {P : Program} {E : Env} {Γ : FuncId → Contract}

theorem home_kind {G : Gh} {w : World} {c : Option MC} {h : Home} {b : Nat} (hh : HomeOK E G w c (some h)) (hb : h.blk = some b) : ∃ o, w.heap[b]? = some o ∧ (∀ ds, o ≠ .deferred ds) ∧ ∀ r, o ≠ .loop r := by
  cases c with
  | none => cases hh
  | some c =>
    cases c with
    | obj cells fz =>
      cases h with
      | obj b' => simp only [Home.blk, Option.some.injEq] at hb; subst hb; obtain ⟨vs, ty, h1, _⟩ := hh; exact ⟨_, h1, by simp, by simp⟩
      | row => exact hh.elim
    | row z fr =>
      cases h with
      | obj b' => exact hh.elim
      | row z' bk fr' =>
        obtain ⟨_, _, hr⟩ := hh
        cases bk with
        | none => simp [Home.blk] at hb
        | some p => obtain ⟨b', cap⟩ := p; simp only [Home.blk, Option.map_some, Option.some.injEq] at hb; subst hb; obtain ⟨vs, ty, ⟨_, h1, _⟩, _⟩ := hr; exact ⟨_, h1, by simp, by simp⟩
    | mp ag es =>
      cases h with
      | obj b' => simp only [Home.blk, Option.some.injEq] at hb; subst hb; obtain ⟨vs, cl, h1, _⟩ := hh; exact ⟨_, h1, by simp, by simp⟩
      | row => exact hh.elim

/-- A block turns that nobody names. -/
theorem MRel.turned {G : Gh} {m : Nat → Option MC} {w w' : World} (R : MRel E G m w) {D : Nat} (hD : ∀ n x, G.h n = some x → x.blk ≠ some D) (hne : ∀ k, k ≠ D → w'.heap[k]? = w.heap[k]?)
    (hos : w'.os = w.os) (htape : w'.tape = w.tape) (hout : w'.output = w.output) (hsz : w.heap.size ≤ w'.heap.size) (hB : E.B ≤ D) (hK : ∀ o, G.K D o = none) : MRel E G m w' := by
  refine ⟨fun b o v h => ?_, fun n => (R.home n).keep (Gh.le_refl G) fun x b e1 e2 => ⟨hne b fun e => hD n x e1 (e ▸ e2), fun _ => rfl⟩, R.inj, hos.trans R.os, htape.trans R.tape, hout.trans R.output,
    Nat.le_trans R.size0 hsz, Nat.le_trans R.sizeB hsz, fun k hk hx => (hne k (by omega)).trans (R.blk k hk hx), R.k0, R.kfr⟩
  by_cases e : b = D
  · subst e; rw [hK o] at h; cases h
  · rw [cell_same (hne b e)]; exact R.agree b o v h

/-- The view of a piece of code that keeps all names. -/
def Env.fo (E : Env) (G : Gh) (s : AS) (w : World) (ro : Option Nat) (dfs : List Deferred) : Env where
  N := E.N
  ns := keys s.m
  H0 := G.h
  w0 := w
  B := w.heap.size
  Ext b := ∃ n h, G.h n = some h ∧ h.blk = some b
  K0 := G.K
  ro := ro
  dfs := dfs

theorem keys_home {G : Gh} {s : AS} {w : World} (M : MRel E G s.mem w) {n : Nat} (hn : n ∈ keys s.m) : ∃ h, G.h n = some h := by
  obtain ⟨c, hc⟩ := look_some (l := s.m) hn
  have := M.home n
  cases hg : G.h n with
  | none => rw [show s.mem n = some c from hc, hg] at this; cases c <;> exact this.elim
  | some x => exact ⟨x, rfl⟩
theorem home_keys {G : Gh} {s : AS} {w : World} (M : MRel E G s.mem w) {n : Nat} {h : Home} (hg : G.h n = some h) : n ∈ keys s.m := by
  have := M.home n
  cases hc : s.mem n with
  | none => rw [hc, hg] at this; exact this.elim
  | some c => exact List.mem_map_of_mem (f := (·.1)) (look_mem hc)

theorem fo_out {G G' : Gh} {s : AS} {w w' : World} {m' : Nat → Option MC} {ro : Option Nat} {dfs : List Deferred} (M : MRel E G s.mem w) (M' : MRel (E.fo G s w ro dfs) G' m' w')
    (hent : ∀ n ∈ keys s.m, ∃ h h', G.h n = some h ∧ G'.h n = some h' ∧ Home.le h h') :
    G.le G' ∧ MRel E G' m' w' ∧ ∀ b, b < w.heap.size → (∀ n h, G.h n = some h → h.blk ≠ some b) → w'.heap[b]? = w.heap[b]? := by
  have hm' : ∀ n h, G.h n = some h → m' n ≠ none := fun n h e hn => by
    obtain ⟨x, x', e1, e2, _⟩ := hent n (home_keys M e)
    have := M'.home n
    rw [hn, e2] at this; exact this.elim
  have hle : ∀ n h, G.h n = some h → m' n ≠ none → ∃ h', G'.h n = some h' ∧ Home.le h h' := fun n h e _ => by
    obtain ⟨x, x', e1, e2, l⟩ := hent n (home_keys M e)
    rw [e] at e1; cases e1
    exact ⟨x', e2, l⟩
  have M1 : MRel (cEnv w (E.fo G s w ro dfs).Ext G.K) G' m' w' := M'.conv rfl rfl rfl rfl
  obtain ⟨z1, z2, z3⟩ := M.merge M1 (fun b ⟨n, h, e1, e2⟩ => ⟨n, h, e1, e2, hm' n h e1⟩) hle
  have hG : (⟨G'.K, fun n => match m' n with | some _ => G'.h n | none => G.h n⟩ : Gh) = G' := by
    have : (fun n => match m' n with | some _ => G'.h n | none => G.h n) = G'.h := by
      funext n
      cases hn : m' n with
      | some c => rfl
      | none =>
        have h1 := M'.home n
        rw [hn] at h1
        rw [h1.none_of]
        cases hg : G.h n with
        | none => rfl
        | some h => exact absurd hn (hm' n h hg)
    rw [this]
  have z1' : G.le (⟨G'.K, fun n => match m' n with | some _ => G'.h n | none => G.h n⟩ : Gh) := z1
  have z3' : MRel E (⟨G'.K, fun n => match m' n with | some _ => G'.h n | none => G.h n⟩ : Gh) (fun n => match m' n with | some c => some c | none => s.mem n) w' := z3
  rw [hG] at z1' z3'
  refine ⟨z1', z3'.congr fun n => ?_, fun b hb hn => M'.blk b hb (fun ⟨n, h, e1, e2⟩ => hn n h e1 e2)⟩
  cases hn : m' n with
  | some c => rfl
  | none =>
    cases hs : s.mem n with
    | none => rfl
    | some c =>
      exfalso
      have h1 := M.home n
      cases hg : G.h n with
      | none => rw [hs, hg] at h1; cases c <;> exact h1.elim
      | some h => exact hm' n h hg hn

theorem fo_rel {G : Gh} {s : AS} {a : Act} {w : World} (R : Rel E G s a w) (ro : Option Nat) : Rel (E.fo G s w ro a.defers) G s a w :=
  ⟨R.size, rfl, R.tmps, R.mem.focus.conv rfl rfl rfl rfl, fun n hn => let ⟨h, e⟩ := keys_home R.mem hn; ⟨h, h, e, e, Home.le_refl h⟩⟩

def markOf (D : Nat) : Deferred := { target := .collected D, args := #[] }
/-- What is deferred: nothing, or a range's own block. -/
def Marks (B : Nat) (w : World) : Bool → List Deferred → Prop
  | false, ds => ds = []
  | true, ds => ∃ D, ds = [markOf D] ∧ B ≤ D ∧ w.heap[D]? = some (.deferred (some []))
def RelM (E : Env) (b : Bool) (G : Gh) (s : AS) (a : Act) (w : World) : Prop := Rel { E with dfs := a.defers } G s a w ∧ Marks E.B w b a.defers
def AWPm (P : Program) (E : Env) (b : Bool) (c : Code) (Q : Bool → Exit → AS → Prop) (s : AS) : Prop :=
  ∀ G a w, RelM E b G s a w → c.wpIn (rF E.ro) 0 P (fun e a' w' => ∃ b' G' s', Q b' e s' ∧ RelM E b' G' s' a' w') a w

def thenM (K : Bool → AS → Prop) (Q : Bool → Exit → AS → Prop) : Bool → Exit → AS → Prop
  | b, .normal, s => K b s
  | b, e, s => Q b e s
def inBlockM (id : Nat) (Q : Bool → Exit → AS → Prop) : Bool → Exit → AS → Prop
  | b, .exit id', s => if id' = id then Q b .normal s else Q b (.exit id') s
  | b, e, s => Q b e s

theorem AWPm.mono {b : Bool} {c : Code} {Q Q' : Bool → Exit → AS → Prop} {s : AS} (h : AWPm P E b c Q s) (hq : ∀ b e s, Q b e s → Q' b e s) : AWPm P E b c Q' s :=
  fun G a w R => wpIn_mono (h G a w R) fun e a' w' ⟨b', G', s', h2, h3⟩ => ⟨b', G', s', hq b' e s' h2, h3⟩
theorem AWPm.seq {b : Bool} {x y : Code} {Q : Bool → Exit → AS → Prop} {s : AS} (h : AWPm P E b x (thenM (fun b s => AWPm P E b y Q s) Q) s) : AWPm P E b (.seq x y) Q s := by
  intro G a w R
  refine wpIn_seq (wpIn_mono (h G a w R) ?_)
  rintro e a' w' ⟨b', G', s', h2, h3⟩
  cases e with
  | normal =>
    refine wpIn_mono (h2 G' a' w' h3) ?_
    exact fun e a2 w2 h => h
  | _ => exact ⟨b', G', s', h2, h3⟩
theorem AWPm.block {b : Bool} {id : Nat} {c : Code} {Q : Bool → Exit → AS → Prop} {s : AS} (h : AWPm P E b c (inBlockM id Q) s) : AWPm P E b (.block id c) Q s := by
  intro G a w R
  refine wpIn_block (wpIn_mono (h G a w R) ?_)
  rintro e a' w' ⟨b', G', s', h2, h3⟩
  cases e with
  | exit id' =>
    simp only [inBlockM] at h2
    simp only [Exit.inBlock]
    by_cases e : id' = id
    · rw [if_pos e] at h2 ⊢; exact ⟨b', G', s', h2, h3⟩
    · rw [if_neg e] at h2 ⊢; exact ⟨b', G', s', h2, h3⟩
  | _ => exact ⟨b', G', s', h2, h3⟩

theorem Marks.keep {B : Nat} {w w' : World} {b : Bool} {ds : List Deferred} (h : Marks B w b ds) (hk : ∀ D : Nat, w.heap[D]? = some (Obj.deferred (some [])) → w'.heap[D]? = w.heap[D]?) : Marks B w' b ds := by
  cases b with
  | false => exact h
  | true => obtain ⟨D, h1, h2, h3⟩ := h; exact ⟨D, h1, h2, (hk D h3).trans h3⟩

/-- Code that holds no range. -/
theorem AWPm.of {b : Bool} {c : Code} {Q : Bool → Exit → AS → Prop} {s : AS} (h : ∀ E' : Env, E'.N = E.N → E'.ns = keys s.m → AWP P E' c (Q b) s) : AWPm P E b c Q s := by
  rintro G a w ⟨R, hm⟩
  refine wpIn_mono (h (E.fo G s w E.ro a.defers) rfl rfl G a w (fo_rel R E.ro)) ?_
  rintro e a' w' ⟨G', s', hq, R2⟩
  obtain ⟨hle, M2, hblk⟩ := fo_out (R.mem.conv (E' := E) rfl rfl rfl rfl) R2.mem R2.ent
  have hd : a'.defers = a.defers := R2.defs
  refine ⟨b, G', s', hq, ⟨R2.size, rfl, R2.tmps, M2.conv rfl rfl rfl rfl, fun n hn => ?_⟩, ?_⟩
  · obtain ⟨x, x', e1, e2, l⟩ := R.ent n hn
    obtain ⟨y, e3, l2⟩ := hle.h n x' e2
    exact ⟨x, y, e1, e3, Home.le_trans l l2⟩
  · rw [hd]
    refine Marks.keep hm fun D h3 => hblk D (Array.getElem?_eq_some_iff.1 h3).1 fun n x e1 e2 => ?_
    obtain ⟨o, o1, o2, _⟩ := home_kind (e1 ▸ R.mem.home n) e2
    rw [h3] at o1
    cases o1
    exact o2 _ rfl

theorem AWPm.weak {b : Bool} {c : Code} {Q : Bool → Exit → AS → Prop} {s s2 : AS} (hw : Weak E.ns s s2) (h : AWPm P E b c Q s2) : AWPm P E b c Q s := by
  rintro G a w ⟨R, hm⟩
  obtain ⟨G', _, R2⟩ := hw.rel (E := { E with dfs := a.defers }) R
  exact h G' a w ⟨R2, hm⟩
theorem thenM_normal (K : Bool → AS → Prop) (Q : Bool → Exit → AS → Prop) (b : Bool) (s : AS) : thenM K Q b .normal s = K b s := rfl
theorem thenM_ret (K : Bool → AS → Prop) (Q : Bool → Exit → AS → Prop) (b : Bool) (s : AS) : thenM K Q b .ret s = Q b .ret s := rfl

/-- Between two rounds. -/
structure Btw (E : Env) (G0 : Gh) (l D : Nat) (rec : LoopState → Loop) (G : Gh) (m : List (Nat × MC)) (W : World) : Prop where
  mem : MRel E G (look m) W
  le : G0.le G
  loop : W.heap[l]? = some (.loop (rec .ready))
  dfr : W.heap[D]? = some (.deferred (some []))

theorem know_cells {G : Gh} {m : Nat → Option MC} {w : World} (M : MRel E G m w) {b : Nat} {o : Obj} (h : w.heap[b]? = some o) (ho : (∃ ds, o = .deferred ds) ∨ ∃ r, o = .loop r) (i : Nat) : G.K b i = none := by
  cases hk : G.K b i with
  | none => rfl
  | some v =>
    have := M.agree b i v hk
    rcases ho with ⟨ds, rfl⟩ | ⟨r, rfl⟩ <;> simp [World.cell?, h] at this
theorem home_not {G : Gh} {m : Nat → Option MC} {w : World} (M : MRel E G m w) {b : Nat} {o : Obj} (h : w.heap[b]? = some o) (ho : (∃ ds, o = .deferred ds) ∨ ∃ r, o = .loop r) (n : Nat) (x : Home) (e1 : G.h n = some x) : x.blk ≠ some b := by
  intro e2
  obtain ⟨o', o1, o2, o3⟩ := home_kind (e1 ▸ M.home n) e2
  rw [h] at o1
  cases o1
  rcases ho with ⟨ds, rfl⟩ | ⟨r, rfl⟩
  · exact o2 _ rfl
  · exact o3 _ rfl
theorem MRel.putLoop {G : Gh} {m : Nat → Option MC} {w : World} (M : MRel E G m w) {b : Nat} {r : Loop} (h : w.heap[b]? = some (.loop r)) (hB : E.B ≤ b) (o : Obj) : MRel E G m (w.putObj b o) :=
  M.turned (D := b) (home_not M h (.inr ⟨r, rfl⟩)) (fun k hk => World.putObj_heap_other hk) rfl rfl rfl (by simp) hB (know_cells M h (.inr ⟨r, rfl⟩))

/-- Code in a round's frame: what holds between two rounds stays. -/
theorem piece_round {c : Code} {Q : Exit → AS → Prop} {s : AS} {G : Gh} {a : Act} {W : World} {l D : Nat} (h : ∀ E' : Env, E'.N = E.N → E'.ns = keys s.m → AWP P E' c Q s)
    (hsz : a.tmps.size = E.N.n) (hd : a.defers = []) (ht : ∀ i, AR G (s.get i) (a.tmps.getD i Go.undef)) (M : MRel E G s.mem W) {r : Loop} (hl : W.heap[l]? = some (.loop r)) (hk : W.heap[D]? = some (.deferred (some []))) :
    c.wpIn (Fence.wide.inRound l) 0 P (fun e a' W' => ∃ G' s', Q e s' ∧ G.le G' ∧ a'.tmps.size = E.N.n ∧ a'.defers = [] ∧ (∀ i, AR G' (s'.get i) (a'.tmps.getD i Go.undef)) ∧ MRel E G' s'.mem W' ∧ W'.heap[l]? = some (.loop r) ∧ W'.heap[D]? = some (.deferred (some [])) ∧
      ∀ s2, Weak (keys s.m) s' s2 → ∃ G2, G.le G2 ∧ MRel E G2 s2.mem W') a W := by
  have R : Rel (E.fo G s W (some l) []) G s a W := ⟨hsz, hd, ht, M.focus.conv rfl rfl rfl rfl, fun n hn => let ⟨h, e⟩ := keys_home M hn; ⟨h, h, e, e, Home.le_refl h⟩⟩
  refine wpIn_mono (h (E.fo G s W (some l) []) rfl rfl G a W R) ?_
  rintro e a' W' ⟨G', s', hq, R2⟩
  obtain ⟨hle, M2, hblk⟩ := fo_out M R2.mem R2.ent
  refine ⟨G', s', hq, hle, R2.size, R2.defs, R2.tmps, M2, (hblk l (Array.getElem?_eq_some_iff.1 hl).1 (home_not M hl (.inr ⟨r, rfl⟩))).trans hl, (hblk D (Array.getElem?_eq_some_iff.1 hk).1 (home_not M hk (.inl ⟨_, rfl⟩))).trans hk, fun s2 hw => ?_⟩
  obtain ⟨G2, _, R3⟩ := hw.rel (E := E.fo G s W (some l) []) R2
  obtain ⟨hle3, M3, _⟩ := fo_out M R3.mem R3.ent
  exact ⟨G2, hle3, M3⟩

def assignT (s : AS) : List Tmp → List AV → List (Nat × AV)
  | p :: ps, x :: xs => assignT ⟨(p, x) :: s.t, s.m⟩ ps xs
  | _, _ => s.t

theorem assign_tmps {G : Gh} : ∀ (ps : List Tmp) (xs : List AV) (vals : List Value) (s : AS) (t : Array Value), ps.length = xs.length → vals.length = xs.length →
    (∀ i, AR G (s.get i) (t.getD i Go.undef)) → (∀ p ∈ ps, p < t.size) → (∀ (j : Nat) (x : AV) (v : Value), xs[j]? = some x → vals[j]? = some v → AR G x v) →
    ((ps.zip vals).foldl (fun t (p, v) => t.setIfInBounds p v) t).size = t.size ∧ ∀ i, AR G ((AS.mk (assignT s ps xs) s.m).get i) (((ps.zip vals).foldl (fun t (p, v) => t.setIfInBounds p v) t).getD i Go.undef)
  | [], [], [], s, t, _, _, h, _, _ => ⟨rfl, h⟩
  | p :: ps, x :: xs, v :: vals, s, t, h1, h2, h, hp, hx => by
    have hh : ∀ i, AR G ((AS.mk ((p, x) :: s.t) s.m).get i) ((t.setIfInBounds p v).getD i Go.undef) := by
      intro i
      have hpt := hp p (by simp)
      by_cases e : p = i
      · subst e
        have e1 : (AS.mk ((p, x) :: s.t) s.m).get p = x := by simp [AS.get, look]
        have e2 : (t.setIfInBounds p v).getD p Go.undef = v := by simp [hpt]
        rw [e1, e2]
        exact hx 0 x v rfl rfl
      · have e1 : (AS.mk ((p, x) :: s.t) s.m).get i = s.get i := by simp [AS.get, look, e]
        have e2 : (t.setIfInBounds p v).getD i Go.undef = t.getD i Go.undef := by simp [Array.getElem?_setIfInBounds_ne e]
        rw [e1, e2]
        exact h i
    obtain ⟨g1, g2⟩ := assign_tmps ps xs vals ⟨(p, x) :: s.t, s.m⟩ (t.setIfInBounds p v) (by simpa using h1) (by simpa using h2) hh (fun q hq => by simpa using hp q (by simp [hq])) (fun j y u e1 e2 => hx (j + 1) y u (by simpa using e1) (by simpa using e2))
    exact ⟨by rw [List.zip_cons_cons, List.foldl_cons, g1]; simp, g2⟩
  | [], _ :: _, _, _, _, h, _, _, _, _ => by simp at h
  | _ :: _, [], _, _, _, h, _, _, _, _ => by simp at h
  | [], [], _ :: _, _, _, _, h, _, _, _ => by simp at h
  | _ :: _, _ :: _, [], _, _, _, h, _, _, _ => by simp at h

/-- **A range over a function**: of the iterator's own walk: what it owes between the rounds; of each round: what the body owes. -/
theorem AWPm.range {g : Operand} {ps : Array Tmp} {assign body : Code} {Q : Bool → Exit → AS → Prop} {s : AS} {gf : Nat} {lb : Array Value} {G0 : Gh} {a : Act} {w : World}
    (hro : E.ro = none) (R : RelM E false G0 s a w) (hg : a.eval g = .func (.func gf) #[] lb) (henter : EnterOK P gf) (hps : ∀ p ∈ ps.toList, p < E.N.n)
    (n : Nat) (vs : Nat → List AV) (m m' : Nat → List (Nat × MC)) (mEnd : List (Nat × MC)) (hvs : ∀ i, i < n → (vs i).length = ps.size) (s1 : Nat → AS)
    (h0 : ∀ k, look (m 0) k = look s.m k)
    (hA : ∀ i, i < n → ∀ E' : Env, E'.N = E.N → E'.ns = keys (m i) → AWP P E' assign (fun e s' => e = .normal ∧ s' = s1 i) ⟨assignT ⟨s.t, m i⟩ ps.toList (vs i), m i⟩)
    (hB : ∀ i, i < n → ∀ E' : Env, E'.N = E.N → E'.ns = keys (s1 i).m → AWP P E' body (fun e s' => e = .normal ∧ Weak (keys (s1 i).m) s' ⟨[], m' i⟩) (s1 i))
    (hit : ∀ (l D : Nat) (rec : LoopState → Loop) (W : World) (G : Gh), E.B ≤ l → E.B ≤ D → Btw E G0 l D rec G (m 0) W →
      (∀ (i : Nat) (W : World) (G : Gh) (vals : List Value), i < n → Btw E G0 l D rec G (m i) W → vals.length = (vs i).length → (∀ (j : Nat) (x : AV) (v : Value), (vs i)[j]? = some x → vals[j]? = some v → AR G x v) →
        YieldAt Fence.wide 0 P l vals.toArray W fun e W' => e = .returned (.bool true) ∧ ∃ G', G.le G' ∧ Btw E G0 l D rec G' (m' i) W') →
      CallsIn Fence.wide 0 P gf (#[.func (.yield l) #[] #[]] ++ lb) W fun e W' => (∃ v, e = .returned v) ∧ ∃ G', Btw E G0 l D rec G' mEnd W')
    (hQ : Q true .normal ⟨s.t, mEnd⟩) :
    (Code.rangeFunc g ps assign body).wpIn (rF E.ro) 0 P (fun e a' w' => ∃ b' G' s', Q b' e s' ∧ RelM E b' G' s' a' w') a w := by
  obtain ⟨R, hd⟩ := R
  have hd : a.defers = [] := hd
  rw [hro]
  refine wpIn_rangeFunc (F := Fence.wide) ?_
  intro fn hfn
  obtain ⟨rec, hrec⟩ : ∃ rec : LoopState → Loop, rec = fun st => { state := st, pending := none, fn, tmps := a.tmps, params := ps, assign, body, defers := w.heap.size } := ⟨_, rfl⟩
  obtain ⟨W1, hW1⟩ : ∃ W1, (w.alloc (.deferred (some []))).alloc (.loop (rec .ready)) = W1 := ⟨_, rfl⟩
  have hL1 : W1.heap[w.heap.size + 1]? = some (.loop (rec .ready)) := by
    rw [← hW1]; have := World.alloc_heap_new (w.alloc (.deferred (some []))) (.loop (rec .ready)); rwa [World.size_alloc] at this
  have hK1 : W1.heap[w.heap.size]? = some (.deferred (some [])) := by
    rw [← hW1]; exact (Below.heap_alloc _ _ _ (by simp)).trans (World.alloc_heap_new w _)
  have M0 : MRel E G0 s.mem w := R.mem.conv rfl rfl rfl rfl
  have hold : ∀ b, b < w.heap.size → W1.heap[b]? = w.heap[b]? := fun b hb => by
    rw [← hW1]; exact (Below.heap_alloc _ _ _ (by simp; omega)).trans (Below.heap_alloc _ _ _ hb)
  have M1 : MRel E G0 (look (m 0)) W1 := by
    refine (M0.same (Know.le_refl _) rfl (fun b o v h => ?_) hold (fun _ _ _ => rfl) (by rw [← hW1]; rfl) (by rw [← hW1]; rfl) (by rw [← hW1]; rfl) (by rw [← hW1]; simp; omega)).congr h0
    rw [cell_same (hold b (M0.k_lt h))]; exact M0.agree b o v h
  have hB0 := M0.sizeB
  refine ⟨w.heap.size + 1, [markOf w.heap.size], W1, { target := .fn (.func gf) lb, args := #[.func (.yield (w.heap.size + 1)) #[] #[]] }, W1, gf,
    #[.func (.yield (w.heap.size + 1)) #[] #[]] ++ lb, W1, ?_, ?_, fun _ _ => trivial, ?_, by simp [Fence.wide], ?_⟩
  · rw [← hW1, hrec]; exact run_enterLoop_outer _ _ _ _ _
  · simp only [resolve, hg]
    simp [go_sem]
  · obtain ⟨fn', hf1, hf2, hf3⟩ := henter
    have hb : ¬ fn'.body = none := by intro e; rw [e] at hf3; cases hf3
    have hn : ¬ fn'.name = "runtime.NumGoroutine" := by simpa using hf2
    simp [invoke, go_sem, callFunc, hf1, hn, hb]
  · refine (hit (w.heap.size + 1) w.heap.size rec W1 G0 (by omega) hB0 ⟨M1, Gh.le_refl _, hL1, hK1⟩ ?_).mono ?_
    · intro i W G vals hi J hvl hv
      obtain ⟨M, hle, hl, hk⟩ := J
      have hlt := (Array.getElem?_eq_some_iff.1 hl).1
      have hy := run_yield (P := P) (args := vals.toArray) hl (by rw [hrec]; simp; rw [hvl, hvs i hi])
      obtain ⟨a1, ha1⟩ : ∃ a1 : Act, a1 = { tmps := ((rec .ready).params.zip vals.toArray).foldl (fun tmps (t, a) => tmps.setIfInBounds t a) (rec .ready).tmps, defers := [] } := ⟨_, rfl⟩
      have hz : ((rec .ready).params.zip vals.toArray).foldl (fun tmps (t, a) => tmps.setIfInBounds t a) (rec .ready).tmps = (ps.toList.zip vals).foldl (fun t (p, v) => t.setIfInBounds p v) a.tmps := by
        rw [hrec, ← Array.foldl_toList]
        simp
      obtain ⟨t1, t2⟩ := assign_tmps (G := G) ps.toList (vs i) vals ⟨s.t, m i⟩ a.tmps (by simp; rw [hvs i hi]) hvl (fun k => (R.tmps k).mono hle) (fun p hp => Nat.lt_of_lt_of_le (hps p hp) (Nat.le_of_eq (Eq.symm R.size))) hv
      rw [← hz] at t1 t2
      have hfnr : (rec .ready).fn = fn := by rw [hrec]
      have has : (rec .ready).assign = assign := by rw [hrec]
      have hbo : (rec .ready).body = body := by rw [hrec]
      refine ⟨_, _, _, _, hy, roundIn_of_wpIn (by rw [hfnr]; exact hfn) ?_⟩
      rw [has, hbo]
      refine wpIn_mono (piece_round (E := E) (G := G) (hA i hi) (a := { tmps := ((rec .ready).params.zip vals.toArray).foldl (fun tmps (t, a) => tmps.setIfInBounds t a) (rec .ready).tmps, defers := [] }) (by rw [t1]; exact R.size) rfl t2 M hl hk) ?_
      rintro e a2 W2 ⟨G2, s2, ⟨rfl, rfl⟩, hle2, z1, z2, z3, M2, hl2, hk2, _⟩
      refine ⟨_, run_beginRound hl2 (by rw [hrec]), ?_⟩
      have hlt2 := (Array.getElem?_eq_some_iff.1 hl2).1
      have M3 := M2.putLoop hl2 (by omega) (.loop { rec .ready with state := .busy })
      have hl3 : (W2.putObj (w.heap.size + 1) (.loop { rec .ready with state := .busy })).heap[w.heap.size + 1]? = some (.loop { rec .ready with state := .busy }) := World.putObj_heap_same hlt2
      have hk3 : (W2.putObj (w.heap.size + 1) (.loop { rec .ready with state := .busy })).heap[w.heap.size]? = some (.deferred (some [])) := (World.putObj_heap_other (by omega)).trans hk2
      refine wpIn_mono (piece_round (E := E) (G := G2) (hB i hi) z1 z2 z3 M3 hl3 hk3) ?_
      rintro e a4 W4 ⟨G4, s4, ⟨rfl, hw⟩, hle4, _, _, _, _, hl4, hk4, hwk⟩
      obtain ⟨G5, hle5, M5⟩ := hwk _ hw
      have hlt4 := (Array.getElem?_eq_some_iff.1 hl4).1
      refine ⟨_, _, run_endRound none hl4, rfl, G5, Gh.le_trans hle2 hle5, ?_⟩
      have e5 : ({ { rec .ready with state := .busy } with state := if (none : Option Code).isNone then .ready else .done, pending := none } : Loop) = rec .ready := by rw [hrec]; rfl
      rw [e5]
      exact ⟨M5.putLoop hl4 (by omega) _, Gh.le_trans hle (Gh.le_trans hle2 hle5), World.putObj_heap_same hlt4, (World.putObj_heap_other (by omega)).trans hk4⟩
    · rintro e W2 ⟨⟨v, rfl⟩, G, M, hle, hl, hk⟩
      have hel := run_endLoop (P := P) hl (by rw [hrec]; simp)
      have hpe : (rec .ready).pending = none := by rw [hrec]
      rw [hpe] at hel
      refine ⟨none, _, hel, true, G, ⟨s.t, mEnd⟩, hQ, ⟨R.size, rfl, fun i => (R.tmps i).mono hle, (M.putLoop hl (by omega) _).conv rfl rfl rfl rfl, fun k hk' => ?_⟩, w.heap.size, by rw [hd]; rfl, hB0, (World.putObj_heap_other (by omega)).trans hk⟩
      obtain ⟨x, x', e1, e2, l⟩ := R.ent k hk'
      obtain ⟨y, e3, l2⟩ := hle.h k x' e2
      exact ⟨x, y, e1, e3, Home.le_trans l l2⟩

/-- A call of a function that takes and gives pure values, from a view. -/
theorem MRel.call0 {G : Gh} {m : Nat → Option MC} {w : World} (M : MRel E G m w) {f : FuncId} {C : Contract} (hS : SoundC P f C) {args : List AV} {x : AV} (hC : C args [] = some ⟨[.pv x], []⟩) {vals : List Value} (hl : args.length = vals.length)
    (hx : ∀ (i : Nat) (x : AV) (v : Value), args[i]? = some x → vals[i]? = some v → AR ⟨G.K, fun _ => none⟩ x v) :
    Calls P f vals.toArray w fun e w' => ∃ G' v, e = .returned v ∧ G.le G' ∧ G'.h = G.h ∧ MRel E G' m w' ∧ AR G' x v ∧ (∀ b, b < w.heap.size → w'.heap[b]? = w.heap[b]?) ∧ w.heap.size ≤ w'.heap.size := by
  have M0 : MRel (cEnv w (fun _ => False) G.K) ⟨G.K, fun _ => none⟩ (look (entryMem 0 [])) w :=
    ⟨M.agree, fun n => trivial, fun n n' h h' b e => (by cases e), rfl, rfl, rfl, Nat.le_refl _, Nat.le_refl _, fun _ _ _ => rfl, Know.le_refl _, fun _ _ _ _ => rfl⟩
  refine Calls.mono ((hS.2 args [] _ hC).2 (fun _ => False) ⟨G.K, fun _ => none⟩ w vals M0 hl hx) ?_
  rintro e w' ⟨G', v, rfl, hle, M', hv⟩
  obtain ⟨z1, z2, z3⟩ := M.merge M' (fun b h => h.elim) (fun n h _ hne => absurd rfl hne)
  exact ⟨⟨G'.K, G.h⟩, v, rfl, z1, rfl, z3, hv.mono z2, fun b hb => M'.blk b hb (fun h => h), M'.sizeB⟩

/-- The region that makes an iterator: the argument at hand, the maker called. -/
theorem region_made {ro : Option Nat} {id : Nat} {ops : Array Oper} {o1 o2 : Oper} {c : Call} {u g : Tmp} {fr gf : FuncId} {ty : TypeId} {Q : Exit → Act → World → Prop} {a : Act} {w : World} {v : Value}
    (hops : ops = #[o1, o2]) (h1 : (execOp a.eval o1).run P w = .ok (.value v) w) (hnd : ∀ c, o1.op ≠ .defer c) (d1 : o1.dst = some u) (g1 : o1.guard = none) (h2 : o2.op = .call c) (hc : c.callee = .value (.func fr)) (hca : c.args = #[.tmp u]) (d2 : o2.dst = some g) (g2 : o2.guard = none)
    (hen : EnterOK P fr) (hu : u < a.tmps.size)
    (hcall : Calls P fr #[v] w fun e w' => e = .returned (.func (.func gf) #[] #[.pointer (some ⟨w.heap.size, 0, none⟩)]) ∧ w' = w.alloc (.cells #[v] ty))
    (k : Q .normal { a with tmps := (a.tmps.setIfInBounds u v).setIfInBounds g (.func (.func gf) #[] #[.pointer (some ⟨w.heap.size, 0, none⟩)]) } (w.alloc (.cells #[v] ty))) :
    (Code.region id ops false).wpIn (rF ro) 0 P Q a w := by
  subst hops
  refine wpIn_region_list ?_
  have w1 : ∀ y, Region.wanted o1 y = true := fun y => by simp [Region.wanted, g1]
  have w2 : ∀ y, Region.wanted o2 y = true := fun y => by simp [Region.wanted, g2]
  unfold wpListIn
  rw [if_pos (w1 _)]
  refine wpIn_of_wp ro hnd ?_
  unfold Oper.wp
  rw [h1, Oper.upon_value]
  unfold wpListIn
  rw [if_pos (w2 _)]
  refine wpIn_of_wp ro (fun c hc => by rw [h2] at hc; cases hc) ?_
  have hue : (a.put o1.dst v).eval (.tmp u) = v := by
    rw [d1]; simp [Act.eval, Act.put, hu]
  obtain ⟨fn', hf1, hf2, hf3⟩ := hen
  have hb : ¬ fn'.body = none := by intro e; rw [e] at hf3; cases hf3
  have hn : ¬ fn'.name = "runtime.NumGoroutine" := by simpa using hf2
  have hfe : (a.put o1.dst v).eval (.func fr) = .func (.func fr) #[] #[] := rfl
  have e2 : (execOp (a.put o1.dst v).eval o2).run P w = .ok (.enter fr #[v]) w := by
    simp [execOp, h2, resolve, hc, hfe, hca, hue, Deferred.ofValue, invoke, callFunc, hf1, hn, hb]
  unfold Oper.wp
  rw [e2, Oper.upon_enter]
  refine Calls.mono hcall ?_
  rintro e w' ⟨rfl, rfl⟩
  rw [d1, d2]
  exact k
theorem move_at {a : Act} {w : World} {o : Oper} {t0 : Tmp} {v : Value} (h : o.op = .move (.tmp t0)) (hv : a.tmps.getD t0 Go.undef = v) : (execOp a.eval o).run P w = .ok (.value v) w := by
  simp [execOp, h, Act.eval, hv]
theorem load_at {G : Gh} {s : AS} {a : Act} {w : World} {o : Oper} {t : TypeId} {p : Tmp} {x : AV} (M : MRel E G s.mem w) (hp : AR G (s.get p) (a.tmps.getD p Go.undef)) (h : o.op = .load t (.tmp p)) {l : List Nat} (hl : (loadE P t (s.get p)).run s.mem = some (x, l)) :
    ∃ v, (execOp a.eval o).run P w = .ok (.value v) w ∧ AR G x v := by
  obtain ⟨u, h1, h2⟩ := load_run M hp hl
  generalize hv : a.tmps.getD p Go.undef = v at h1
  have he : a.eval (.tmp p) = v := hv
  exact ⟨u, by simp [execOp, h, he, h1], h2⟩

/-- A function's contract out of what its body owes, a range over a function in it. -/
theorem sound_fnM (adv : Adv) {f : FuncId} {fn : Func} {body : Code} {N : Nat} {C : Contract} (hf : P.funcs[f]? = some fn) (hname : (fn.name == "runtime.NumGoroutine") = false) (hb : fn.body = some body) (hN : fn.ntmps = N)
    (htm : ∀ r ∈ fn.results.toList, ∃ t, r = .tmp t)
    (h : ∀ args objs r, C args objs = some r → resB r.res = true ∧ args.length ≤ N ∧
      ∀ E : Env, E.ro = none → E.N.n = N → E.ns = keys (entryMem 0 objs) → E.N.adv = adv → AWPm P E false body (fun _ => retQ P (keys (entryMem 0 objs)) fn r) ⟨entryT 0 args, entryMem 0 objs⟩) : SoundC P f C := by
  refine ⟨⟨fn, hf, hname, by rw [hb]; rfl⟩, fun args objs r hr => ?_⟩
  obtain ⟨h1, h2, h3⟩ := h args objs r hr
  refine ⟨fun x hx => resB_spec h1 x hx, fun Ext G w vals M hl hx => ?_⟩
  let E : Env := ⟨⟨N, adv⟩, keys (entryMem 0 objs), G.h, w, w.heap.size, Ext, G.K, none, []⟩
  have hnsG : ∀ n x, G.h n = some x → n ∈ keys (entryMem 0 objs) := by
    intro n x e
    have := M.home n
    cases hc : look (entryMem 0 objs) n with
    | none => rw [hc, e] at this; exact this.elim
    | some c => exact List.mem_map_of_mem (f := (·.1)) (look_mem hc)
  have hsz : vals.toArray.size = args.length := by simp [hl]
  have R0 : Rel E G ⟨entryT 0 args, entryMem 0 objs⟩ { tmps := vals.toArray ++ Array.replicate (fn.ntmps - vals.toArray.size) Go.undef, defers := [] } w := by
    refine ⟨?_, rfl, fun i => ?_, M.conv rfl rfl rfl rfl, fun n hn => ?_⟩
    · show (vals.toArray ++ Array.replicate (fn.ntmps - vals.toArray.size) Go.undef).size = N
      simp; omega
    · rcases Nat.lt_or_ge i args.length with hi | hi
      · have hg : (AS.mk (entryT 0 args) (entryMem 0 objs)).get i = args[i] := by
          have := entryT_get args 0 i args[i] (by simp [hi])
          rw [Nat.zero_add] at this
          simp only [AS.get, this, Option.getD_some]
        rw [hg]
        have hv : i < vals.length := by omega
        have : (vals.toArray ++ Array.replicate (fn.ntmps - vals.toArray.size) Go.undef).getD i Go.undef = vals[i] := by
          simp [Array.getElem?_append, hv]
        show AR G _ ((vals.toArray ++ Array.replicate (fn.ntmps - vals.toArray.size) Go.undef).getD i Go.undef)
        rw [this]
        exact hx i _ _ (by simp [hi]) (by simp [hv])
      · have hg : (AS.mk (entryT 0 args) (entryMem 0 objs)).get i = .undef := by
          simp only [AS.get, entryT_none args 0 i (by omega), Option.getD_none]
        rw [hg]; exact .undef _
    · obtain ⟨c, hc⟩ := look_some (l := entryMem 0 objs) hn
      have := M.home n
      have hx : ∃ x, G.h n = some x := by
        cases hg : G.h n with
        | none => rw [hc, hg] at this; cases c <;> exact this.elim
        | some x => exact ⟨x, rfl⟩
      obtain ⟨x, hg⟩ := hx
      exact ⟨x, x, hg, hg, Home.le_refl x⟩
  have hR0 : RelM E false G ⟨entryT 0 args, entryMem 0 objs⟩ { tmps := vals.toArray ++ Array.replicate (fn.ntmps - vals.toArray.size) Go.undef, defers := [] } w := ⟨R0, rfl⟩
  refine callsIn_wide.1 (callsIn_of_wp_marks (F := Fence.wide) (n := 0) hf hb trivial (wpIn_mono (h3 E rfl rfl rfl rfl G _ w hR0) ?_) rfl)
  rintro e a' w' ⟨b', G', s', hq, R', hm⟩
  have hany : ∀ (l : List ResultVar), (∀ r ∈ l, ∃ t, r = .tmp t) → ∀ (w1 w2 : World) (us : List Value), (l.mapM (resSem a'.tmps)).run P w1 = .ok us w1 → (l.mapM (resSem a'.tmps)).run P w2 = .ok us w2 := by
    intro l hl
    have key : ∀ (l : List ResultVar), (∀ r ∈ l, ∃ t, r = .tmp t) → ∃ us : List Value, ∀ w, (l.mapM (resSem a'.tmps)).run P w = .ok us w := by
      intro l
      induction l with
      | nil => intro _; exact ⟨[], fun w => by simp⟩
      | cons r l ih =>
        intro hl
        obtain ⟨t, rfl⟩ := hl r (by simp)
        obtain ⟨us, hus⟩ := ih fun r hr => hl r (by simp [hr])
        refine ⟨a'.tmps.getD t Go.undef :: us, fun w => ?_⟩
        rw [List.mapM_cons]
        simp only [resSem, Sem.run_bind, Sem.run_pure, Result.andThen_ok, hus]
    obtain ⟨us', h'⟩ := key l hl
    intro w1 w2 us h
    rw [h'] at h ⊢
    cases h
    rfl
  have fin : andThen (retE P s' fn.results.toList) (fun xs => RetOK (keys (entryMem 0 objs)) s' r xs) → LeavesInM Fence.wide 0 P fn a'.tmps (CallPost (cEnv w Ext G.K) G r) a'.defers .returning w' := by
    intro hq
    obtain ⟨xs, hxs, hret⟩ := andThen_iff.1 hq
    obtain ⟨us, r1, r2, r3⟩ := ret_run R' _ xs hxs
    have hdone : ∀ w2, MRel E G' s'.mem w2 → LeavesInM Fence.wide 0 P fn a'.tmps (CallPost (cEnv w Ext G.K) G r) [] .returning w2 := by
      intro w2 M2
      refine ⟨if h : us.toArray.size = 1 then us.toArray[0] else .tuple us.toArray, ?_, ?_⟩
      · rw [results_eq, Array.mapM_eq_mapM_toList]
        simp only [Sem.run_bind, Sem.run_map, hany _ htm w' w2 us r1, Result.andThen_ok, Sem.run_pure]
      · have R2 : Rel { E with dfs := a'.defers } G' s' a' w2 := ⟨R'.size, R'.defs, R'.tmps, M2.conv rfl rfl rfl rfl, R'.ent⟩
        obtain ⟨G2, g1, g2, g3⟩ := RetOK.out R2 (G0 := G) hret rfl rfl hnsG (one_rel r2 r3)
        exact ⟨G2, _, rfl, g1, g2.conv rfl rfl rfl rfl, g3⟩
    have M := R'.mem.conv (E' := E) rfl rfl rfl rfl
    cases b' with
    | false => rw [show a'.defers = [] from hm]; exact hdone w' M
    | true =>
      obtain ⟨D, h4, h5, h6⟩ := hm
      rw [h4]
      refine ⟨by simp, .inl ⟨D, w'.putObj D (.deferred none), rfl, run_takeDeferred h6, hdone _ ?_⟩⟩
      refine M.turned (D := D) ?_ (fun k hk => World.putObj_heap_other hk) rfl rfl rfl (by simp) h5 ?_
      · intro n x e1 e2
        obtain ⟨o, o1, o2, _⟩ := home_kind (e1 ▸ M.home n) e2
        rw [h6] at o1; cases o1
        exact o2 _ rfl
      · intro o
        cases hk : G'.K D o with
        | none => rfl
        | some v =>
          have := M.agree D o v hk
          simp [World.cell?, h6] at this
  cases e with
  | normal => exact fin hq
  | ret => exact fin hq
  | _ => exact hq.elim

end
end Go.Proofs.Ytofkehedjcinhaa.AM
