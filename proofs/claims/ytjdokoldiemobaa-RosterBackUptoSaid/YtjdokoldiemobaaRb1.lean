/-
  Setups as octets, the plain part.
-/
import Derived.Test.YtjdokoldiemobaaRo6
import Derived.Test.YtjdokoldiemobaaPkD
set_option linter.unusedVariables false
set_option linter.unusedSimpArgs false
namespace Go.Proofs.Ytjdokoldiemobaa.AM
open Go

def setupB : List UInt8 := [115, 101, 116, 117, 112]
def arr4 (s : Setp) (i : Nat) : Int := if i = 0 then s.r else if i = 1 then s.q else if i = 2 then s.c else (s.l.length : Int)
def tailR (l : List Rul) : List UInt8 := (l.map fun x => putB x.1 6 ++ putB x.2 6).flatten
def b4 (s : Setp) : Nat → List UInt8
  | 0 => putB 5 2 ++ setupB
  | i + 1 => b4 s i ++ putB (arr4 s i) 6
def bR (s : Setp) (i : Nat) : List UInt8 := b4 s 4 ++ tailR (s.l.take i)
def encS (s : Setp) : List UInt8 := b4 s 4 ++ tailR s.l
theorem encS_eq (s : Setp) : encS s = putB 5 2 ++ (setupB ++ (putB s.r 6 ++ (putB s.q 6 ++ (putB s.c 6 ++ (putB (s.l.length : Int) 6 ++ tailR s.l))))) := by
  simp [encS, b4, arr4]
theorem tailR_nil : tailR [] = [] := rfl
theorem tailR_cons (x : Rul) (l : List Rul) : tailR (x :: l) = putB x.1 6 ++ (putB x.2 6 ++ tailR l) := by simp [tailR]
theorem tailR_app (a b : List Rul) : tailR (a ++ b) = tailR a ++ tailR b := by simp [tailR]
theorem len6 (n : Int) : (putB n 6).length = 6 := by rw [putB_length]; rfl
theorem tailR_length (l : List Rul) : (tailR l).length = 12 * l.length := by
  induction l with
  | nil => rfl
  | cons x l ih => rw [tailR_cons, List.length_append, List.length_append, len6, len6, ih, List.length_cons]; omega
theorem b4_length (s : Setp) : ∀ i, (b4 s i).length = 7 + 6 * i
  | 0 => rfl
  | i + 1 => by rw [b4, List.length_append, b4_length s i, len6]; omega

def okN (n : Int) : Prop := 0 ≤ n ∧ n ≤ 1099511627776
theorem wNum_okN {b : List UInt8} {n : Int} (h : okN n) (hl : b.length ≤ 16384) : wNum ⟨b, 0⟩ n = ⟨b ++ putB n 6, 0⟩ := by
  unfold okN at h
  unfold wNum
  rw [if_neg (by omega), if_pos hl]
/-- A setup that may be: its numbers are small. -/
theorem check_ok {s : Setp} (h : checkS s = 0) : 1 ≤ s.r ∧ s.r ≤ 5 ∧ 1 ≤ s.q ∧ s.q ≤ s.r ∧ s.l.length ≤ 3 ∧ 0 ≤ s.c ∧ s.c < 2 ^ s.r.toNat ∧ ∀ x ∈ s.l, 1 ≤ x.1 ∧ x.1 ≤ 2 ∧ 1 ≤ x.2 ∧ x.2 ≤ 32 := by
  unfold checkS at h
  by_cases hb : badS s
  · rw [if_pos hb] at h; exact absurd h (by decide)
  · rw [if_neg hb] at h
    simp only [badS, not_or] at hb
    obtain ⟨b1, b2, b3, b4, b5, b6, b7⟩ := hb
    refine ⟨by omega, by omega, by omega, by omega, by omega, by omega, by omega, ?_⟩
    have key : ∀ l : List Rul, firstBad s.r s.q l = 0 → ∀ x ∈ l, 1 ≤ x.1 ∧ x.1 ≤ 2 ∧ 1 ≤ x.2 ∧ x.2 ≤ 32 := by
      intro l
      induction l with
      | nil => intro _ x hx; cases hx
      | cons y l ih =>
        intro h x hx
        rw [firstBad] at h
        by_cases h0 : ruleS y.1 y.2 s.r s.q = 0
        · rw [if_pos h0] at h
          rcases List.mem_cons.1 hx with rfl | hx
          · unfold ruleS at h0
            split at h0
            · exact absurd h0 (by decide)
            · split at h0
              · rename_i h1
                rcases h1 with h1 | h1 <;> omega
              · exact absurd h0 (by decide)
          · exact ih h x hx
        · rw [if_neg h0] at h; exact absurd h h0
    exact key s.l h
theorem arr4_ok {s : Setp} (h : checkS s = 0) (i : Nat) : okN (arr4 s i) := by
  obtain ⟨h1, h2, h3, h4, h5, h6, h7, _⟩ := check_ok h
  have h32 : (2 : Int) ^ s.r.toNat ≤ 32 := by
    have : s.r.toNat ≤ 5 := by omega
    have h := Nat.pow_le_pow_right (show 0 < 2 by decide) this
    have e : ((2 ^ s.r.toNat : Nat) : Int) = (2 : Int) ^ s.r.toNat := by simp
    omega
  unfold okN arr4
  split
  · omega
  · split
    · omega
    · split
      · omega
      · omega

/-! reading -/
theorem nextN_put {n most : Int} (h0 : 0 ≤ n) (h1 : n ≤ 1099511627776) (h2 : n ≤ most) (rest : List UInt8) : nextN ⟨putB n 6 ++ rest, 0⟩ most = (n, ⟨rest, 0⟩) := by
  unfold nextN
  have hl := len6 n
  have ht : (putB n 6 ++ rest).take 6 = putB n 6 := by rw [List.take_append_of_le_length (by omega), ← hl, List.take_length]
  have hd : (putB n 6 ++ rest).drop 6 = rest := by rw [List.drop_append, List.drop_of_length_le (by omega), hl]; simp
  rw [if_neg (by simp [hl]), ht, hd, getB_putB6 n h0 h1, if_neg (by omega)]
theorem b2 (l : List UInt8) (h : l.length = 6) : putB (getB l) 6 = l := by
  match l, h with
  | [a, b, c, d, e, f], _ =>
    have ha := a.toNat_lt; have hb := b.toNat_lt; have hc := c.toNat_lt; have hd := d.toNat_lt; have he := e.toNat_lt; have hf := f.toNat_lt
    unfold getB putB
    simp only [List.foldl_cons, List.foldl_nil]
    rw [show (min (max (6 : Int) 0) 8).toNat = 6 from rfl, show List.range 6 = [0, 1, 2, 3, 4, 5] from rfl]
    simp only [List.map_cons, List.map_nil, Nat.reduceSub, Nat.reducePow]
    have e1 : ((((((0 * 256 + a.toNat) % 4611686018427387904 * 256 + b.toNat) % 4611686018427387904 * 256 + c.toNat) % 4611686018427387904 * 256 + d.toNat) % 4611686018427387904 * 256 + e.toNat) % 4611686018427387904 * 256 + f.toNat) % 4611686018427387904 = ((((a.toNat * 256 + b.toNat) * 256 + c.toNat) * 256 + d.toNat) * 256 + e.toNat) * 256 + f.toNat := by omega
    rw [e1, wrapU (by omega), Int.toNat_natCast]
    have u : ∀ (x : UInt8) (n : Nat), n % 256 = x.toNat → UInt8.ofNat (n % 256) = x := fun x n h => by rw [h]; simp
    simp only [List.cons.injEq, and_true]
    refine ⟨u _ _ (by omega), u _ _ (by omega), u _ _ (by omega), u _ _ (by omega), u _ _ (by omega), u _ _ (by omega)⟩
theorem nextN_inv {b : List UInt8} {most n : Int} {r : RS} (h : nextN ⟨b, 0⟩ most = (n, r)) (he : r.e = 0) : b = putB n 6 ++ r.b ∧ 0 ≤ n ∧ n ≤ most := by
  unfold nextN at h
  dsimp only at h
  split at h
  · cases h; exact absurd he (by decide)
  · rename_i hl
    split at h
    · cases h; exact absurd he (by decide)
    · rename_i hm
      cases h
      refine ⟨?_, by unfold getB; omega, by omega⟩
      rw [b2 (b.take 6) (by simp; omega), List.take_append_drop]
def rd (r : RS) (most : Int) : Int × RS := if r.e = 0 then nextN ⟨r.b, 0⟩ most else (0, r)
theorem rd_inv {r r' : RS} {most n : Int} (h : rd r most = (n, r')) (he : r'.e = 0) : r.e = 0 ∧ r.b = putB n 6 ++ r'.b ∧ 0 ≤ n ∧ n ≤ most := by
  unfold rd at h
  split at h
  · rename_i h0; exact ⟨h0, nextN_inv h he⟩
  · rename_i h0; cases h; exact absurd he h0
theorem rd_put {n most : Int} (h0 : 0 ≤ n) (h1 : n ≤ 1099511627776) (h2 : n ≤ most) (rest : List UInt8) : rd ⟨putB n 6 ++ rest, 0⟩ most = (n, ⟨rest, 0⟩) := by
  unfold rd; rw [if_pos rfl]; exact nextN_put h0 h1 h2 rest
theorem nextT_setup (rest : List UInt8) : nextT ⟨putB 5 2 ++ (setupB ++ rest), 0⟩ 5 = (setupB, ⟨rest, 0⟩) := by
  have h2 : putB 5 2 = [0, 5] := by decide
  unfold nextT
  rw [h2]
  have hg : getB [0, 5] = 5 := by decide
  simp only [List.cons_append, List.nil_append, List.length_cons, List.take, List.drop, hg]
  rw [if_neg (by omega), if_neg (by omega)]
  have hlt : ¬ ((setupB ++ rest).length < 5) := by rw [List.length_append]; show ¬ (5 + rest.length < 5); omega
  unfold tookR
  rw [show ((5 : Int)).toNat = 5 from rfl]
  dsimp only
  rw [if_neg hlt]
  rfl
theorem nextT_inv {b : List UInt8} {r : RS} (h : nextT ⟨b, 0⟩ 5 = (setupB, r)) : b = putB 5 2 ++ (setupB ++ r.b) ∧ r.e = 0 := by
  unfold nextT at h
  dsimp only at h
  split at h
  · simp [setupB] at h
  · rename_i hl
    split at h
    · simp [setupB] at h
    · rename_i hm
      unfold tookR at h
      split at h
      · simp [setupB] at h
      · rename_i hl2
        simp only [Prod.mk.injEq] at h
        obtain ⟨h1, rfl⟩ := h
        refine ⟨?_, rfl⟩
        have hlen : ((b.drop 2).take (getB (b.take 2)).toNat).length = 5 := by rw [h1]; rfl
        simp only [List.length_take] at hlen
        have hg : (getB (b.take 2)).toNat = 5 := by
          have : getB (b.take 2) ≤ 5 := by omega
          have : (getB (b.take 2)).toNat ≤ (b.drop 2).length := by simpa using hl2
          omega
        match b, hl with
        | x :: y :: tl, _ =>
          have hx := x.toNat_lt; have hy := y.toNat_lt
          simp only [List.take, List.drop] at hg h1 ⊢
          have hxy : x = 0 ∧ y = 5 := by
            unfold getB at hg
            simp only [List.foldl_cons, List.foldl_nil] at hg
            have h1 : x.toNat = 0 ∧ y.toNat = 5 := by omega
            exact ⟨UInt8.toNat_inj.1 (by rw [h1.1]; rfl), UInt8.toNat_inj.1 (by rw [h1.2]; rfl)⟩
          obtain ⟨rfl, rfl⟩ := hxy
          rw [hg] at h1
          have h2 : putB 5 2 = [0, 5] := by decide
          rw [h2, hg, ← h1]
          simp
        | [_], hl => simp at hl
        | [], hl => simp at hl

def zeroS : Setp := ⟨0, 0, 0, []⟩
def rr (r : RS) : Nat → List Rul × RS
  | 0 => ([], r)
  | i + 1 => ((rr r i).1 ++ [((rd (rr r i).2 1099511627776).1, (rd (rd (rr r i).2 1099511627776).2 1099511627776).1)], (rd (rd (rr r i).2 1099511627776).2 1099511627776).2)
theorem rr_length (r : RS) : ∀ i, (rr r i).1.length = i
  | 0 => rfl
  | i + 1 => by rw [rr, List.length_append, rr_length r i]; rfl
def a1 (r : RS) := rd r 5
def a2 (r : RS) := rd (a1 r).2 5
def a3 (r : RS) := rd (a2 r).2 32
def a4 (r : RS) := rd (a3 r).2 3
def fin (r : RS) := rr (a4 r).2 (a4 r).1.toNat
def gotS (r : RS) : Setp := ⟨(a1 r).1, (a2 r).1, (a3 r).1, (fin r).1⟩
/-- What is read of octets. -/
def readS (b : List UInt8) : Setp × Int :=
  if (nextT ⟨b, 0⟩ 5).1 ≠ setupB then (zeroS, 33)
  else if (fin (nextT ⟨b, 0⟩ 5).2).2.e ≠ 0 ∨ 0 < (fin (nextT ⟨b, 0⟩ 5).2).2.b.length ∨ checkS (gotS (nextT ⟨b, 0⟩ 5).2) ≠ 0 then (zeroS, 33) else (gotS (nextT ⟨b, 0⟩ 5).2, 0)

theorem rr_put (l : List Rul) (hl : ∀ x ∈ l, okN x.1 ∧ okN x.2) : ∀ i, i ≤ l.length → rr ⟨tailR l, 0⟩ i = (l.take i, ⟨tailR (l.drop i), 0⟩)
  | 0, _ => by simp [rr]
  | i + 1, h => by
    have ih := rr_put l hl i (by omega)
    have hlt : i < l.length := by omega
    have hx := hl l[i] (List.getElem_mem hlt)
    rw [rr, ih]
    dsimp only
    rw [List.drop_eq_getElem_cons hlt, tailR_cons, rd_put hx.1.1 hx.1.2 hx.1.2, rd_put hx.2.1 hx.2.2 hx.2.2]
    dsimp only
    rw [List.take_add_one, List.getElem?_eq_getElem hlt]
    rfl
theorem rr_inv {r : RS} : ∀ {i : Nat}, (rr r i).2.e = 0 → r.e = 0 ∧ r.b = tailR (rr r i).1 ++ (rr r i).2.b
  | 0, h => ⟨h, by simp [rr, tailR_nil]⟩
  | i + 1, h => by
    rw [rr] at h ⊢
    dsimp only at h ⊢
    generalize h1 : rd (rr r i).2 1099511627776 = p1 at h ⊢
    generalize h2 : rd p1.2 1099511627776 = p2 at h ⊢
    obtain ⟨n1, r1⟩ := p1
    obtain ⟨n2, r2⟩ := p2
    obtain ⟨e1, q1, _⟩ := rd_inv h2 h
    obtain ⟨e2, q2, _⟩ := rd_inv h1 e1
    obtain ⟨e3, q3⟩ := rr_inv e2
    refine ⟨e3, ?_⟩
    dsimp only at q1 ⊢
    rw [q3, q2, q1, tailR_app, tailR_cons, tailR_nil]
    simp

/-- What was put is read. -/
theorem read_put {s : Setp} (h : checkS s = 0) : readS (encS s) = (s, 0) := by
  obtain ⟨h1, h2, h3, h4, h5, h6, h7, h8⟩ := check_ok h
  have h32 : (2 : Int) ^ s.r.toNat ≤ 32 := by
    have : s.r.toNat ≤ 5 := by omega
    have h := Nat.pow_le_pow_right (show 0 < 2 by decide) this
    have e : ((2 ^ s.r.toNat : Nat) : Int) = (2 : Int) ^ s.r.toNat := by simp
    omega
  have ht := nextT_setup (putB s.r 6 ++ (putB s.q 6 ++ (putB s.c 6 ++ (putB (s.l.length : Int) 6 ++ tailR s.l))))
  rw [← encS_eq] at ht
  unfold readS
  rw [ht]
  dsimp only
  have c1 : a1 ⟨putB s.r 6 ++ (putB s.q 6 ++ (putB s.c 6 ++ (putB (s.l.length : Int) 6 ++ tailR s.l))), 0⟩ = (s.r, ⟨putB s.q 6 ++ (putB s.c 6 ++ (putB (s.l.length : Int) 6 ++ tailR s.l)), 0⟩) := rd_put (by omega) (by omega) (by omega) _
  have c2 : a2 ⟨putB s.r 6 ++ (putB s.q 6 ++ (putB s.c 6 ++ (putB (s.l.length : Int) 6 ++ tailR s.l))), 0⟩ = (s.q, ⟨putB s.c 6 ++ (putB (s.l.length : Int) 6 ++ tailR s.l), 0⟩) := by
    unfold a2; rw [c1]; exact rd_put (by omega) (by omega) (by omega) _
  have c3 : a3 ⟨putB s.r 6 ++ (putB s.q 6 ++ (putB s.c 6 ++ (putB (s.l.length : Int) 6 ++ tailR s.l))), 0⟩ = (s.c, ⟨putB (s.l.length : Int) 6 ++ tailR s.l, 0⟩) := by
    unfold a3; rw [c2]; exact rd_put (by omega) (by omega) (by omega) _
  have c4 : a4 ⟨putB s.r 6 ++ (putB s.q 6 ++ (putB s.c 6 ++ (putB (s.l.length : Int) 6 ++ tailR s.l))), 0⟩ = ((s.l.length : Int), ⟨tailR s.l, 0⟩) := by
    unfold a4; rw [c3]; exact rd_put (by omega) (by omega) (by omega) _
  have c5 : fin ⟨putB s.r 6 ++ (putB s.q 6 ++ (putB s.c 6 ++ (putB (s.l.length : Int) 6 ++ tailR s.l))), 0⟩ = (s.l, ⟨[], 0⟩) := by
    unfold fin; rw [c4]
    dsimp only
    rw [Int.toNat_natCast, rr_put s.l (fun x hx => by have := h8 x hx; unfold okN; omega) _ (Nat.le_refl _), List.take_length, List.drop_length, tailR_nil]
  have c6 : gotS ⟨putB s.r 6 ++ (putB s.q 6 ++ (putB s.c 6 ++ (putB (s.l.length : Int) 6 ++ tailR s.l))), 0⟩ = s := by
    unfold gotS; rw [c1, c2, c3, c5]
  rw [if_neg (by simp), c5, c6, if_neg (by simp [h])]
/-- What is read was put. -/
theorem put_read {b : List UInt8} {t : Setp} (h : readS b = (t, 0)) : checkS t = 0 ∧ encS t = b := by
  unfold readS at h
  split at h
  · simp at h
  · rename_i h1
    split at h
    · simp at h
    · rename_i h2
      simp only [Prod.mk.injEq, and_true] at h
      subst h
      simp only [not_or, Classical.not_not] at h2 h1
      obtain ⟨g1, g2, g3⟩ := h2
      refine ⟨g3, ?_⟩
      obtain ⟨q1, q2⟩ := nextT_inv (b := b) (r := (nextT ⟨b, 0⟩ 5).2) (Prod.ext h1 rfl)
      generalize (nextT ⟨b, 0⟩ 5).2 = r at g1 g2 g3 q1 q2
      obtain ⟨e5, q5⟩ := rr_inv (r := (a4 r).2) (i := (a4 r).1.toNat) g1
      obtain ⟨e4, q4, n4, m4⟩ := rd_inv (r := (a3 r).2) (r' := (a4 r).2) (most := 3) (n := (a4 r).1) rfl e5
      obtain ⟨e3, q3, _⟩ := rd_inv (r := (a2 r).2) (r' := (a3 r).2) (most := 32) (n := (a3 r).1) rfl e4
      obtain ⟨e2, q2', _⟩ := rd_inv (r := (a1 r).2) (r' := (a2 r).2) (most := 5) (n := (a2 r).1) rfl e3
      obtain ⟨e1, q1', _⟩ := rd_inv (r := r) (r' := (a1 r).2) (most := 5) (n := (a1 r).1) rfl e2
      have hfb : (fin r).2.b = [] := List.eq_nil_of_length_eq_zero (by omega)
      have hfl : ((fin r).1.length : Int) = (a4 r).1 := by unfold fin; rw [rr_length]; omega
      rw [encS_eq, q1, q1', q2', q3, q4, q5]
      show putB 5 2 ++ (setupB ++ (putB (a1 r).1 6 ++ (putB (a2 r).1 6 ++ (putB (a3 r).1 6 ++ (putB ((fin r).1.length : Int) 6 ++ tailR (fin r).1))))) = _
      rw [hfl]
      have : (rr (a4 r).2 (a4 r).1.toNat).2.b = [] := hfb
      rw [this, List.append_nil]
      rfl

end Go.Proofs.Ytjdokoldiemobaa.AM
