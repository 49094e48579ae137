/-
  Q8: Dv1.
-/
import Derived.Test.YtcfijanfcgnnhaaDoorQ6
import Derived.Test.YtcfijanfcgnnhaaDoorQ7
import Derived.BigQuiet
set_option linter.unusedVariables false
set_option linter.unusedSimpArgs false
namespace Go.Proofs
open Go.RowKit
open Go.Proofs.YtcfijanfcgnnhaaDoor.AM

theorem numL_take {s : List UInt8} {j : Nat} (h : j < s.length) (n : Nat) : numL n (s.take (j + 1)) = (numL n (s.take j)).bind fun m => numL m [s[j]] := by
  rw [List.take_add_one, List.getElem?_eq_getElem h, numL_append]
  rfl
theorem numL_bad {s : List UInt8} {j m : Nat} (h : j < s.length) (hm : numL 0 (s.take j) = some m) (hb : s[j].toNat < 48 ∨ 57 < s[j].toNat) : numL 0 s = none := by
  have h1 : numL 0 (s.take (j + 1)) = none := by
    rw [numL_take h, hm, Option.bind_some, numL, if_pos hb]
  have h2 := numL_append (s.take (j + 1)) (s.drop (j + 1)) 0
  rw [List.take_append_drop, h1] at h2
  exact h2
theorem numL_ok {s : List UInt8} {j m : Nat} (h : j < s.length) (hm : numL 0 (s.take j) = some m) (hb : ¬ (s[j].toNat < 48 ∨ 57 < s[j].toNat)) : numL 0 (s.take (j + 1)) = some (m * 10 + (s[j].toNat - 48)) := by
  rw [numL_take h, hm, Option.bind_some, numL, if_neg hb]
  rfl

def NumR (p bk : Nat) (rest : List (List UInt8)) : Option Nat → Ending → World → Prop
  | some n, e, w' => e = .returned (.int .i64 (n : Int)) ∧ WdsAt w' p bk rest
  | none, e, w' => e = .panicked [faultV 51]

set_option maxHeartbeats 4000000 in
set_option maxRecDepth 1000000 in
theorem Tryd.number_none (p bk : Nat) (w : World) (h : WdsAt w p bk []) :
    Calls Tryd.prog 31 #[.pointer (some ⟨p, 0, none⟩)] w fun e w' => e = .panicked [faultV 51] ∧ Bes p w w' := by
  go_enter Tryd.func31, Tryd.ntmps31
  go_wp2_with (go_at_call 30; refine (Tryd.next_none p bk _ h).mono ?_; rintro e w1 ⟨rfl, b1⟩)
  exact ⟨rfl, rfl, b1⟩

set_option maxHeartbeats 4000000 in
set_option maxRecDepth 1000000 in
theorem Tryd.number_some (p bk : Nat) (s : List UInt8) (rest : List (List UInt8)) (w : World) (h : WdsAt w p bk (s :: rest)) (hs : s.length ≤ 16384) :
    Calls Tryd.prog 31 #[.pointer (some ⟨p, 0, none⟩)] w fun e w' => Bes p w w' ∧ NumR p bk rest (numP s) e w' := by
  go_enter Tryd.func31, Tryd.ntmps31
  by_cases c1 : s = []
  · subst c1
    go_wp2_with (go_at_call 30; refine (Tryd.next_some p bk [] rest _ h).mono ?_; rintro e w1 ⟨rfl, hW, b1⟩)
    all_goals exact ⟨rfl, b1, rfl⟩
  by_cases c2 : 13 < s.length
  · have hn : numP s = none := by unfold numP; rw [if_pos (.inr (.inl c2))]
    rw [hn]
    have k1 : s.isEmpty = false := by simpa using c1
    have k2 : decide (13 < (s.length : Int)) = true := decide_eq_true (by omega)
    go_wp2_with (go_at_call 30; refine (Tryd.next_some p bk s rest _ h).mono ?_; rintro e w1 ⟨rfl, hW, b1⟩)
    all_goals exact ⟨rfl, b1, rfl⟩
  have k1 : s.isEmpty = false := by simpa using c1
  have k2 : decide (13 < (s.length : Int)) = false := decide_eq_false (by omega)
  cases s with
  | nil => exact absurd rfl c1
  | cons c l =>
    clear k1 c1
    rw [List.length_cons] at c2 hs k2
    by_cases c3 : c = 48 ∧ 1 < (c :: l).length
    · have hn : numP (c :: l) = none := by unfold numP; rw [if_pos (.inr (.inr c3))]
      rw [hn]
      obtain ⟨rfl, c4⟩ := c3
      rw [List.length_cons] at c4
      have k4 : decide (1 < (l.length : Int) + 1) = true := decide_eq_true (by omega)
      go_wp2_with (go_at_call 30; refine (Tryd.next_some p bk (48 :: l) rest _ h).mono ?_; rintro e w1 ⟨rfl, hW, b1⟩)
      all_goals first | exact ⟨rfl, b1, rfl⟩ | (exfalso; omega)
    have hnum : numP (c :: l) = (numL 0 (c :: l)).bind fun n => if 1099511627776 < n then none else some n := by
      unfold numP
      rw [if_neg (by
        rintro (h | h | h)
        · cases h
        · rw [List.length_cons] at h; exact c2 h
        · exact c3 h)]
      cases numL 0 (c :: l) <;> rfl
    rw [hnum]
    have hlen : (c :: l).length = l.length + 1 := rfl
    have hc0 : (c :: l)[0]? = some c := rfl
    generalize c :: l = s at *
    have h0 : 0 < s.length := by omega
    have k1 : s.isEmpty = false := by cases s with | nil => cases hc0 | cons => rfl
    have k2 : decide (13 < (s.length : Int)) = false := decide_eq_false (by omega)
    have hg : s[0]'h0 = c := by
      have := List.getElem?_eq_getElem h0
      rw [hc0] at this
      exact (Option.some.inj this).symm
    have hfst : ∀ h, ({ data := s.toArray } : ByteArray)[0]'h = c := fun h => by
      show s.toArray[0] = c
      simpa using hg
    have hlim : ∀ (j m : Nat), j ≤ s.length → m < 10 ^ j → m < 10000000000000 := fun j m hj hm => by
      have h2 : (10 : Nat) ^ j ≤ 10 ^ 13 := Nat.pow_le_pow_right (by decide) (by omega)
      have h3 : (10 : Nat) ^ 13 = 10000000000000 := by decide
      omega
    have e48 : c = 48 → c.toNat = 48 := fun h => by rw [h]; rfl
    have e48' : c.toNat = 48 → c = 48 := fun h => UInt8.toNat_inj.1 h
    by_cases e : c.toNat = 48
    case' pos =>
      have k4 : (c.toNat : Int) = 48 := by omega
      have k5 : ¬ (1 < (l.length : Int) + 1) := fun h => c3 ⟨e48' e, by omega⟩
    case' neg =>
      have k4 : ¬ (c.toNat : Int) = 48 := by omega
    all_goals
      go_wp2_with (go_at_call 30; refine (Tryd.next_some p bk s rest _ h).mono ?_; rintro e w1 ⟨rfl, hW, b1⟩)
    all_goals
      clear k4 hfst
      go_loopw [4, 29] (fun n i wr => ∃ (j m : Nat), j ≤ s.length ∧ i = .int .i64 (j : Int) ∧ n = .int .i64 (m : Int) ∧ numL 0 (s.take j) = some m ∧ m < 10 ^ j ∧ wr = w1) (fun n i _ => s.length - (intOf i).toNat)
      case atStart => exact ⟨0, 0, Nat.zero_le _, rfl, rfl, rfl, by decide, rfl⟩
      case round =>
        obtain ⟨j, m, hj, rfl, rfl, hm, hmj, rfl⟩ := hrel
        have hm13 := hlim j m hj hmj
        by_cases hlt : j < s.length
        · have f1 : (j : Int) < (s.length : Int) := by omega
          have hd : ∀ h, ({ data := s.toArray } : ByteArray)[j]'h = s[j] := fun h => by
            show s.toArray[j] = s[j]
            simp
          have hbad := numL_bad hlt hm
          have hok := numL_ok hlt hm
          by_cases hb : s[j].toNat < 48 ∨ 57 < s[j].toNat
          · have hb1 : ¬ (s[j].toNat : Int) < 48 → 57 < (s[j].toNat : Int) := fun h => by omega
            go_wp2
            all_goals first | exact ⟨rfl, b1, rfl⟩ | exact ⟨rfl, b1, by rw [hbad hb]; rfl⟩ | (exfalso; omega)
          · have hok := hok hb
            have g1 : ¬ (s[j].toNat : Int) < 48 := by omega
            have g2 : ¬ 57 < (s[j].toNat : Int) := by omega
            go_wp2
            refine ⟨⟨j + 1, m * 10 + (s[j].toNat - 48), by omega, congrArg (Value.int .i64) (by omega), congrArg (Value.int .i64) (by omega), hok, ?_, trivial⟩, ?_⟩
            · rw [Nat.pow_succ]
              omega
            · simp [intOf]
              omega
        · have hjs : j = s.length := by omega
          rw [hjs, List.take_length] at hm
          have f1 : ¬ ((j : Int) < (s.length : Int)) := by omega
          by_cases hbig : 1099511627776 < m
          · have f2 : (1099511627776 : Int) < (m : Int) := by omega
            go_wp2
            first | exact ⟨rfl, b1, rfl⟩ | exact ⟨rfl, b1, by rw [hm, Option.bind_some, if_pos hbig]; rfl⟩
          · have f2 : ¬ (1099511627776 : Int) < (m : Int) := by omega
            go_wp2
            go_ret
            refine ⟨b1, ?_⟩
            try rw [hm, Option.bind_some, if_neg hbig]
            exact ⟨rfl, hW⟩

end Go.Proofs
