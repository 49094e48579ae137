/-
  QD: Fo5.
-/
import Derived.Test.YtcfijanfcgnnhaaQC
set_option linter.unusedVariables false
set_option linter.unusedSimpArgs false
namespace Go.Proofs.Ytcfijanfcgnnhaa.AM
open Go Go.RowKit Go.Proofs

variable {Γ : FuncId → Contract}

def zn (l : List Int) : List (List PC) := l.map fun n => [PC.int .i64 n]
theorem zn_length (l : List Int) : (zn l).length = l.length := by simp [zn]
theorem znD (l : List Int) (i : Nat) (h : i < l.length) : (zn l)[i]? = some [.int .i64 (l.getD i 0)] := by simp [zn, List.getD, h]
def forkAV (a b : Ct) : AV := .agg [.c (.int .i64 a.vw), .c (.int .i64 a.ht), .c (.str a.bl), .c (.sl (votes a.vs)), .c (.int .i64 b.vw), .c (.int .i64 b.ht), .c (.str b.bl), .c (.sl (votes b.vs))]
theorem forkAV_inj {a b c d : Ct} (h : forkAV a b = forkAV c d) : a = c ∧ b = d := by
  obtain ⟨a1, a2, a3, a4⟩ := a
  obtain ⟨b1, b2, b3, b4⟩ := b
  obtain ⟨c1, c2, c3, c4⟩ := c
  obtain ⟨d1, d2, d3, d4⟩ := d
  unfold forkAV at h
  simp only [AV.agg.injEq, List.cons.injEq, AV.c.injEq, PC.int.injEq, PC.str.injEq, PC.sl.injEq, votes_iff, true_and, and_true] at h
  obtain ⟨rfl, rfl, rfl, rfl, rfl, rfl, rfl, rfl⟩ := h
  exact ⟨rfl, rfl⟩
noncomputable def suspC : Contract := mkC (α := Ct × Ct) (fun p => p.1.vs.length ≤ 1099511627776 ∧ p.2.vs.length ≤ 9223372036854775807) (fun p => [forkAV p.1 p.2]) (fun _ => []) (fun p => ⟨[.pv (.c (.sl (zn (suspL p.1.vs p.2.vs))))], []⟩)
theorem susp_at (a b : Ct) (ha : a.vs.length ≤ 1099511627776) (hb : b.vs.length ≤ 9223372036854775807) : suspC [forkAV a b] [] = some ⟨[.pv (.c (.sl (zn (suspL a.vs b.vs))))], []⟩ :=
  mkC_at (α := Ct × Ct) (a, b) ⟨ha, hb⟩ (by
    rintro ⟨c, d⟩ _ h _
    have h' : [forkAV c d] = [forkAV a b] := h
    simp only [List.cons.injEq, and_true] at h'
    obtain ⟨rfl, rfl⟩ := forkAV_inj h'
    rfl)
theorem susp_sound : SoundC Try.prog 39 suspC := by
  refine ⟨⟨_, Try.func39, rfl, rfl⟩, fun args objs r hr => ?_⟩
  obtain ⟨⟨a, b⟩, ⟨ha, hb⟩, rfl, rfl, rfl⟩ := mkC_inv hr
  refine ⟨fun x hx => resB_spec (l := [.pv (.c (.sl (zn (suspL a.vs b.vs))))]) rfl x hx, fun Ext G w vals M hl hx => ?_⟩
  match vals, hl with
  | [v1], _ =>
  have h1 : AR G (forkAV a b) v1 := hx 0 _ v1 rfl rfl
  unfold forkAV at h1
  cases h1 with
  | agg _ us hu hg =>
  have h8 : us.size = 8 := hu.symm
  have k0 := hg 0 _ us[0] rfl (by simp)
  have k1 := hg 1 _ us[1] rfl (by simp)
  have k2 := hg 2 _ us[2] rfl (by simp)
  have k3 := hg 3 _ us[3] rfl (by simp)
  have k4 := hg 4 _ us[4] rfl (by simp)
  have k5 := hg 5 _ us[5] rfl (by simp)
  have k6 := hg 6 _ us[6] rfl (by simp)
  have k7 := hg 7 _ us[7] rfl (by simp)
  have hva : VR G.K (.sl (votes a.vs)) us[3] := by
    generalize us[3] = x at k3
    cases k3 with | c _ _ h => exact h
  have hvb : VR G.K (.sl (votes b.vs)) us[7] := by
    generalize us[7] = x at k7
    cases k7 with | c _ _ h => exact h
  have he : us = #[.int .i64 a.vw, .int .i64 a.ht, .string ⟨a.bl.toArray⟩, us[3], .int .i64 b.vw, .int .i64 b.ht, .string ⟨b.bl.toArray⟩, us[7]] := by
    apply Array.ext
    · exact h8
    · intro i h1 h3
      match i with
      | 0 => show us[0] = _; generalize us[0] = x at k0; cases k0 with | c _ _ h => cases h; rfl
      | 1 => show us[1] = _; generalize us[1] = x at k1; cases k1 with | c _ _ h => cases h; rfl
      | 2 => show us[2] = _; generalize us[2] = x at k2; cases k2 with | c _ _ h => cases h; rfl
      | 3 => rfl
      | 4 => show us[4] = _; generalize us[4] = x at k4; cases k4 with | c _ _ h => cases h; rfl
      | 5 => show us[5] = _; generalize us[5] = x at k5; cases k5 with | c _ _ h => cases h; rfl
      | 6 => show us[6] = _; generalize us[6] = x at k6; cases k6 with | c _ _ h => cases h; rfl
      | 7 => rfl
      | i + 8 => rw [h8] at h1; omega
  have hw := Try.susp_walk M a b ha hb us[3] us[7] hva hvb
  rw [← he] at hw
  refine Calls.mono hw ?_
  rintro e W' ⟨v, rfl, bel, hI⟩
  have M2 := M.below0 (res := [.pv (.c (.sl (zn (suspL a.vs b.vs))))]) bel rfl
  have hG : ∀ i, G.h i = none := fun i => (M.home i).none_of
  generalize suspL a.vs b.vs = S at *
  rcases hI with ⟨rfl, rfl⟩ | ⟨g, cap, cur, rfl, hBg, hblk, hcap, htake⟩
  · exact ⟨G, _, rfl, Gh.le_refl _, M2, .c _ _ .nil⟩
  · have hnew : ∀ o, G.K g o = none := fun o => M.k_new hBg o
    have hcellg : ∀ o, o < S.length → cur[o]? = some (.int .i64 (S.getD o 0)) := by
      intro o ho
      have h5 : (cur.toList.take S.length)[o]? = (S.map (Value.int .i64))[o]? := by rw [htake]
      rw [List.getElem?_take_of_lt ho, Array.getElem?_toList, List.getElem?_map, List.getElem?_eq_getElem ho] at h5
      rw [h5, List.getD_eq_getElem?_getD, List.getElem?_eq_getElem ho]; rfl
    let G' : Gh := ⟨fun b o => if b = g ∧ o < S.length then cur[o]? else G.K b o, G.h⟩
    have hKle : G.K.le G'.K := by
      intro b o v h
      show (if b = g ∧ o < S.length then cur[o]? else G.K b o) = some v
      rw [if_neg]
      · exact h
      · rintro ⟨rfl, _⟩
        rw [hnew] at h
        cases h
    have hle : G.le G' := ⟨hKle, fun n h e => ⟨h, e, Home.le_refl h⟩⟩
    refine ⟨G', _, rfl, hle, ⟨fun b o v h => ?_, fun n => ?_, fun n n' h h' b e => ?_, M2.os, M2.tape, M2.output, M2.size0, M2.sizeB, M2.blk, ?_, fun b o hb hne => ?_⟩, ?_⟩
    · have h : (if b = g ∧ o < S.length then cur[o]? else G.K b o) = some v := h
      split at h
      · rename_i hbo
        rw [hbo.1]
        simp only [World.cell?, hblk]
        simpa using h
      · exact M2.agree b o v h
    · have := M2.home n
      show HomeOK _ G' W' _ (G.h n)
      rw [hG n] at this ⊢
      generalize look (exitMem ⟨[.pv (.c (.sl (zn S)))], []⟩) n = mc at this ⊢
      match mc, this with
      | none, _ => trivial
      | some (.obj _ _), h => exact h.elim
      | some (.row _ _), h => exact h.elim
      | some (.mp _ _), h => exact h.elim
    · exact absurd ((hG n).symm.trans e) (by simp)
    · intro b o v h
      exact hle.K b o v h
    · show (if b = g ∧ o < S.length then cur[o]? else G.K b o) = G.K b o
      rw [if_neg]
      rintro ⟨rfl, _⟩
      have hb : b < w.heap.size := hb
      omega
    · have hsl : Slice G'.K 1 g 0 (zn S) := by
        refine ⟨fun r hr => ?_, fun j r hj i c hi => ?_⟩
        · unfold zn at hr
          obtain ⟨x, _, rfl⟩ := List.mem_map.1 hr
          rfl
        · have hjl : j < S.length := by
            have := (List.getElem?_eq_some_iff.1 hj).1
            rw [zn_length] at this; exact this
          rw [znD S j hjl] at hj
          cases hj
          match i, hi with
          | 0, hi =>
            cases hi
            refine ⟨.int .i64 (S.getD j 0), ?_, .int _ _⟩
            show (if g = g ∧ 0 + j * 1 + 0 < S.length then cur[0 + j * 1 + 0]? else _) = _
            rw [if_pos ⟨rfl, by omega⟩, show 0 + j * 1 + 0 = j by omega]
            exact hcellg j hjl
      have := VR.of_slice hsl (cap := cap) (by rw [zn_length]; exact hcap)
      rw [zn_length] at this
      exact .c _ _ this

end Go.Proofs.Ytcfijanfcgnnhaa.AM
