/-
  QB: Fo3.
-/
import Derived.Test.YtcfijanfcgnnhaaQ9
import Derived.Test.YtcfijanfcgnnhaaQ4
set_option linter.unusedVariables false
set_option linter.unusedSimpArgs false
namespace Go.Proofs.Ytcfijanfcgnnhaa.AM
open Go Go.RowKit

variable {Γ : FuncId → Contract}

theorem MRel.below0 {w w' : World} {Ext : Nat → Prop} {G : Gh} {res : List RV} (M : MRel (cEnv w Ext G.K) G (look (entryMem 0 [])) w) (b : Below w.heap.size w w') (he : exitMem ⟨res, []⟩ = []) : MRel (cEnv w Ext G.K) G (look (exitMem ⟨res, []⟩)) w' := by
  have hG : ∀ i, G.h i = none := fun i => (M.home i).none_of
  refine ⟨fun k o v h => ?_, fun n => ?_, fun n n' h h' k e => ?_, b.os.trans M.os, b.tape.trans M.tape, b.output.trans M.output, Nat.le_trans M.size0 b.size, Nat.le_trans M.sizeB b.size, fun k hk hE => b.block k hk, M.k0, M.kfr⟩
  · rw [cell_same (b.block k (M.k_lt h))]
    exact M.agree k o v h
  · rw [he, hG n]
    trivial
  · rw [hG n] at e
    cases e
noncomputable def FT1 : FuncId → Contract := (ext none0 88 frIC)
theorem FT1_sound : SoundG Try.prog FT1 := (ext_sound none0_sound frI_sound)
noncomputable def FT2 : FuncId → Contract := (ext FT1 87 frXC)
theorem FT2_sound : SoundG Try.prog FT2 := (ext_sound FT1_sound (frX_sound FT1_sound rfl))
theorem first_calls {Ext : Nat → Prop} {G : Gh} {w wr : World} (M : MRel (cEnv w Ext G.K) G (look (entryMem 0 [])) w) (bel : Below w.heap.size w wr) (c : Ct) (n : Int) (hl : c.vs.length ≤ 9223372036854775807) (v0 : Value) (hv : VR G.K (.sl (votes c.vs)) v0) :
    Calls Try.prog 69 #[.agg #[.int .i64 c.vw, .int .i64 c.ht, .string ⟨c.bl.toArray⟩, v0], .int .i64 n] wr fun e w' => e = .returned (.tuple #[.agg #[.int .i64 (fstV c.vs n).kd, .int .i64 (fstV c.vs n).vw, .int .i64 (fstV c.vs n).ht, .string ⟨(fstV c.vs n).bl.toArray⟩, .int .i64 (fstV c.vs n).tk, .int .i64 (fstV c.vs n).sg, .string ⟨(fstV c.vs n).sig.toArray⟩], .bool (!decide (idxP (isS n) c.vs < 0))]) ∧ Below wr.heap.size wr w' := by
  have M2 := M.below0 (res := []) bel rfl
  have M0 : MRel (cEnv wr (fun _ => False) G.K) ⟨G.K, fun _ => none⟩ (look (entryMem 0 [])) wr :=
    ⟨M2.agree, fun n => trivial, fun n n' h h' b e => (by cases e), rfl, rfl, rfl, Nat.le_refl _, Nat.le_refl _, fun _ _ _ => rfl, Know.le_refl _, fun _ _ _ _ => rfl⟩
  have hS : SoundC Try.prog 69 firC := fir_sound FT2_sound rfl
  have hx : ∀ (i : Nat) (x : AV) (v : Value), [c.av, .c (.int .i64 n)][i]? = some x → [Value.agg #[.int .i64 c.vw, .int .i64 c.ht, .string ⟨c.bl.toArray⟩, v0], .int .i64 n][i]? = some v → AR ⟨G.K, fun _ => none⟩ x v := by
    intro i x v h1 h2
    match i with
    | 0 =>
      cases h1; cases h2
      refine .agg _ _ rfl fun j y u g1 g2 => ?_
      match j with
      | 0 => cases g1; cases g2; exact .c _ _ (.int _ _)
      | 1 => cases g1; cases g2; exact .c _ _ (.int _ _)
      | 2 => cases g1; cases g2; exact .c _ _ (.str _)
      | 3 => cases g1; cases g2; exact .c _ _ hv
      | j + 4 => cases g1
    | 1 => cases h1; cases h2; exact .c _ _ (.int _ _)
    | i + 2 => cases h1
  refine Calls.mono ((hS.2 [c.av, .c (.int .i64 n)] [] _ (fir_at c n hl)).2 (fun _ => False) ⟨G.K, fun _ => none⟩ wr [Value.agg #[.int .i64 c.vw, .int .i64 c.ht, .string ⟨c.bl.toArray⟩, v0], .int .i64 n] M0 rfl hx) ?_
  rintro e w' ⟨G', v, rfl, hle, M', hv'⟩
  cases hv' with
  | tup _ us hlen hr =>
    have h2 : us.size = 2 := hlen.symm
    have b1 := hr 1 _ us[1] rfl (by simp)
    have b0 := hr 0 _ us[0] rfl (by simp)
    have e1 : us[1] = .bool (!decide (idxP (isS n) c.vs < 0)) := by
      generalize us[1] = v1 at b1
      cases b1 with
      | c _ _ h => cases h; rfl
    have e0 : us[0] = .agg #[.int .i64 (fstV c.vs n).kd, .int .i64 (fstV c.vs n).vw, .int .i64 (fstV c.vs n).ht, .string ⟨(fstV c.vs n).bl.toArray⟩, .int .i64 (fstV c.vs n).tk, .int .i64 (fstV c.vs n).sg, .string ⟨(fstV c.vs n).sig.toArray⟩] := by
      generalize us[0] = v0 at b0
      generalize fstV c.vs n = f at b0 ⊢
      cases b0 with
      | agg _ u hu hg =>
        have h7 : u.size = 7 := hu.symm
        have k0 := hg 0 _ u[0] rfl (by simp)
        have k1 := hg 1 _ u[1] rfl (by simp)
        have k2 := hg 2 _ u[2] rfl (by simp)
        have k3 := hg 3 _ u[3] rfl (by simp)
        have k4 := hg 4 _ u[4] rfl (by simp)
        have k5 := hg 5 _ u[5] rfl (by simp)
        have k6 := hg 6 _ u[6] rfl (by simp)
        congr 1
        apply Array.ext
        · exact h7
        · intro i h1 h3
          match i with
          | 0 => show u[0] = _; generalize u[0] = x at k0; cases k0 with | c _ _ h => cases h; rfl
          | 1 => show u[1] = _; generalize u[1] = x at k1; cases k1 with | c _ _ h => cases h; rfl
          | 2 => show u[2] = _; generalize u[2] = x at k2; cases k2 with | c _ _ h => cases h; rfl
          | 3 => show u[3] = _; generalize u[3] = x at k3; cases k3 with | c _ _ h => cases h; rfl
          | 4 => show u[4] = _; generalize u[4] = x at k4; cases k4 with | c _ _ h => cases h; rfl
          | 5 => show u[5] = _; generalize u[5] = x at k5; cases k5 with | c _ _ h => cases h; rfl
          | 6 => show u[6] = _; generalize u[6] = x at k6; cases k6 with | c _ _ h => cases h; rfl
          | i + 7 => rw [h7] at h1; omega
    refine ⟨?_, ⟨M'.os, M'.tape, M'.output, M'.size0, fun k hk => M'.blk k hk (fun h => h)⟩⟩
    congr 2
    apply Array.ext
    · exact h2
    · intro i h1 h3
      match i with
      | 0 => exact e0
      | 1 => exact e1
      | i + 2 => rw [h2] at h1; omega

end Go.Proofs.Ytcfijanfcgnnhaa.AM
