/-
  QL: Pl8 Pl9.
-/
import Derived.Test.YtenmlgalcjkdbaaQK
import Derived.Test.YtenmlgalcjkdbaaQE
set_option linter.unusedVariables false
set_option linter.unusedSimpArgs false
namespace Go.Proofs.Ytenmlgalcjkdbaa.AM
open Go

variable {Γ : FuncId → Contract}


theorem ownT_okF {l : List Blk} (hl : okBl l) : okF [] (ownT l) := fun b hb => (ownI_ok hl (min 10 l.length) (by omega)).2 b hb
noncomputable def plfC : Contract := mkC (α := List Blk × List Blk × List Ct) (fun p => okBl p.1 ∧ okBl p.2.1 ∧ p.2.2.length ≤ 1048576) (fun p => [.c (.sl (brows p.1)), .c (.sl (brows p.2.1)), .c (.sl (crows p.2.2))]) (fun p => []) (fun p => ⟨[.pv (.c (.bool true))], []⟩)
theorem plf_at (l : List Blk) (g : List Blk) (hs : List Ct) (g0 : okBl l) (g1 : okBl g) (g2 : hs.length ≤ 1048576) : plfC [.c (.sl (brows l)), .c (.sl (brows g)), .c (.sl (crows hs))] [] = some ⟨[.pv (.c (.bool true))], []⟩ := by
  exact mkC_at (α := List Blk × List Blk × List Ct) (l, g, hs) ⟨g0, g1, g2⟩ (by
    rintro ⟨l', g', hs'⟩ _ h ho
    have hh := And.intro h ho
    clear h ho
    simp only [List.cons.injEq, AV.c.injEq, AV.agg.injEq, PC.int.injEq, PC.str.injEq, PC.bool.injEq, PC.sl.injEq, OV.c.injEq, OV.own.injEq, OV.mp.injEq, bytes_iff, texts_iff, true_and, and_true, and_self, beq_self_eq_true, brows_iff, crows_iff] at hh
    simp only [hh])

set_option maxRecDepth 100000 in
set_option maxHeartbeats 4000000 in
theorem plf_sound (hΓ : SoundG Try.prog Γ) (h1 : Γ 34 = alive43C) (h2 : Γ 35 = laid43C) (h3 : Γ 40 = pflC) (h4 : Γ 23 = lenTC) (h5 : Γ 25 = bkNC) (h6 : Γ 36 = has43C) (h7 : Γ 12 = bkCkC) (h8 : Γ 37 = pmkC) : SoundC Try.prog 9 plfC := by
  refine sound_fn Try.func9 (by kernel_rfl) rfl rfl ?_
  intro args objs r0 hr
  obtain ⟨⟨l, g, hs⟩, ⟨hl, hg, hh⟩, rfl, rfl, rfl⟩ := mkC_inv hr
  refine ⟨rfl, by show 3 ≤ _; decide, fun E hN hns hF => ?_⟩
  refine vc_sound hΓ mixed _ _ _ ?_
  have hN := hN.trans nt_9
  have hl : okBl l := hl
  have hg : okBl g := hg
  have hh : hs.length ≤ 1048576 := hh
  have hgl := hg.1
  dsimp only
  have q0 : alive43C [] [] = some ⟨[.pv (.c (.bool true))], []⟩ := rfl
  have q1 := laid43_at l hl
  obtain ⟨ht, hR, ho10⟩ := ownT_ok hl
  have hof := ownT_okF hl
  generalize ownT l = o at q1 ht hR ho10 hof
  have hbc := crows_length hs
  have hbg := brows_length g
  have hbo := brows_length o
  have nt1 : (!true) = false := rfl
  have ntf : (!false) = true := rfl
  by_cases c1 : hs.length ≤ 20
  case neg =>
    have g1 : decide ((hs.length : Int) > 20) = true := decide_eq_true (by omega)
    simp only [runA, runB, runC, runD, runE, runF, fieldE, storeE, binE, ↓reduceIte, Nat.reduceLT, Nat.reduceLeDiff, Nat.reduceEqDiff, Nat.reduceAdd, Nat.reduceMul, Nat.reduceSub, reduceCtorEq, putAt, unE, Nat.reduceBEq, convE, buildE, List.replicate, Int.reduceLT, Int.reduceLE, Int.reduceToNat, mkE, mapSetE, hN, hF, ty_3, ty_4, ty_9, ty_24, ty_25, ty_27, ty_32, ty_33, ty_62, ty_65, ty_68, notIf, isEq, h1, q0, nt1, hbc, g1]
    simp only [runB, finC, finD, Option.isSome_some, Option.isSome_none, ↓reduceIte, Nat.reduceEqDiff, Nat.reduceAdd, Nat.reduceMul, forall_eq_or_imp, forall_eq, implies_true, Nat.reduceBEq, reduceCtorEq, false_implies, List.zip_cons_cons, List.zip_nil_left, List.zip_nil_right, Nat.reduceLeDiff, List.forall_mem_nil, rs_9, ty_3, ty_4, ty_9, ty_24, ty_25, ty_27, ty_32, ty_33, ty_62, ty_65, ty_68]
  have g1 : decide ((hs.length : Int) > 20) = false := decide_eq_false (by omega)
  by_cases c2 : g.length ≤ 20
  case neg =>
    have g2 : decide ((g.length : Int) > 20) = true := decide_eq_true (by omega)
    simp only [runA, runB, runC, runD, runE, runF, fieldE, storeE, binE, ↓reduceIte, Nat.reduceLT, Nat.reduceLeDiff, Nat.reduceEqDiff, Nat.reduceAdd, Nat.reduceMul, Nat.reduceSub, reduceCtorEq, putAt, unE, Nat.reduceBEq, convE, buildE, List.replicate, Int.reduceLT, Int.reduceLE, Int.reduceToNat, mkE, mapSetE, hN, hF, ty_3, ty_4, ty_9, ty_24, ty_25, ty_27, ty_32, ty_33, ty_62, ty_65, ty_68, notIf, isEq, h1, q0, nt1, hbc, hbg, g1, g2]
    simp only [runB, finC, finD, Option.isSome_some, Option.isSome_none, ↓reduceIte, Nat.reduceEqDiff, Nat.reduceAdd, Nat.reduceMul, forall_eq_or_imp, forall_eq, implies_true, Nat.reduceBEq, reduceCtorEq, false_implies, List.zip_cons_cons, List.zip_nil_left, List.zip_nil_right, Nat.reduceLeDiff, List.forall_mem_nil, rs_9, ty_3, ty_4, ty_9, ty_24, ty_25, ty_27, ty_32, ty_33, ty_62, ty_65, ty_68]
  have g2 : decide ((g.length : Int) > 20) = false := decide_eq_false (by omega)
  have q3 := pfl_at o hs g hof hR.2.1 hh hg
  have hlen := fillN_len (hs := hs) (l := g) (rem g o + 1) o
  have hrl := rem_le g o
  have hok := fillN_ok (hs := hs) hg (rem g o + 1) o hof
  have hnot : ∀ b ∈ g, okB b → hasS (askL (fillS hs g o) 64 hs) (nameS b) = false := fun b hb hk => fillN_not (Nat.lt_succ_self _) hb hk
  have eF : fillN hs g (rem g o + 1) o = fillS hs g o := rfl
  rw [eF] at hlen hok
  generalize fillS hs g o = F at q3 hlen hok hnot
  have q4 := lenT_at F
  have q8 := pmk_at F hs 64 (okF_tree hok (by omega)) hh
  have haL : (askL F 64 hs).length ≤ hs.length := askI_len F 64 hs hs.length (Nat.le_refl _)
  obtain ⟨a, ha⟩ : ∃ a, askL F 64 hs = a := ⟨_, rfl⟩
  rw [ha] at q8 hnot haL
  generalize texts (rdyL F hs) = rr at q8
  generalize hgtL F hs = hh2 at q8
  have n1 : decide (((F.length : Int) - (o.length : Int)) < 0) = false := decide_eq_false (by omega)
  have n2 : decide (((F.length : Int) - (o.length : Int)) > (g.length : Int)) = false := decide_eq_false (by omega)
  have n3 : IntKind.i64.wrap ((o.length : Int) + ((F.length : Int) - (o.length : Int))) = (F.length : Int) := by rw [wrapI (by omega)]; omega
  have n4 : ((F.length : Int) != (F.length : Int)) = false := by simp
  generalize esOf F = es at q3 q4 q8
  simp only [runA, runB, runC, runD, runE, runF, fieldE, storeE, binE, ↓reduceIte, Nat.reduceLT, Nat.reduceLeDiff, Nat.reduceEqDiff, Nat.reduceAdd, Nat.reduceMul, Nat.reduceSub, reduceCtorEq, putAt, unE, Nat.reduceBEq, convE, buildE, List.replicate, Int.reduceLT, Int.reduceLE, Int.reduceToNat, mkE, mapSetE, hN, hF, ty_3, ty_4, ty_9, ty_24, ty_25, ty_27, ty_32, ty_33, ty_62, ty_65, ty_68, notIf, isEq, h1, q0, nt1, hbc, hbg, hbo, g1, g2, h2, q1, h3, q3, h4, q4, n1, n2, n3, n4, h8, q8]
  refine AWP.loop (fun k st => ∃ i : Nat, i ≤ g.length ∧ k = g.length - i ∧ st = ⟨[(1, .c (.sl (brows g))), (10, .ptr 640 0), (11, .c (.int .i64 (i : Int)))], [(640, .obj [.c (.sl (texts a)), .c (.sl rr), .c (.int .i64 hh2)] false)]⟩) ⟨g.length, _, ?w, 0, Nat.zero_le _, rfl, rfl⟩ ?r
  case w =>
    rw [hns]
    simp only [runB, finC, finD, AS.get, AS.mem, false_implies, implies_true, ↓reduceIte, Nat.reduceEqDiff, Option.isSome_some, Option.isSome_none, forall_eq_or_imp, forall_eq, reduceCtorEq, Nat.reduceAdd, Nat.reduceMul, List.zip_cons_cons, List.zip_nil_left, List.zip_nil_right, List.forall_mem_nil]
    first | done | simp
  case r =>
    rintro k st ⟨i, hi, rfl, rfl⟩
    refine vc_sound hΓ mixed _ _ _ ?_
    by_cases hlt : i < g.length
    · have k1 : decide ((i : Int) < (g.length : Int)) = true := decide_eq_true (by omega)
      have e1 : IntKind.i64.wrap ((i : Int) + 1) = (i : Int) + 1 := wrapI (by omega)
      have hgg := browsD g i hlt
      have hsm := okBl_getD hg hlt
      have hn := hnot (g.getD i zeroBk) (by rw [List.getD, List.getElem?_eq_getElem hlt]; exact List.getElem_mem _)
      unfold Blk.pcs at hgg
      generalize g.getD i zeroBk = y at hgg hsm hn
      have q5 := bkN_p y (by omega)
      have q6 := has43_at a (nameS y) (by omega)
      have q7 := bkCk_p y (by omega)
      cases p1 : hasS a (nameS y) with
      | false =>
        rw [p1] at q6
        generalize nameS y = nm at q5 q6
        simp only [runA, runB, runC, runD, runE, runF, fieldE, storeE, binE, ↓reduceIte, Nat.reduceLT, Nat.reduceLeDiff, Nat.reduceEqDiff, Nat.reduceAdd, Nat.reduceMul, Nat.reduceSub, reduceCtorEq, putAt, unE, Nat.reduceBEq, convE, buildE, List.replicate, Int.reduceLT, Int.reduceLE, Int.reduceToNat, mkE, mapSetE, hN, hF, ty_3, ty_4, ty_9, ty_24, ty_25, ty_27, ty_32, ty_33, ty_62, ty_65, ty_68, notIf, isEq, k1, e1, hgg, hbg, h5, q5, h6, q6, h7, q7, nt1]
        refine drawnP_intro (by kernel_rfl) (by kernel_rfl) ?_
        simp only [runA, runB, runC, runD, runE, runF, fieldE, storeE, binE, ↓reduceIte, Nat.reduceLT, Nat.reduceLeDiff, Nat.reduceEqDiff, Nat.reduceAdd, Nat.reduceMul, Nat.reduceSub, reduceCtorEq, putAt, unE, Nat.reduceBEq, convE, buildE, List.replicate, Int.reduceLT, Int.reduceLE, Int.reduceToNat, mkE, mapSetE, hN, hF, ty_3, ty_4, ty_9, ty_24, ty_25, ty_27, ty_32, ty_33, ty_62, ty_65, ty_68, notIf, isEq, k1, e1, hgg, hbg, h5, q5, h6, q6, h7, q7, nt1]
        refine ⟨g.length - (i + 1), _, by omega, ?_, i + 1, by omega, rfl, rfl⟩
        rw [hns]
        simp only [runB, finC, finD, AS.get, AS.mem, false_implies, implies_true, ↓reduceIte, Nat.reduceEqDiff, Option.isSome_some, Option.isSome_none, forall_eq_or_imp, forall_eq, reduceCtorEq, Nat.reduceAdd, Nat.reduceMul, List.zip_cons_cons, List.zip_nil_left, List.zip_nil_right, List.forall_mem_nil]
        first | done | simp
      | true =>
        rw [p1] at q6
        have hk : ¬ okB y := fun hk => by rw [hn hk] at p1; cases p1
        rw [show bkS y = 9 from if_neg hk] at q7
        have n9 : ((9 : Int) == 0) = false := rfl
        generalize nameS y = nm at q5 q6
        simp only [runA, runB, runC, runD, runE, runF, fieldE, storeE, binE, ↓reduceIte, Nat.reduceLT, Nat.reduceLeDiff, Nat.reduceEqDiff, Nat.reduceAdd, Nat.reduceMul, Nat.reduceSub, reduceCtorEq, putAt, unE, Nat.reduceBEq, convE, buildE, List.replicate, Int.reduceLT, Int.reduceLE, Int.reduceToNat, mkE, mapSetE, hN, hF, ty_3, ty_4, ty_9, ty_24, ty_25, ty_27, ty_32, ty_33, ty_62, ty_65, ty_68, notIf, isEq, k1, e1, hgg, hbg, h5, q5, h6, q6, h7, q7, nt1, n9]
        refine drawnP_intro (by kernel_rfl) (by kernel_rfl) ?_
        simp only [runA, runB, runC, runD, runE, runF, fieldE, storeE, binE, ↓reduceIte, Nat.reduceLT, Nat.reduceLeDiff, Nat.reduceEqDiff, Nat.reduceAdd, Nat.reduceMul, Nat.reduceSub, reduceCtorEq, putAt, unE, Nat.reduceBEq, convE, buildE, List.replicate, Int.reduceLT, Int.reduceLE, Int.reduceToNat, mkE, mapSetE, hN, hF, ty_3, ty_4, ty_9, ty_24, ty_25, ty_27, ty_32, ty_33, ty_62, ty_65, ty_68, notIf, isEq, k1, e1, hgg, hbg, h5, q5, h6, q6, h7, q7, nt1, n9]
        refine ⟨g.length - (i + 1), _, by omega, ?_, i + 1, by omega, rfl, rfl⟩
        rw [hns]
        simp only [runB, finC, finD, AS.get, AS.mem, false_implies, implies_true, ↓reduceIte, Nat.reduceEqDiff, Option.isSome_some, Option.isSome_none, forall_eq_or_imp, forall_eq, reduceCtorEq, Nat.reduceAdd, Nat.reduceMul, List.zip_cons_cons, List.zip_nil_left, List.zip_nil_right, List.forall_mem_nil]
        first | done | simp
    · have k1 : decide ((i : Int) < (g.length : Int)) = false := decide_eq_false (by omega)
      simp only [runA, runB, runC, runD, runE, runF, fieldE, storeE, binE, ↓reduceIte, Nat.reduceLT, Nat.reduceLeDiff, Nat.reduceEqDiff, Nat.reduceAdd, Nat.reduceMul, Nat.reduceSub, reduceCtorEq, putAt, unE, Nat.reduceBEq, convE, buildE, List.replicate, Int.reduceLT, Int.reduceLE, Int.reduceToNat, mkE, mapSetE, hN, hF, ty_3, ty_4, ty_9, ty_24, ty_25, ty_27, ty_32, ty_33, ty_62, ty_65, ty_68, notIf, isEq, hbg, k1]
      simp only [runB, finC, finD, Option.isSome_some, Option.isSome_none, ↓reduceIte, Nat.reduceEqDiff, Nat.reduceAdd, Nat.reduceMul, forall_eq_or_imp, forall_eq, implies_true, Nat.reduceBEq, reduceCtorEq, false_implies, List.zip_cons_cons, List.zip_nil_left, List.zip_nil_right, Nat.reduceLeDiff, List.forall_mem_nil, rs_9, ty_3, ty_4, ty_9, ty_24, ty_25, ty_27, ty_32, ty_33, ty_62, ty_65, ty_68]

end Go.Proofs.Ytenmlgalcjkdbaa.AM
set_option linter.unusedVariables false
set_option linter.unusedSimpArgs false
namespace Go.Proofs.Ytenmlgalcjkdbaa.AM
open Go

variable {Γ : FuncId → Contract}

noncomputable def J1 : FuncId → Contract := (ext (ext (ext (ext (ext (ext (ext (ext F8 21 chnC) 32 misC) 28 rchC) 33 rmisC) 91 sixC) 36 has43C) 38 ptextsC) 35 laid43C)
theorem J1_sound : SoundG Try.prog J1 := (ext_sound (ext_sound (ext_sound (ext_sound (ext_sound (ext_sound (ext_sound (ext_sound F8_sound (chn_sound F8_sound rfl rfl)) (mis_sound F8_sound rfl rfl rfl)) (rch_sound F8_sound rfl rfl)) (rmis_sound F8_sound rfl rfl)) six_sound) has43_sound) (ptexts_sound F8_sound)) (laid43_sound F8_sound rfl rfl))
noncomputable def J2 : FuncId → Contract := (ext J1 64 sctC)
theorem J2_sound : SoundG Try.prog J2 := (ext_sound J1_sound (sct_sound J1_sound rfl))
noncomputable def J3 : FuncId → Contract := (ext (ext J2 62 paskC) 63 prdyC)
theorem J3_sound : SoundG Try.prog J3 := (ext_sound (ext_sound J2_sound (pask_sound J2_sound rfl)) (prdy_sound J2_sound rfl))
noncomputable def J4 : FuncId → Contract := (ext J3 37 pmkC)
theorem J4_sound : SoundG Try.prog J4 := (ext_sound J3_sound (pmk_sound J3_sound rfl rfl rfl rfl))
noncomputable def J5 : FuncId → Contract := (ext (ext J4 39 pdnC) 40 pflC)
theorem J5_sound : SoundG Try.prog J5 := (ext_sound (ext_sound J4_sound (pdn_sound J4_sound rfl)) (pfl_sound J4_sound rfl rfl rfl rfl))
noncomputable def J6 : FuncId → Contract := (ext J5 34 alive43C)
theorem J6_sound : SoundG Try.prog J6 := (ext_sound J5_sound (alive43_sound J5_sound rfl rfl rfl))
set_option maxRecDepth 100000 in
theorem cts_ofN {N : Nat} {x : AV} (h : AVTn Try.prog N 62 x) : ∃ l : List Ct, x = .c (.sl (crows l)) ∧ l.length ≤ N := by
  obtain ⟨n, cs, hp, hx⟩ := h
  have u3 : Try.prog.underlying 62 = some (.slice 24) := by kernel_rfl
  rw [u3] at hx
  obtain ⟨c, rfl, rfl⟩ := hx
  cases n with
  | zero => exact hp.elim
  | succ n =>
    simp only [PTn, u3] at hp
    obtain ⟨rows, hv, hl, hr⟩ := hp
    cases hv
    have key : ∀ rows : List (List PC), (∀ r ∈ rows, PTn Try.prog N n 24 r) → ∃ l : List Ct, rows = crows l := by
      intro rows
      induction rows with
      | nil => intro _; exact ⟨[], rfl⟩
      | cons r rows ih =>
        intro h
        obtain ⟨l, hl1⟩ := ih fun r hr => h r (by simp [hr])
        obtain ⟨b, rfl, _⟩ := ct_cells (h r (by simp))
        exact ⟨b :: l, by rw [hl1]; rfl⟩
    obtain ⟨l, rfl⟩ := key rows hr
    exact ⟨l, rfl, by rw [crows_length] at hl; exact hl⟩

set_option maxRecDepth 100000 in
theorem plannerTells_lifted (os : Os) (started : os.Started) (H : Type) (enc : TypeId × Value → H) (F : Stop.Interp) :
    ReturnsInHanded {} Try.checked os 8 .any ((Rows.OpenSpec.upto Rows.plannerTellsSpec).pre6 enc Try.prog Try.f8 Rows.plannerTellsUptoRow.domain false) (((Rows.OpenSpec.upto Rows.plannerTellsSpec).at F).post enc Try.prog Try.f8 false true false false) := by
  refine returnsInHanded_of_cond (C := Try.checked) (k := Rows.uptoSmall) rfl ownK started (by kernel_rfl) Try.func8
    (OpenSpec.witness (enc := enc) (C := Try.checked) (k := Rows.uptoSmall) rfl false ⟨#[], #[.slice none 0 0, .slice none 0 0, .int .i64 0], []⟩ 8 (by kernel_rfl) (by kernel_rfl) (by kernel_rfl) (x := ([.nil, .nil, .lit (.int .i64 0)], [], [])) (by kernel_rfl) (by kernel_rfl) (by kernel_rfl)) ?_
  intro W base args ds gs before hval hW hcnd hkk _
  refine law_doneN (N := 1048576) laid (plt_sound J6_sound rfl rfl rfl rfl rfl rfl rfl rfl) rfl (ts := [32, 62, 3]) (by kernel_rfl) (tb := 4) (by kernel_rfl) (by kernel_rfl) ?_ ?_ ?_ ?_ hval hW (.inr (bulk_le hkk))
  · intro t ht; simp only [List.mem_cons, List.not_mem_nil, or_false] at ht; rcases ht with rfl | rfl | rfl <;> kernel_rfl
  · intro t ht; simp only [List.mem_cons, List.not_mem_nil, or_false] at ht; rcases ht with rfl | rfl | rfl <;> exact ⟨by kernel_rfl, of_decide_eq_true (by kernel_rfl)⟩
  · intro ds hd
    match ds, hd with
    | [a, b, c], _ => rfl
  · intro xs hxs
    match xs, hxs with
    | [x, y, z], h =>
      obtain ⟨h1, h2, h3, _⟩ := h
      obtain ⟨l, rfl, l1, l2⟩ := bks_ofN h1
      obtain ⟨c, rfl, c1⟩ := cts_ofN h2
      obtain ⟨m, rfl, _⟩ := int_ofN h3
      exact mkC_at (α := List Blk × List Ct × Int) (l, c, m) ⟨⟨l1, l2⟩, c1⟩ (fun _ _ _ _ => rfl)
    | [], h => exact h.elim
    | [_], h => exact h.2.elim
    | [_, _], h => exact h.2.2.elim
    | _ :: _ :: _ :: _ :: _, h => exact h.2.2.2.elim


set_option maxRecDepth 100000 in
theorem plannerFills_lifted (os : Os) (started : os.Started) (H : Type) (enc : TypeId × Value → H) (F : Stop.Interp) :
    ReturnsInHanded {} Try.checked os 9 .any ((Rows.OpenSpec.upto Rows.plannerFillsSpec).pre6 enc Try.prog Try.f9 Rows.plannerFillsUptoRow.domain false) (((Rows.OpenSpec.upto Rows.plannerFillsSpec).at F).post enc Try.prog Try.f9 false true false false) := by
  refine returnsInHanded_of_cond (C := Try.checked) (k := Rows.uptoSmall) rfl ownK started (by kernel_rfl) Try.func9
    (OpenSpec.witness (enc := enc) (C := Try.checked) (k := Rows.uptoSmall) rfl false ⟨#[], #[.slice none 0 0, .slice none 0 0, .slice none 0 0], []⟩ 8 (by kernel_rfl) (by kernel_rfl) (by kernel_rfl) (x := ([.nil, .nil, .nil], [], [])) (by kernel_rfl) (by kernel_rfl) (by kernel_rfl)) ?_
  intro W base args ds gs before hval hW hcnd hkk _
  refine law_doneN (N := 1048576) laid (plf_sound J6_sound rfl rfl rfl rfl rfl rfl rfl rfl) rfl (ts := [32, 32, 62]) (by kernel_rfl) (tb := 4) (by kernel_rfl) (by kernel_rfl) ?_ ?_ ?_ ?_ hval hW (.inr (bulk_le hkk))
  · intro t ht; simp only [List.mem_cons, List.not_mem_nil, or_false] at ht; rcases ht with rfl | rfl | rfl <;> kernel_rfl
  · intro t ht; simp only [List.mem_cons, List.not_mem_nil, or_false] at ht; rcases ht with rfl | rfl | rfl <;> exact ⟨by kernel_rfl, of_decide_eq_true (by kernel_rfl)⟩
  · intro ds hd
    match ds, hd with
    | [a, b, c], _ => rfl
  · intro xs hxs
    match xs, hxs with
    | [x, y, z], h =>
      obtain ⟨h1, h2, h3, _⟩ := h
      obtain ⟨l, rfl, l1, l2⟩ := bks_ofN h1
      obtain ⟨g, rfl, g1, g2⟩ := bks_ofN h2
      obtain ⟨c, rfl, c1⟩ := cts_ofN h3
      exact mkC_at (α := List Blk × List Blk × List Ct) (l, g, c) ⟨⟨l1, l2⟩, ⟨g1, g2⟩, c1⟩ (fun _ _ _ _ => rfl)
    | [], h => exact h.elim
    | [_], h => exact h.2.elim
    | [_, _], h => exact h.2.2.elim
    | _ :: _ :: _ :: _ :: _, h => exact h.2.2.2.elim


end Go.Proofs.Ytenmlgalcjkdbaa.AM

namespace Go.Proofs.Ytenmlgalcjkdbaa
open Go

theorem plannerTells_over : Rows.plannerTellsUptoRow.holds Try.pinned (Rows.OpenSpec.upto Rows.plannerTellsSpec) :=
  OpenClaim.holds_of_cond 8 Try.f8 rfl rfl rfl rfl rfl rfl rfl ⟨rfl, rfl, rfl, rfl, rfl⟩ rfl rfl rfl rfl rfl (by kernel_rfl) Try.func8 (by kernel_rfl)
    (of_decide_eq_true (by kernel_rfl)) (by unfold Func.isWrapper; first | (rw [if_pos (by decide +kernel)]; kernel_rfl) | (rw [if_neg (by decide +kernel)]; exact ⟨rfl, rfl⟩))
    (fun os started H enc _ F => by rw [OpenClaim.pre_of_none' rfl]; exact AM.plannerTells_lifted os started H enc F)
theorem plannerFills_over : Rows.plannerFillsUptoRow.holds Try.pinned (Rows.OpenSpec.upto Rows.plannerFillsSpec) :=
  OpenClaim.holds_of_cond 9 Try.f9 rfl rfl rfl rfl rfl rfl rfl ⟨rfl, rfl, rfl, rfl, rfl⟩ rfl rfl rfl rfl rfl (by kernel_rfl) Try.func9 (by kernel_rfl)
    (of_decide_eq_true (by kernel_rfl)) (by unfold Func.isWrapper; first | (rw [if_pos (by decide +kernel)]; kernel_rfl) | (rw [if_neg (by decide +kernel)]; exact ⟨rfl, rfl⟩))
    (fun os started H enc _ F => by rw [OpenClaim.pre_of_none' rfl]; exact AM.plannerFills_lifted os started H enc F)

/-- The rows. -/
theorem plannerTells_holds : Rows.PlannerTellsUptoSaid := plannerTells_over
#print axioms plannerTells_holds
theorem plannerFills_holds : Rows.PlannerFillsUptoSaid := plannerFills_over
#print axioms plannerFills_holds
end Go.Proofs.Ytenmlgalcjkdbaa
