/-
  QC: Fo4.
-/
import Derived.Test.YtcfijanfcgnnhaaQB
import Derived.Test.YtcfijanfcgnnhaaQA
import Derived.WalkKit
import Derived.BigCall
import Derived.Sort.OwnSortedInts
set_option linter.unusedVariables false
set_option linter.unusedSimpArgs false
namespace Go.Proofs
open Go.RowKit
open Go.Proofs.Ytcfijanfcgnnhaa.AM

def gath (l m : List Vt) : List Int := (l.filter fun v => !decide (idxP (isS v.sg) m < 0) && (v.kd == 1)).map (·.sg)
theorem gath_succ (l m : List Vt) (k : Nat) (h : k < l.length) : gath (l.take (k + 1)) m = gath (l.take k) m ++ (if (!decide (idxP (isS l[k].sg) m < 0) && (l[k].kd == 1)) = true then [l[k].sg] else []) := by
  unfold gath
  rw [List.take_add_one, List.getElem?_eq_getElem h]
  simp only [Option.toList_some, List.filter_append, List.map_append]
  congr 1
  by_cases hk : (!decide (idxP (isS l[k].sg) m < 0) && (l[k].kd == 1)) = true
  · rw [if_pos hk, List.filter_cons_of_pos (by simpa using hk)]; rfl
  · rw [if_neg hk, List.filter_cons_of_neg (by simpa using hk)]; rfl
theorem gath_len (l m : List Vt) (k : Nat) : (gath (l.take k) m).length ≤ k := by
  unfold gath
  rw [List.length_map]
  exact Nat.le_trans (List.length_filter_le _ _) (by simp; omega)
/-- A slice of votes: its cells. -/
theorem votes_cells {K : Know} {l : List Vt} {v : Value} (h : VR K (.sl (votes l)) v) : ∃ ao cap, v = .slice ao l.length cap ∧ (l ≠ [] → ∃ b o, ao = some ⟨b, o, none⟩ ∧ l.length ≤ cap ∧ ∀ (k : Nat) (hk : k < l.length),
    K b (o + k * 7) = some (.int .i64 l[k].kd) ∧ K b (o + k * 7 + 1) = some (.int .i64 l[k].vw) ∧ K b (o + k * 7 + 2) = some (.int .i64 l[k].ht) ∧ K b (o + k * 7 + 3) = some (.string ⟨l[k].bl.toArray⟩) ∧ K b (o + k * 7 + 4) = some (.int .i64 l[k].tk) ∧ K b (o + k * 7 + 5) = some (.int .i64 l[k].sg) ∧ K b (o + k * 7 + 6) = some (.string ⟨l[k].sig.toArray⟩)) := by
  generalize hX : votes l = rows at h
  cases h with
  | nil =>
    have : l = [] := by cases l with | nil => rfl | cons a l => cases hX
    subst this
    exact ⟨none, 0, rfl, fun h => absurd rfl h⟩
  | at0 a cap =>
    have : l = [] := by cases l with | nil => rfl | cons a l => cases hX
    subst this
    exact ⟨some a, cap, rfl, fun h => absurd rfl h⟩
  | sl _ z b off cap f hz hc hk hv =>
    subst hX
    rw [votes_length] at *
    refine ⟨some ⟨b, off, none⟩, cap, rfl, fun hne => ⟨b, off, rfl, hc, fun k hkl => ?_⟩⟩
    have hr : (votes l)[k]? = some (Vt.pcs l[k]) := by
      unfold votes; rw [List.getElem?_map, List.getElem?_eq_getElem hkl]; rfl
    have hz7 : z = 7 := (hz _ (List.mem_of_getElem? hr)).symm
    subst hz7
    have key : ∀ (i : Nat) (c : PC), (Vt.pcs l[k])[i]? = some c → ∃ u, K b (off + k * 7 + i) = some u ∧ VR K c u := fun i c hi => ⟨_, hk k _ i c hr hi, hv k _ i c hr hi⟩
    obtain ⟨u0, a0, b0⟩ := key 0 _ rfl
    obtain ⟨u1, a1, b1⟩ := key 1 _ rfl
    obtain ⟨u2, a2, b2⟩ := key 2 _ rfl
    obtain ⟨u3, a3, b3⟩ := key 3 _ rfl
    obtain ⟨u4, a4, b4⟩ := key 4 _ rfl
    obtain ⟨u5, a5, b5⟩ := key 5 _ rfl
    obtain ⟨u6, a6, b6⟩ := key 6 _ rfl
    cases b0; cases b1; cases b2; cases b3; cases b4; cases b5; cases b6
    exact ⟨a0, a1, a2, a3, a4, a5, a6⟩

theorem heap_new (w : World) (o : Obj) : (w.alloc o).heap[w.heap.size]? = some o := by
  show (w.heap.push o)[w.heap.size]? = some o
  exact Array.getElem?_push_size
theorem grown_of_below {w w' : World} (b : Below w.heap.size w w') (row : Option Nat) : w.grownBy w' row := ⟨b.os, b.tape, b.output, b.size, fun k hk _ => b.block k hk⟩
theorem heap_old (w : World) (o : Obj) (k : Nat) (h : k < w.heap.size) : (w.alloc o).heap[k]? = w.heap[k]? := by
  show (w.heap.push o)[k]? = _
  rw [Array.getElem?_push, if_neg (by omega)]
theorem own_below {w w' : World} {base : Nat} {e : TypeId} {size : Nat} {v : Value} {n : Nat} {xs : List Value} (h : w.ownsRow base e size v n xs) (b : Below w.heap.size w w') : w'.ownsRow base e size v n xs :=
  h.kept (grown_of_below b none) (by cases v.ownBlock <;> simp)
def suspL (l m : List Vt) : List Int := Lib.compact ((gath l m).mergeSort fun x y => decide (x ≤ y))
/-- A slice of whole numbers, laid from block B on. -/
def IntsAt (B : Nat) (S : List Int) (v : Value) (w : World) : Prop :=
  (S = [] ∧ v = .slice none 0 0) ∨ ∃ g cap cur, v = .slice (some ⟨g, 0, none⟩) S.length cap ∧ B ≤ g ∧ w.heap[g]? = some (.cells cur 3 (0, 0)) ∧ S.length ≤ cap ∧ cur.toList.take S.length = S.map (Value.int .i64)
theorem compact_len (l : List Int) : (Lib.compact l).length ≤ l.length := by
  unfold Lib.compact Lib.compactUpTo
  rw [List.length_map]
  exact Nat.le_trans (List.length_filter_le _ _) (by simp)
theorem Try.fo_info3 : (Try.prog.info? 3).map (fun i => (i.zero, i.size, i.bytes)) = some (some (.int .i64 0), 1, 8) := by kernel_rfl

set_option maxHeartbeats 8000000 in
set_option maxRecDepth 1000000 in
theorem Try.susp_walk {Ext : Nat → Prop} {G : Gh} {w : World} (M : MRel (cEnv w Ext G.K) G (Go.Proofs.Ytcfijanfcgnnhaa.AM.look (entryMem 0 [])) w) (a b : Ct) (ha : a.vs.length ≤ 1099511627776) (hb : b.vs.length ≤ 9223372036854775807) (va vb : Value) (hva : VR G.K (.sl (votes a.vs)) va) (hvb : VR G.K (.sl (votes b.vs)) vb) :
    Calls Try.prog 39 #[.agg #[.int .i64 a.vw, .int .i64 a.ht, .string ⟨a.bl.toArray⟩, va, .int .i64 b.vw, .int .i64 b.ht, .string ⟨b.bl.toArray⟩, vb]] w fun e w' => ∃ v, e = .returned v ∧ Below w.heap.size w w' ∧ IntsAt w.heap.size (suspL a.vs b.vs) v w' := by
  obtain ⟨i0, hi, hz0, hz1, hz2⟩ := info_parts Try.fo_info3
  obtain ⟨ao, acap, rfl, hcell⟩ := votes_cells hva
  go_enter Try.func39, Try.ntmps39
  go_wp2
  go_loopw [3, 12] (fun v i wr => ∃ k : Nat, k ≤ a.vs.length ∧ i = .int .i64 (k : Int) ∧ wr.ownsRow (w.heap.size + 1) 3 1 v (gath (a.vs.take k) b.vs).length ((gath (a.vs.take k) b.vs).map (Value.int .i64)) ∧
      wr.heap[w.heap.size]? = some (.cells #[.int .i64 a.vw, .int .i64 a.ht, .string ⟨a.bl.toArray⟩, .slice ao a.vs.length acap, .int .i64 b.vw, .int .i64 b.ht, .string ⟨b.bl.toArray⟩, vb] 83 (0, 0)) ∧ Below w.heap.size w wr ∧
      (gath (a.vs.take k) b.vs = [] → v = .slice none 0 0)) (fun _ i _ => a.vs.length - (intOf i).toNat)
  case atStart =>
    refine ⟨0, Nat.zero_le _, rfl, World.ownsRow_nil _ _ _ _, ?_, (Below.refl _ w).alloc (Nat.le_refl _) _, fun _ => rfl⟩
    exact heap_new _ _
  case round =>
    obtain ⟨k, hk, rfl, hown, hbox, hbw, hnil⟩ := hrel
    have hsz2 := hbw.size
    have hlt0 : w.heap.size < wr.heap.size := (Array.getElem?_eq_some_iff.1 hbox).1
    by_cases hp : k < a.vs.length
    · obtain ⟨g, o, rfl, hcap, hall⟩ := hcell (by intro e; rw [e] at hp; simp at hp)
      obtain ⟨y0, y1, y2, y3, y4, y5, y6⟩ := hall k hp
      have hgs := gath_succ a.vs b.vs k hp
      have hgl := gath_len a.vs b.vs k
      generalize a.vs[k] = y at *
      have hg : g < w.heap.size := M.k_lt y0
      have z0 : wr.cell? ⟨g, o + k * 7, none⟩ = some (.int .i64 y.kd) := (hbw.cell hg).trans (M.agree _ _ _ y0)
      have z1 : wr.cell? ⟨g, o + k * 7 + 1, none⟩ = some (.int .i64 y.vw) := (hbw.cell hg).trans (M.agree _ _ _ y1)
      have z2 : wr.cell? ⟨g, o + k * 7 + 2, none⟩ = some (.int .i64 y.ht) := (hbw.cell hg).trans (M.agree _ _ _ y2)
      have z3 : wr.cell? ⟨g, o + k * 7 + 3, none⟩ = some (.string ⟨y.bl.toArray⟩) := (hbw.cell hg).trans (M.agree _ _ _ y3)
      have z4 : wr.cell? ⟨g, o + k * 7 + 4, none⟩ = some (.int .i64 y.tk) := (hbw.cell hg).trans (M.agree _ _ _ y4)
      have z5 : wr.cell? ⟨g, o + k * 7 + 5, none⟩ = some (.int .i64 y.sg) := (hbw.cell hg).trans (M.agree _ _ _ y5)
      have z6 : wr.cell? ⟨g, o + k * 7 + 6, none⟩ = some (.string ⟨y.sig.toArray⟩) := (hbw.cell hg).trans (M.agree _ _ _ y6)
      have x4 : wr.cell? ⟨w.heap.size, 4, none⟩ = some (.int .i64 b.vw) := by simp [World.cell?, hbox]
      have x5 : wr.cell? ⟨w.heap.size, 5, none⟩ = some (.int .i64 b.ht) := by simp [World.cell?, hbox]
      have x6 : wr.cell? ⟨w.heap.size, 6, none⟩ = some (.string ⟨b.bl.toArray⟩) := by simp [World.cell?, hbox]
      have x7 : wr.cell? ⟨w.heap.size, 7, none⟩ = some vb := by simp [World.cell?, hbox]
      have i1 : (k : Int) < (a.vs.length : Int) := by omega
      clear hcell hall y0 y1 y2 y3 y4 y5 y6
      go_wp2_with (go_at_call 69; refine (first_calls M (hbw.alloc hsz2 _) b y.sg hb vb hvb).mono ?_)
      rintro e W2 ⟨rfl, b2⟩
      generalize fstV b.vs y.sg = F
      have hsw : (wr.alloc (.cells #[.int .i64 y.kd, .int .i64 y.vw, .int .i64 y.ht, .string ⟨y.bl.toArray⟩, .int .i64 y.tk, .int .i64 y.sg, .string ⟨y.sig.toArray⟩] 47)).heap.size = wr.heap.size + 1 := by simp
      have hb2 := b2.size
      have hnew : W2.heap[wr.heap.size]? = some (.cells #[.int .i64 y.kd, .int .i64 y.vw, .int .i64 y.ht, .string ⟨y.bl.toArray⟩, .int .i64 y.tk, .int .i64 y.sg, .string ⟨y.sig.toArray⟩] 47) := (b2.block _ (by omega)).trans (heap_new _ _)
      have n0 : W2.cell? ⟨wr.heap.size, 0, none⟩ = some (.int .i64 y.kd) := by simp [World.cell?, hnew]
      have n5 : W2.cell? ⟨wr.heap.size, 5, none⟩ = some (.int .i64 y.sg) := by simp [World.cell?, hnew]
      have hown2 := own_below (hown.alloc _) b2
      have hbox2 := (b2.block w.heap.size (by omega)).trans ((heap_old wr _ _ hlt0).trans hbox)
      have hbw2 : Below w.heap.size w W2 := (hbw.alloc hsz2 _).trans ⟨b2.os, b2.tape, b2.output, b2.size, fun k hk => b2.block k (by omega)⟩
      have hlt2 : wr.heap.size < W2.heap.size := by omega
      have m0 : (W2.alloc (.cells #[.int .i64 F.kd, .int .i64 F.vw, .int .i64 F.ht, .string ⟨F.bl.toArray⟩, .int .i64 F.tk, .int .i64 F.sg, .string ⟨F.sig.toArray⟩] 47)).cell? ⟨wr.heap.size, 0, none⟩ = some (.int .i64 y.kd) := (World.cell?_of_block (a := ⟨wr.heap.size, 0, none⟩) (heap_old W2 _ _ hlt2)).trans n0
      have m5 : (W2.alloc (.cells #[.int .i64 F.kd, .int .i64 F.vw, .int .i64 F.ht, .string ⟨F.bl.toArray⟩, .int .i64 F.tk, .int .i64 F.sg, .string ⟨F.sig.toArray⟩] 47)).cell? ⟨wr.heap.size, 5, none⟩ = some (.int .i64 y.sg) := (World.cell?_of_block (a := ⟨wr.heap.size, 5, none⟩) (heap_old W2 _ _ hlt2)).trans n5
      clear hnew b2 z0 z1 z2 z3 z4 z5 z6 x4 x5 x6 x7
      cases hq : decide (idxP (isS y.sg) b.vs < 0) with
      | true =>
        rw [hq] at hgs
        have hgs' : gath (a.vs.take (k + 1)) b.vs = gath (a.vs.take k) b.vs := by rw [hgs]; simp
        go_wp2
        go_roundw
        case rel =>
          refine ⟨k + 1, by omega, by go_num, ?_⟩
          rw [hgs']
          refine ⟨hown2.alloc _, (heap_old W2 _ _ (by omega)).trans hbox2, hbw2.alloc (by omega) _, hnil⟩
        case measure => simp [intOf]; omega
      | false =>
        rw [hq] at hgs
        by_cases hkd : y.kd = 1
        · have hgs' : gath (a.vs.take (k + 1)) b.vs = gath (a.vs.take k) b.vs ++ [y.sg] := by rw [hgs]; simp [hkd]
          have hkb : (y.kd == 1) = true := by simpa using hkd
          go_wp2_with (at_builtin; refine wpList_append_own _ rfl _ _ 60 rfl (w.heap.size + 1) 3 i0 (.int .i64 0) 1 8 Try.underlying60 hi hz0 hz1 hz2 rfl (by decide) _ _ _ rfl ((hown2.alloc _).alloc _) ⟨W2.heap.size + 1, 0, none⟩ 1 1 [.int .i64 y.sg] rfl rfl ?c1 ?c2 ?c3 ?c4 ?c5 ?_)
          case c1 =>
            intro j u hj
            match j, hj with
            | 0, hj => simp at hj; subst hj; simp [Addr.add]
          case c2 => intro u hu; simp at hu; subst hu; rfl
          case c3 => unfold maxLen; omega
          case c4 => omega
          case c5 => simp; omega
          intro v' W3 hown' hgrow _
          go_wp2
          go_roundw
          case rel =>
            refine ⟨k + 1, by omega, by go_num, ?_⟩
            rw [hgs', List.length_append, List.map_append]
            refine ⟨hown', (hgrow.block w.heap.size (by simp; omega) (fun e => by have := (hown2.lt _ e.symm).1; omega)).trans ((heap_old (W2.alloc _) _ _ (by simp; omega)).trans ((heap_old W2 _ _ (by omega)).trans hbox2)),
              ((hbw2.alloc (by omega) _).alloc (by simp; omega) _).grown hgrow (by simp; omega) (fun k hk => by have := (hown2.lt k hk).1; omega), fun h => absurd h (by simp)⟩
          case measure => simp [intOf]; omega
        · have hgs' : gath (a.vs.take (k + 1)) b.vs = gath (a.vs.take k) b.vs := by rw [hgs]; simp [hkd]
          have hkb : (y.kd == 1) = false := by simpa using hkd
          go_wp2
          go_roundw
          case rel =>
            refine ⟨k + 1, by omega, by go_num, ?_⟩
            rw [hgs']
            refine ⟨hown2.alloc _, (heap_old W2 _ _ (by omega)).trans hbox2, hbw2.alloc (by omega) _, hnil⟩
          case measure => simp [intOf]; omega
    · obtain rfl : k = a.vs.length := by omega
      rw [List.take_length] at hown hnil
      by_cases hG : gath a.vs b.vs = []
      · rw [hnil hG]
        go_wp2_with (go_at_call 70; refine (Try.slices_Sort_int_none none 0 _).mono ?_)
        rintro e W3 ⟨rfl, rfl⟩
        go_wp2_with (go_at_call 71; refine (Try.slices_Compact_int_empty none 0 _).mono ?_)
        rintro e W4 ⟨rfl, rfl⟩
        go_wp2
        go_ret
        refine ⟨_, rfl, hbw, .inl ⟨?_, rfl⟩⟩
        unfold suspL
        rw [hG, List.mergeSort_nil]
        rfl
      · have hgl := gath_len a.vs b.vs a.vs.length
        rw [List.take_length] at hgl
        obtain ⟨zs, hz⟩ : ∃ zs, zs = gath a.vs b.vs := ⟨_, rfl⟩
        rw [← hz] at hown hG hgl
        rcases hown.2 with ⟨_, h0⟩ | ⟨g, cap, cur, rfl, hbase, hb1, hc1, hc2, hc3, hc4⟩
        · exact absurd (List.length_eq_zero_iff.1 h0) hG
        · rw [Nat.mul_one] at hc4
          have hgw : g < wr.heap.size := (Array.getElem?_eq_some_iff.1 hb1).1

          have hSo := Try.slices_Sort_int g 0 cap zs wr (holds_of_blockI hb1 hc4) hgw (by omega)
          rw [hz] at hSo
          rw [hz]
          go_wp2_with (go_at_call 70; refine hSo.mono ?_)
          rintro e W3 ⟨rfl, n1, os1, hW3⟩
          rw [← hz] at hW3
          have hl : (zs.mergeSort fun x y => decide (x ≤ y)).length = zs.length := List.length_mergeSort _
          obtain ⟨ts, hts⟩ : ∃ ts, ts = zs.mergeSort fun x y => decide (x ≤ y) := ⟨_, rfl⟩
          rw [← hts] at hl hW3
          have hb3 : W3.heap[g]? = some (.cells (Sort.putCells (Value.int .i64) 0 ts.toArray cur) 3 (0, 0)) := by rw [hW3]; exact heap_sortedI _ hb1
          have ht3 : (Sort.putCells (Value.int .i64) 0 ts.toArray cur).toList.take ts.length = ts.map (Value.int .i64) := take_putCellsI cur ts (by omega)
          have hs3 : (Sort.putCells (Value.int .i64) 0 ts.toArray cur).size = cap := by simp [Sort.putCells, hc3]
          have hbw3 : Below w.heap.size w W3 := by
            rw [hW3]
            exact hbw.grown (grownBy_sortedI (g := g) ts.toArray) (by omega) (fun k hk => by cases hk; omega)
          generalize Sort.putCells (Value.int .i64) 0 ts.toArray cur = cur3 at *
          clear hW3
          have hC := Try.slices_Compact_int g 0 cap ts W3 (holds_of_blockI hb3 ht3) (by omega) (by omega)
          rw [hl, hz] at hC
          go_wp2_with (go_at_call 71; refine hC.mono ?_)
          rintro e W4 ⟨rfl, q1, hW4⟩
          rw [← hz] at hW4
          have hcl := compact_len ts
          have hlen : (Lib.compact ts ++ List.replicate (zs.length - (Lib.compact ts).length) 0).length = zs.length := by
            rw [List.length_append, List.length_replicate]; omega
          have hb4 : W4.heap[g]? = some (.cells (Sort.putCells (Value.int .i64) 0 (Lib.compact ts ++ List.replicate (zs.length - (Lib.compact ts).length) 0).toArray cur3) 3 (0, 0)) := by
            rw [hW4, ← Sort.grow_empty (Sort.putRow _ _ _ _ _)]; exact heap_sortedI _ hb3
          have ht4 := take_putCellsI cur3 (Lib.compact ts ++ List.replicate (zs.length - (Lib.compact ts).length) 0) (by rw [hlen]; omega)
          have hbw4 : Below w.heap.size w W4 := by
            rw [hW4, ← Sort.grow_empty (Sort.putRow _ _ _ _ _)]
            exact hbw3.grown (grownBy_sortedI (g := g) _) (by have := hbw3.size; omega) (fun k hk => by cases hk; omega)
          clear hW4
          rw [hz] at hlen
          go_wp2
          go_ret
          rw [← hz] at hlen
          have hS : suspL a.vs b.vs = Lib.compact ts := by unfold suspL; rw [← hz, ← hts]
          refine ⟨.slice (some ⟨g, 0, none⟩) (Lib.compact ((gath a.vs b.vs).mergeSort fun x y => decide (x ≤ y))).length cap, rfl, hbw4, ?_⟩
          rw [← hz, ← hts, hS]
          refine .inr ⟨g, cap, _, rfl, by omega, hb4, by omega, ?_⟩
          have h5 := congrArg (List.take (Lib.compact ts).length) ht4
          rw [List.take_take, Nat.min_eq_left (by rw [hlen]; omega), List.map_append, List.take_left' (by simp)] at h5
          exact h5
end Go.Proofs
