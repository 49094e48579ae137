/-
  QX: Fw0 Fo4 Fo5 Fo6 Fo7.
-/
import Derived.Shelf.Sort.Plain
import Derived.Shelf.Slices.CompactI
import Derived.Shelf.Slices.In.SortNone
import Derived.Test.YtenmlgalcjkdbaaGreatChecked
import Derived.Test.YtenmlgalcjkdbaaGreatQW
import Derived.WalkKit
import Derived.BigCall
import Derived.Sort.OwnSortedInts
set_option linter.unusedVariables false
set_option linter.unusedSimpArgs false
namespace Go.Proofs
open Go.Shelf
def Tryz.lays189_ren : Go.Shelf.Ren := ⟨fun | 189 => 77 | 125 => 131 | 257 => 130 | 128 => 184 | 129 => 185 | 294 => 175 | 295 => 176 | 296 => 177 | 297 => 178 | 298 => 179 | 299 => 180 | 216 => 181 | 300 => 182 | 301 => 183 | 328 => 208 | 329 => 209 | 330 => 210 | 331 => 211 | 332 => 212 | 215 => 192 | 343 => 219 | n => n, fun | 28 => 69 | 3 => 3 | 46 => 165 | 0 => 0 | 51 => 161 | 53 => 195 | 4 => 4 | 183 => 219 | 182 => 218 | 131 => 142 | 5 => 5 | 9 => 9 | 218 => 246 | 222 => 250 | 228 => 257 | 229 => 258 | n => n, fun | n => n⟩
theorem Tryz.lays189 : Go.Proofs.Lays.n189 Tryz.prog Tryz.lays189_ren := {
  mixed := by kernel_rfl
  f125 := Tryz.func131.trans (congrArg some (by kernel_rfl))
  f128 := Tryz.func184.trans (congrArg some (by kernel_rfl))
  f129 := Tryz.func185.trans (congrArg some (by kernel_rfl))
  f189 := Tryz.func77.trans (congrArg some (by kernel_rfl))
  f215 := Tryz.func192.trans (congrArg some (by kernel_rfl))
  f216 := Tryz.func181.trans (congrArg some (by kernel_rfl))
  f257 := Tryz.func130.trans (congrArg some (by kernel_rfl))
  f294 := Tryz.func175.trans (congrArg some (by kernel_rfl))
  f295 := Tryz.func176.trans (congrArg some (by kernel_rfl))
  f296 := Tryz.func177.trans (congrArg some (by kernel_rfl))
  f297 := Tryz.func178.trans (congrArg some (by kernel_rfl))
  f298 := Tryz.func179.trans (congrArg some (by kernel_rfl))
  f299 := Tryz.func180.trans (congrArg some (by kernel_rfl))
  f300 := Tryz.func182.trans (congrArg some (by kernel_rfl))
  f301 := Tryz.func183.trans (congrArg some (by kernel_rfl))
  f328 := Tryz.func208.trans (congrArg some (by kernel_rfl))
  f329 := Tryz.func209.trans (congrArg some (by kernel_rfl))
  f330 := Tryz.func210.trans (congrArg some (by kernel_rfl))
  f331 := Tryz.func211.trans (congrArg some (by kernel_rfl))
  f332 := Tryz.func212.trans (congrArg some (by kernel_rfl))
  f343 := Tryz.func219.trans (congrArg some (by kernel_rfl))
  t0 := Tryz.underlying0
  a0 := Tryz.isAgg0
  z0 := Tryz.sizeOf0
  v0 := Tryz.zeroValue0
  t3 := Tryz.underlying3
  a3 := Tryz.isAgg3
  z3 := Tryz.sizeOf3
  v3 := Tryz.zeroValue3
  t4 := Tryz.underlying4
  a4 := Tryz.isAgg4
  z4 := Tryz.sizeOf4
  v4 := Tryz.zeroValue4
  t5 := Tryz.underlying5
  a5 := Tryz.isAgg5
  z5 := Tryz.sizeOf5
  v5 := Tryz.zeroValue5
  t9 := Tryz.underlying9
  a9 := Tryz.isAgg9
  z9 := Tryz.sizeOf9
  v9 := Tryz.zeroValue9
  t28 := Tryz.underlying69
  a28 := Tryz.isAgg69
  z28 := Tryz.sizeOf69
  v28 := Tryz.zeroValue69
  t46 := Tryz.underlying165
  a46 := Tryz.isAgg165
  z46 := Tryz.sizeOf165
  v46 := Tryz.zeroValue165
  t51 := Tryz.underlying161
  a51 := Tryz.isAgg161
  z51 := Tryz.sizeOf161
  v51 := Tryz.zeroValue161
  t53 := Tryz.underlying195
  a53 := Tryz.isAgg195
  z53 := Tryz.sizeOf195
  v53 := Tryz.zeroValue195
  t131 := Tryz.underlying142
  a131 := Tryz.isAgg142
  z131 := Tryz.sizeOf142
  v131 := Tryz.zeroValue142
  t182 := Tryz.underlying218
  a182 := Tryz.isAgg218
  z182 := Tryz.sizeOf218
  v182 := Tryz.zeroValue218
  t183 := Tryz.underlying219
  a183 := Tryz.isAgg219
  z183 := Tryz.sizeOf219
  v183 := Tryz.zeroValue219
  t218 := Tryz.underlying246
  a218 := Tryz.isAgg246
  z218 := Tryz.sizeOf246
  v218 := Tryz.zeroValue246
  t222 := Tryz.underlying250
  a222 := Tryz.isAgg250
  z222 := Tryz.sizeOf250
  v222 := Tryz.zeroValue250
  t228 := Tryz.underlying257
  a228 := Tryz.isAgg257
  z228 := Tryz.sizeOf257
  v228 := Tryz.zeroValue257
  t229 := Tryz.underlying258
  a229 := Tryz.isAgg258
  z229 := Tryz.sizeOf258
  v229 := Tryz.zeroValue258 }
open Go.Sort Go.RowKit in
theorem Tryz.slices_Sort_int (blk off cap : Nat) (zs : List Int) (w : World) (hH : Holds (Value.int .i64) w blk off zs.toArray) (hblk : blk < w.heap.size) (hsz : zs.length < 4611686018427387904) :
    Calls Tryz.prog 77 #[.slice (some ⟨blk, off, none⟩) zs.length cap] w fun e w' =>
      e = .returned (.tuple #[]) ∧ ∃ n os, w' = grow (putRow (Value.int .i64) (Sort.ahead w n) blk off (zs.mergeSort fun x y => decide (x ≤ y)).toArray) os := Any.slices_Sort_int Tryz.lays189 blk off cap zs w hH hblk hsz
def Tryz.laysNm220_ren : Go.Shelf.Ren := ⟨fun | 20 => 78 | n => n, fun | 22 => 69 | 3 => 3 | 4 => 4 | 0 => 0 | n => n, fun | n => n⟩
theorem Tryz.laysNm220 : Go.Proofs.Lays2.n20 Tryz.prog Tryz.laysNm220_ren := {
  mixed := by kernel_rfl
  f20 := Tryz.func78.trans (congrArg some (by kernel_rfl))
  t0 := Tryz.underlying0
  a0 := Tryz.isAgg0
  z0 := Tryz.sizeOf0
  v0 := Tryz.zeroValue0
  t3 := Tryz.underlying3
  a3 := Tryz.isAgg3
  z3 := Tryz.sizeOf3
  v3 := Tryz.zeroValue3
  t4 := Tryz.underlying4
  a4 := Tryz.isAgg4
  z4 := Tryz.sizeOf4
  v4 := Tryz.zeroValue4
  t22 := Tryz.underlying69
  a22 := Tryz.isAgg69
  z22 := Tryz.sizeOf69
  v22 := Tryz.zeroValue69
  i3 := by kernel_rfl }
open Go.RowKit Go.Lib Go.Sort in
theorem Tryz.slices_Compact_int (blk off cap : Nat) (zs : List Int) (w : World) (hH : Holds (Value.int .i64) w blk off zs.toArray) (hsz : zs.length ≤ 9223372036854775807) (hcap : zs.length ≤ cap) :
    Calls Tryz.prog 78 #[.slice (some ⟨blk, off, none⟩) zs.length cap] w fun e w' => e = .returned (.slice (some ⟨blk, off, none⟩) (Lib.compact zs).length cap) ∧ ∃ q, w' = putRow (Value.int .i64) (Sort.ahead w q) blk off (Lib.compact zs ++ List.replicate (zs.length - (Lib.compact zs).length) 0).toArray := Any.slices_Compact_int Tryz.laysNm220 blk off cap zs w hH hsz hcap
open Go.RowKit Go.Lib Go.Sort in
theorem Tryz.slices_Compact_int_empty (a : Option Addr) (cap : Nat) (w : World) :
    Calls Tryz.prog 78 #[.slice a 0 cap] w fun e w' => e = .returned (.slice a 0 cap) ∧ w' = w := Any.slices_Compact_int_empty Tryz.laysNm220 a cap w
open Go.RowKit Go.Sort in
theorem Tryz.slices_Sort_int_none (p : Option Addr) (cap : Nat) (w : World) :
    Calls Tryz.prog 77 #[.slice p 0 cap] w fun e w' => e = .returned (.tuple #[]) ∧ w' = w := Any.slices_Sort_int_none Tryz.lays189 p cap w
open Go.RowKit
open Go.Proofs.YtenmlgalcjkdbaaGreat.AM

def gath (l m : List Vt) : List Int := (l.filter fun v => !decide (idxP (isS v.sg) m < 0) && (v.kd == 1)).map (·.sg)
theorem gath_succ (l m : List Vt) (k : Nat) (h : k < l.length) : gath (l.take (k + 1)) m = gath (l.take k) m ++ (if (!decide (idxP (isS l[k].sg) m < 0) && (l[k].kd == 1)) = true then [l[k].sg] else []) := by
  unfold gath
  rw [List.take_add_one, List.getElem?_eq_getElem h]
  simp only [Option.toList_some, List.filter_append, List.map_append]
  congr 1
  by_cases hk : (!decide (idxP (isS l[k].sg) m < 0) && (l[k].kd == 1)) = true
  · rw [if_pos hk, List.filter_cons_of_pos (by simpa using hk)]; rfl
  · rw [if_neg hk, List.filter_cons_of_neg (by simpa using hk)]; rfl
theorem gath_len (l m : List Vt) (k : Nat) : (gath (l.take k) m).length ≤ k := by
  unfold gath
  rw [List.length_map]
  exact Nat.le_trans (List.length_filter_le _ _) (by simp; omega)
/-- A slice of votes: its cells. -/
theorem votes_cells {K : Know} {l : List Vt} {v : Value} (h : VR K (.sl (votes l)) v) : ∃ ao cap, v = .slice ao l.length cap ∧ (l ≠ [] → ∃ b o, ao = some ⟨b, o, none⟩ ∧ l.length ≤ cap ∧ ∀ (k : Nat) (hk : k < l.length),
    K b (o + k * 7) = some (.int .i64 l[k].kd) ∧ K b (o + k * 7 + 1) = some (.int .i64 l[k].vw) ∧ K b (o + k * 7 + 2) = some (.int .i64 l[k].ht) ∧ K b (o + k * 7 + 3) = some (.string ⟨l[k].bl.toArray⟩) ∧ K b (o + k * 7 + 4) = some (.int .i64 l[k].tk) ∧ K b (o + k * 7 + 5) = some (.int .i64 l[k].sg) ∧ K b (o + k * 7 + 6) = some (.string ⟨l[k].sig.toArray⟩)) := by
  generalize hX : votes l = rows at h
  cases h with
  | nil =>
    have : l = [] := by cases l with | nil => rfl | cons a l => cases hX
    subst this
    exact ⟨none, 0, rfl, fun h => absurd rfl h⟩
  | at0 a cap =>
    have : l = [] := by cases l with | nil => rfl | cons a l => cases hX
    subst this
    exact ⟨some a, cap, rfl, fun h => absurd rfl h⟩
  | sl _ z b off cap f hz hc hk hv =>
    subst hX
    rw [votes_length] at *
    refine ⟨some ⟨b, off, none⟩, cap, rfl, fun hne => ⟨b, off, rfl, hc, fun k hkl => ?_⟩⟩
    have hr : (votes l)[k]? = some (Vt.pcs l[k]) := by
      unfold votes; rw [List.getElem?_map, List.getElem?_eq_getElem hkl]; rfl
    have hz7 : z = 7 := (hz _ (List.mem_of_getElem? hr)).symm
    subst hz7
    have key : ∀ (i : Nat) (c : PC), (Vt.pcs l[k])[i]? = some c → ∃ u, K b (off + k * 7 + i) = some u ∧ VR K c u := fun i c hi => ⟨_, hk k _ i c hr hi, hv k _ i c hr hi⟩
    obtain ⟨u0, a0, b0⟩ := key 0 _ rfl
    obtain ⟨u1, a1, b1⟩ := key 1 _ rfl
    obtain ⟨u2, a2, b2⟩ := key 2 _ rfl
    obtain ⟨u3, a3, b3⟩ := key 3 _ rfl
    obtain ⟨u4, a4, b4⟩ := key 4 _ rfl
    obtain ⟨u5, a5, b5⟩ := key 5 _ rfl
    obtain ⟨u6, a6, b6⟩ := key 6 _ rfl
    cases b0; cases b1; cases b2; cases b3; cases b4; cases b5; cases b6
    exact ⟨a0, a1, a2, a3, a4, a5, a6⟩

theorem heap_new (w : World) (o : Obj) : (w.alloc o).heap[w.heap.size]? = some o := by
  show (w.heap.push o)[w.heap.size]? = some o
  exact Array.getElem?_push_size
theorem grown_of_below {w w' : World} (b : Below w.heap.size w w') (row : Option Nat) : w.grownBy w' row := ⟨b.os, b.tape, b.output, b.size, fun k hk _ => b.block k hk⟩
theorem heap_old (w : World) (o : Obj) (k : Nat) (h : k < w.heap.size) : (w.alloc o).heap[k]? = w.heap[k]? := by
  show (w.heap.push o)[k]? = _
  rw [Array.getElem?_push, if_neg (by omega)]
theorem own_below {w w' : World} {base : Nat} {e : TypeId} {size : Nat} {v : Value} {n : Nat} {xs : List Value} (h : w.ownsRow base e size v n xs) (b : Below w.heap.size w w') : w'.ownsRow base e size v n xs :=
  h.kept (grown_of_below b none) (by cases v.ownBlock <;> simp)
def suspL (l m : List Vt) : List Int := Lib.compact ((gath l m).mergeSort fun x y => decide (x ≤ y))
/-- A slice of whole numbers, laid from block B on. -/
def IntsAt (B : Nat) (S : List Int) (v : Value) (w : World) : Prop :=
  (S = [] ∧ v = .slice none 0 0) ∨ ∃ g cap cur, v = .slice (some ⟨g, 0, none⟩) S.length cap ∧ B ≤ g ∧ w.heap[g]? = some (.cells cur 3 (0, 0)) ∧ S.length ≤ cap ∧ cur.toList.take S.length = S.map (Value.int .i64)
theorem compact_len (l : List Int) : (Lib.compact l).length ≤ l.length := by
  unfold Lib.compact Lib.compactUpTo
  rw [List.length_map]
  exact Nat.le_trans (List.length_filter_le _ _) (by simp)
theorem Tryz.fo_info3 : (Tryz.prog.info? 3).map (fun i => (i.zero, i.size, i.bytes)) = some (some (.int .i64 0), 1, 8) := by kernel_rfl

set_option maxHeartbeats 8000000 in
set_option maxRecDepth 1000000 in
theorem Tryz.susp_walk {Ext : Nat → Prop} {G : Gh} {w : World} (M : MRel (cEnv w Ext G.K) G (Go.Proofs.YtenmlgalcjkdbaaGreat.AM.look (entryMem 0 [])) w) (a b : Ct) (ha : a.vs.length ≤ 1099511627776) (hb : b.vs.length ≤ 9223372036854775807) (va vb : Value) (hva : VR G.K (.sl (votes a.vs)) va) (hvb : VR G.K (.sl (votes b.vs)) vb) :
    Calls Tryz.prog 29 #[.agg #[.int .i64 a.vw, .int .i64 a.ht, .string ⟨a.bl.toArray⟩, va, .int .i64 b.vw, .int .i64 b.ht, .string ⟨b.bl.toArray⟩, vb]] w fun e w' => ∃ v, e = .returned v ∧ Below w.heap.size w w' ∧ IntsAt w.heap.size (suspL a.vs b.vs) v w' := by
  obtain ⟨i0, hi, hz0, hz1, hz2⟩ := info_parts Tryz.fo_info3
  obtain ⟨ao, acap, rfl, hcell⟩ := votes_cells hva
  go_enter Tryz.func29, Tryz.ntmps29
  go_wp2
  go_loopw [3, 12] (fun v i wr => ∃ k : Nat, k ≤ a.vs.length ∧ i = .int .i64 (k : Int) ∧ wr.ownsRow (w.heap.size + 1) 3 1 v (gath (a.vs.take k) b.vs).length ((gath (a.vs.take k) b.vs).map (Value.int .i64)) ∧
      wr.heap[w.heap.size]? = some (.cells #[.int .i64 a.vw, .int .i64 a.ht, .string ⟨a.bl.toArray⟩, .slice ao a.vs.length acap, .int .i64 b.vw, .int .i64 b.ht, .string ⟨b.bl.toArray⟩, vb] 68 (0, 0)) ∧ Below w.heap.size w wr ∧
      (gath (a.vs.take k) b.vs = [] → v = .slice none 0 0)) (fun _ i _ => a.vs.length - (intOf i).toNat)
  case atStart =>
    refine ⟨0, Nat.zero_le _, rfl, World.ownsRow_nil _ _ _ _, ?_, (Below.refl _ w).alloc (Nat.le_refl _) _, fun _ => rfl⟩
    exact heap_new _ _
  case round =>
    obtain ⟨k, hk, rfl, hown, hbox, hbw, hnil⟩ := hrel
    have hsz2 := hbw.size
    have hlt0 : w.heap.size < wr.heap.size := (Array.getElem?_eq_some_iff.1 hbox).1
    by_cases hp : k < a.vs.length
    · obtain ⟨g, o, rfl, hcap, hall⟩ := hcell (by intro e; rw [e] at hp; simp at hp)
      obtain ⟨y0, y1, y2, y3, y4, y5, y6⟩ := hall k hp
      have hgs := gath_succ a.vs b.vs k hp
      have hgl := gath_len a.vs b.vs k
      generalize a.vs[k] = y at *
      have hg : g < w.heap.size := M.k_lt y0
      have z0 : wr.cell? ⟨g, o + k * 7, none⟩ = some (.int .i64 y.kd) := (hbw.cell hg).trans (M.agree _ _ _ y0)
      have z1 : wr.cell? ⟨g, o + k * 7 + 1, none⟩ = some (.int .i64 y.vw) := (hbw.cell hg).trans (M.agree _ _ _ y1)
      have z2 : wr.cell? ⟨g, o + k * 7 + 2, none⟩ = some (.int .i64 y.ht) := (hbw.cell hg).trans (M.agree _ _ _ y2)
      have z3 : wr.cell? ⟨g, o + k * 7 + 3, none⟩ = some (.string ⟨y.bl.toArray⟩) := (hbw.cell hg).trans (M.agree _ _ _ y3)
      have z4 : wr.cell? ⟨g, o + k * 7 + 4, none⟩ = some (.int .i64 y.tk) := (hbw.cell hg).trans (M.agree _ _ _ y4)
      have z5 : wr.cell? ⟨g, o + k * 7 + 5, none⟩ = some (.int .i64 y.sg) := (hbw.cell hg).trans (M.agree _ _ _ y5)
      have z6 : wr.cell? ⟨g, o + k * 7 + 6, none⟩ = some (.string ⟨y.sig.toArray⟩) := (hbw.cell hg).trans (M.agree _ _ _ y6)
      have x4 : wr.cell? ⟨w.heap.size, 4, none⟩ = some (.int .i64 b.vw) := by simp [World.cell?, hbox]
      have x5 : wr.cell? ⟨w.heap.size, 5, none⟩ = some (.int .i64 b.ht) := by simp [World.cell?, hbox]
      have x6 : wr.cell? ⟨w.heap.size, 6, none⟩ = some (.string ⟨b.bl.toArray⟩) := by simp [World.cell?, hbox]
      have x7 : wr.cell? ⟨w.heap.size, 7, none⟩ = some vb := by simp [World.cell?, hbox]
      have i1 : (k : Int) < (a.vs.length : Int) := by omega
      clear hcell hall y0 y1 y2 y3 y4 y5 y6
      go_wp2_with (go_at_call 76; refine (first_calls M (hbw.alloc hsz2 _) b y.sg hb vb hvb).mono ?_)
      rintro e W2 ⟨rfl, b2⟩
      generalize fstV b.vs y.sg = F
      have hsw : (wr.alloc (.cells #[.int .i64 y.kd, .int .i64 y.vw, .int .i64 y.ht, .string ⟨y.bl.toArray⟩, .int .i64 y.tk, .int .i64 y.sg, .string ⟨y.sig.toArray⟩] 97)).heap.size = wr.heap.size + 1 := by simp
      have hb2 := b2.size
      have hnew : W2.heap[wr.heap.size]? = some (.cells #[.int .i64 y.kd, .int .i64 y.vw, .int .i64 y.ht, .string ⟨y.bl.toArray⟩, .int .i64 y.tk, .int .i64 y.sg, .string ⟨y.sig.toArray⟩] 97) := (b2.block _ (by omega)).trans (heap_new _ _)
      have n0 : W2.cell? ⟨wr.heap.size, 0, none⟩ = some (.int .i64 y.kd) := by simp [World.cell?, hnew]
      have n5 : W2.cell? ⟨wr.heap.size, 5, none⟩ = some (.int .i64 y.sg) := by simp [World.cell?, hnew]
      have hown2 := own_below (hown.alloc _) b2
      have hbox2 := (b2.block w.heap.size (by omega)).trans ((heap_old wr _ _ hlt0).trans hbox)
      have hbw2 : Below w.heap.size w W2 := (hbw.alloc hsz2 _).trans ⟨b2.os, b2.tape, b2.output, b2.size, fun k hk => b2.block k (by omega)⟩
      have hlt2 : wr.heap.size < W2.heap.size := by omega
      have m0 : (W2.alloc (.cells #[.int .i64 F.kd, .int .i64 F.vw, .int .i64 F.ht, .string ⟨F.bl.toArray⟩, .int .i64 F.tk, .int .i64 F.sg, .string ⟨F.sig.toArray⟩] 97)).cell? ⟨wr.heap.size, 0, none⟩ = some (.int .i64 y.kd) := (World.cell?_of_block (a := ⟨wr.heap.size, 0, none⟩) (heap_old W2 _ _ hlt2)).trans n0
      have m5 : (W2.alloc (.cells #[.int .i64 F.kd, .int .i64 F.vw, .int .i64 F.ht, .string ⟨F.bl.toArray⟩, .int .i64 F.tk, .int .i64 F.sg, .string ⟨F.sig.toArray⟩] 97)).cell? ⟨wr.heap.size, 5, none⟩ = some (.int .i64 y.sg) := (World.cell?_of_block (a := ⟨wr.heap.size, 5, none⟩) (heap_old W2 _ _ hlt2)).trans n5
      clear hnew b2 z0 z1 z2 z3 z4 z5 z6 x4 x5 x6 x7
      cases hq : decide (idxP (isS y.sg) b.vs < 0) with
      | true =>
        rw [hq] at hgs
        have hgs' : gath (a.vs.take (k + 1)) b.vs = gath (a.vs.take k) b.vs := by rw [hgs]; simp
        go_wp2
        go_roundw
        case rel =>
          refine ⟨k + 1, by omega, by go_num, ?_⟩
          rw [hgs']
          refine ⟨hown2.alloc _, (heap_old W2 _ _ (by omega)).trans hbox2, hbw2.alloc (by omega) _, hnil⟩
        case measure => simp [intOf]; omega
      | false =>
        rw [hq] at hgs
        by_cases hkd : y.kd = 1
        · have hgs' : gath (a.vs.take (k + 1)) b.vs = gath (a.vs.take k) b.vs ++ [y.sg] := by rw [hgs]; simp [hkd]
          have hkb : (y.kd == 1) = true := by simpa using hkd
          go_wp2_with (at_builtin; refine wpList_append_own _ rfl _ _ 69 rfl (w.heap.size + 1) 3 i0 (.int .i64 0) 1 8 Tryz.underlying69 hi hz0 hz1 hz2 rfl (by decide) _ _ _ rfl ((hown2.alloc _).alloc _) ⟨W2.heap.size + 1, 0, none⟩ 1 1 [.int .i64 y.sg] rfl rfl ?c1 ?c2 ?c3 ?c4 ?c5 ?_)
          case c1 =>
            intro j u hj
            match j, hj with
            | 0, hj => simp at hj; subst hj; simp [Addr.add]
          case c2 => intro u hu; simp at hu; subst hu; rfl
          case c3 => unfold maxLen; omega
          case c4 => omega
          case c5 => simp; omega
          intro v' W3 hown' hgrow _
          go_wp2
          go_roundw
          case rel =>
            refine ⟨k + 1, by omega, by go_num, ?_⟩
            rw [hgs', List.length_append, List.map_append]
            refine ⟨hown', (hgrow.block w.heap.size (by simp; omega) (fun e => by have := (hown2.lt _ e.symm).1; omega)).trans ((heap_old (W2.alloc _) _ _ (by simp; omega)).trans ((heap_old W2 _ _ (by omega)).trans hbox2)),
              ((hbw2.alloc (by omega) _).alloc (by simp; omega) _).grown hgrow (by simp; omega) (fun k hk => by have := (hown2.lt k hk).1; omega), fun h => absurd h (by simp)⟩
          case measure => simp [intOf]; omega
        · have hgs' : gath (a.vs.take (k + 1)) b.vs = gath (a.vs.take k) b.vs := by rw [hgs]; simp [hkd]
          have hkb : (y.kd == 1) = false := by simpa using hkd
          go_wp2
          go_roundw
          case rel =>
            refine ⟨k + 1, by omega, by go_num, ?_⟩
            rw [hgs']
            refine ⟨hown2.alloc _, (heap_old W2 _ _ (by omega)).trans hbox2, hbw2.alloc (by omega) _, hnil⟩
          case measure => simp [intOf]; omega
    · obtain rfl : k = a.vs.length := by omega
      rw [List.take_length] at hown hnil
      by_cases hG : gath a.vs b.vs = []
      · rw [hnil hG]
        go_wp2_with (go_at_call 77; refine (Tryz.slices_Sort_int_none none 0 _).mono ?_)
        rintro e W3 ⟨rfl, rfl⟩
        go_wp2_with (go_at_call 78; refine (Tryz.slices_Compact_int_empty none 0 _).mono ?_)
        rintro e W4 ⟨rfl, rfl⟩
        go_wp2
        go_ret
        refine ⟨_, rfl, hbw, .inl ⟨?_, rfl⟩⟩
        unfold suspL
        rw [hG, List.mergeSort_nil]
        rfl
      · have hgl := gath_len a.vs b.vs a.vs.length
        rw [List.take_length] at hgl
        obtain ⟨zs, hz⟩ : ∃ zs, zs = gath a.vs b.vs := ⟨_, rfl⟩
        rw [← hz] at hown hG hgl
        rcases hown.2 with ⟨_, h0⟩ | ⟨g, cap, cur, rfl, hbase, hb1, hc1, hc2, hc3, hc4⟩
        · exact absurd (List.length_eq_zero_iff.1 h0) hG
        · rw [Nat.mul_one] at hc4
          have hgw : g < wr.heap.size := (Array.getElem?_eq_some_iff.1 hb1).1

          have hSo := Tryz.slices_Sort_int g 0 cap zs wr (holds_of_blockI hb1 hc4) hgw (by omega)
          rw [hz] at hSo
          rw [hz]
          go_wp2_with (go_at_call 77; refine hSo.mono ?_)
          rintro e W3 ⟨rfl, n1, os1, hW3⟩
          rw [← hz] at hW3
          have hl : (zs.mergeSort fun x y => decide (x ≤ y)).length = zs.length := List.length_mergeSort _
          obtain ⟨ts, hts⟩ : ∃ ts, ts = zs.mergeSort fun x y => decide (x ≤ y) := ⟨_, rfl⟩
          rw [← hts] at hl hW3
          have hb3 : W3.heap[g]? = some (.cells (Sort.putCells (Value.int .i64) 0 ts.toArray cur) 3 (0, 0)) := by rw [hW3]; exact heap_sortedI _ hb1
          have ht3 : (Sort.putCells (Value.int .i64) 0 ts.toArray cur).toList.take ts.length = ts.map (Value.int .i64) := take_putCellsI cur ts (by omega)
          have hs3 : (Sort.putCells (Value.int .i64) 0 ts.toArray cur).size = cap := by simp [Sort.putCells, hc3]
          have hbw3 : Below w.heap.size w W3 := by
            rw [hW3]
            exact hbw.grown (grownBy_sortedI (g := g) ts.toArray) (by omega) (fun k hk => by cases hk; omega)
          generalize Sort.putCells (Value.int .i64) 0 ts.toArray cur = cur3 at *
          clear hW3
          have hC := Tryz.slices_Compact_int g 0 cap ts W3 (holds_of_blockI hb3 ht3) (by omega) (by omega)
          rw [hl, hz] at hC
          go_wp2_with (go_at_call 78; refine hC.mono ?_)
          rintro e W4 ⟨rfl, q1, hW4⟩
          rw [← hz] at hW4
          have hcl := compact_len ts
          have hlen : (Lib.compact ts ++ List.replicate (zs.length - (Lib.compact ts).length) 0).length = zs.length := by
            rw [List.length_append, List.length_replicate]; omega
          have hb4 : W4.heap[g]? = some (.cells (Sort.putCells (Value.int .i64) 0 (Lib.compact ts ++ List.replicate (zs.length - (Lib.compact ts).length) 0).toArray cur3) 3 (0, 0)) := by
            rw [hW4, ← Sort.grow_empty (Sort.putRow _ _ _ _ _)]; exact heap_sortedI _ hb3
          have ht4 := take_putCellsI cur3 (Lib.compact ts ++ List.replicate (zs.length - (Lib.compact ts).length) 0) (by rw [hlen]; omega)
          have hbw4 : Below w.heap.size w W4 := by
            rw [hW4, ← Sort.grow_empty (Sort.putRow _ _ _ _ _)]
            exact hbw3.grown (grownBy_sortedI (g := g) _) (by have := hbw3.size; omega) (fun k hk => by cases hk; omega)
          clear hW4
          rw [hz] at hlen
          go_wp2
          go_ret
          rw [← hz] at hlen
          have hS : suspL a.vs b.vs = Lib.compact ts := by unfold suspL; rw [← hz, ← hts]
          refine ⟨.slice (some ⟨g, 0, none⟩) (Lib.compact ((gath a.vs b.vs).mergeSort fun x y => decide (x ≤ y))).length cap, rfl, hbw4, ?_⟩
          rw [← hz, ← hts, hS]
          refine .inr ⟨g, cap, _, rfl, by omega, hb4, by omega, ?_⟩
          have h5 := congrArg (List.take (Lib.compact ts).length) ht4
          rw [List.take_take, Nat.min_eq_left (by rw [hlen]; omega), List.map_append, List.take_left' (by simp)] at h5
          exact h5
end Go.Proofs
namespace Go.Proofs.YtenmlgalcjkdbaaGreat.AM
open Go Go.RowKit Go.Proofs

variable {Γ : FuncId → Contract}

def zn (l : List Int) : List (List PC) := l.map fun n => [PC.int .i64 n]
theorem zn_length (l : List Int) : (zn l).length = l.length := by simp [zn]
theorem znD (l : List Int) (i : Nat) (h : i < l.length) : (zn l)[i]? = some [.int .i64 (l.getD i 0)] := by simp [zn, List.getD, h]
def forkAV (a b : Ct) : AV := .agg [.c (.int .i64 a.vw), .c (.int .i64 a.ht), .c (.str a.bl), .c (.sl (votes a.vs)), .c (.int .i64 b.vw), .c (.int .i64 b.ht), .c (.str b.bl), .c (.sl (votes b.vs))]
theorem forkAV_inj {a b c d : Ct} (h : forkAV a b = forkAV c d) : a = c ∧ b = d := by
  obtain ⟨a1, a2, a3, a4⟩ := a
  obtain ⟨b1, b2, b3, b4⟩ := b
  obtain ⟨c1, c2, c3, c4⟩ := c
  obtain ⟨d1, d2, d3, d4⟩ := d
  unfold forkAV at h
  simp only [AV.agg.injEq, List.cons.injEq, AV.c.injEq, PC.int.injEq, PC.str.injEq, PC.sl.injEq, votes_iff, true_and, and_true] at h
  obtain ⟨rfl, rfl, rfl, rfl, rfl, rfl, rfl, rfl⟩ := h
  exact ⟨rfl, rfl⟩
noncomputable def suspC : Contract := mkC (α := Ct × Ct) (fun p => p.1.vs.length ≤ 1099511627776 ∧ p.2.vs.length ≤ 9223372036854775807) (fun p => [forkAV p.1 p.2]) (fun _ => []) (fun p => ⟨[.pv (.c (.sl (zn (suspL p.1.vs p.2.vs))))], []⟩)
theorem susp_at (a b : Ct) (ha : a.vs.length ≤ 1099511627776) (hb : b.vs.length ≤ 9223372036854775807) : suspC [forkAV a b] [] = some ⟨[.pv (.c (.sl (zn (suspL a.vs b.vs))))], []⟩ :=
  mkC_at (α := Ct × Ct) (a, b) ⟨ha, hb⟩ (by
    rintro ⟨c, d⟩ _ h _
    have h' : [forkAV c d] = [forkAV a b] := h
    simp only [List.cons.injEq, and_true] at h'
    obtain ⟨rfl, rfl⟩ := forkAV_inj h'
    rfl)
theorem susp_sound : SoundC Tryz.prog 29 suspC := by
  refine ⟨⟨_, Tryz.func29, rfl, rfl⟩, fun args objs r hr => ?_⟩
  obtain ⟨⟨a, b⟩, ⟨ha, hb⟩, rfl, rfl, rfl⟩ := mkC_inv hr
  refine ⟨fun x hx => resB_spec (l := [.pv (.c (.sl (zn (suspL a.vs b.vs))))]) rfl x hx, fun Ext G w vals M hl hx => ?_⟩
  match vals, hl with
  | [v1], _ =>
  have h1 : AR G (forkAV a b) v1 := hx 0 _ v1 rfl rfl
  unfold forkAV at h1
  cases h1 with
  | agg _ us hu hg =>
  have h8 : us.size = 8 := hu.symm
  have k0 := hg 0 _ us[0] rfl (by simp)
  have k1 := hg 1 _ us[1] rfl (by simp)
  have k2 := hg 2 _ us[2] rfl (by simp)
  have k3 := hg 3 _ us[3] rfl (by simp)
  have k4 := hg 4 _ us[4] rfl (by simp)
  have k5 := hg 5 _ us[5] rfl (by simp)
  have k6 := hg 6 _ us[6] rfl (by simp)
  have k7 := hg 7 _ us[7] rfl (by simp)
  have hva : VR G.K (.sl (votes a.vs)) us[3] := by
    generalize us[3] = x at k3
    cases k3 with | c _ _ h => exact h
  have hvb : VR G.K (.sl (votes b.vs)) us[7] := by
    generalize us[7] = x at k7
    cases k7 with | c _ _ h => exact h
  have he : us = #[.int .i64 a.vw, .int .i64 a.ht, .string ⟨a.bl.toArray⟩, us[3], .int .i64 b.vw, .int .i64 b.ht, .string ⟨b.bl.toArray⟩, us[7]] := by
    apply Array.ext
    · exact h8
    · intro i h1 h3
      match i with
      | 0 => show us[0] = _; generalize us[0] = x at k0; cases k0 with | c _ _ h => cases h; rfl
      | 1 => show us[1] = _; generalize us[1] = x at k1; cases k1 with | c _ _ h => cases h; rfl
      | 2 => show us[2] = _; generalize us[2] = x at k2; cases k2 with | c _ _ h => cases h; rfl
      | 3 => rfl
      | 4 => show us[4] = _; generalize us[4] = x at k4; cases k4 with | c _ _ h => cases h; rfl
      | 5 => show us[5] = _; generalize us[5] = x at k5; cases k5 with | c _ _ h => cases h; rfl
      | 6 => show us[6] = _; generalize us[6] = x at k6; cases k6 with | c _ _ h => cases h; rfl
      | 7 => rfl
      | i + 8 => rw [h8] at h1; omega
  have hw := Tryz.susp_walk M a b ha hb us[3] us[7] hva hvb
  rw [← he] at hw
  refine Calls.mono hw ?_
  rintro e W' ⟨v, rfl, bel, hI⟩
  have M2 := M.below0 (res := [.pv (.c (.sl (zn (suspL a.vs b.vs))))]) bel rfl
  have hG : ∀ i, G.h i = none := fun i => (M.home i).none_of
  generalize suspL a.vs b.vs = S at *
  rcases hI with ⟨rfl, rfl⟩ | ⟨g, cap, cur, rfl, hBg, hblk, hcap, htake⟩
  · exact ⟨G, _, rfl, Gh.le_refl _, M2, .c _ _ .nil⟩
  · have hnew : ∀ o, G.K g o = none := fun o => M.k_new hBg o
    have hcellg : ∀ o, o < S.length → cur[o]? = some (.int .i64 (S.getD o 0)) := by
      intro o ho
      have h5 : (cur.toList.take S.length)[o]? = (S.map (Value.int .i64))[o]? := by rw [htake]
      rw [List.getElem?_take_of_lt ho, Array.getElem?_toList, List.getElem?_map, List.getElem?_eq_getElem ho] at h5
      rw [h5, List.getD_eq_getElem?_getD, List.getElem?_eq_getElem ho]; rfl
    let G' : Gh := ⟨fun b o => if b = g ∧ o < S.length then cur[o]? else G.K b o, G.h⟩
    have hKle : G.K.le G'.K := by
      intro b o v h
      show (if b = g ∧ o < S.length then cur[o]? else G.K b o) = some v
      rw [if_neg]
      · exact h
      · rintro ⟨rfl, _⟩
        rw [hnew] at h
        cases h
    have hle : G.le G' := ⟨hKle, fun n h e => ⟨h, e, Home.le_refl h⟩⟩
    refine ⟨G', _, rfl, hle, ⟨fun b o v h => ?_, fun n => ?_, fun n n' h h' b e => ?_, M2.os, M2.tape, M2.output, M2.size0, M2.sizeB, M2.blk, ?_, fun b o hb hne => ?_⟩, ?_⟩
    · have h : (if b = g ∧ o < S.length then cur[o]? else G.K b o) = some v := h
      split at h
      · rename_i hbo
        rw [hbo.1]
        simp only [World.cell?, hblk]
        simpa using h
      · exact M2.agree b o v h
    · have := M2.home n
      show HomeOK _ G' W' _ (G.h n)
      rw [hG n] at this ⊢
      generalize look (exitMem ⟨[.pv (.c (.sl (zn S)))], []⟩) n = mc at this ⊢
      match mc, this with
      | none, _ => trivial
      | some (.obj _ _), h => exact h.elim
      | some (.row _ _), h => exact h.elim
      | some (.mp _ _), h => exact h.elim
    · exact absurd ((hG n).symm.trans e) (by simp)
    · intro b o v h
      exact hle.K b o v h
    · show (if b = g ∧ o < S.length then cur[o]? else G.K b o) = G.K b o
      rw [if_neg]
      rintro ⟨rfl, _⟩
      have hb : b < w.heap.size := hb
      omega
    · have hsl : Slice G'.K 1 g 0 (zn S) := by
        refine ⟨fun r hr => ?_, fun j r hj i c hi => ?_⟩
        · unfold zn at hr
          obtain ⟨x, _, rfl⟩ := List.mem_map.1 hr
          rfl
        · have hjl : j < S.length := by
            have := (List.getElem?_eq_some_iff.1 hj).1
            rw [zn_length] at this; exact this
          rw [znD S j hjl] at hj
          cases hj
          match i, hi with
          | 0, hi =>
            cases hi
            refine ⟨.int .i64 (S.getD j 0), ?_, .int _ _⟩
            show (if g = g ∧ 0 + j * 1 + 0 < S.length then cur[0 + j * 1 + 0]? else _) = _
            rw [if_pos ⟨rfl, by omega⟩, show 0 + j * 1 + 0 = j by omega]
            exact hcellg j hjl
      have := VR.of_slice hsl (cap := cap) (by rw [zn_length]; exact hcap)
      rw [zn_length] at this
      exact .c _ _ this

open Go Go.Proofs

variable {Γ : FuncId → Contract}

open Go Go.Proofs

variable {Γ : FuncId → Contract}

theorem cup_mem (d : Array Int) : ∀ m x, x ∈ Lib.compactUpTo d m → ∃ j, j < m ∧ x = d[j]!
  | 0, x, h => by simp [Lib.compactUpTo] at h
  | m + 1, x, h => by
    rw [Lib.compactUpTo_succ] at h
    rcases List.mem_append.1 h with h | h
    · obtain ⟨j, h1, h2⟩ := cup_mem d m x h
      exact ⟨j, by omega, h2⟩
    · split at h
      · rw [List.mem_singleton] at h
        exact ⟨m, by omega, h⟩
      · cases h
theorem cup_all (d : Array Int) : ∀ m j, j < m → d[j]! ∈ Lib.compactUpTo d m
  | 0, j, h => by omega
  | m + 1, j, h => by
    rw [Lib.compactUpTo_succ]
    by_cases e : j < m
    · exact List.mem_append.2 (.inl (cup_all d m j e))
    · obtain rfl : j = m := by omega
      by_cases hk : Lib.keeps d j = true
      · rw [if_pos hk]; exact List.mem_append.2 (.inr (by simp))
      · rw [if_neg hk, List.append_nil]
        unfold Lib.keeps at hk
        simp only [decide_eq_true_eq, not_or, Decidable.not_not] at hk
        rw [hk.2]
        exact cup_all d j (j - 1) (by omega)
theorem susp_mem (l m : List Vt) (n : Int) : n ∈ suspL l m ↔ ∃ v ∈ l, v.sg = n ∧ v.kd = 1 ∧ ¬ idxP (isS n) m < 0 := by
  have h1 : n ∈ suspL l m ↔ n ∈ gath l m := by
    unfold suspL Lib.compact
    constructor
    · intro h
      obtain ⟨j, hj, rfl⟩ := cup_mem _ _ _ h
      rw [getElem!_pos _ j (by simpa using hj), List.getElem_toArray]
      exact (List.mergeSort_perm _ _).subset (List.getElem_mem _)
    · intro h
      have h2 := (List.mergeSort_perm (gath l m) fun x y => decide (x ≤ y)).symm.subset h
      obtain ⟨j, hj, rfl⟩ := List.getElem_of_mem h2
      have := cup_all ((gath l m).mergeSort fun x y => decide (x ≤ y)).toArray _ j hj
      rw [getElem!_pos _ j (by simpa using hj), List.getElem_toArray] at this
      exact this
  rw [h1]
  unfold gath
  simp only [List.mem_map, List.mem_filter, Bool.and_eq_true, Bool.not_eq_true', decide_eq_false_iff_not, beq_iff_eq]
  constructor
  · rintro ⟨v, ⟨hv, h2, h3⟩, rfl⟩
    exact ⟨v, hv, rfl, h3, h2⟩
  · rintro ⟨v, hv, rfl, h3, h2⟩
    exact ⟨v, ⟨hv, h2, h3⟩, rfl⟩
/-- One who voted is found. -/
theorem idx_of_mem {l : List Vt} {v : Vt} (hv : v ∈ l) (h : v.kd = 1) : ¬ idxP (isS v.sg) l < 0 := by
  intro hneg
  have hn : idxP (isS v.sg) l = -1 := by
    rcases idxP_cases (isS v.sg) l with e | ⟨i, e, _⟩
    · exact e
    · rw [e] at hneg; omega
  unfold idxP at hn
  cases hf : l.findIdx? (isS v.sg) with
  | none =>
    rw [List.findIdx?_eq_none_iff] at hf
    have := hf v hv
    simp [isS, h] at this
  | some i => rw [hf] at hn; simp at hn
end Go.Proofs.YtenmlgalcjkdbaaGreat.AM
