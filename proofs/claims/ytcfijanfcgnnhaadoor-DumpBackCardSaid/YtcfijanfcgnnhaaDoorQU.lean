/-
  QU: Dvg Dvl.
-/
import Derived.Test.YtcfijanfcgnnhaaDoorQR
import Derived.Test.YtcfijanfcgnnhaaDoorQS
import Derived.Test.YtcfijanfcgnnhaaDoorQT
import Derived.Test.YtcfijanfcgnnhaaDoorQE
set_option linter.unusedVariables false
set_option linter.unusedSimpArgs false
namespace Go.Proofs.YtcfijanfcgnnhaaDoor.AM
open Go Go.RowKit

variable {Γ : FuncId → Contract}

theorem ar_en (G : Gh) (e : En) : AR G e.av (.agg (enC e)) := by
  refine .agg _ _ rfl fun j y u g1 g2 => ?_
  match j with
  | 0 => cases g1; cases g2; exact .c _ _ (.str _)
  | 1 => cases g1; cases g2; exact .c _ _ (.int _ _)
  | 2 => cases g1; cases g2; exact .c _ _ (.int _ _)
  | 3 => cases g1; cases g2; exact .c _ _ (.int _ _)
  | 4 => cases g1; cases g2; exact .c _ _ (.str _)
  | 5 => cases g1; cases g2; exact .c _ _ (.int _ _)
  | 6 => cases g1; cases g2; exact .c _ _ (.int _ _)
  | 7 => cases g1; cases g2; exact .c _ _ (.str _)
  | 8 => cases g1; cases g2; exact .c _ _ (.int _ _)
  | 9 => cases g1; cases g2; exact .c _ _ (.int _ _)
  | 10 => cases g1; cases g2; exact .c _ _ (.int _ _)
  | 11 => cases g1; cases g2; exact .c _ _ (.int _ _)
  | 12 => cases g1; cases g2; exact .c _ _ (.str _)
  | 13 => cases g1; cases g2; exact .c _ _ (.int _ _)
  | 14 => cases g1; cases g2; exact .c _ _ (.int _ _)
  | 15 => cases g1; cases g2; exact .c _ _ (.str _)
  | j + 16 => cases g1
theorem parse_short (s : ByteArray) (w : World) (hs : s.size ≤ 16384) : Calls Tryd.prog 8 #[.string s] w fun e w' => e = .returned (.tuple #[.agg (enC (parS s.data.toList).1), .int .i64 (parS s.data.toList).2]) ∧ Below w.heap.size w w' := by
  have hsl : s.data.toList.length ≤ 16384 := hs
  cases hq : entP (sp32 s.data.toList) with
  | none =>
    rw [parS_none hsl hq]
    exact Tryd.parse_none (q := zeroEn) (rest := []) s w hs hq
  | some p =>
    obtain ⟨q, rest⟩ := p
    by_cases hr : rest = []
    · subst hr
      rw [parS_all hsl hq]
      cases hb : rgtS q with
      | false => exact Tryd.parse_wrong (rest := []) s w hs hq hb
      | true => exact Tryd.parse_right (rest := []) s w hs hq hb
    · rw [parS_more hsl hq hr]
      exact Tryd.parse_more s w hs hq hr
theorem parse_calls (s : ByteArray) (w : World) : Calls Tryd.prog 8 #[.string s] w fun e w' => e = .returned (.tuple #[.agg (enC (parS s.data.toList).1), .int .i64 (parS s.data.toList).2]) ∧ Below w.heap.size w w' := by
  by_cases h : 16384 < s.size
  · have e1 : parS s.data.toList = (zeroEn, 5) := by
      unfold parS
      exact if_pos h
    rw [e1]
    exact Tryd.parse_long s w h
  · exact parse_short s w (by omega)
noncomputable def parC : Contract := mkC (α := List UInt8) (fun _ => True) (fun l => [.c (.str l)]) (fun _ => []) (fun l => ⟨[.pv (parS l).1.av, .pv (.c (.int .i64 (parS l).2))], []⟩)
theorem par_at (l : List UInt8) : parC [.c (.str l)] [] = some ⟨[.pv (parS l).1.av, .pv (.c (.int .i64 (parS l).2))], []⟩ :=
  mkC_at (α := List UInt8) l trivial (by
    rintro y _ h _
    simp only [List.cons.injEq, AV.c.injEq, PC.str.injEq, and_true] at h
    rw [h])
theorem par_sound : SoundC Tryd.prog 8 parC := by
  refine ⟨⟨_, Tryd.func8, rfl, rfl⟩, fun args objs r hr => ?_⟩
  obtain ⟨l, _, rfl, rfl, rfl⟩ := mkC_inv hr
  refine ⟨fun x hx => resB_spec (l := [.pv (parS l).1.av, .pv (.c (.int .i64 (parS l).2))]) rfl x hx, fun Ext G w vals M hl hx => ?_⟩
  match vals, hl with
  | [v1], _ =>
  have e1 : v1 = .string ⟨l.toArray⟩ := by
    have := hx 0 _ v1 rfl rfl
    cases this with
    | c _ _ h => cases h; rfl
  subst e1
  refine Calls.mono (parse_calls ⟨l.toArray⟩ w) ?_
  rintro e W' ⟨rfl, bel⟩
  refine ⟨G, _, rfl, Gh.le_refl _, M.below0 bel rfl, ?_⟩
  refine .tup _ _ rfl fun i x u h1 h2 => ?_
  match i with
  | 0 => cases h1; cases h2; exact ar_en _ _
  | 1 => cases h1; cases h2; exact .c _ _ (.int _ _)
  | i + 2 => cases h1


variable {Γ : FuncId → Contract}

def tlC : Nat → Code → Code
  | n + 1, .seq _ b => tlC n b
  | _, c => c
def cutC : Nat → Code → Code → Code
  | 0, _, x => x
  | n + 1, .seq a b, x => .seq a (cutC n b x)
  | _ + 1, c, _ => c
noncomputable def bodyDB : Code := (Tryd.f3.body).getD .skip
theorem eqg_vo : Tryd.prog.eqGuardType Tryd.prog.depth 23 = false := by kernel_rfl
theorem eqg_tx : Tryd.prog.eqGuardType Tryd.prog.depth 25 = false := by kernel_rfl
theorem eqg_mk : Tryd.prog.eqGuardType Tryd.prog.depth 27 = false := by kernel_rfl
theorem eqg_en : Tryd.prog.eqGuardType Tryd.prog.depth 35 = false := by kernel_rfl
set_option maxRecDepth 100000 in
theorem eqx_vo (v : Vt) : eqE Tryd.prog 10000 23 [.int .i64 v.kd, .int .i64 v.vw, .int .i64 v.ht, .str v.bl, .int .i64 v.tk, .int .i64 v.sg, .str v.sig] [.int .i64 v.kd, .int .i64 v.vw, .int .i64 v.ht, .str v.bl, .int .i64 v.tk, .int .i64 v.sg, .str v.sig] = some true := by
  have h : eqE Tryd.prog 10000 23 [.int .i64 v.kd, .int .i64 v.vw, .int .i64 v.ht, .str v.bl, .int .i64 v.tk, .int .i64 v.sg, .str v.sig] [.int .i64 v.kd, .int .i64 v.vw, .int .i64 v.ht, .str v.bl, .int .i64 v.tk, .int .i64 v.sg, .str v.sig] = some ((v.kd == v.kd) && ((v.vw == v.vw) && ((v.ht == v.ht) && ((v.bl == v.bl) && ((v.tk == v.tk) && ((v.sg == v.sg) && ((v.sig == v.sig) && true))))))) := by kernel_rfl
  rw [h]
  simp
set_option maxRecDepth 100000 in
theorem eqx_tx (t : Txn) : eqE Tryd.prog 10000 25 [.int .i64 t.fr, .int .i64 t.to, .int .i64 t.am, .int .i64 t.no, .str t.sig] [.int .i64 t.fr, .int .i64 t.to, .int .i64 t.am, .int .i64 t.no, .str t.sig] = some true := by
  have h : eqE Tryd.prog 10000 25 [.int .i64 t.fr, .int .i64 t.to, .int .i64 t.am, .int .i64 t.no, .str t.sig] [.int .i64 t.fr, .int .i64 t.to, .int .i64 t.am, .int .i64 t.no, .str t.sig] = some ((t.fr == t.fr) && ((t.to == t.to) && ((t.am == t.am) && ((t.no == t.no) && ((t.sig == t.sig) && true))))) := by kernel_rfl
  rw [h]
  simp
set_option maxRecDepth 100000 in
theorem eqx_mk (m : Mk) : eqE Tryd.prog 10000 27 [.int .i64 m.vw, .int .i64 m.ht, .str m.bl] [.int .i64 m.vw, .int .i64 m.ht, .str m.bl] = some true := by
  have h : eqE Tryd.prog 10000 27 [.int .i64 m.vw, .int .i64 m.ht, .str m.bl] [.int .i64 m.vw, .int .i64 m.ht, .str m.bl] = some ((m.vw == m.vw) && ((m.ht == m.ht) && ((m.bl == m.bl) && true))) := by kernel_rfl
  rw [h]
  simp
set_option maxRecDepth 100000 in
theorem eqx_en (e : En) : eqE Tryd.prog 10000 35 [.str e.kind, .int .i64 e.v.kd, .int .i64 e.v.vw, .int .i64 e.v.ht, .str e.v.bl, .int .i64 e.v.tk, .int .i64 e.v.sg, .str e.v.sig, .int .i64 e.t.fr, .int .i64 e.t.to, .int .i64 e.t.am, .int .i64 e.t.no, .str e.t.sig, .int .i64 e.m.vw, .int .i64 e.m.ht, .str e.m.bl] [.str e.kind, .int .i64 e.v.kd, .int .i64 e.v.vw, .int .i64 e.v.ht, .str e.v.bl, .int .i64 e.v.tk, .int .i64 e.v.sg, .str e.v.sig, .int .i64 e.t.fr, .int .i64 e.t.to, .int .i64 e.t.am, .int .i64 e.t.no, .str e.t.sig, .int .i64 e.m.vw, .int .i64 e.m.ht, .str e.m.bl] = some true := by
  have h : eqE Tryd.prog 10000 35 [.str e.kind, .int .i64 e.v.kd, .int .i64 e.v.vw, .int .i64 e.v.ht, .str e.v.bl, .int .i64 e.v.tk, .int .i64 e.v.sg, .str e.v.sig, .int .i64 e.t.fr, .int .i64 e.t.to, .int .i64 e.t.am, .int .i64 e.t.no, .str e.t.sig, .int .i64 e.m.vw, .int .i64 e.m.ht, .str e.m.bl] [.str e.kind, .int .i64 e.v.kd, .int .i64 e.v.vw, .int .i64 e.v.ht, .str e.v.bl, .int .i64 e.v.tk, .int .i64 e.v.sg, .str e.v.sig, .int .i64 e.t.fr, .int .i64 e.t.to, .int .i64 e.t.am, .int .i64 e.t.no, .str e.t.sig, .int .i64 e.m.vw, .int .i64 e.m.ht, .str e.m.bl] = some ((e.kind == e.kind) && (((e.v.kd == e.v.kd) && ((e.v.vw == e.v.vw) && ((e.v.ht == e.v.ht) && ((e.v.bl == e.v.bl) && ((e.v.tk == e.v.tk) && ((e.v.sg == e.v.sg) && ((e.v.sig == e.v.sig) && true))))))) && (((e.t.fr == e.t.fr) && ((e.t.to == e.t.to) && ((e.t.am == e.t.am) && ((e.t.no == e.t.no) && ((e.t.sig == e.t.sig) && true))))) && (((e.m.vw == e.m.vw) && ((e.m.ht == e.m.ht) && ((e.m.bl == e.m.bl) && true))) && true)))) := by kernel_rfl
  rw [h]
  simp
theorem par_ok {A : List UInt8} {e : En} (hl : A.length ≤ 16384) (h : parE A = some e) : parS A = (e, 0) := by
  unfold parS
  rw [if_neg (by omega), h]
theorem caseV {v : Vt} {A : List UInt8} {ea : Int} {e : En} {n : Int} (hA : (if okV v then lineV v else []) = A) (hea : voS v = ea) (hp : parS A = (e, n)) :
    (ea == 0) = false ∨ ((ea == 0) = true ∧ decide ((A.length : Int) ≤ 16384) = false) ∨ ((ea == 0) = true ∧ decide ((A.length : Int) ≤ 16384) = true ∧ (e.kind == [118, 111, 116, 101]) = true ∧ eqE Tryd.prog 10000 23 [.int .i64 e.v.kd, .int .i64 e.v.vw, .int .i64 e.v.ht, .str e.v.bl, .int .i64 e.v.tk, .int .i64 e.v.sg, .str e.v.sig] [.int .i64 v.kd, .int .i64 v.vw, .int .i64 v.ht, .str v.bl, .int .i64 v.tk, .int .i64 v.sg, .str v.sig] = some true) := by
  by_cases h : okV v
  · rw [if_pos h] at hA
    have h0 : ea = 0 := by rw [← hea]; exact if_pos h
    by_cases hl : A.length ≤ 16384
    · subst hA
      rw [par_ok hl (par_V h)] at hp
      cases hp
      exact .inr (.inr ⟨by rw [h0]; rfl, decide_eq_true (by omega), rfl, eqx_vo v⟩)
    · exact .inr (.inl ⟨by rw [h0]; rfl, decide_eq_false (by omega)⟩)
  · refine .inl ?_
    rw [← hea]
    unfold voS
    rw [if_neg h]
    rfl
theorem caseT {t : Txn} {A : List UInt8} {ea : Int} {e : En} {n : Int} (hA : (if okT t then lineT t else []) = A) (hea : txS t = ea) (hp : parS A = (e, n)) :
    (ea == 0) = false ∨ ((ea == 0) = true ∧ decide ((A.length : Int) ≤ 16384) = false) ∨ ((ea == 0) = true ∧ decide ((A.length : Int) ≤ 16384) = true ∧ (e.kind == [116, 120]) = true ∧ eqE Tryd.prog 10000 25 [.int .i64 e.t.fr, .int .i64 e.t.to, .int .i64 e.t.am, .int .i64 e.t.no, .str e.t.sig] [.int .i64 t.fr, .int .i64 t.to, .int .i64 t.am, .int .i64 t.no, .str t.sig] = some true) := by
  by_cases h : okT t
  · rw [if_pos h] at hA
    have h0 : ea = 0 := by rw [← hea]; exact if_pos h
    by_cases hl : A.length ≤ 16384
    · subst hA
      rw [par_ok hl (par_T h)] at hp
      cases hp
      exact .inr (.inr ⟨by rw [h0]; rfl, decide_eq_true (by omega), rfl, eqx_tx t⟩)
    · exact .inr (.inl ⟨by rw [h0]; rfl, decide_eq_false (by omega)⟩)
  · refine .inl ?_
    rw [← hea]
    unfold txS
    rw [if_neg h]
    rfl
theorem caseM {m : Mk} {A : List UInt8} {ea : Int} {e : En} {n : Int} (hA : (if mkErr m = 0 then lineM m else []) = A) (hea : mkErr m = ea) (hp : parS A = (e, n)) :
    (ea == 0) = false ∨ ((ea == 0) = true ∧ decide ((A.length : Int) ≤ 16384) = false) ∨ ((ea == 0) = true ∧ decide ((A.length : Int) ≤ 16384) = true ∧ (e.kind == [109, 97, 114, 107]) = true ∧ eqE Tryd.prog 10000 27 [.int .i64 e.m.vw, .int .i64 e.m.ht, .str e.m.bl] [.int .i64 m.vw, .int .i64 m.ht, .str m.bl] = some true) := by
  subst hea
  by_cases h : mkErr m = 0
  · rw [if_pos h] at hA
    by_cases hl : A.length ≤ 16384
    · subst hA
      rw [par_ok hl (par_M h)] at hp
      cases hp
      exact .inr (.inr ⟨by rw [h]; rfl, decide_eq_true (by omega), rfl, eqx_mk m⟩)
    · exact .inr (.inl ⟨by rw [h]; rfl, decide_eq_false (by omega)⟩)
  · exact .inl (beq_eq_false_iff_ne.2 h)
theorem caseS {s : List UInt8} {e : En} {n : Int} (hp : parS s = (e, n)) :
    ((n != 0) = true ∧ ((n == 33) = true ∨ ((n == 33) = false ∧ (n == 5) = true)) ∧ eqE Tryd.prog 10000 35 [.str e.kind, .int .i64 e.v.kd, .int .i64 e.v.vw, .int .i64 e.v.ht, .str e.v.bl, .int .i64 e.v.tk, .int .i64 e.v.sg, .str e.v.sig, .int .i64 e.t.fr, .int .i64 e.t.to, .int .i64 e.t.am, .int .i64 e.t.no, .str e.t.sig, .int .i64 e.m.vw, .int .i64 e.m.ht, .str e.m.bl] [.str [], .int .i64 0, .int .i64 0, .int .i64 0, .str [], .int .i64 0, .int .i64 0, .str [], .int .i64 0, .int .i64 0, .int .i64 0, .int .i64 0, .str [], .int .i64 0, .int .i64 0, .str []] = some true) ∨
    ((n != 0) = false ∧ (((e.kind == [118, 111, 116, 101]) = true ∧ okV e.v ∧ lineV e.v = s) ∨ ((e.kind == [118, 111, 116, 101]) = false ∧ (e.kind == [116, 120]) = true ∧ okT e.t ∧ lineT e.t = s) ∨ ((e.kind == [118, 111, 116, 101]) = false ∧ (e.kind == [116, 120]) = false ∧ (e.kind == [109, 97, 114, 107]) = true ∧ mkErr e.m = 0 ∧ lineM e.m = s))) := by
  unfold parS at hp
  split at hp
  · cases hp
    exact .inl ⟨rfl, .inr ⟨rfl, rfl⟩, eqx_en zeroEn⟩
  · cases hq : parE s with
    | none =>
      rw [hq] at hp
      cases hp
      exact .inl ⟨rfl, .inl rfl, eqx_en zeroEn⟩
    | some x =>
      rw [hq] at hp
      cases hp
      refine .inr ⟨rfl, ?_⟩
      rcases par_inv hq with ⟨h1, h2, h3⟩ | ⟨h1, h2, h3⟩ | ⟨h1, h2, h3⟩
      · rw [h1]; exact .inl ⟨rfl, h2, h3⟩
      · rw [h1]; exact .inr (.inl ⟨rfl, rfl, h2, h3⟩)
      · rw [h1]; exact .inr (.inr ⟨rfl, rfl, rfl, h2, h3⟩)
end Go.Proofs.YtcfijanfcgnnhaaDoor.AM
