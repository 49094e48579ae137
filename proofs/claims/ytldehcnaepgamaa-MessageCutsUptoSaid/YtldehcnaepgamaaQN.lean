/-
  QN: MgC MgD MgE MgF.
-/
import Derived.Test.YtldehcnaepgamaaQM
set_option linter.unusedVariables false
set_option linter.unusedSimpArgs false
namespace Go.Proofs.Ytldehcnaepgamaa.AM
open Go

variable {Γ : FuncId → Contract}

/-- What a writer holds, as far as it counts. -/
def Wr (w : WS) (out : List UInt8) : Prop := w.e = 0 ∧ (w.b = out ∨ (16384 < w.b.length ∧ 16384 < out.length))
theorem Wr.num {w : WS} {out : List UInt8} (h : Wr w out) {n : Int} (h0 : 0 ≤ n) (h1 : n ≤ 1099511627776) : Wr (wNum w n) (out ++ putB n 6) := by
  obtain ⟨he, hb⟩ := h
  unfold wNum
  rw [if_neg (by omega)]
  split
  · refine ⟨he, .inl ?_⟩
    rcases hb with hb | hb
    · show w.b ++ _ = _; rw [hb]
    · omega
  · refine ⟨he, .inr ⟨by omega, ?_⟩⟩
    rcases hb with hb | hb
    · rw [List.length_append, ← hb]; omega
    · rw [List.length_append]; omega
theorem Wr.text {w : WS} {out : List UInt8} (h : Wr w out) {s : List UInt8} (h1 : s.length ≤ 4096) : Wr (rText w s) (out ++ (putB (s.length : Int) 2 ++ s)) := by
  obtain ⟨he, hb⟩ := h
  unfold rText
  rw [if_neg (by omega)]
  split
  · refine ⟨he, .inl ?_⟩
    rcases hb with hb | hb
    · show w.b ++ _ ++ _ = _; rw [hb, List.append_assoc]
    · omega
  · refine ⟨he, .inr ⟨by omega, ?_⟩⟩
    rcases hb with hb | hb
    · rw [List.length_append, ← hb]; omega
    · rw [List.length_append]; omega
theorem Wr.done {w : WS} {out : List UInt8} (h : Wr w out) : doneR w = if out.length ≤ 16384 then (out, 0) else ([], 5) := by
  obtain ⟨he, hb⟩ := h
  unfold doneR
  rw [if_pos he]
  rcases hb with hb | ⟨h1, h2⟩
  · rw [hb]
    by_cases h : out.length ≤ 16384
    · rw [if_pos h, if_neg (by omega)]
    · rw [if_neg h, if_pos (by omega)]
  · rw [if_pos h1, if_neg (by omega)]
theorem Wr.tx {w : WS} {out : List UInt8} (h : Wr w out) {t : Txn} (ht : okT t) : Wr (txP w t) (out ++ txE t) := by
  obtain ⟨h1, h2, h3, h4, h5, h6, h7, h8⟩ := ht
  have a := ((((((h.text (s := [116, 120]) (by decide)).num (n := t.fr) (by omega) (by omega)).num (n := t.to) (by omega) (by omega)).num (n := t.am) (by omega) (by omega)).num (n := t.no) h6 h7)).text h8
  have e : txE t = (putB ((([116, 120] : List UInt8).length : Nat) : Int) 2 ++ [116, 120]) ++ putB t.fr 6 ++ putB t.to 6 ++ putB t.am 6 ++ putB t.no 6 ++ (putB (t.sig.length : Int) 2 ++ t.sig) := by
    simp [txE, txB, txW]
  rw [e]
  simp only [List.append_assoc] at a ⊢
  exact a
theorem Wr.vo {w : WS} {out : List UInt8} (h : Wr w out) {t : Vt} (ht : okV t) : Wr (voP w t) (out ++ voE t) := by
  have hb := okV_bl ht
  obtain ⟨n1, n2⟩ := okV_nums ht
  obtain ⟨h1, h2, h3, h4, h5, h6, h7, h8⟩ := ht
  have a := ((((((((h.text (s := [118, 111, 116, 101]) (by decide)).num (n := t.kd) (by omega) (by omega)).num (n := t.vw) (by omega) (by omega)).num (n := t.ht) (by omega) (by omega)).text (s := t.bl) (by omega)).num (n := t.tk) (by omega) (by omega)).num (n := t.sg) (by omega) (by omega))).text h8
  have e : voE t = (putB ((([118, 111, 116, 101] : List UInt8).length : Nat) : Int) 2 ++ [118, 111, 116, 101]) ++ putB t.kd 6 ++ putB t.vw 6 ++ putB t.ht 6 ++ (putB (t.bl.length : Int) 2 ++ t.bl) ++ putB t.tk 6 ++ putB t.sg 6 ++ (putB (t.sig.length : Int) 2 ++ t.sig) := by
    simp [voE, voB]
  rw [e]
  simp only [List.append_assoc] at a ⊢
  exact a
theorem Wr.txs : ∀ {l : List Txn} {w : WS} {out : List UInt8}, Wr w out → (∀ t ∈ l, okT t) → Wr (txsP w l) (out ++ (l.map txE).flatten)
  | [], w, out, h, _ => by simpa [txsP] using h
  | t :: l, w, out, h, hl => by
    have := Wr.txs (l := l) (h.tx (hl t (by simp))) (fun x hx => hl x (by simp [hx]))
    simpa [txsP] using this
theorem Wr.vos : ∀ {l : List Vt} {w : WS} {out : List UInt8}, Wr w out → (∀ t ∈ l, okV t) → Wr (vosP w l) (out ++ (l.map voE).flatten)
  | [], w, out, h, _ => by simpa [vosP] using h
  | t :: l, w, out, h, hl => by
    have := Wr.vos (l := l) (h.vo (hl t (by simp))) (fun x hx => hl x (by simp [hx]))
    simpa [vosP] using this
def ctE (c : Ct) : List UInt8 := putB c.vw 6 ++ (putB c.ht 6 ++ ((putB (c.bl.length : Int) 2 ++ c.bl) ++ (putB (c.vs.length : Int) 6 ++ (c.vs.map voE).flatten)))
def okCt (c : Ct) : Prop := (0 ≤ c.vw ∧ c.vw ≤ 1048576) ∧ (0 ≤ c.ht ∧ c.ht ≤ 1048576) ∧ c.bl.length = 32 ∧ c.vs.length ≤ 7 ∧ ∀ v ∈ c.vs, okV v
theorem Wr.ct {w : WS} {out : List UInt8} (h : Wr w out) {c : Ct} (hc : okCt c) : Wr (ctP w c) (out ++ ctE c) := by
  obtain ⟨h1, h2, h3, h4, h5⟩ := hc
  have a := ((((h.num (n := c.vw) (by omega) (by omega)).num (n := c.ht) (by omega) (by omega)).text (s := c.bl) (by omega)).num (n := (c.vs.length : Int)) (by omega) (by omega)).vos (l := c.vs) h5
  have e : ctE c = putB c.vw 6 ++ putB c.ht 6 ++ (putB (c.bl.length : Int) 2 ++ c.bl) ++ putB (c.vs.length : Int) 6 ++ (c.vs.map voE).flatten := by simp [ctE]
  rw [e]
  simp only [List.append_assoc] at a ⊢
  exact a
def bkE (b : Blk) : List UInt8 := (putB 5 2 ++ [98, 108, 111, 99, 107]) ++ (putB b.vw 6 ++ (putB b.ht 6 ++ ((putB (b.pa.length : Int) 2 ++ b.pa) ++ (putB b.ju.vw 6 ++ (putB (b.txs.length : Int) 6 ++ ((b.txs.map txE).flatten ++ (ctE b.ju ++ (putB (b.sig.length : Int) 2 ++ b.sig))))))))
def okBk (b : Blk) : Prop := okB b ∧ b.ju.vs.length ≤ 7 ∧ ∀ v ∈ b.ju.vs, okV v
theorem okBk_ct {b : Blk} (h : okBk b) : okCt b.ju := by
  obtain ⟨⟨a1, a2, a3, a4, a5, a6, _⟩, h2, h3⟩ := h
  refine ⟨?_, ?_, ?_, h2, h3⟩
  · omega
  · omega
  · rw [a4]; exact a3
theorem Wr.bk {w : WS} {out : List UInt8} (h : Wr w out) {b : Blk} (hb : okBk b) : Wr (bkP w b) (out ++ bkE b) := by
  have hc := okBk_ct hb
  obtain ⟨⟨a1, a2, a3, a4, a5, a6, a7, a8, a9⟩, h2, h3⟩ := hb
  have a := (((((((((h.text (s := [98, 108, 111, 99, 107]) (by decide)).num (n := b.vw) (by omega) (by omega)).num (n := b.ht) (by omega) (by omega)).text (s := b.pa) (by omega)).num (n := b.ju.vw) (by omega) (by omega)).num (n := (b.txs.length : Int)) (by omega) (by omega)).txs (l := b.txs) a8)).ct hc).text (s := b.sig) a9
  have e : bkE b = (putB ((([98, 108, 111, 99, 107] : List UInt8).length : Nat) : Int) 2 ++ [98, 108, 111, 99, 107]) ++ putB b.vw 6 ++ putB b.ht 6 ++ (putB (b.pa.length : Int) 2 ++ b.pa) ++ putB b.ju.vw 6 ++ putB (b.txs.length : Int) 6 ++ (b.txs.map txE).flatten ++ ctE b.ju ++ (putB (b.sig.length : Int) 2 ++ b.sig) := by
    simp [bkE]
  rw [e]
  simp only [List.append_assoc] at a ⊢
  exact a
/-- A message's octets. -/
def encM (m : Msg) : List UInt8 := putB m.kd 6 ++
  (if m.kd = 1 then bkE m.bk else if m.kd = 2 then voE m.vo else if m.kd = 3 then ctE m.ct else if m.kd = 4 then putB (m.bs.length : Int) 6 ++ (m.bs.map voE).flatten
   else if m.kd = 5 then putB (m.ak.length : Int) 2 ++ m.ak else txE m.tx)
/-- The six kinds of messages. -/
theorem okMsg_cases {m : Msg} (h : okMsg m) :
    (∃ b, m = ⟨1, b, zeroV, zeroCt, [], [], zeroT⟩ ∧ okBk b) ∨ (∃ v, m = ⟨2, zeroBk, v, zeroCt, [], [], zeroT⟩ ∧ okV v) ∨ (∃ c, m = ⟨3, zeroBk, zeroV, c, [], [], zeroT⟩ ∧ okCt c) ∨
    (∃ l, m = ⟨4, zeroBk, zeroV, zeroCt, l, [], zeroT⟩ ∧ l.length ≤ 7 ∧ ∀ v ∈ l, okV v) ∨ (∃ s, m = ⟨5, zeroBk, zeroV, zeroCt, [], s, zeroT⟩ ∧ s.length = 32) ∨ (∃ t, m = ⟨6, zeroBk, zeroV, zeroCt, [], [], t⟩ ∧ okT t) := by
  obtain ⟨h2, h1⟩ := h
  obtain ⟨kd, bk, vo, ct, bs, ak, tx⟩ := m
  unfold canM at h1 h2
  dsimp only at h1 h2
  split at h1
  · rename_i e
    subst e
    rw [if_pos rfl] at h2
    have h2 : (decide (okB bk) && votedP bk.ju.vs) = true := h2
    rw [Bool.and_eq_true, decide_eq_true_iff, votedP_iff] at h2
    exact .inl ⟨bk, h1.symm, h2.1, h2.2⟩
  rename_i n1
  rw [if_neg n1] at h2
  split at h1
  · rename_i e
    subst e
    have h2 : (!odmP vo) = true := h2
    exact .inr (.inl ⟨vo, h1.symm, by simpa [odmP] using h2⟩)
  rename_i n2
  rw [if_neg n2] at h2
  split at h1
  · rename_i e
    subst e
    have h2 : certP ct = true := h2
    exact .inr (.inr (.inl ⟨ct, h1.symm, certP_iff.1 h2⟩))
  rename_i n3
  rw [if_neg n3] at h2
  split at h1
  · rename_i e
    subst e
    have h2 : votedP bs = true := h2
    exact .inr (.inr (.inr (.inl ⟨bs, h1.symm, votedP_iff.1 h2⟩)))
  rename_i n4
  rw [if_neg n4] at h2
  split at h1
  · rename_i e
    subst e
    have h2 : ((ak.length : Int) == 32) = true := h2
    have h2 : (ak.length : Int) = 32 := by simpa using h2
    exact .inr (.inr (.inr (.inr (.inl ⟨ak, h1.symm, by omega⟩))))
  rename_i n5
  rw [if_neg n5] at h2
  split at h1
  · rename_i e
    subst e
    have h2 : decide (okT tx) = true := h2
    exact .inr (.inr (.inr (.inr (.inr ⟨tx, h1.symm, of_decide_eq_true h2⟩))))
  · rename_i n6
    rw [if_neg n6] at h2
    cases h2
theorem Wr.start : Wr ⟨[], 0⟩ [] := ⟨rfl, .inl rfl⟩
theorem msP_wr {m : Msg} (h : okMsg m) : Wr (msP m) (encM m) := by
  have st : ∀ n : Int, 0 ≤ n → n ≤ 1099511627776 → Wr (wNum ⟨[], 0⟩ n) (putB n 6) := fun n h0 h1 => by simpa using Wr.start.num h0 h1
  rcases okMsg_cases h with ⟨b, rfl, hb⟩ | ⟨v, rfl, hv⟩ | ⟨c, rfl, hc⟩ | ⟨l, rfl, hl1, hl2⟩ | ⟨s, rfl, hs⟩ | ⟨t, rfl, ht⟩
  · exact (st 1 (by decide) (by decide)).bk hb
  · exact (st 2 (by decide) (by decide)).vo hv
  · exact (st 3 (by decide) (by decide)).ct hc
  · have := ((st 4 (by decide) (by decide)).num (n := (l.length : Int)) (by omega) (by omega)).vos hl2
    rw [List.append_assoc] at this
    exact this
  · have h4 : s.length ≤ 4096 := by omega
    exact (st 5 (by decide) (by decide)).text h4
  · exact (st 6 (by decide) (by decide)).tx ht
theorem putM_ok {m : Msg} (h : okMsg m) : putM m = if (encM m).length ≤ 16384 then (encM m, 0) else ([], 5) := by
  unfold putM
  rw [if_pos h]
  exact (msP_wr h).done


variable {Γ : FuncId → Contract}

theorem vosR_put (l : List Vt) (h : ∀ v ∈ l, okV v) (rest : List UInt8) : ∀ n, n ≤ l.length → vosR n ⟨(l.map voE).flatten ++ rest, 0⟩ = (l.take n, ⟨((l.drop n).map voE).flatten ++ rest, 0⟩)
  | 0, _ => by simp [vosR]
  | n + 1, hn => by
    have hlt : n < l.length := hn
    rw [vosR, vosR_put l h rest n (by omega)]
    dsimp only
    rw [List.drop_eq_getElem_cons hlt, List.map_cons, List.flatten_cons, List.append_assoc, read_putV (h _ (List.getElem_mem hlt)), List.take_succ_eq_append_getElem hlt]
theorem txsR_put (l : List Txn) (h : ∀ v ∈ l, okT v) (rest : List UInt8) : ∀ n, n ≤ l.length → txsR n ⟨(l.map txE).flatten ++ rest, 0⟩ = (l.take n, ⟨((l.drop n).map txE).flatten ++ rest, 0⟩)
  | 0, _ => by simp [txsR]
  | n + 1, hn => by
    have hlt : n < l.length := hn
    rw [txsR, txsR_put l h rest n (by omega)]
    dsimp only
    rw [List.drop_eq_getElem_cons hlt, List.map_cons, List.flatten_cons, List.append_assoc, read_putT (h _ (List.getElem_mem hlt)), List.take_succ_eq_append_getElem hlt]
theorem vosR_all (l : List Vt) (h : ∀ v ∈ l, okV v) (rest : List UInt8) : vosR l.length ⟨(l.map voE).flatten ++ rest, 0⟩ = (l, ⟨rest, 0⟩) := by
  have := vosR_put l h rest l.length (Nat.le_refl _)
  simpa using this
theorem txsR_all (l : List Txn) (h : ∀ v ∈ l, okT v) (rest : List UInt8) : txsR l.length ⟨(l.map txE).flatten ++ rest, 0⟩ = (l, ⟨rest, 0⟩) := by
  have := txsR_put l h rest l.length (Nat.le_refl _)
  simpa using this
theorem readC_put {c : Ct} (h : okCt c) (rest : List UInt8) : readC ⟨ctE c ++ rest, 0⟩ = (c, ⟨rest, 0⟩) := by
  obtain ⟨h1, h2, h3, h4, h5⟩ := h
  have e : ctE c ++ rest = putB c.vw 6 ++ (putB c.ht 6 ++ (putB (c.bl.length : Int) 2 ++ (c.bl ++ (putB (c.vs.length : Int) 6 ++ ((c.vs.map voE).flatten ++ rest))))) := by simp [ctE]
  rw [e]
  generalize hbb : putB c.vw 6 ++ (putB c.ht 6 ++ (putB (c.bl.length : Int) 2 ++ (c.bl ++ (putB (c.vs.length : Int) 6 ++ ((c.vs.map voE).flatten ++ rest))))) = bb
  have c1 : cA ⟨bb, 0⟩ = (c.vw, ⟨putB c.ht 6 ++ (putB (c.bl.length : Int) 2 ++ (c.bl ++ (putB (c.vs.length : Int) 6 ++ ((c.vs.map voE).flatten ++ rest)))), 0⟩) := by
    unfold cA; rw [← hbb]; exact rd_put (by omega) (by omega) (by omega) _
  have c2 : cB ⟨bb, 0⟩ = (c.ht, ⟨putB (c.bl.length : Int) 2 ++ (c.bl ++ (putB (c.vs.length : Int) 6 ++ ((c.vs.map voE).flatten ++ rest))), 0⟩) := by
    unfold cB; rw [c1]; exact rd_put (by omega) (by omega) (by omega) _
  have c3 : cC ⟨bb, 0⟩ = (c.bl, ⟨putB (c.vs.length : Int) 6 ++ ((c.vs.map voE).flatten ++ rest), 0⟩) := by
    unfold cC; rw [c2]; exact rdT_put (by omega) (by omega) _
  have c4 : cD ⟨bb, 0⟩ = ((c.vs.length : Int), ⟨(c.vs.map voE).flatten ++ rest, 0⟩) := by
    unfold cD; rw [c3]; exact rd_put (by omega) (by omega) (by omega) _
  have c5 : cE ⟨bb, 0⟩ = (c.vs, ⟨rest, 0⟩) := by
    unfold cE; rw [c4]; dsimp only; rw [Int.toNat_natCast]; exact vosR_all c.vs h5 rest
  unfold readC gotC
  rw [c5, c1, c2, c3]
  rfl
theorem readB_put {b : Blk} (h : okBk b) (rest : List UInt8) : readB ⟨bkE b ++ rest, 0⟩ = (b, ⟨rest, 0⟩) := by
  have hc := okBk_ct h
  have hk := h.1
  obtain ⟨⟨a1, a2, a3, a4, a5, a6, a7, a8, a9⟩, h2, h3⟩ := h
  have e : bkE b ++ rest = putB ((([98, 108, 111, 99, 107] : List UInt8).length : Nat) : Int) 2 ++ ([98, 108, 111, 99, 107] ++ (putB b.vw 6 ++ (putB b.ht 6 ++ (putB (b.pa.length : Int) 2 ++ (b.pa ++ (putB b.ju.vw 6 ++ (putB (b.txs.length : Int) 6 ++ ((b.txs.map txE).flatten ++ (ctE b.ju ++ (putB (b.sig.length : Int) 2 ++ (b.sig ++ rest))))))))))) := by
    simp [bkE]
  rw [e]
  have c0 := rdT_put (s := [98, 108, 111, 99, 107]) (most := 5) (by decide) (by decide) (putB b.vw 6 ++ (putB b.ht 6 ++ (putB (b.pa.length : Int) 2 ++ (b.pa ++ (putB b.ju.vw 6 ++ (putB (b.txs.length : Int) 6 ++ ((b.txs.map txE).flatten ++ (ctE b.ju ++ (putB (b.sig.length : Int) 2 ++ (b.sig ++ rest))))))))))
  generalize hbb : putB b.vw 6 ++ (putB b.ht 6 ++ (putB (b.pa.length : Int) 2 ++ (b.pa ++ (putB b.ju.vw 6 ++ (putB (b.txs.length : Int) 6 ++ ((b.txs.map txE).flatten ++ (ctE b.ju ++ (putB (b.sig.length : Int) 2 ++ (b.sig ++ rest))))))))) = bb at c0 ⊢
  have c1 : fA ⟨bb, 0⟩ = (b.vw, ⟨putB b.ht 6 ++ (putB (b.pa.length : Int) 2 ++ (b.pa ++ (putB b.ju.vw 6 ++ (putB (b.txs.length : Int) 6 ++ ((b.txs.map txE).flatten ++ (ctE b.ju ++ (putB (b.sig.length : Int) 2 ++ (b.sig ++ rest)))))))), 0⟩) := by
    unfold fA; rw [← hbb]; exact rd_put (by omega) (by omega) (by omega) _
  have c2 : fB ⟨bb, 0⟩ = (b.ht, ⟨putB (b.pa.length : Int) 2 ++ (b.pa ++ (putB b.ju.vw 6 ++ (putB (b.txs.length : Int) 6 ++ ((b.txs.map txE).flatten ++ (ctE b.ju ++ (putB (b.sig.length : Int) 2 ++ (b.sig ++ rest))))))), 0⟩) := by
    unfold fB; rw [c1]; exact rd_put (by omega) (by omega) (by omega) _
  have c3 : fC ⟨bb, 0⟩ = (b.pa, ⟨putB b.ju.vw 6 ++ (putB (b.txs.length : Int) 6 ++ ((b.txs.map txE).flatten ++ (ctE b.ju ++ (putB (b.sig.length : Int) 2 ++ (b.sig ++ rest))))), 0⟩) := by
    unfold fC; rw [c2]; exact rdT_put (by omega) (by omega) _
  have c4 : fD ⟨bb, 0⟩ = (b.ju.vw, ⟨putB (b.txs.length : Int) 6 ++ ((b.txs.map txE).flatten ++ (ctE b.ju ++ (putB (b.sig.length : Int) 2 ++ (b.sig ++ rest)))), 0⟩) := by
    unfold fD; rw [c3]; exact rd_put (by omega) (by omega) (by omega) _
  have c5 : fE ⟨bb, 0⟩ = ((b.txs.length : Int), ⟨(b.txs.map txE).flatten ++ (ctE b.ju ++ (putB (b.sig.length : Int) 2 ++ (b.sig ++ rest))), 0⟩) := by
    unfold fE; rw [c4]; exact rd_put (by omega) (by omega) (by omega) _
  have c6 : fF ⟨bb, 0⟩ = (b.txs, ⟨ctE b.ju ++ (putB (b.sig.length : Int) 2 ++ (b.sig ++ rest)), 0⟩) := by
    unfold fF; rw [c5]; dsimp only; rw [Int.toNat_natCast]; exact txsR_all b.txs a8 _
  have c7 : fG ⟨bb, 0⟩ = (b.ju, ⟨putB (b.sig.length : Int) 2 ++ (b.sig ++ rest), 0⟩) := by
    unfold fG; rw [c6]; exact readC_put hc _
  have c8 : fH ⟨bb, 0⟩ = (b.sig, ⟨rest, 0⟩) := by
    unfold fH; rw [c7]; exact rdT_put (by omega) (by omega) _
  have c9 : gotB ⟨bb, 0⟩ = b := by unfold gotB; rw [c1, c2, c3, c6, c7, c8]
  unfold readB
  rw [c0]
  dsimp only
  rw [if_neg (by simp), c8, c9, c4, if_neg (by simp [hk])]
theorem readM_put {m : Msg} (h : okMsg m) (rest : List UInt8) : readM ⟨encM m ++ rest, 0⟩ = (m, ⟨rest, 0⟩) := by
  have st : ∀ (n : Int) (x : List UInt8), 0 ≤ n → n ≤ 6 → rd ⟨putB n 6 ++ x, 0⟩ 6 = (n, ⟨x, 0⟩) := fun n x h0 h1 => rd_put h0 (by omega) h1 x
  unfold readM
  rcases okMsg_cases h with ⟨b, rfl, hb⟩ | ⟨v, rfl, hv⟩ | ⟨c, rfl, hc⟩ | ⟨l, rfl, hl1, hl2⟩ | ⟨s, rfl, hs⟩ | ⟨t, rfl, ht⟩
  · rw [show encM ⟨1, b, zeroV, zeroCt, [], [], zeroT⟩ = putB 1 6 ++ bkE b from rfl, List.append_assoc, st 1 _ (by decide) (by decide)]
    show ((⟨1, (readB ⟨bkE b ++ rest, 0⟩).1, zeroV, zeroCt, [], [], zeroT⟩ : Msg), (readB ⟨bkE b ++ rest, 0⟩).2) = _
    rw [readB_put hb]
  · rw [show encM ⟨2, zeroBk, v, zeroCt, [], [], zeroT⟩ = putB 2 6 ++ voE v from rfl, List.append_assoc, st 2 _ (by decide) (by decide)]
    show ((⟨2, zeroBk, (readV ⟨voE v ++ rest, 0⟩).1, zeroCt, [], [], zeroT⟩ : Msg), (readV ⟨voE v ++ rest, 0⟩).2) = _
    rw [read_putV hv]
  · rw [show encM ⟨3, zeroBk, zeroV, c, [], [], zeroT⟩ = putB 3 6 ++ ctE c from rfl, List.append_assoc, st 3 _ (by decide) (by decide)]
    show ((⟨3, zeroBk, zeroV, (readC ⟨ctE c ++ rest, 0⟩).1, [], [], zeroT⟩ : Msg), (readC ⟨ctE c ++ rest, 0⟩).2) = _
    rw [readC_put hc]
  · rw [show encM ⟨4, zeroBk, zeroV, zeroCt, l, [], zeroT⟩ = putB 4 6 ++ (putB (l.length : Int) 6 ++ (l.map voE).flatten) from rfl, List.append_assoc, List.append_assoc, st 4 _ (by decide) (by decide)]
    have e := rd_put (n := (l.length : Int)) (most := 7) (by omega) (by omega) (by omega) ((l.map voE).flatten ++ rest)
    show ((⟨4, zeroBk, zeroV, zeroCt, (vosR (rd ⟨putB (l.length : Int) 6 ++ ((l.map voE).flatten ++ rest), 0⟩ 7).1.toNat (rd ⟨putB (l.length : Int) 6 ++ ((l.map voE).flatten ++ rest), 0⟩ 7).2).1, [], zeroT⟩ : Msg), (vosR (rd ⟨putB (l.length : Int) 6 ++ ((l.map voE).flatten ++ rest), 0⟩ 7).1.toNat (rd ⟨putB (l.length : Int) 6 ++ ((l.map voE).flatten ++ rest), 0⟩ 7).2).2) = _
    rw [e]
    dsimp only
    rw [Int.toNat_natCast, vosR_all l hl2 rest]
  · rw [show encM ⟨5, zeroBk, zeroV, zeroCt, [], s, zeroT⟩ = putB 5 6 ++ (putB (s.length : Int) 2 ++ s) from rfl, List.append_assoc, List.append_assoc, st 5 _ (by decide) (by decide)]
    show ((⟨5, zeroBk, zeroV, zeroCt, [], (rdT ⟨putB (s.length : Int) 2 ++ (s ++ rest), 0⟩ 32).1, zeroT⟩ : Msg), (rdT ⟨putB (s.length : Int) 2 ++ (s ++ rest), 0⟩ 32).2) = _
    rw [rdT_put (by omega) (by omega)]
  · rw [show encM ⟨6, zeroBk, zeroV, zeroCt, [], [], t⟩ = putB 6 6 ++ txE t from rfl, List.append_assoc, st 6 _ (by decide) (by decide)]
    show ((⟨6, zeroBk, zeroV, zeroCt, [], [], (readT ⟨txE t ++ rest, 0⟩).1⟩ : Msg), (readT ⟨txE t ++ rest, 0⟩).2) = _
    rw [read_putT ht]


variable {Γ : FuncId → Contract}

theorem b2 (l : List UInt8) (h : l.length = 6) : putB (getB l) 6 = l := by
  match l, h with
  | [a, b, c, d, e, f], _ =>
    have ha := a.toNat_lt; have hb := b.toNat_lt; have hc := c.toNat_lt; have hd := d.toNat_lt; have he := e.toNat_lt; have hf := f.toNat_lt
    unfold getB putB
    simp only [List.foldl_cons, List.foldl_nil]
    rw [show (min (max (6 : Int) 0) 8).toNat = 6 from rfl, show List.range 6 = [0, 1, 2, 3, 4, 5] from rfl]
    simp only [List.map_cons, List.map_nil, Nat.reduceSub, Nat.reducePow]
    have e1 : ((((((0 * 256 + a.toNat) % 4611686018427387904 * 256 + b.toNat) % 4611686018427387904 * 256 + c.toNat) % 4611686018427387904 * 256 + d.toNat) % 4611686018427387904 * 256 + e.toNat) % 4611686018427387904 * 256 + f.toNat) % 4611686018427387904 = ((((a.toNat * 256 + b.toNat) * 256 + c.toNat) * 256 + d.toNat) * 256 + e.toNat) * 256 + f.toNat := by omega
    rw [e1, wrapU (by omega), Int.toNat_natCast]
    have u : ∀ (x : UInt8) (n : Nat), n % 256 = x.toNat → UInt8.ofNat (n % 256) = x := fun x n h => by rw [h]; simp
    simp only [List.cons.injEq, and_true]
    refine ⟨u _ _ (by omega), u _ _ (by omega), u _ _ (by omega), u _ _ (by omega), u _ _ (by omega), u _ _ (by omega)⟩
theorem nextN_inv {b : List UInt8} {most n : Int} {r : RS} (h : nextN ⟨b, 0⟩ most = (n, r)) (he : r.e = 0) : b = putB n 6 ++ r.b ∧ 0 ≤ n ∧ n ≤ most := by
  unfold nextN at h
  dsimp only at h
  split at h
  · cases h; exact absurd he (by decide)
  · rename_i hl
    split at h
    · cases h; exact absurd he (by decide)
    · rename_i hm
      cases h
      refine ⟨?_, by unfold getB; omega, by omega⟩
      rw [b2 (b.take 6) (by simp; omega), List.take_append_drop]
theorem rd_inv {r r' : RS} {most n : Int} (h : rd r most = (n, r')) (he : r'.e = 0) : r.e = 0 ∧ r.b = putB n 6 ++ r'.b ∧ 0 ≤ n ∧ n ≤ most := by
  unfold rd at h
  split at h
  · rename_i h0; exact ⟨h0, nextN_inv h he⟩
  · rename_i h0; cases h; exact absurd he h0
theorem b2' (l : List UInt8) (h : l.length = 2) : putB (getB l) 2 = l := by
  match l, h with
  | [a, b], _ =>
    have ha := a.toNat_lt; have hb := b.toNat_lt
    unfold getB putB
    simp only [List.foldl_cons, List.foldl_nil]
    rw [show (min (max (2 : Int) 0) 8).toNat = 2 from rfl, show List.range 2 = [0, 1] from rfl]
    simp only [List.map_cons, List.map_nil, Nat.reduceSub, Nat.reducePow]
    have e1 : ((0 * 256 + a.toNat) % 4611686018427387904 * 256 + b.toNat) % 4611686018427387904 = a.toNat * 256 + b.toNat := by omega
    rw [e1, wrapU (by omega), Int.toNat_natCast]
    have u : ∀ (x : UInt8) (n : Nat), n % 256 = x.toNat → UInt8.ofNat (n % 256) = x := fun x n h => by rw [h]; simp
    simp only [List.cons.injEq, and_true]
    exact ⟨u _ _ (by omega), u _ _ (by omega)⟩
theorem nextT_inv {b : List UInt8} {most : Int} {s : List UInt8} {r : RS} (h : nextT ⟨b, 0⟩ most = (s, r)) (he : r.e = 0) : b = putB (s.length : Int) 2 ++ (s ++ r.b) := by
  unfold nextT at h
  dsimp only at h
  split at h
  · cases h; exact absurd he (by decide)
  · rename_i hl
    split at h
    · cases h; exact absurd he (by decide)
    · rename_i hm
      unfold tookR at h
      dsimp only at h
      split at h
      · cases h; exact absurd he (by decide)
      · rename_i hs
        cases h
        have hg := getB_nonneg (b.take 2)
        have hlen : ((List.take (getB (b.take 2)).toNat (b.drop 2)).length : Int) = getB (b.take 2) := by
          rw [List.length_take]; omega
        rw [hlen, b2' (b.take 2) (by simp; omega), List.take_append_drop, List.take_append_drop]
theorem rdT_inv {r r' : RS} {most : Int} {s : List UInt8} (h : rdT r most = (s, r')) (he : r'.e = 0) : r.e = 0 ∧ r.b = putB (s.length : Int) 2 ++ (s ++ r'.b) := by
  unfold rdT at h
  split at h
  · rename_i h0; exact ⟨h0, nextT_inv h he⟩
  · rename_i h0; cases h; exact absurd he h0
theorem readT_inv {r r' : RS} {t : Txn} (h : readT r = (t, r')) (he : r'.e = 0) (ht : okT t) : r.e = 0 ∧ r.b = txE t ++ r'.b := by
  unfold readT at h
  split at h
  · cases h
    exact absurd ht.2.2.2.1 (by decide)
  · rename_i hw
    split at h
    · cases h
      exact absurd ht.2.2.2.1 (by decide)
    · cases h
      have hw : (rdT r 2).1 = txW := Classical.not_not.1 hw
      obtain ⟨e4, b5⟩ := rdT_inv (r := (tD r).2) (r' := (tE r).2) (s := (tE r).1) (most := 4096) rfl he
      obtain ⟨e3, b4, _⟩ := rd_inv (r := (tC r).2) (r' := (tD r).2) (n := (tD r).1) (most := 1099511627776) rfl e4
      obtain ⟨e2, b3, _⟩ := rd_inv (r := (tB r).2) (r' := (tC r).2) (n := (tC r).1) (most := 1000) rfl e3
      obtain ⟨e1, b2, _⟩ := rd_inv (r := (tA r).2) (r' := (tB r).2) (n := (tB r).1) (most := 4) rfl e2
      obtain ⟨e0, b1, _⟩ := rd_inv (r := (rdT r 2).2) (r' := (tA r).2) (n := (tA r).1) (most := 4) rfl e1
      obtain ⟨ez, b0⟩ := rdT_inv (r := r) (r' := (rdT r 2).2) (s := (rdT r 2).1) (most := 2) rfl e0
      refine ⟨ez, ?_⟩
      rw [b0, hw, b1, b2, b3, b4, b5]
      simp [txE, txB, gotT, txW]
theorem readV_inv {r r' : RS} {t : Vt} (h : readV r = (t, r')) (he : r'.e = 0) (ht : okV t) : r.e = 0 ∧ r.b = voE t ++ r'.b := by
  unfold readV at h
  split at h
  · cases h
    exact absurd ht.1 (by decide)
  · rename_i hw
    split at h
    · cases h
      exact absurd ht.1 (by decide)
    · cases h
      have hw : (rdT r 4).1 = [118, 111, 116, 101] := Classical.not_not.1 hw
      obtain ⟨e6, b7⟩ := rdT_inv (r := (vF r).2) (r' := (vG r).2) (s := (vG r).1) (most := 4096) rfl he
      obtain ⟨e5, b6, _⟩ := rd_inv (r := (vE r).2) (r' := (vF r).2) (n := (vF r).1) (most := 7) rfl e6
      obtain ⟨e4, b5, _⟩ := rd_inv (r := (vD r).2) (r' := (vE r).2) (n := (vE r).1) (most := 1048576) rfl e5
      obtain ⟨e3, b4⟩ := rdT_inv (r := (vC r).2) (r' := (vD r).2) (s := (vD r).1) (most := 32) rfl e4
      obtain ⟨e2, b3, _⟩ := rd_inv (r := (vB r).2) (r' := (vC r).2) (n := (vC r).1) (most := 1048576) rfl e3
      obtain ⟨e1, b2, _⟩ := rd_inv (r := (vA r).2) (r' := (vB r).2) (n := (vB r).1) (most := 1048576) rfl e2
      obtain ⟨e0, b1, _⟩ := rd_inv (r := (rdT r 4).2) (r' := (vA r).2) (n := (vA r).1) (most := 4) rfl e1
      obtain ⟨ez, b0⟩ := rdT_inv (r := r) (r' := (rdT r 4).2) (s := (rdT r 4).1) (most := 4) rfl e0
      refine ⟨ez, ?_⟩
      rw [b0, hw, b1, b2, b3, b4, b5, b6, b7]
      simp [voE, voB, gotV]
theorem vosR_inv : ∀ (n : Nat) (r : RS), (vosR n r).2.e = 0 → (∀ v ∈ (vosR n r).1, okV v) → r.e = 0 ∧ r.b = ((vosR n r).1.map voE).flatten ++ (vosR n r).2.b
  | 0, r, he, _ => ⟨he, by simp [vosR]⟩
  | n + 1, r, he, hv => by
    rw [vosR] at he hv ⊢
    dsimp only at he hv ⊢
    obtain ⟨e1, b1⟩ := readV_inv (r := (vosR n r).2) (r' := (readV (vosR n r).2).2) (t := (readV (vosR n r).2).1) rfl he (hv _ (by simp))
    obtain ⟨e2, b2⟩ := vosR_inv n r e1 (fun v h => hv v (by simp [h]))
    refine ⟨e2, ?_⟩
    rw [b2, b1]
    simp
theorem txsR_inv : ∀ (n : Nat) (r : RS), (txsR n r).2.e = 0 → (∀ v ∈ (txsR n r).1, okT v) → r.e = 0 ∧ r.b = ((txsR n r).1.map txE).flatten ++ (txsR n r).2.b
  | 0, r, he, _ => ⟨he, by simp [txsR]⟩
  | n + 1, r, he, hv => by
    rw [txsR] at he hv ⊢
    dsimp only at he hv ⊢
    obtain ⟨e1, b1⟩ := readT_inv (r := (txsR n r).2) (r' := (readT (txsR n r).2).2) (t := (readT (txsR n r).2).1) rfl he (hv _ (by simp))
    obtain ⟨e2, b2⟩ := txsR_inv n r e1 (fun v h => hv v (by simp [h]))
    refine ⟨e2, ?_⟩
    rw [b2, b1]
    simp
theorem readC_inv {r r' : RS} {c : Ct} (h : readC r = (c, r')) (he : r'.e = 0) (hc : ∀ v ∈ c.vs, okV v) : r.e = 0 ∧ r.b = ctE c ++ r'.b := by
  unfold readC at h
  split at h
  · rename_i h1; cases h; exact absurd he h1
  · cases h
    have hn := rd_range (cC r).2 (m := 7) (by decide)
    obtain ⟨e4, b5⟩ := vosR_inv (cD r).1.toNat (cD r).2 he hc
    have hl : ((vosR (cD r).1.toNat (cD r).2).1.length : Int) = (cD r).1 := by
      rw [(vosR_len _ _).2]
      have : 0 ≤ (cD r).1 := hn.1
      omega
    obtain ⟨e3, b4, _⟩ := rd_inv (r := (cC r).2) (r' := (cD r).2) (n := (cD r).1) (most := 7) rfl e4
    obtain ⟨e2, b3⟩ := rdT_inv (r := (cB r).2) (r' := (cC r).2) (s := (cC r).1) (most := 32) rfl e3
    obtain ⟨e1, b2, _⟩ := rd_inv (r := (cA r).2) (r' := (cB r).2) (n := (cB r).1) (most := 1048576) rfl e2
    obtain ⟨e0, b1, _⟩ := rd_inv (r := r) (r' := (cA r).2) (n := (cA r).1) (most := 1048576) rfl e1
    refine ⟨e0, ?_⟩
    have hE : cE r = vosR (cD r).1.toNat (cD r).2 := rfl
    have hG : gotC r = ⟨(cA r).1, (cB r).1, (cC r).1, (cE r).1⟩ := rfl
    rw [hG, b1, b2, b3, b4, b5, hE]
    generalize vosR (cD r).1.toNat (cD r).2 = V at hl ⊢
    rw [← hl]
    simp [ctE]
theorem readB_inv {r r' : RS} {b : Blk} (h : readB r = (b, r')) (he : r'.e = 0) (hb : okBk b) : r.e = 0 ∧ r.b = bkE b ++ r'.b := by
  have hz : ∀ b : Blk, b = zeroBk → ¬ okB b := fun b e h => by
    subst e
    obtain ⟨_, a2, _⟩ := h
    exact absurd a2.1 (by decide)
  unfold readB at h
  split at h
  · cases h
    exact absurd hb.1 (hz _ rfl)
  · rename_i hw
    split at h
    · cases h
      exact absurd hb.1 (hz _ rfl)
    · rename_i hno
      cases h
      have hw : (rdT r 5).1 = [98, 108, 111, 99, 107] := Classical.not_not.1 hw
      have hju : (gotB (rdT r 5).2).ju.vw = (fD (rdT r 5).2).1 := Classical.byContradiction fun h => hno (.inr (.inl h))
      generalize hq : (rdT r 5).2 = q at *
      obtain ⟨hk, hv1, hv2⟩ := hb
      have htx : ∀ t ∈ (fF q).1, okT t := hk.2.2.2.2.2.2.2.1
      obtain ⟨e7, b8⟩ := rdT_inv (r := (fG q).2) (r' := (fH q).2) (s := (fH q).1) (most := 4096) rfl he
      obtain ⟨e6, b7⟩ := readC_inv (r := (fF q).2) (r' := (fG q).2) (c := (fG q).1) rfl e7 hv2
      have hn := rd_range (fD q).2 (m := 4) (by decide)
      obtain ⟨e5, b6⟩ := txsR_inv (fE q).1.toNat (fE q).2 e6 htx
      have hl : ((txsR (fE q).1.toNat (fE q).2).1.length : Int) = (fE q).1 := by
        rw [(txsR_len _ _).2]
        have : 0 ≤ (fE q).1 := hn.1
        omega
      obtain ⟨e4, b5, _⟩ := rd_inv (r := (fD q).2) (r' := (fE q).2) (n := (fE q).1) (most := 4) rfl e5
      obtain ⟨e3, b4, _⟩ := rd_inv (r := (fC q).2) (r' := (fD q).2) (n := (fD q).1) (most := 1048576) rfl e4
      obtain ⟨e2, b3⟩ := rdT_inv (r := (fB q).2) (r' := (fC q).2) (s := (fC q).1) (most := 32) rfl e3
      obtain ⟨e1, b2, _⟩ := rd_inv (r := (fA q).2) (r' := (fB q).2) (n := (fB q).1) (most := 1048576) rfl e2
      obtain ⟨e0, b1, _⟩ := rd_inv (r := q) (r' := (fA q).2) (n := (fA q).1) (most := 1048576) rfl e1
      obtain ⟨ez, b0⟩ := rdT_inv (r := r) (r' := (rdT r 5).2) (s := (rdT r 5).1) (most := 5) rfl (by rw [hq]; exact e0)
      refine ⟨ez, ?_⟩
      have hF : (fF q).2 = (txsR (fE q).1.toNat (fE q).2).2 := rfl
      rw [← hF] at b6
      have hG : gotB q = ⟨(fA q).1, (fB q).1, (fC q).1, (fG q).1, (fF q).1, (fH q).1⟩ := rfl
      have hF1 : (fF q).1 = (txsR (fE q).1.toNat (fE q).2).1 := rfl
      rw [hG] at hju
      rw [hG, b0, hw, hq, b1, b2, b3, b4, b5, b6, b7, b8, ← hju, hF1]
      generalize (txsR (fE q).1.toNat (fE q).2).1 = V at hl ⊢
      rw [← hl]
      simp [bkE]


variable {Γ : FuncId → Contract}

theorem rdM_kd (k : Int) (r : RS) : (rdM k r).1.kd = k := by
  unfold rdM
  (repeat' split) <;> rfl
theorem readM_inv {r r' : RS} {m : Msg} (h : readM r = (m, r')) (he : r'.e = 0) (hm : okMsg m) : r.e = 0 ∧ r.b = encM m ++ r'.b := by
  unfold readM at h
  have key : (rd r 6).2.e = 0 ∧ (rd r 6).2.b = (encM m).drop 6 ++ r'.b ∧ encM m = putB (rd r 6).1 6 ++ (encM m).drop 6 := by
    have hkd := rdM_kd (rd r 6).1 (rd r 6).2
    rw [h] at hkd
    generalize (rd r 6).1 = k at *
    generalize (rd r 6).2 = q at *
    dsimp only at hkd
    subst hkd
    have hd : ∀ (n : Int) (x : List UInt8), (putB n 6 ++ x).drop 6 = x := fun n x => by rw [List.drop_append, List.drop_of_length_le (by rw [len6]; omega), len6]; simp
    rcases okMsg_cases hm with ⟨b, rfl, hb⟩ | ⟨v, rfl, hv⟩ | ⟨c, rfl, hc⟩ | ⟨l, rfl, hl1, hl2⟩ | ⟨s, rfl, hs⟩ | ⟨t, rfl, ht⟩
    · rw [show encM ⟨1, b, zeroV, zeroCt, [], [], zeroT⟩ = putB 1 6 ++ bkE b from rfl, hd]
      have h : ((⟨1, (readB q).1, zeroV, zeroCt, [], [], zeroT⟩ : Msg), (readB q).2) = _ := h
      simp only [Prod.mk.injEq, Msg.mk.injEq, true_and, and_true] at h
      obtain ⟨x, y⟩ := readB_inv (r := q) (r' := r') (b := b) (Prod.ext h.1 h.2) he hb
      exact ⟨x, y, rfl⟩
    · rw [show encM ⟨2, zeroBk, v, zeroCt, [], [], zeroT⟩ = putB 2 6 ++ voE v from rfl, hd]
      have h : ((⟨2, zeroBk, (readV q).1, zeroCt, [], [], zeroT⟩ : Msg), (readV q).2) = _ := h
      simp only [Prod.mk.injEq, Msg.mk.injEq, true_and, and_true] at h
      obtain ⟨x, y⟩ := readV_inv (r := q) (r' := r') (t := v) (Prod.ext h.1 h.2) he hv
      exact ⟨x, y, rfl⟩
    · rw [show encM ⟨3, zeroBk, zeroV, c, [], [], zeroT⟩ = putB 3 6 ++ ctE c from rfl, hd]
      have h : ((⟨3, zeroBk, zeroV, (readC q).1, [], [], zeroT⟩ : Msg), (readC q).2) = _ := h
      simp only [Prod.mk.injEq, Msg.mk.injEq, true_and, and_true] at h
      obtain ⟨x, y⟩ := readC_inv (r := q) (r' := r') (c := c) (Prod.ext h.1 h.2) he hc.2.2.2.2
      exact ⟨x, y, rfl⟩
    · rw [show encM ⟨4, zeroBk, zeroV, zeroCt, l, [], zeroT⟩ = putB 4 6 ++ (putB (l.length : Int) 6 ++ (l.map voE).flatten) from rfl, hd]
      have h : ((⟨4, zeroBk, zeroV, zeroCt, (vosR (rd q 7).1.toNat (rd q 7).2).1, [], zeroT⟩ : Msg), (vosR (rd q 7).1.toNat (rd q 7).2).2) = _ := h
      simp only [Prod.mk.injEq, Msg.mk.injEq, true_and, and_true] at h
      obtain ⟨ha, hb⟩ := h
      obtain ⟨e1, b1⟩ := vosR_inv (rd q 7).1.toNat (rd q 7).2 (by rw [hb]; exact he) (by rw [ha]; exact hl2)
      have hn := rd_range q (m := 7) (by decide)
      have hl : ((vosR (rd q 7).1.toNat (rd q 7).2).1.length : Int) = (rd q 7).1 := by rw [(vosR_len _ _).2]; omega
      obtain ⟨e0, b0, _⟩ := rd_inv (r := q) (r' := (rd q 7).2) (n := (rd q 7).1) (most := 7) rfl e1
      refine ⟨e0, ?_, rfl⟩
      rw [ha] at hl
      rw [b0, b1, ha, hb, ← hl, List.append_assoc]
    · rw [show encM ⟨5, zeroBk, zeroV, zeroCt, [], s, zeroT⟩ = putB 5 6 ++ (putB (s.length : Int) 2 ++ s) from rfl, hd]
      have h : ((⟨5, zeroBk, zeroV, zeroCt, [], (rdT q 32).1, zeroT⟩ : Msg), (rdT q 32).2) = _ := h
      simp only [Prod.mk.injEq, Msg.mk.injEq, true_and, and_true] at h
      obtain ⟨x, y⟩ := rdT_inv (r := q) (r' := r') (s := s) (most := 32) (Prod.ext h.1 h.2) he
      exact ⟨x, by rw [y, List.append_assoc], rfl⟩
    · rw [show encM ⟨6, zeroBk, zeroV, zeroCt, [], [], t⟩ = putB 6 6 ++ txE t from rfl, hd]
      have h : ((⟨6, zeroBk, zeroV, zeroCt, [], [], (readT q).1⟩ : Msg), (readT q).2) = _ := h
      simp only [Prod.mk.injEq, Msg.mk.injEq, true_and, and_true] at h
      obtain ⟨x, y⟩ := readT_inv (r := q) (r' := r') (t := t) (Prod.ext h.1 h.2) he ht
      exact ⟨x, y, rfl⟩
  obtain ⟨k1, k2, k3⟩ := key
  obtain ⟨e0, b0, _⟩ := rd_inv (r := r) (r' := (rd r 6).2) (n := (rd r 6).1) (most := 6) rfl k1
  refine ⟨e0, ?_⟩
  rw [b0, k2]
  conv => rhs; rw [k3]
  rw [List.append_assoc]
theorem getM_enc {m : Msg} (h : okMsg m) (hl : (encM m).length ≤ 16384) : getM (encM m) = (m, 0) := by
  have := readM_put h []
  rw [List.append_nil] at this
  unfold getM
  rw [if_neg (by omega), this, if_neg (by simp [h])]
theorem getM_more {m : Msg} (h : okMsg m) {x : List UInt8} (hx : 0 < x.length) : getM (encM m ++ x) = (zeroMsg, 33) := by
  unfold getM
  split
  · rfl
  · rw [readM_put h x, if_pos (.inr (.inl hx))]
theorem getM_two (b : List UInt8) : getM b = (zeroMsg, 33) ∨ ((getM b).2 = 0 ∧ okMsg (getM b).1 ∧ b = encM (getM b).1 ∧ b.length ≤ 16384) := by
  unfold getM
  split
  · exact .inl rfl
  · split
    · exact .inl rfl
    · rename_i h1 h2
      refine .inr ⟨rfl, ?_⟩
      have he : (readM ⟨b, 0⟩).2.e = 0 := Classical.byContradiction fun h => h2 (.inl h)
      have hz : ¬ 0 < (readM ⟨b, 0⟩).2.b.length := fun h => h2 (.inr (.inl h))
      have hk : okMsg (readM ⟨b, 0⟩).1 := Classical.byContradiction fun h => h2 (.inr (.inr h))
      obtain ⟨_, hb⟩ := readM_inv (r := ⟨b, 0⟩) (r' := (readM ⟨b, 0⟩).2) (m := (readM ⟨b, 0⟩).1) rfl he hk
      have hn : (readM ⟨b, 0⟩).2.b = [] := List.length_eq_zero_iff.1 (by omega)
      rw [hn, List.append_nil] at hb
      exact ⟨hk, hb, by omega⟩
theorem getM_less {m : Msg} (h : okMsg m) {k : Nat} (hk : k < (encM m).length) : getM ((encM m).take k) = (zeroMsg, 33) := by
  rcases getM_two ((encM m).take k) with h1 | ⟨_, h2, h3, _⟩
  · exact h1
  · exfalso
    have e : encM m = encM (getM ((encM m).take k)).1 ++ (encM m).drop k := by rw [← h3, List.take_append_drop]
    have a := readM_put h []
    rw [List.append_nil] at a
    have b := readM_put h2 ((encM m).drop k)
    rw [← e, a] at b
    have c := congrArg (fun p => p.2.b.length) b
    simp at c
    omega

end Go.Proofs.Ytldehcnaepgamaa.AM
