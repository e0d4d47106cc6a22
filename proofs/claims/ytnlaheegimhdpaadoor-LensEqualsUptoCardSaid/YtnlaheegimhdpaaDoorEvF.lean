/-
  Each operation of the abstract machine does what the model's operation does: loads, stores, addresses, parts.
-/
import Derived.Test.YtnlaheegimhdpaaDoorEvE
set_option linter.all false
namespace Go.Ev
variable {E : Env} {P : Program} {T : Nat → AFn} {S S' : Stab} {pl pl' : Pl} {St St' : Ev.St} {F : Fr} {a : Act} {w w' : World}

theorem Lay.pos {t : TypeId} {l : L} (h : layB P t l = true) (hn : Nat.blt 0 l.n = true) : Lay P t l ∧ 0 < l.n := ⟨layB_sound h, by simpa using hn⟩

theorem RelV.of_ref {t : TypeId} {row : Row} {v : Value} (h : RelV P T S pl St (.d (.one (.ref t)) row) v) (hd : (at_ row 0).isDp = true) :
    ∃ (l : L) (a : Addr) (f : Nat → Value), v = .pointer (some a) ∧ Lay P t l ∧ (at_ row 0).dpRow.length = l.n ∧ a.spot = none ∧ (∀ j, j < l.n → S a.block (a.off + j) = some (f j)) ∧
      (∀ j k, l.ks[j]? = some k → Rep P T S k (f j) (at_ (at_ row 0).dpRow j)) := by
  obtain ⟨c, rfl, hr⟩ := h.of_d
  have hat : at_ [c] 0 = c := rfl
  rw [hat] at hd ⊢
  cases hr with
  | ref f h1 h2 h3 h4 h5 => exact ⟨_, _, f, rfl, h1, h2, h3, h4, h5⟩
  | nilp => simp [C.isDp] at hd

theorem RelV.of_ptr {id off : Nat} {l : L} {row : Row} {v : Value} (h : RelV P T S pl St (.ptr id off) v) (ho : St[id]? = some (.var l row)) : v = .pointer (some ⟨pl.blk id, off, none⟩) := by
  cases h with
  | ptr h0 h1 h2 h3 h4 => rw [ho] at h1; obtain rfl := Option.some.inj h1; exact h3 _ _ rfl
theorem RelV.of_ptr_cells {id off : Nat} {c : Bool} {vs : List AV} {v : Value} (h : RelV P T S pl St (.ptr id off) v) (ho : St[id]? = some (.cells c vs)) : v = .pointer (some ⟨pl.blk id, off, none⟩) := by
  cases h with
  | ptr h0 h1 h2 h3 h4 => rw [ho] at h1; obtain rfl := Option.some.inj h1; exact h4 _ _ rfl
theorem RelV.of_aptr {id ver idx off : Nat} {l : L} {c : C} {v : Value} (h : RelV P T S pl St (.aptr id ver idx off) v) (ho : St[id]? = some (.arr ver l c)) : v = .pointer (some ⟨pl.blk id, idx * l.n + off, none⟩) := by
  cases h with
  | aptr h0 h1 h2 hv h3 => rw [ho] at h1; obtain rfl := Option.some.inj h1; exact h3 _ _ rfl

theorem asArr_some {A : Type} {o : Obj} {v : Nat} {k : L → C → Option A} {r : A} (h : asArr o v k = some r) : ∃ l c, o = .arr v l c ∧ k l c = some r := by
  unfold asArr at h
  split at h
  · obtain ⟨hb, h2⟩ := check_some h
    obtain rfl := Nat.eq_of_beq_eq_true hb
    exact ⟨_, _, rfl, h2⟩
  · simp at h
theorem part_some {A : Type} {l l' : L} {off : Nat} {r : Row} {k : Row → Option A} {x : A} (h : part l l' off r k = some x) :
    ∃ row, k (nrm l row) = some x ∧ row = (if off = 0 ∧ l = l' then r else sub r off l.n) ∧ (¬ (off = 0 ∧ l = l') → l.ks = (l'.ks.drop off).take l.n) := by
  unfold part at h
  split at h
  · rename_i hb
    simp only [Bool.and_eq_true] at hb
    have h1 := Nat.eq_of_beq_eq_true hb.1
    have h2 := L.beq_eq hb.2
    exact ⟨r, h, by rw [if_pos ⟨h1, h2⟩], fun hn => absurd ⟨h1, h2⟩ hn⟩
  · rename_i hb
    obtain ⟨hk, h⟩ := check_some h
    by_cases hc : off = 0 ∧ l = l'
    · obtain ⟨rfl, rfl⟩ := hc
      exfalso
      have hll : L.beq l l = true := by
        have key : ∀ ks : List K, ksBeq ks ks = true := fun ks => by
          induction ks with
          | nil => rfl
          | cons k ks ih => simp [ksBeq, ih]; cases k <;> simp [K.beq]
        cases l with
        | one k => simp only [L.beq]; cases k <;> simp [K.beq]
        | agg ks => exact key ks
      rw [hll] at hb; simp at hb
    · exact ⟨sub r off l.n, h, by rw [if_neg hc], fun _ => ksBeq_eq hk⟩

/-- Cells of a row, off from some place on. -/
theorem RepR.part {l l' : L} {cs : List Value} {r : Row} {off : Nat} (hn : 0 < l.n) (h : RepR P T S l'.ks cs r) (hk : ¬ (off = 0 ∧ l = l') → l.ks = (l'.ks.drop off).take l.n) :
    RepL P T S l (Ev.mkV l fun j => cs.getD (off + j) undef) (if off = 0 ∧ l = l' then r else Ev.sub r off l.n) ∧ off + l.n ≤ cs.length := by
  by_cases hc : off = 0 ∧ l = l'
  · rw [if_pos hc]
    obtain ⟨rfl, rfl⟩ := hc
    refine ⟨by simpa using h.mkV, ?_⟩
    rw [h.clen]; simp [L.n]
  · rw [if_neg hc]
    have hk' := hk hc
    have hs := h.sub l.ks off hk'
    have hlen : l.n ≤ l'.ks.length - off := by
      have := congrArg List.length hk'; simp [L.n] at this ⊢; omega
    constructor
    · refine .mk (by simpa [L.n] using hs.rlen) (fun j k hj => ?_)
      have hjl : j < l.ks.length := (List.getElem?_eq_some_iff.1 hj).1
      have := hs.cell j k hj
      have e : ((cs.drop off).take l.ks.length).getD j undef = cs.getD (off + j) undef := by
        simp [List.getD_eq_getElem?_getD, hjl]
      rw [e] at this; exact this
    · rw [h.clen]; omega

theorem cell_heap {w : World} {b off : Nat} {cur : Array Value} {e : TypeId} {fr : Nat × Nat} (h : w.heap[b]? = some (.cells cur e fr)) (hlt : off < cur.size) :
    w.cell? ⟨b, off, none⟩ = some (cur.toList.getD off undef) := by
  rw [cell_of_row w b off cur e fr h]
  simp [List.getD_eq_getElem?_getD, hlt]

theorem run_load_heap {t : TypeId} {l : L} (hl : Lay P t l) (hn : 0 < l.n) {w : World} {b off : Nat} {cur : Array Value} {e : TypeId} {fr : Nat × Nat} (h : w.heap[b]? = some (.cells cur e fr))
    (hfit : off + l.n ≤ cur.size) : (Instr.loadAt t (.pointer (some ⟨b, off, none⟩))).run P w = .ok (Ev.mkV l fun j => cur.toList.getD (off + j) undef) w := by
  have := run_loadVar_cells hl ⟨b, off, none⟩ rfl w (fun j => cur.toList.getD (off + j) undef) hn (fun j hj => cell_heap h (by simp only; omega))
  simpa [Instr.loadAt, Instr.sureAddr] using this

theorem run_v {s : Sem Value} {v : Value} {w w' : World} (h : s.run P w = .ok v w') : (do pure (.value (← s)) : Sem Next).run P w = .ok (.value v) w' := by
  rw [Sem.run_bind, h]; rfl
theorem run_u {s : Sem Unit} {w w' : World} (h : s.run P w = .ok () w') : (do s; pure .skip : Sem Next).run P w = .ok .skip w' := by
  rw [Sem.run_bind, h]; rfl
theorem exec_load {o : Oper} {t : TypeId} {x : Operand} {v : Value} {w w' : World} (ho : o.op = .load t x) (h : (Instr.loadAt t (a.eval x)).run P w = .ok v w') : (execOp a.eval o).run P w = .ok (.value v) w' := by
  simp only [execOp, ho]; exact run_v h

section
variable {o : Oper} {x y c : Operand} {ax ay ac : Opd} {base : Nat}
variable (hs : Sim P T S pl St w) (hF : RelF P T S pl St F a.tmps)
include hs hF

theorem s_ld {l : L} {t : TypeId} {ob : Obj} {av : AV} {no : Option Obj} (ho : o.op = .load t x) (hl : layB P t l = true) (hn : Nat.blt 0 l.n = true) (hx : opdOk P T x ax = true)
    (hob : ∀ id, tgtV (ax.ev F) = some id → St[id]? = some ob)
    (h : opO E F St ob (.ld l t ax) base ret2 = some (av, no)) : no = none ∧ Done P o a w (OpPost P T S pl St w St av) := by
  obtain ⟨hL, hp⟩ := Lay.pos hl hn
  have hv := opd_sound hs hx hF
  simp only [opO] at h
  split at h
  · -- data
    rename_i t' r e
    obtain ⟨hb, hB⟩ := check_some h
    obtain rfl := Nat.eq_of_beq_eq_true hb
    obtain ⟨hdp, hB⟩ := ite_some hB
    simp only [ret2, Option.some.injEq, Prod.mk.injEq] at hB
    obtain ⟨rfl, rfl⟩ := hB
    rw [e] at hv
    obtain ⟨l', ad, f, e1, h1, h2, h3, h4, h5⟩ := hv.of_ref hdp
    obtain rfl := hL.inj h1
    have hr : RepL P T S l (Ev.mkV l f) (at_ r 0).dpRow := .mk h2 h5
    refine ⟨rfl, done_run (v := Ev.mkV l f) (w' := w) ?_ (.same hs (.d (by rw [hr.nrm]; exact hr)))⟩
    have := run_loadVar_cells hL ad h3 w f hp (fun j hj => hs.stab _ _ _ (h4 j hj))
    refine exec_load ho ?_
    rw [e1]; simpa [Instr.loadAt, Instr.sureAddr] using this
  · -- a variable
    rename_i id off e
    have hob := hob id (by rw [e]; rfl)
    rw [e] at hv
    split at h
    · rename_i l' r
      have e1 := hv.of_ptr hob
      obtain ⟨cur, e2, hh, hr⟩ := hs.objs _ _ hob
      obtain ⟨row, h1, h2, h3⟩ := part_some h
      simp only [ret2, Option.some.injEq, Prod.mk.injEq] at h1
      obtain ⟨rfl, rfl⟩ := h1
      obtain ⟨q1, q2⟩ := hr.part hp h3
      rw [← h2] at q1
      have := run_load_heap hL hp hh (off := off) (by simpa using q2)
      exact ⟨rfl, done_run (w' := w) (exec_load ho (by rw [e1]; exact this)) (.same hs (.d (by rw [q1.nrm]; exact q1)))⟩
    · simp at h
  · -- an element
    rename_i id ver idx off e
    have hob := hob id (by rw [e]; rfl)
    rw [e] at hv
    obtain ⟨l', c, rfl, hA⟩ := asArr_some h
    obtain ⟨hlt, hB⟩ := ite_some hA
    have e1 := hv.of_aptr hob
    rcases hs.objs _ _ hob with rfl | ⟨rows, cur, e2, i, rfl, hh, q1, q2, q3, q4, q5, q6, q7⟩
    · simp [C.rows] at hlt
    · simp only [C.rows] at hlt hB
      obtain ⟨row, h1, h2, h3⟩ := part_some hB
      simp only [ret2, Option.some.injEq, Prod.mk.injEq] at h1
      obtain ⟨rfl, rfl⟩ := h1
      have hrow : rows[idx]? = some (rowsAt rows idx) := by simp [rowsAt, List.getD_eq_getElem?_getD, hlt]
      obtain ⟨g1, g2⟩ := (q7 idx _ hrow).part hp h3
      rw [← h2] at g1
      have hle : (idx + 1) * l'.n ≤ pl.cap id * l'.n := Nat.mul_le_mul_right _ (by omega)
      have hexp : (idx + 1) * l'.n = idx * l'.n + l'.n := Nat.succ_mul _ _
      have hg2 : off + l.n ≤ l'.n := by
        have := g2; simp at this; omega
      have hfit : idx * l'.n + off + l.n ≤ cur.size := by rw [q6]; omega
      have := run_load_heap hL hp hh (off := idx * l'.n + off) hfit
      have ev : (Ev.mkV l fun j => cur.toList.getD (idx * l'.n + off + j) undef) = Ev.mkV l fun j => ((cur.toList.drop (idx * l'.n)).take l'.n).getD (off + j) undef := by
        cases l with
        | one k =>
          have hlt2 : off < l'.n := by
            have : (L.one k).n = 1 := rfl
            omega
          simp [Ev.mkV, List.getD_eq_getElem?_getD, hlt2]
        | agg ks =>
          simp only [Ev.mkV]
          congr 2
          apply List.map_congr_left
          intro j hj
          have hj : j < ks.length := by simpa using hj
          have : off + j < l'.n := by simp only [L.n, L.ks] at hg2 ⊢; omega
          simp [List.getD_eq_getElem?_getD, this, Nat.add_assoc]
      rw [ev] at this
      exact ⟨rfl, done_run (w' := w) (exec_load ho (by rw [e1]; exact this)) (.same hs (.d (by rw [g1.nrm]; exact g1)))⟩
  · simp at h
end
end Go.Ev
