/-
  Each operation of the abstract machine does what the model's operation does: stores, addresses, parts.
-/
import Derived.Test.YtnlaheegimhdpaaDoorEvF
set_option linter.all false
namespace Go.Ev
variable {E : Env} {P : Program} {T : Nat → AFn} {S S' : Stab} {pl pl' : Pl} {St St' : Ev.St} {F : Fr} {a : Act} {w w' : World}

def noAgg (P : Program) (t : TypeId) : Bool := match P.underlying t with | some (.struct _) => false | some (.array ..) => false | none => false | _ => true
theorem noAgg_sound {t : TypeId} (h : noAgg P t = true) (w : World) : (isAgg t).run P w = .ok false w := by
  unfold noAgg at h
  cases hu : P.underlying t with
  | none => rw [hu] at h; simp at h
  | some d => rw [hu] at h; cases d <;> simp_all [isAgg, run_underlying hu]
def sizeB (P : Program) (t : TypeId) (n : Nat) : Bool := match P.info? t with | some i => Nat.beq i.size n | none => false
theorem sizeB_sound {t : TypeId} {n : Nat} (h : sizeB P t n = true) (w : World) : (sizeOf t).run P w = .ok n w := by
  unfold sizeB at h
  cases hu : P.info? t with
  | none => rw [hu] at h; simp at h
  | some i => rw [hu] at h; have := Nat.eq_of_beq_eq_true h; simp [sizeOf, typeInfo, hu, this]

theorem exec_store {o : Oper} {t : TypeId} {x y : Operand} {w w' : World} (ho : o.op = .store t x y) (h : (Instr.storeAt t (a.eval x) (a.eval y)).run P w = .ok () w') : (execOp a.eval o).run P w = .ok .skip w' := by
  simp only [execOp, ho]; exact run_u h

theorem run_store_heap {t : TypeId} {n : Nat} {w : World} {b off : Nat} {cur : Array Value} {e : TypeId} {v : Value} (hsz : (sizeOf t).run P w = .ok n w) (h : w.heap[b]? = some (.cells cur e (0, 0)))
    (hv : v.cells.size = n) (h1 : ∀ u ∈ v.cells.toList, u.oneCell' = true) (hfit : off + n ≤ cur.size) :
    (Instr.storeAt t (.pointer (some ⟨b, off, none⟩)) v).run P w = .ok () (w.setRow b (cur.toList.take off ++ v.cells.toList ++ cur.toList.drop (off + n)).toArray) := by
  have hst := run_storeCells_at P b off e v.cells.toList 0 cur w h (by simpa [hv] using hfit) h1
  simp only [Nat.add_zero] at hst
  have hl : v.cells.toList.length = n := by simpa using hv
  rw [hl] at hst
  simp only [Instr.storeAt, Instr.sureAddr, Sem.run_bind, Sem.run_pure, Result.andThen_ok, storeVar, hsz, hv, ne_eq, not_true, if_false, Sem.run_ite]
  simpa using hst

theorem setRow_world (w : World) (b : Nat) (cs : Array Value) : (w.setRow b cs).os = w.os ∧ (w.setRow b cs).tape = w.tape ∧ (w.setRow b cs).output = w.output ∧ (w.setRow b cs).heap.size = w.heap.size :=
  ⟨rfl, rfl, rfl, size_setRow w b cs⟩

/-- An object's block is written: the object is another one of its kind. -/
theorem set_post {id : Nat} {ob o' : Obj} {cur cs : Array Value} {e : TypeId} {av : AV} {v : Value} (hs : Sim P T S pl St w) (hob : St[id]? = some ob) (hf : ob ≠ .fresh) (hhas : ob.has = true) (hz : ob.sn = 0)
    (hh : w.heap[pl.blk id]? = some (.cells cur e (0, 0))) (hk : Keeps pl St pl (St.set id o'))
    (hobj : ∀ w', w'.heap[pl.blk id]? = some (.cells cs e (0, 0)) → ObjIs P T S pl (St.set id o') w' id o')
    (hv : RelV P T S pl (St.set id o') av v) : OpPost P T S pl St w (St.set id o') av v (w.setRow (pl.blk id) cs) := by
  have hlt : id < St.length := (List.getElem?_eq_some_iff.1 hob).1
  obtain ⟨s1, s2, s3, s4⟩ := setRow_world w (pl.blk id) cs
  have hnew : (w.setRow (pl.blk id) cs).heap[pl.blk id]? = some (.cells cs e (0, 0)) := setRow_heap w (pl.blk id) cur cs e (0, 0) hh
  refine ⟨S, pl, ?_, ⟨s1, s2, s3, by omega, fun b hb hn => ?_, S.le_refl, fun _ _ _ _ => rfl⟩, hv, fun _ _ h => h.keep hk S.le_refl, ?_⟩
  · refine hs.upd hlt hk S.le_refl (fun j _ => ⟨rfl, rfl⟩) (fun j o hj h ho => ?_) (fun b o v h => ?_) (hobj _ hnew) (fun _ off _ => hs.apart id ob hob hhas off (by omega)) (fun j o _ h ho => hs.apart j o h ho)
      (fun _ j o hj h ho hb => hj (hs.inj j id o ob h hob ho hhas hb))
    · exact setRow_other w _ _ _ (fun hb => hj (hs.inj j id o ob h hob ho hhas hb))
    · have hne : b ≠ pl.blk id := fun hb => by
        have := hs.apart id ob hob hhas o (by omega)
        rw [← hb] at this; rw [this] at h; cases h
      rw [World.cell?_of_block (w := w) (setRow_other w _ _ _ hne)]
      exact hs.stab _ _ _ h
  · exact setRow_other w _ _ _ (fun hb => hn ⟨id, ob, hob, hhas, hb.symm⟩)
  · rintro b ⟨j, o, h, ho, hb⟩
    by_cases hj : j = id
    · subst hj; exact .inl ⟨j, ob, hob, hhas, hb⟩
    · rw [List.getElem?_set_ne (Ne.symm hj)] at h; exact .inl ⟨j, o, h, ho, hb⟩

theorem Keeps.set {id : Nat} {ob o' : Obj} (hob : St[id]? = some ob)
    (h : ob ≠ .fresh → o' ≠ .fresh ∧
    (∀ l row, o' = .var l row → (∃ l0 r0, ob = .var l0 r0)) ∧
    (∀ c vs, o' = .cells c vs → (∃ c0 v0, ob = .cells c0 v0)) ∧
    (∀ v l c, o' = .arr v l c → ∃ v0 c0, ob = .arr v0 l c0 ∧ v0 ≤ v ∧ (v0 = v → (c = .nils → c0 = .nils) ∧
      ∀ rows, c = .sl rows → ∃ rows0, c0 = .sl rows0 ∧ rows0.length = rows.length)) ∧
    (∀ v e l c, o' ≠ .sarr v e l c) ∧
    (∀ kl vl es, o' = .map kl vl es → (∃ kl0 vl0 es0, ob = .map kl0 vl0 es0))) : Keeps pl St pl (St.set id o') := by
  have hlt : id < St.length := (List.getElem?_eq_some_iff.1 hob).1
  intro j o hj hf
  by_cases hji : j = id
  · subst hji
    rw [hob] at hj; obtain rfl := Option.some.inj hj
    obtain ⟨h0, h1, h2, h3, h5, h4⟩ := h hf
    exact ⟨o', List.getElem?_set_self hlt, h0, fun l r e => ⟨h1 l r e, rfl⟩, fun c vs e => ⟨h2 c vs e, rfl⟩,
      fun v l c e => let ⟨v0, c0, a, b, g⟩ := h3 v l c e; ⟨v0, c0, a, b, fun hv => ⟨rfl, rfl, (g hv).1, (g hv).2⟩⟩, fun v e l c q => absurd q (h5 v e l c), fun a b c e => ⟨h4 a b c e, rfl⟩⟩
  · exact ⟨o, by rw [List.getElem?_set_ne (Ne.symm hji)]; exact hj, hf, Keeps.same rfl rfl⟩

theorem RepR.oneCells {ks : List K} {cs : List Value} {row : Row} (h : RepR P T S ks cs row) : ∀ u ∈ cs, u.oneCell' = true := by
  intro u hu
  obtain ⟨j, hj, rfl⟩ := List.getElem_of_mem hu
  have hk : j < ks.length := by rw [← h.clen]; exact hj
  have := h.cell j ks[j] (List.getElem?_eq_getElem hk)
  have e : cs.getD j undef = cs[j] := by simp [List.getD_eq_getElem?_getD, hj]
  rw [e] at this
  exact this.not_agg.1

/-- The row with a part replaced. -/
theorem RepR.put {l l' : L} {cs news : List Value} {r row : Row} {off : Nat} (h : RepR P T S l'.ks cs r) (hr : RepR P T S l.ks news row) (hk : l.ks = (l'.ks.drop off).take l.n) (hn : 0 < l.n) :
    RepR P T S l'.ks (cs.take off ++ news ++ cs.drop (off + l.n)) (Ev.put r off l.n row 0 l'.n) := by
  have hlen : off + l.n ≤ l'.n := by
    have := congrArg List.length hk; simp [L.n] at this ⊢; simp only [L.n] at hn; omega
  have hc := h.clen
  have hnl := hr.clen
  have hc' : cs.length = l'.n := hc
  have hnl' : news.length = l.n := hnl
  refine ⟨by simp; rw [hc', hnl']; simp only [L.n] at hlen ⊢; omega, by simp [length_put, L.n], fun j k hj => ?_⟩
  have hjl : j < l'.n := (List.getElem?_eq_some_iff.1 hj).1
  rw [at_put _ _ _ _ _ _ _ hjl]
  simp only [Nat.zero_add]
  by_cases hin : off ≤ j ∧ j < off + l.n
  · rw [if_pos hin]
    have hk' : l.ks[j - off]? = some k := by
      rw [hk]; simp [show j - off < l.n from by omega, show off + (j - off) = j from by omega]; exact hj
    have := hr.cell (j - off) k hk'
    have e : (cs.take off ++ news ++ cs.drop (off + l.n)).getD j undef = news.getD (j - off) undef := by
      simp only [List.getD_eq_getElem?_getD]
      rw [List.append_assoc, List.getElem?_append_right (by simp; omega), List.getElem?_append_left (by simp; omega)]
      simp [show min off cs.length = off from by omega]
    rw [e]; exact this
  · rw [if_neg hin]
    have := h.cell j k hj
    have e : (cs.take off ++ news ++ cs.drop (off + l.n)).getD j undef = cs.getD j undef := by
      simp only [List.getD_eq_getElem?_getD]
      by_cases hlo : j < off
      · rw [List.append_assoc, List.getElem?_append_left (by simp; omega)]
        simp [hlo]
      · rw [List.getElem?_append_right (by simp; omega)]
        simp only [List.length_append, List.length_take, List.getElem?_drop]
        congr 2
        omega
    rw [e]; exact this

theorem turn_some {A : Type} {l l' : L} {off : Nat} {r row : Row} {k : Row → Option A} {x : A} (h : turn l l' off r row k = some x) :
    ∃ r', k r' = some x ∧ ((off = 0 ∧ l = l' ∧ r' = row) ∨ (r' = Ev.put r off l.n row 0 l'.n ∧ l.ks = (l'.ks.drop off).take l.n)) := by
  unfold turn at h
  split at h
  · rename_i hb
    simp only [Bool.and_eq_true] at hb
    exact ⟨row, h, .inl ⟨Nat.eq_of_beq_eq_true hb.1, L.beq_eq hb.2, rfl⟩⟩
  · obtain ⟨hk, h⟩ := check_some h
    exact ⟨_, h, .inr ⟨rfl, ksBeq_eq hk⟩⟩
theorem RepR.turn {l l' : L} {cs news : List Value} {r row r' : Row} {off : Nat} (h : RepR P T S l'.ks cs r) (hr : RepR P T S l.ks news row) (hn : 0 < l.n)
    (ht : (off = 0 ∧ l = l' ∧ r' = row) ∨ (r' = Ev.put r off l.n row 0 l'.n ∧ l.ks = (l'.ks.drop off).take l.n)) :
    RepR P T S l'.ks (cs.take off ++ news ++ cs.drop (off + l.n)) r' ∧ off + l.n ≤ l'.n := by
  rcases ht with ⟨rfl, rfl, rfl⟩ | ⟨rfl, hk⟩
  · have : cs.drop (0 + l.n) = [] := List.drop_eq_nil_of_le (by rw [h.clen]; simp [L.n])
    rw [this]; simp; exact hr
  · refine ⟨h.put hr hk hn, ?_⟩
    have := congrArg List.length hk; simp [L.n] at this ⊢; simp only [L.n] at hn; omega

theorem splice_get {A : Type} (cur news : List A) (s n p : Nat) (hn : news.length = n) (hs : s + n ≤ cur.length) :
    (cur.take s ++ news ++ cur.drop (s + n))[p]? = if p < s then cur[p]? else if p < s + n then news[p - s]? else cur[p]? := by
  by_cases h1 : p < s
  · rw [if_pos h1, List.append_assoc, List.getElem?_append_left (by simp; omega)]
    simp [h1]
  · rw [if_neg h1]
    by_cases h2 : p < s + n
    · rw [if_pos h2, List.append_assoc, List.getElem?_append_right (by simp; omega), List.getElem?_append_left (by simp; omega)]
      simp [show min s cur.length = s from by omega]
    · rw [if_neg h2, List.getElem?_append_right (by simp; omega)]
      simp only [List.length_append, List.length_take, List.getElem?_drop]
      congr 1
      omega
theorem splice_same {A : Type} (cur news : List A) (k off n m : Nat) (hn : news.length = n) (h1 : off + n ≤ m) (h2 : k + m ≤ cur.length) :
    ((cur.take (k + off) ++ news ++ cur.drop (k + off + n)).drop k).take m = ((cur.drop k).take m).take off ++ news ++ ((cur.drop k).take m).drop (off + n) := by
  apply List.ext_getElem?
  intro q
  have hl : ((cur.drop k).take m).length = m := by simp; omega
  rw [splice_get ((cur.drop k).take m) news off n q hn (by omega), List.getElem?_take]
  by_cases hq : q < m
  · rw [if_pos hq, List.getElem?_drop, splice_get cur news (k + off) n (k + q) hn (by omega)]
    simp only [List.getElem?_take, List.getElem?_drop, hq, if_true]
    by_cases c1 : q < off
    · rw [if_pos c1, if_pos (by omega)]
    · rw [if_neg c1, if_neg (by omega)]
      by_cases c2 : q < off + n
      · rw [if_pos c2, if_pos (by omega), show k + q - (k + off) = q - off from by omega]
      · rw [if_neg c2, if_neg (by omega)]
  · rw [if_neg hq, if_neg (by omega), if_neg (by omega), List.getElem?_take, if_neg hq]
theorem splice_other {A : Type} (cur news : List A) (s n a m : Nat) (hn : news.length = n) (hs : s + n ≤ cur.length) (h : a + m ≤ s ∨ s + n ≤ a) :
    ((cur.take s ++ news ++ cur.drop (s + n)).drop a).take m = (cur.drop a).take m := by
  apply List.ext_getElem?
  intro q
  simp only [List.getElem?_take]
  by_cases hq : q < m
  · rw [if_pos hq, if_pos hq, List.getElem?_drop, List.getElem?_drop, splice_get cur news s n (a + q) hn hs]
    rcases h with h | h
    · rw [if_pos (by omega)]
    · rw [if_neg (by omega), if_neg (by omega)]
  · rw [if_neg hq, if_neg hq]

section
variable {o : Oper} {x y c : Operand} {ax ay ac : Opd} {base : Nat}
variable (hs : Sim P T S pl St w) (hF : RelF P T S pl St F a.tmps)
include hs hF

theorem s_ldC {t : TypeId} {ob : Obj} {av : AV} {no : Option Obj} (ho : o.op = .load t x) (hl : noAgg P t = true) (hx : opdOk P T x ax = true)
    (hob : ∀ id, tgtV (ax.ev F) = some id → St[id]? = some ob)
    (h : opO E F St ob (.ldC ax) base ret2 = some (av, no)) : no = none ∧ Done P o a w (OpPost P T S pl St w St av) := by
  have hv := opd_sound hs hx hF
  simp only [opO] at h
  split at h
  · rename_i id off e
    have hob := hob id (by rw [e]; rfl)
    rw [e] at hv
    split at h
    · rename_i c vs
      have e1 := hv.of_ptr_cells hob
      obtain ⟨cur, e2, hh, hsz, hr⟩ := hs.objs _ _ hob
      split at h
      · rename_i u hu
        simp only [ret2, Option.some.injEq, Prod.mk.injEq] at h
        obtain ⟨rfl, rfl⟩ := h
        have hlt : off < cur.size := by rw [hsz]; exact (List.getElem?_eq_some_iff.1 hu).1
        refine ⟨rfl, done_run (v := cur.toList.getD off undef) (w' := w) (exec_load ho ?_) (.same hs (by simpa using hr.1 off u hu))⟩
        rw [e1]
        simp only [Instr.loadAt, Instr.sureAddr, Sem.run_bind, Sem.run_pure, Result.andThen_ok, loadVar, noAgg_sound hl, Bool.false_eq_true, if_false, run_load, cell_heap hh hlt]
      · simp at h
    · simp at h
  · simp at h

theorem s_st {l : L} {t : TypeId} {ob : Obj} {av : AV} {no : Option Obj} (ho : o.op = .store t x y) (hsz : sizeB P t l.n = true) (hn : Nat.blt 0 l.n = true) (hx : opdOk P T x ax = true) (hy : opdOk P T y ay = true)
    (hob : ∀ id, tgtV (ax.ev F) = some id → St[id]? = some ob)
    (h : opO E F St ob (.st l ax ay) base ret2 = some (av, no)) : ∃ id o', tgtV (ax.ev F) = some id ∧ no = some o' ∧ Done P o a w (OpPost P T S pl St w (St.set id o') av) := by
  have hp : 0 < l.n := by simpa using hn
  have hv := opd_sound hs hx hF
  have hu := opd_soundD hs hy hF
  simp only [opO] at h
  split at h
  · rename_i id off e
    have hob := hob id (by rw [e]; rfl)
    rw [e] at hv
    split at h
    · rename_i l' r _
      obtain ⟨lv, row, ey, hA⟩ := asD_some h
      obtain ⟨hb, hB⟩ := check_some hA
      obtain rfl := L.beq_eq hb
      obtain ⟨r', hr', ht⟩ := turn_some hB
      simp only [ret2, Option.some.injEq, Prod.mk.injEq] at hr'
      obtain ⟨rfl, rfl⟩ := hr'
      rw [ey] at hu
      have hnew := hu.of_d.cells
      have e1 := hv.of_ptr hob
      obtain ⟨cur, e2, hh, hr⟩ := hs.objs _ _ hob
      obtain ⟨q1, q2⟩ := hr.turn hnew hp ht
      have hcz : cur.size = l'.n := by have := hr.clen; simpa [L.n] using this
      have hst := run_store_heap (sizeB_sound hsz w) hh (v := a.eval y) (off := off) (by have := hnew.clen; simpa [L.n] using this) hnew.oneCells (by omega)
      refine ⟨id, _, by rw [e]; rfl, rfl, done_skip (exec_store ho (by rw [e1]; exact hst)) ?_⟩
      refine set_post hs hob (by simp) rfl rfl hh (Keeps.set hob (fun _ => ⟨by simp, fun _ _ _ => ⟨_, _, rfl⟩, fun _ _ h => by simp at h, fun _ _ _ h => by simp at h, fun _ _ _ _ h => by simp at h, fun _ _ _ h => by simp at h⟩)) (fun w' hw' => ⟨_, _, hw', by simpa using q1⟩) .und
    · simp at h
  · rename_i id ver idx off e
    have hob := hob id (by rw [e]; rfl)
    rw [e] at hv
    obtain ⟨l', c, rfl, h1⟩ := asArr_some h
    obtain ⟨lv, row, ey, hA⟩ := asD_some h1
    obtain ⟨hb, hB⟩ := check_some hA
    obtain rfl := L.beq_eq hb
    obtain ⟨hlt, hC⟩ := ite_some hB
    obtain ⟨r', hr', ht⟩ := turn_some hC
    simp only [ret2, Option.some.injEq, Prod.mk.injEq] at hr'
    obtain ⟨rfl, rfl⟩ := hr'
    rw [ey] at hu
    have hnew := hu.of_d.cells
    have e1 := hv.of_aptr hob
    rcases hs.objs _ _ hob with rfl | ⟨rows, cur, e2, i, rfl, hh, q1, q2, q3, q4, q5, q6, q7⟩
    · simp [C.rows] at hlt
    · simp only [C.rows] at hlt ht ⊢
      have hrow : rows[idx]? = some (rowsAt rows idx) := by simp [rowsAt, List.getD_eq_getElem?_getD, hlt]
      obtain ⟨g1, g2⟩ := (q7 idx _ hrow).turn hnew hp ht
      have hle : (idx + 1) * l'.n ≤ pl.cap id * l'.n := Nat.mul_le_mul_right _ (by omega)
      have hexp : (idx + 1) * l'.n = idx * l'.n + l'.n := Nat.succ_mul _ _
      have hnz : (a.eval y).cells.size = l.n := by have := hnew.clen; simpa [L.n] using this
      have hnl : (a.eval y).cells.toList.length = l.n := by simpa using hnz
      have hst := run_store_heap (sizeB_sound hsz w) hh (v := a.eval y) (off := idx * l'.n + off) hnz hnew.oneCells (by omega)
      refine ⟨id, _, by rw [e]; rfl, rfl, done_skip (exec_store ho (by rw [e1]; exact hst)) ?_⟩
      refine set_post hs hob (by simp) rfl rfl hh (Keeps.set hob (fun _ => ⟨by simp, fun _ _ h => by simp at h, fun _ _ h => by simp at h, fun v l c h => ?_, fun _ _ _ _ h => by simp at h, fun _ _ _ h => by simp at h⟩)) (fun w' hw' => ?_) .und
      · simp only [Obj.arr.injEq] at h
        obtain ⟨rfl, rfl, rfl⟩ := h
        exact ⟨_, _, rfl, Nat.le_refl _, fun _ => ⟨fun h => by simp at h, fun rs h => ⟨rows, rfl, by simp at h; subst h; simp⟩⟩⟩
      · refine .inr ⟨_, _, _, i, rfl, hw', q1, q2, q3, by simpa using q4, q5, ?_, fun j r hj => ?_⟩
        · simp [hnl]; omega
        · have hcl : cur.toList.length = pl.cap id * l'.n := by simpa using q6
          by_cases hji : j = idx
          · subst hji
            simp [hlt] at hj; subst hj
            rw [List.toList_toArray, splice_same cur.toList _ _ off l.n l'.n hnl g2 (by rw [hcl]; omega)]
            exact g1
          · rw [List.getElem?_set_ne (Ne.symm hji)] at hj
            rw [List.toList_toArray, splice_other cur.toList _ _ l.n _ _ hnl (by rw [hcl]; omega)]
            · exact q7 j r hj
            · rcases Nat.lt_or_gt_of_ne hji with hlt2 | hgt
              · left
                have := Nat.mul_le_mul_right l'.n (show j + 1 ≤ idx from hlt2)
                have e : (j + 1) * l'.n = j * l'.n + l'.n := Nat.succ_mul _ _
                omega
              · right
                have := Nat.mul_le_mul_right l'.n (show idx + 1 ≤ j from hgt)
                omega
  · simp at h
end
end Go.Ev
