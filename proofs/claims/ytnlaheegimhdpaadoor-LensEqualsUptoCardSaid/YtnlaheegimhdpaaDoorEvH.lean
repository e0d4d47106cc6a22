/-
  Each operation of the abstract machine does what the model's operation does: addresses, parts, lengths.
-/
import Derived.Test.YtnlaheegimhdpaaDoorEvG
set_option linter.all false
namespace Go.Ev
variable {E : Env} {P : Program} {T : Nat → AFn} {S S' : Stab} {pl pl' : Pl} {St St' : Ev.St} {F : Fr} {a : Act} {w w' : World}

/-- The field's place and size. -/
def fieldB (P : Program) (t : TypeId) (f off n : Nat) (u : TypeId) : Bool :=
  match P.underlying t with
  | some (.struct fs) => (match fs[f]? with
    | some fd => Nat.beq fd.offset off && Nat.beq fd.type u && (match P.info? u with | some i => Nat.beq i.size n && Nat.blt 0 n | none => false)
    | none => false)
  | _ => false
theorem fieldB_sound {t f off n u} (h : fieldB P t f off n u = true) : ∃ fs fd i, P.underlying t = some (.struct fs) ∧ fs[f]? = some fd ∧ fd.offset = off ∧ fd.type = u ∧ P.info? u = some i ∧ i.size = n ∧ 0 < n := by
  unfold fieldB at h
  split at h
  · rename_i fs hu
    split at h
    · rename_i fd hf
      simp only [Bool.and_eq_true] at h
      obtain ⟨⟨h1, h2⟩, h3⟩ := h
      split at h3
      · rename_i i hi
        simp only [Bool.and_eq_true] at h3
        exact ⟨fs, fd, i, hu, hf, Nat.eq_of_beq_eq_true h1, Nat.eq_of_beq_eq_true h2, hi, Nat.eq_of_beq_eq_true h3.1, by simpa using h3.2⟩
      · simp at h3
    · simp at h
  · simp at h
theorem run_fieldAt {t f off n u} (h : fieldB P t f off n u = true) (w : World) (b o : Nat) :
    (Instr.fieldAt t (.pointer (some ⟨b, o, none⟩)) f).run P w = .ok (.pointer (some ⟨b, o + off, none⟩)) w := by
  obtain ⟨fs, fd, i, h1, h2, rfl, rfl, h5, h6, h7⟩ := fieldB_sound h
  have hz : ¬ i.size = 0 := by omega
  simp [Instr.fieldAt, run_underlying h1, h2, Instr.sureAddr, fieldPlace, sizeOf, typeInfo, h5, hz, add_eq ⟨b, o, none⟩ rfl]

theorem RelV.of_sl {e : TypeId} {row : Row} {v : Value} (h : RelV P T S pl St (.d (.one (.sl e)) row) v) :
    (v = .slice none 0 0 ∧ at_ row 0 = .nils) ∨ ∃ (l : L) (rows : List Row) (a : Addr) (cap : Nat) (f : Nat → Nat → Value), v = .slice (some a) rows.length cap ∧ at_ row 0 = .sl rows ∧ Lay P e l ∧ rows.length ≤ cap ∧
      (∀ r ∈ rows, r.length = l.n) ∧ (rows.length ≠ 0 → a.spot = none) ∧ (∀ i j, i < rows.length → j < l.n → S a.block (a.off + i * l.n + j) = some (f i j)) ∧
      (∀ i j k, i < rows.length → l.ks[j]? = some k → Rep P T S k (f i j) (at_ (rowsAt rows i) j)) := by
  obtain ⟨c, rfl, hr⟩ := h.of_d
  cases hr with
  | nils => exact .inl ⟨rfl, rfl⟩
  | sl f h1 h2 h3 h4 h5 h6 h7 => subst h2; exact .inr ⟨_, _, _, _, f, rfl, rfl, h1, h3, h4, h5, h6, h7⟩

theorem RelV.of_whole {id ver : Nat} {l : L} {c : C} {v : Value} (h : RelV P T S pl St (.whole id ver) v) (ho : St[id]? = some (.arr ver l c)) :
    (c = .nils → v = .slice none 0 0) ∧ (∀ rows, c = .sl rows → v = .slice (some ⟨pl.blk id, 0, none⟩) rows.length (pl.cap id)) := by
  cases h with
  | whole h0 h1 h2 hv h3 h4 =>
    rw [ho] at h1; obtain rfl := Option.some.inj h1
    exact ⟨fun e => h3 l (by rw [e]), fun rows e => h4 l rows (by rw [e])⟩
theorem RelV.of_own {id ver off len : Nat} {l : L} {rows : List Row} {v : Value} (h : RelV P T S pl St (.own id ver off len) v) (ho : St[id]? = some (.arr ver l (.sl rows))) :
    ∃ a cap, v = .slice (some a) len cap ∧ len ≤ cap ∧ off + len ≤ rows.length ∧ (len ≠ 0 → a = ⟨pl.blk id, off * l.n, none⟩) := by
  cases h with
  | own h0 h1 h2 hv h3 h4 => rw [ho] at h1; obtain rfl := Option.some.inj h1; exact h3 l rows rfl
theorem RelV.own_not_nil {id ver off len : Nat} {l : L} {v : Value} (h : RelV P T S pl St (.own id ver off len) v) (ho : St[id]? = some (.arr ver l .nils)) : False := by
  cases h with
  | own h0 h1 h2 hv h3 h4 => rw [ho] at h1; obtain rfl := Option.some.inj h1; exact h4 l rfl

/-- The elements of a slice: type and layout. -/
def elemB (P : Program) (t e : TypeId) (l : L) : Bool :=
  (match P.underlying t with | some (.slice e') => Nat.beq e' e | _ => false) && layB P e l
theorem elemB_sound {t e l} (h : elemB P t e l = true) : P.underlying t = some (.slice e) ∧ Lay P e l := by
  simp only [elemB, Bool.and_eq_true] at h
  obtain ⟨h1, h2⟩ := h
  split at h1
  · rename_i e' he; rw [he, Nat.eq_of_beq_eq_true h1]; exact ⟨rfl, layB_sound h2⟩
  · simp at h1
theorem run_indexAt {t e : TypeId} {l : L} (h : elemB P t e l = true) (w : World) (a : Addr) (ha : a.spot = none) (len cap : Nat) (k : IntKind) (n : Int) (h0 : 0 ≤ n) (h1 : n < len) :
    (Instr.indexAt t (.slice (some a) len cap) (.int k n)).run P w = .ok (.pointer (some ⟨a.block, a.off + n.toNat * l.n, none⟩)) w := by
  obtain ⟨hu, hl⟩ := elemB_sound h
  obtain ⟨i, hi, hz⟩ := hl.2
  simp [Instr.indexAt, asIntOf, run_underlying hu, h0, h1, sizeOf, typeInfo, hi, hz, add_eq a ha]

theorem exec_indexAddr {o : Oper} {t : TypeId} {x y : Operand} {v : Value} {w w' : World} (ho : o.op = .indexAddr t x y) (h : (Instr.indexAt t (a.eval x) (a.eval y)).run P w = .ok v w') : (execOp a.eval o).run P w = .ok (.value v) w' := by
  simp only [execOp, ho]; exact run_v h
theorem exec_fieldAddr {o : Oper} {t : TypeId} {x : Operand} {f : Nat} {v : Value} {w w' : World} (ho : o.op = .fieldAddr t x f) (h : (Instr.fieldAt t (a.eval x) f).run P w = .ok v w') : (execOp a.eval o).run P w = .ok (.value v) w' := by
  simp only [execOp, ho]; exact run_v h

theorem RelV.aptr_mk {id ver idx off : Nat} {l : L} {c : C} (h : St[id]? = some (.arr ver l c)) : RelV P T S pl St (.aptr id ver idx off) (.pointer (some ⟨pl.blk id, idx * l.n + off, none⟩)) :=
  .aptr rfl h (by simp) (fun v l' c' e => by simp at e; omega) (fun l' c' e => by simp at e; rw [e.1])

section
variable {o : Oper} {x y c : Operand} {ax ay ac : Opd} {base : Nat}
variable (hs : Sim P T S pl St w) (hF : RelF P T S pl St F a.tmps)
include hs hF

theorem s_stC {t : TypeId} {ob : Obj} {av : AV} {no : Option Obj} (ho : o.op = .store t x y) (hsz : sizeB P t 1 = true) (hx : opdOk P T x ax = true) (hy : opdOk P T y ay = true)
    (hob : ∀ id, tgtV (ax.ev F) = some id → St[id]? = some ob)
    (h : opO E F St ob (.stC ax ay) base ret2 = some (av, no)) : ∃ id o', tgtV (ax.ev F) = some id ∧ no = some o' ∧ Done P o a w (OpPost P T S pl St w (St.set id o') av) := by
  have hv := opd_sound hs hx hF
  have hu := opd_sound hs hy hF
  simp only [opO] at h
  split at h
  · rename_i id off e
    have hob := hob id (by rw [e]; rfl)
    rw [e] at hv
    split at h
    · rename_i vs _
      obtain ⟨hb, hA⟩ := check_some h
      simp only [Bool.and_eq_true] at hb
      have hlt : off < vs.length := by simpa using hb.1
      obtain ⟨u1, u2⟩ := hu.single hb.2
      simp only [ret2, Option.some.injEq, Prod.mk.injEq] at hA
      obtain ⟨rfl, rfl⟩ := hA
      have e1 := hv.of_ptr_cells hob
      obtain ⟨cur, e2, hh, hcz, hr⟩ := hs.objs _ _ hob
      have hst := run_store_heap (sizeB_sound hsz w) hh (v := a.eval y) (off := off) (by rw [u2]; rfl) (by rw [u2]; simpa using u1) (by omega)
      have hk : Keeps pl St pl (St.set id (.cells false (vs.set off (ay.ev F)))) := Keeps.set hob (fun _ => ⟨by simp, fun _ _ h => by simp at h, fun _ _ _ => ⟨_, _, rfl⟩, fun _ _ _ h => by simp at h, fun _ _ _ _ h => by simp at h, fun _ _ _ h => by simp at h⟩)
      refine ⟨id, _, by rw [e]; rfl, rfl, done_skip (exec_store ho (by rw [e1]; exact hst)) ?_⟩
      refine set_post hs hob (by simp) rfl rfl hh hk (fun w' hw' => ⟨_, _, hw', ?_, fun i av hi => ?_, fun i hi => ?_⟩) .und
      · rw [u2]; simp; omega
      · have hg := splice_get cur.toList [a.eval y] off 1 i rfl (by simp; omega)
        rw [u2]
        have hgd : ((List.take off cur.toList ++ #[a.eval y].toList ++ List.drop (off + 1) cur.toList).toArray.getD i undef) = (List.take off cur.toList ++ [a.eval y] ++ List.drop (off + 1) cur.toList)[i]?.getD undef := by simp
        rw [hgd, hg]
        by_cases hio : i = off
        · subst hio
          simp [hlt] at hi; subst hi
          simpa using hu.keep hk S.le_refl
        · rw [List.getElem?_set_ne (Ne.symm hio)] at hi
          have := (hr.1 i av hi).keep hk S.le_refl
          rcases Nat.lt_or_gt_of_ne hio with h1 | h1
          · rw [if_pos h1]; simpa using this
          · rw [if_neg (by omega), if_neg (by omega)]; simpa using this
      · rw [u2] at hi ⊢
        have hgd : ((List.take off cur.toList ++ #[a.eval y].toList ++ List.drop (off + 1) cur.toList).toArray.getD i undef) = (List.take off cur.toList ++ [a.eval y] ++ List.drop (off + 1) cur.toList)[i]?.getD undef := by simp
        rw [hgd, splice_get cur.toList [a.eval y] off 1 i rfl (by simp; omega)]
        simp at hi
        by_cases hio : i = off
        · subst hio; simpa using u1
        · have := hr.2 i (by omega)
          rcases Nat.lt_or_gt_of_ne hio with h1 | h1
          · rw [if_pos h1]; simpa using this
          · rw [if_neg (by omega), if_neg (by omega)]; simpa using this
    · simp at h
  · simp at h

omit hs hF in
theorem asHas_some {A : Type} {o : Obj} {k : Option A} {r : A} (h : asHas o k = some r) : ((∃ l row, o = .var l row) ∨ ∃ c vs, o = .cells c vs) ∧ k = some r := by
  unfold asHas at h
  split at h
  · exact ⟨.inl ⟨_, _, rfl⟩, h⟩
  · exact ⟨.inr ⟨_, _, rfl⟩, h⟩
  · simp at h
omit hs hF in
theorem _root_.Go.Ev.RelV.of_has {id off : Nat} {o : Obj} {v : Value} (h : RelV P T S pl St (.ptr id off) v) (ho : St[id]? = some o) (hk : (∃ l row, o = .var l row) ∨ ∃ c vs, o = .cells c vs) : v = .pointer (some ⟨pl.blk id, off, none⟩) := by
  rcases hk with ⟨l, row, rfl⟩ | ⟨c, vs, rfl⟩
  · exact h.of_ptr ho
  · exact h.of_ptr_cells ho
omit hs hF in
theorem _root_.Go.Ev.RelV.has_mk {id off : Nat} {o : Obj} (ho : St[id]? = some o) (hk : (∃ l row, o = .var l row) ∨ ∃ c vs, o = .cells c vs) : RelV P T S pl St (.ptr id off) (.pointer (some ⟨pl.blk id, off, none⟩)) := by
  rcases hk with ⟨l, row, rfl⟩ | ⟨c, vs, rfl⟩
  · exact .ptr_var ho rfl
  · exact .ptr_cells ho rfl

omit hs hF in
/-- A part of the cells behind a pointer. -/
theorem ref_part {l l' : L} {u : TypeId} {ad : Addr} {f : Nat → Value} {row : Row} {off : Nat} (hu : Lay P u l) (hk : l.ks = (l'.ks.drop off).take l.n) (ha : ad.spot = none)
    (h4 : ∀ j, j < l'.n → S ad.block (ad.off + j) = some (f j)) (h5 : ∀ j k, l'.ks[j]? = some k → Rep P T S k (f j) (at_ row j)) :
    Rep P T S (.ref u) (.pointer (some ⟨ad.block, ad.off + off, none⟩)) (.dp (sub row off l.n)) := by
  have hlen : l.n ≤ l'.n - off := by
    have := congrArg List.length hk; simp [L.n] at this ⊢; omega
  refine .ref (fun j => f (off + j)) hu (length_sub _ _ _) rfl (fun j hj => ?_) (fun j k hj => ?_)
  · have := h4 (off + j) (by omega)
    simpa [Nat.add_assoc] using this
  · have hjl : j < l.n := (List.getElem?_eq_some_iff.1 hj).1
    rw [at_sub _ _ _ _ hjl]
    refine h5 (off + j) k ?_
    rw [hk] at hj
    simpa [List.getElem?_take, hjl] using hj

theorem s_fad {off n : Nat} {t u : TypeId} {f : Nat} {l l' : L} {ob : Obj} {av : AV} {no : Option Obj} (ho : o.op = .fieldAddr t x f) (hf : fieldB P t f off n u = true) (hl : layB P t l' = true) (hl2 : layB P u l = true)
    (hn : Nat.beq l.n n = true) (hk : ksBeq l.ks ((l'.ks.drop off).take l.n) = true) (hx : opdOk P T x ax = true) (hob : ∀ id, tgtV (ax.ev F) = some id → St[id]? = some ob)
    (h : opO E F St ob (.fad off n t u ax) base ret2 = some (av, no)) : no = none ∧ Done P o a w (OpPost P T S pl St w St av) := by
  have hv := opd_sound hs hx hF
  obtain rfl := Nat.eq_of_beq_eq_true hn
  simp only [opO] at h
  split at h
  · rename_i t' r e
    obtain ⟨hb, hB⟩ := check_some h
    obtain rfl := Nat.eq_of_beq_eq_true hb
    obtain ⟨hdp, hB⟩ := ite_some hB
    simp only [ret2, Option.some.injEq, Prod.mk.injEq] at hB
    obtain ⟨rfl, rfl⟩ := hB
    rw [e] at hv
    obtain ⟨l0, ad, g, e1, h1, h2, h3, h4, h5⟩ := hv.of_ref hdp
    obtain rfl := h1.inj (layB_sound hl)
    have had : ad = ⟨ad.block, ad.off, none⟩ := by cases ad; simp at h3; subst h3; rfl
    refine ⟨rfl, done_run (w' := w) (exec_fieldAddr ho ?_) (.same hs (.d ⟨_, rfl, ref_part (layB_sound hl2) (ksBeq_eq hk) h3 h4 h5⟩))⟩
    rw [e1, had]; exact run_fieldAt hf w _ _
  · rename_i id p e
    have hob := hob id (by rw [e]; rfl)
    rw [e] at hv
    obtain ⟨hk2, hA⟩ := asHas_some h
    simp only [ret2, Option.some.injEq, Prod.mk.injEq] at hA
    obtain ⟨rfl, rfl⟩ := hA
    have e1 := hv.of_has hob hk2
    refine ⟨rfl, done_run (w' := w) (exec_fieldAddr ho ?_) (.same hs (.has_mk hob hk2))⟩
    rw [e1]; exact run_fieldAt hf w _ _
  · rename_i id v i p e
    have hob := hob id (by rw [e]; rfl)
    rw [e] at hv
    obtain ⟨l0, c, rfl, hA⟩ := asArr_some h
    simp only [ret2, Option.some.injEq, Prod.mk.injEq] at hA
    obtain ⟨rfl, rfl⟩ := hA
    have e1 := hv.of_aptr hob
    refine ⟨rfl, done_run (w' := w) (exec_fieldAddr ho ?_) (.same hs (.aptr_mk hob))⟩
    rw [e1, ← Nat.add_assoc]; exact run_fieldAt hf w _ _
  · simp at h

omit hs hF in
/-- A part of a value. -/
theorem run_part {t : TypeId} {l l' : L} {v : Value} {row : Row} {off : Nat} (hl : Lay P t l) (hn : 0 < l.n) (hv : RepL P T S l' v row) (cs : Array Value) (hcs : v = .agg cs) (hk : l.ks = (l'.ks.drop off).take l.n) (w : World) :
    ∃ u, (Go.part t cs off).run P w = .ok u w ∧ RepL P T S l u (sub row off l.n) := by
  have hr := hv.cells
  rw [hcs] at hr
  have hs := hr.sub l.ks off hk
  have hlen : off + l.n ≤ cs.size := by
    have h1 := hr.clen; simp [Value.cells] at h1
    have := congrArg List.length hk; simp [L.n] at this ⊢; simp only [L.n] at hn; omega
  have hag := hl.agg w
  cases l with
  | one k =>
    have hlt : off < cs.size := by have : (L.one k).n = 1 := rfl; omega
    refine ⟨cs[off], ?_, ?_⟩
    · unfold Go.part
      rw [Sem.run_bind, hag]
      simp [hlt]
    · have := hs.cell 0 k rfl
      refine ⟨at_ (sub row off 1) 0, by simp [sub, L.n, L.ks, at_], ?_⟩
      simpa [List.getD_eq_getElem?_getD, hlt, L.ks, Value.cells] using this
  | agg ks =>
    refine ⟨.agg (cs.extract off (off + ks.length)), ?_, ⟨_, rfl, ?_⟩⟩
    · unfold Go.part
      rw [Sem.run_bind, hag]
      simp [hl.size w, L.n, L.ks]
    · have e : (cs.extract off (off + ks.length)).toList = ((Value.agg cs).cells.toList.drop off).take ks.length := by
        simp [Value.cells]
      rw [e]; exact hs

def fldB (P : Program) (t : TypeId) (f off : Nat) (l : L) : Bool :=
  match P.underlying t with
  | some (.struct fs) => (match fs[f]? with
    | some fd => Nat.beq fd.offset off && layB P fd.type l && Nat.blt 0 l.n
    | none => false)
  | _ => false
theorem s_fld {off : Nat} {t : TypeId} {f : Nat} {l : L} {ob : Obj} {av : AV} {no : Option Obj} (ho : o.op = .field t x f) (hf : fldB P t f off l = true) (hx : opdOk P T x ax = true)
    (h : opO E F St ob (.fld off l ax) base ret2 = some (av, no)) : no = none ∧ Done P o a w (OpPost P T S pl St w St av) := by
  have hv := opd_soundD hs hx hF
  simp only [opO] at h
  split at h
  · rename_i ks r e
    obtain ⟨hk, hB⟩ := check_some h
    simp only [ret2, Option.some.injEq, Prod.mk.injEq] at hB
    obtain ⟨rfl, rfl⟩ := hB
    rw [e] at hv
    unfold fldB at hf
    split at hf
    · rename_i fs hu
      split at hf
      · rename_i fd hfd
        simp only [Bool.and_eq_true] at hf
        obtain ⟨⟨h1, h2⟩, h3⟩ := hf
        obtain rfl := Nat.eq_of_beq_eq_true h1
        have hp : 0 < l.n := by simpa using h3
        obtain ⟨cs, hcs, hr⟩ := hv.of_d
        obtain ⟨u, hu1, hu2⟩ := run_part (layB_sound h2) hp hv.of_d cs hcs (ksBeq_eq hk) w
        refine ⟨rfl, done_run (v := u) (w' := w) ?_ (.same hs (.d (by rw [hu2.nrm]; exact hu2)))⟩
        simp only [execOp, ho]
        refine run_v ?_
        simp [Instr.field, run_underlying hu, hcs, asAgg, hfd, hu1]
      · simp at hf
    · simp at hf
  · simp at h

theorem s_iad {t e : TypeId} {l : L} {ob : Obj} {av : AV} {no : Option Obj} (ho : o.op = .indexAddr t x y) (hel : elemB P t e l = true) (hn : Nat.blt 0 l.n = true) (hx : opdOk P T x ax = true) (hy : opdOk P T y ay = true)
    (hob : ∀ id, tgtV (ax.ev F) = some id → St[id]? = some ob)
    (h : opO E F St ob (.iad e l ax ay) base ret2 = some (av, no)) : no = none ∧ Done P o a w (OpPost P T S pl St w St av) := by
  have hv := opd_soundD hs hx hF
  have hi := opd_soundD hs hy hF
  obtain ⟨hu, hL⟩ := elemB_sound hel
  simp only [opO] at h
  obtain ⟨kd, ri, ei, hA⟩ := asI_some h
  rw [ei] at hi
  have hi := hi.of_int
  generalize (at_ ri 0).toI = n at *
  clear h ei
  split at hA
  · rename_i e' r ex
    obtain ⟨hb, hB⟩ := check_some hA
    obtain rfl := Nat.eq_of_beq_eq_true hb
    obtain ⟨hlt, hC⟩ := ite_some hB
    simp only [ret2, Option.some.injEq, Prod.mk.injEq] at hC
    obtain ⟨rfl, rfl⟩ := hC
    rw [ex] at hv
    rcases hv.of_sl with ⟨e1, e2⟩ | ⟨l', rows, ad, cap, f, e1, e2, h1, h2, h3, h4, h5, h6⟩
    · rw [e2] at hlt; simp [C.rows] at hlt; omega
    · obtain rfl := h1.inj hL
      rw [e2] at hlt ⊢
      simp only [C.rows] at hlt ⊢
      have hnl : n.toNat < rows.length := by omega
      have had := h4 (by omega)
      refine ⟨trivial, done_run (v := .pointer (some ⟨ad.block, ad.off + n.toNat * l'.n, none⟩)) (w' := w) (exec_indexAddr ho ?_) (.same hs (.d ⟨_, rfl, ?_⟩))⟩
      · rw [e1, hi]; exact run_indexAt hel w ad had _ _ _ _ hlt.1 hlt.2
      · refine .ref (fun j => f n.toNat j) h1 (h3 _ ?_) rfl (fun j hj => h5 _ _ hnl hj) (fun j k hj => h6 _ _ _ hnl hj)
        simp [rowsAt, List.getD_eq_getElem?_getD, hnl]
  · rename_i id v ex
    have hob := hob id (tgt_dat (by rw [ex]; rfl))
    rw [ex] at hv
    obtain ⟨l', c, rfl, hB⟩ := asArr_some hA
    obtain ⟨hb, hC⟩ := check_some hB
    obtain rfl := L.beq_eq hb
    obtain ⟨hlt, hD⟩ := ite_some hC
    simp only [ret2, Option.some.injEq, Prod.mk.injEq] at hD
    obtain ⟨rfl, rfl⟩ := hD
    rcases hs.objs _ _ hob with rfl | ⟨rows, cur, e2, i, rfl, hh, q1, q2, q3, q4, q5, q6, q7⟩
    · simp [C.rows] at hlt; omega
    · have e1 := (hv.of_whole hob).2 rows rfl
      simp only [C.rows] at hlt
      refine ⟨rfl, done_run (w' := w) (exec_indexAddr ho ?_) (.same hs (.aptr_mk hob))⟩
      rw [e1, hi]
      have := run_indexAt hel w ⟨pl.blk id, 0, none⟩ rfl rows.length (pl.cap id) kd n hlt.1 hlt.2
      simpa using this
  · rename_i id v off len ex
    have hob := hob id (tgt_dat (by rw [ex]; rfl))
    rw [ex] at hv
    obtain ⟨l', c, rfl, hB⟩ := asArr_some hA
    obtain ⟨hb, hC⟩ := check_some hB
    obtain rfl := L.beq_eq hb
    obtain ⟨hlt, hD⟩ := ite_some hC
    simp only [ret2, Option.some.injEq, Prod.mk.injEq] at hD
    obtain ⟨rfl, rfl⟩ := hD
    rcases hs.objs _ _ hob with rfl | ⟨rows, cur, e2, i, rfl, hh, q1, q2, q3, q4, q5, q6, q7⟩
    · exact (hv.own_not_nil hob).elim
    · obtain ⟨ad, cap, e1, h1, h2, h3⟩ := hv.of_own hob
      obtain rfl := h3 (by omega)
      refine ⟨rfl, done_run (w' := w) (exec_indexAddr ho ?_) (.same hs (.aptr_mk hob))⟩
      rw [e1, hi]
      have := run_indexAt hel w ⟨pl.blk id, off * l.n, none⟩ rfl len cap kd n hlt.1 hlt.2
      rw [this, Nat.add_mul, Nat.add_zero]
  · simp at hA

theorem s_lenL {t e : TypeId} {ob : Obj} {av : AV} {no : Option Obj} (ho : o.op = .call { callee := .builtin .len, args := #[x], argTypes := #[t] }) (ht : P.underlying t = some (.slice e)) (hx : opdOk P T x ax = true)
    (hob : ∀ id, tgtV (ax.ev F) = some id → St[id]? = some ob)
    (h : opO E F St ob (.lenL ax) base ret2 = some (av, no)) : no = none ∧ Done P o a w (OpPost P T S pl St w St av) := by
  have hv := opd_soundD hs hx hF
  have key : ∀ (ad : Option Addr) (n c : Nat), a.eval x = .slice ad n c → (execOp a.eval o).run P w = .ok (.value (.int .i64 n)) w := fun ad n c e => by
    simp [execOp, ho, e, resolve, invoke, builtin, Builtin.len_, run_underlying ht, goInt]
  simp only [opO] at h
  split at h
  · rename_i e' r ex
    simp only [ret2, Option.some.injEq, Prod.mk.injEq] at h
    obtain ⟨rfl, rfl⟩ := h
    rw [ex] at hv
    rcases hv.of_sl with ⟨e1, e2⟩ | ⟨l', rows, ad, cap, f, e1, e2, h1, h2, h3, h4, h5, h6⟩
    · rw [e2]; exact ⟨rfl, done_run (key _ _ _ e1) (.same hs (relI _ _))⟩
    · rw [e2]; exact ⟨rfl, done_run (key _ _ _ e1) (.same hs (relI _ _))⟩
  · rename_i id v ex
    have hob := hob id (tgt_dat (by rw [ex]; rfl))
    rw [ex] at hv
    obtain ⟨l', c, rfl, hB⟩ := asArr_some h
    simp only [ret2, Option.some.injEq, Prod.mk.injEq] at hB
    obtain ⟨rfl, rfl⟩ := hB
    rcases hs.objs _ _ hob with rfl | ⟨rows, cur, e2, i, rfl, hh, q1, q2, q3, q4, q5, q6, q7⟩
    · exact ⟨rfl, done_run (key _ _ _ ((hv.of_whole hob).1 rfl)) (.same hs (relI _ _))⟩
    · exact ⟨rfl, done_run (key _ _ _ ((hv.of_whole hob).2 rows rfl)) (.same hs (relI _ _))⟩
  · rename_i id v off len ex
    have hob := hob id (tgt_dat (by rw [ex]; rfl))
    rw [ex] at hv
    obtain ⟨l', c, rfl, hB⟩ := asArr_some h
    simp only [ret2, Option.some.injEq, Prod.mk.injEq] at hB
    obtain ⟨rfl, rfl⟩ := hB
    rcases hs.objs _ _ hob with rfl | ⟨rows, cur, e2, i, rfl, hh, q1, q2, q3, q4, q5, q6, q7⟩
    · exact (hv.own_not_nil hob).elim
    · obtain ⟨ad, cap, e1, h1, h2, h3⟩ := hv.of_own hob
      exact ⟨rfl, done_run (key _ _ _ e1) (.same hs (relI _ _))⟩
  · simp at h

theorem s_idxS {t : TypeId} {ob : Obj} {av : AV} {no : Option Obj} (ho : o.op = .index t x y) (ht : P.underlying t = some .string) (hx : opdOk P T x ax = true) (hy : opdOk P T y ay = true)
    (h : opO E F St ob (.idxS ax ay) base ret2 = some (av, no)) : no = none ∧ Done P o a w (OpPost P T S pl St w St av) := by
  simp only [opO] at h
  obtain ⟨kd, ri, ei, hA⟩ := asI_some h
  obtain ⟨rs, es, hB⟩ := asS_some hA
  obtain ⟨hlt, hC⟩ := ite_some hB
  have hi := opd_soundD hs hy hF; rw [ei] at hi; have hi := hi.of_int
  have hv := opd_soundD hs hx hF; rw [es] at hv; obtain ⟨b, e1, q1⟩ := hv.of_str
  rw [← q1] at hlt hC
  generalize (at_ ri 0).toI = n at *
  simp only [ret2, Option.some.injEq, Prod.mk.injEq] at hC
  obtain ⟨rfl, rfl⟩ := hC
  rw [bsize] at hlt
  have hnl : n.toNat < b.size := by omega
  refine ⟨rfl, done_run (w' := w) ?_ (.same hs (relI _ _))⟩
  have hg : b[n.toNat]? = some b[n.toNat] := by simp [hnl]
  have hd : b.data.toList.getD n.toNat 0 = b[n.toNat] := by
    have h1 : n.toNat < b.data.toList.length := by rw [bsize]; exact hnl
    rw [List.getD_eq_getElem?_getD, List.getElem?_eq_getElem h1]; rfl
  simp only [execOp, ho, e1, hi]
  refine run_v ?_
  rw [hd]
  simp [Instr.index, asIntOf, run_underlying ht, hlt.1, hg]
end
end Go.Ev
