/-
  Each operation of the abstract machine does what the model's operation does: variables.
-/
import Derived.Test.YtnlaheegimhdpaaDoorEvD
set_option linter.all false
namespace Go.Ev
variable {E : Env} {P : Program} {T : Nat → AFn} {S S' : Stab} {pl pl' : Pl} {St St' : Ev.St} {F : Fr} {a : Act} {w w' : World}

theorem RelV.single {av : AV} {v : Value} (h : RelV P T S pl St av v) (hs : av.single = true) : v.oneCell' = true ∧ v.cells = #[v] := by
  have key : ∀ v : Value, v.oneCell' = true → v.cells = #[v] := fun v h => by cases v <;> first | rfl | simp [Value.oneCell'] at h
  cases h with
  | undef => simp [AV.single] at hs
  | und => simp [AV.single] at hs
  | @d l row v h =>
    cases l with
    | one k => obtain ⟨c, rfl, hr⟩ := h; exact hr.not_agg
    | agg ks => simp [AV.single] at hs
  | ptr h0 => exact ⟨h0, key _ h0⟩
  | aptr h0 => exact ⟨h0, key _ h0⟩
  | whole h0 => exact ⟨h0, key _ h0⟩
  | own h0 => exact ⟨h0, key _ h0⟩
  | fn => exact ⟨rfl, rfl⟩
  | tup => simp [AV.single] at hs
  | map h0 => exact ⟨h0, key _ h0⟩
  | sw h0 => exact ⟨h0, key _ h0⟩
  | agg => simp [AV.single] at hs

theorem cellsOf_length : ∀ (ks : List K) (r : Row) (i : Nat), (cellsOf ks r i).length = ks.length
  | [], _, _ => rfl
  | k :: ks, r, i => by simp [cellsOf, cellsOf_length ks r (i + 1)]
theorem cellsOf_get : ∀ (ks : List K) (r : Row) (i j : Nat), (cellsOf ks r i)[j]? = (ks[j]?).map fun k => .d (.one k) (Ev.nrm (.one k) [at_ r (i + j)])
  | [], _, _, _ => by simp [cellsOf]
  | k :: ks, r, i, 0 => by simp [cellsOf]
  | k :: ks, r, i, j + 1 => by
    simp only [cellsOf, List.getElem?_cons_succ]
    rw [cellsOf_get ks r (i + 1) j]
    simp only [Nat.add_assoc, Nat.add_comm 1 j]
/-- A value's cells, each for itself. -/
theorem RelV.cellsV {av : AV} {v : Value} {vs : List AV} (h : RelV P T S pl St av v) (hc : Ev.cellsV av = some vs) :
    v.cells.size = vs.length ∧ (∀ i u, vs[i]? = some u → RelV P T S pl St u (v.cells.getD i Go.undef)) ∧ ∀ i, i < v.cells.size → (v.cells.getD i Go.undef).oneCell' = true := by
  have one : ∀ av : AV, RelV P T S pl St av v → av.single = true → some [av] = some vs → v.cells.size = vs.length ∧ (∀ i u, vs[i]? = some u → RelV P T S pl St u (v.cells.getD i Go.undef)) ∧ ∀ i, i < v.cells.size → (v.cells.getD i Go.undef).oneCell' = true := by
    intro av h hs e
    simp only [Option.some.injEq] at e
    subst e
    obtain ⟨h1, h2⟩ := h.single hs
    rw [h2]
    refine ⟨rfl, fun i u hi => ?_, fun i hi => ?_⟩
    · cases i with
      | zero => simp at hi; subst hi; simpa using h
      | succ i => simp at hi
    · cases i with
      | zero => simpa using h1
      | succ i => simp at hi
  cases av with
  | agg avs =>
    simp only [Ev.cellsV, Option.some.injEq] at hc
    subst hc
    cases h with
    | agg vals h1 h2 =>
      simp only [Value.cells]
      have hg : ∀ i, i < avs.length → ((List.range avs.length).map vals).toArray.getD i Go.undef = vals i := fun i hi => by
        have := range_getD vals avs.length i hi
        simpa using this
      refine ⟨by simp, fun i u hi => ?_, fun i hi => ?_⟩
      · rw [hg i (List.getElem?_eq_some_iff.1 hi).1]; exact h2 i u hi
      · rw [hg i (by simpa using hi)]; exact h1 i (by simpa using hi)
  | d l r =>
    simp only [Ev.cellsV, Option.some.injEq] at hc
    subst hc
    have hr := h.of_d.cells
    have hsz : v.cells.size = l.ks.length := by have := hr.clen; simpa using this
    have hcell : ∀ i k, l.ks[i]? = some k → Rep P T S k (v.cells.getD i Go.undef) (at_ r i) := fun i k hk => by
      have := hr.cell i k hk
      simpa [List.getD_eq_getElem?_getD] using this
    refine ⟨by rw [cellsOf_length, hsz], fun i u hi => ?_, fun i hi => ?_⟩
    · rw [cellsOf_get, Nat.zero_add] at hi
      obtain ⟨k, hk, rfl⟩ := Option.map_eq_some_iff.1 hi
      have := hcell i k hk
      rw [nrm_of_rep this]
      exact .d ⟨_, rfl, this⟩
    · have hk : i < l.ks.length := by rw [← hsz]; exact hi
      exact (hcell i _ (List.getElem?_eq_getElem hk)).not_agg.1
  | undef => simp [Ev.cellsV, AV.single] at hc
  | und => simp [Ev.cellsV, AV.single] at hc
  | tup => simp [Ev.cellsV, AV.single] at hc
  | ptr => exact one _ h rfl hc
  | aptr => exact one _ h rfl hc
  | whole => exact one _ h rfl hc
  | own => exact one _ h rfl hc
  | fn => exact one _ h rfl hc
  | map => exact one _ h rfl hc
  | sw => exact one _ h rfl hc

theorem RelV.ptr_var {id off : Nat} {l : L} {row : Row} {b : Nat} (h : St[id]? = some (.var l row)) (hb : pl.blk id = b) : RelV P T S pl St (.ptr id off) (.pointer (some ⟨b, off, none⟩)) :=
  .ptr rfl h (by simp) (fun _ _ _ => by rw [hb]) (fun _ _ h => by simp at h)
theorem RelV.ptr_cells {id off : Nat} {c : Bool} {vs : List AV} {b : Nat} (h : St[id]? = some (.cells c vs)) (hb : pl.blk id = b) : RelV P T S pl St (.ptr id off) (.pointer (some ⟨b, off, none⟩)) :=
  .ptr rfl h (by simp) (fun _ _ h => by simp at h) (fun _ _ _ => by rw [hb])

/-! ### Layouts -/
def layB (P : Program) (t : TypeId) (l : L) : Bool :=
  (match layOf P t with | some l' => L.beq l' l | none => false) && (match P.info? t with | some i => Nat.beq i.size l.n | none => false)
theorem layB_sound {t : TypeId} {l : L} (h : layB P t l = true) : Lay P t l := by
  simp only [layB, Bool.and_eq_true] at h
  obtain ⟨h1, h2⟩ := h
  split at h1
  · rename_i l' e
    rw [← L.beq_eq h1]
    split at h2
    · rename_i i ei
      refine ⟨e, i, ei, ?_⟩
      rw [Nat.eq_of_beq_eq_true h2, L.beq_eq h1]
    · simp at h2
  · simp at h1
theorem Lay.inj {t : TypeId} {l l' : L} (h : Lay P t l) (h' : Lay P t l') : l = l' := by
  have := h.1.symm.trans h'.1; simpa using this
theorem Lay.agg {t : TypeId} {l : L} (h : Lay P t l) (w : World) : (isAgg t).run P w = .ok (match l with | .one _ => false | .agg _ => true) w := by
  have h1 := h.1
  unfold layOf at h1
  cases hu : P.underlying t with
  | none => rw [hu] at h1; simp [kindsOf, hu] at h1
  | some d =>
    rw [hu] at h1
    cases d <;> simp only [isAgg, Sem.run_bind, run_underlying hu, Result.andThen_ok, Sem.run_pure] at h1 ⊢ <;>
      first
        | (cases hk : kindsOf P 30 t with
            | none => rw [hk] at h1; simp at h1
            | some ks => rw [hk] at h1; simp at h1; subst h1; rfl)
        | (split at h1
           · simp at h1; subst h1; rfl
           · simp at h1)
theorem Lay.size {t : TypeId} {l : L} (h : Lay P t l) (w : World) : (sizeOf t).run P w = .ok l.n w := by
  obtain ⟨i, hi, hs⟩ := h.2
  simp [sizeOf, typeInfo, hi, hs]

/-- The value with these cells. -/
def mkV (l : L) (f : Nat → Value) : Value := match l with | .one _ => f 0 | .agg ks => .agg ((List.range ks.length).map f).toArray
theorem RepL.mk {l : L} {row : Row} {f : Nat → Value} (hl : row.length = l.n) (h : ∀ j k, l.ks[j]? = some k → Rep P T S k (f j) (at_ row j)) : RepL P T S l (mkV l f) row := by
  cases l with
  | one k =>
    match row, hl with
    | [c], _ => exact ⟨c, rfl, by have := h 0 k rfl; simpa [at_, Ev.mkV] using this⟩
  | agg ks =>
    refine ⟨_, rfl, by simp, hl, fun j k hk => ?_⟩
    have hj : j < ks.length := (List.getElem?_eq_some_iff.1 hk).1
    have := h j k hk
    simpa [List.getD_eq_getElem?_getD, hj] using this
theorem RepR.mkV {l : L} {row : Row} {cs : List Value} (h : RepR P T S l.ks cs row) : RepL P T S l (mkV l fun j => cs.getD j undef) row :=
  .mk h.rlen h.cell

theorem add_eq (a : Addr) (h : a.spot = none) (j : Nat) : a.add j = ⟨a.block, a.off + j, none⟩ := by
  unfold Addr.add
  cases a; simp at h; subst h
  split <;> simp_all

theorem run_loadVar_cells {t : TypeId} {l : L} (h : Lay P t l) (a : Addr) (ha : a.spot = none) (w : World) (f : Nat → Value) (hl : 0 < l.n)
    (hc : ∀ j, j < l.n → w.cell? ⟨a.block, a.off + j, none⟩ = some (f j)) : (loadVar t a).run P w = .ok (mkV l f) w := by
  have hag := h.agg w
  unfold loadVar
  cases l with
  | one k =>
    have h0 := hc 0 (by simpa using hl)
    have e : a = ⟨a.block, a.off + 0, none⟩ := by cases a; simp at ha; subst ha; rfl
    rw [Sem.run_bind, hag]
    simp only [Result.andThen_ok, Bool.false_eq_true, if_false]
    rw [e, run_load, h0]; rfl
  | agg ks =>
    rw [Sem.run_bind, hag]
    simp only [Result.andThen_ok, if_true, Sem.run_bind, h.size w]
    rw [run_loadCells w a _ f (fun j hj => by rw [add_eq a ha]; exact hc j hj)]
    simp [Ev.mkV, L.n, L.ks]

/-- A pointer to cells that stay. -/
theorem rep_ref {t : TypeId} {l : L} {b off : Nat} {cs : List Value} {row : Row} (hl : Lay P t l) (hr : RepR P T S l.ks cs row)
    (hS : ∀ j, j < l.n → S b (off + j) = some (cs.getD j undef)) : Rep P T S (.ref t) (.pointer (some ⟨b, off, none⟩)) (.dp row) :=
  .ref (fun j => cs.getD j undef) hl hr.rlen rfl hS hr.cell

theorem run_newVar (t : TypeId) (v : Value) (w : World) : (Instr.box t v).run P w = .ok (.pointer (some ⟨w.heap.size, 0, none⟩)) (w.alloc (.cells v.cells t)) := by
  simp [Instr.box, newVar, newRow]

section
variable {o : Oper} {x y c : Operand} {ax ay ac : Opd} {base : Nat}
variable (hs : Sim P T S pl St w) (hF : RelF P T S pl St F a.tmps)
include hs hF

theorem s_boxP {l : L} {t : TypeId} {av : AV} {no : Option Obj} (ho : o.op = .box t x) (hl : layB P t l = true) (hx : opdOk P T x ax = true)
    (h : (asD (ax.evD F St) fun l' r => check (L.beq l l') (ret2 (.d (.one (.ref t)) [.dp r]) none)) = some (av, no)) : no = none ∧ Done P o a w (OpPost P T S pl St w St av) := by
  obtain ⟨l', r, e, hA⟩ := asD_some h; clear h
  obtain ⟨hb, hB⟩ := check_some hA; clear hA
  obtain rfl := L.beq_eq hb
  simp only [ret2, Option.some.injEq, Prod.mk.injEq] at hB
  obtain ⟨rfl, rfl⟩ := hB
  have hv := opd_soundD hs hx hF; rw [e] at hv
  have hr := hv.of_d.cells
  have hlen : (a.eval x).cells.size = l.n := by have := hr.clen; simpa [L.n] using this
  refine ⟨rfl, done_run (v := .pointer (some ⟨w.heap.size, 0, none⟩)) (w' := w.alloc (.cells (a.eval x).cells t)) (by simp [execOp, ho, run_newVar]) ?_⟩
  refine persist_post hs ⟨rfl, rfl, rfl⟩ (fun k hk => Go.RowKit.Below.heap_alloc w _ k hk) (by simp) (heap_alloc_new w _) l.n ?_
  refine .d ⟨_, rfl, rep_ref (layB_sound hl) (hr.mono (Stab.le_more fun o => ?_)) (fun j hj => ?_)⟩
  · cases hS : S w.heap.size o with
    | none => rfl
    | some v => exact absurd (hs.stab_lt hS) (by omega)
  · simp only [Stab.more, if_true, Nat.zero_add]
    rw [List.getElem?_take, if_pos hj]
    have : j < (a.eval x).cells.toList.length := by simpa [hlen] using hj
    simp [List.getD_eq_getElem?_getD, List.getElem?_eq_getElem this]

theorem s_boxO {l : L} {t : TypeId} {id : Nat} {ob : Obj} {av : AV} {no : Option Obj} (ho : o.op = .box t x) (hx : opdOk P T x ax = true) (hob : St[base + id]? = some ob)
    (h : (asFresh ob (asD (ax.evD F St) fun l' r => check (L.beq l l') (ret2 (.ptr (base + id) 0) (some (.var l r))))) = some (av, no)) :
    ∃ o', no = some o' ∧ Done P o a w (OpPost P T S pl St w (St.set (base + id) o') av) := by
  unfold asFresh at h
  split at h
  · obtain ⟨l', r, e, hA⟩ := asD_some h; clear h
    obtain ⟨hb, hB⟩ := check_some hA; clear hA
    obtain rfl := L.beq_eq hb
    simp only [ret2, Option.some.injEq, Prod.mk.injEq] at hB
    obtain ⟨rfl, rfl⟩ := hB
    have hv := opd_soundD hs hx hF; rw [e] at hv
    have hr := hv.of_d.cells
    have hlt : base + id < St.length := (List.getElem?_eq_some_iff.1 hob).1
    refine ⟨_, rfl, done_run (v := .pointer (some ⟨w.heap.size, 0, none⟩)) (w' := w.alloc (.cells (a.eval x).cells t)) (by simp [execOp, ho, run_newVar]) ?_⟩
    refine new_post (cap := 0) hs hob ⟨_, t, by rw [Pl.at_blk]; exact heap_alloc_new w _, hr⟩ ?_
    exact .ptr_var (List.getElem?_set_self hlt) (by rw [Pl.at_blk])
  · simp at h

theorem s_boxC {t : TypeId} {id : Nat} {ob : Obj} {av : AV} {no : Option Obj} (ho : o.op = .box t x) (hx : opdOk P T x ax = true) (hob : St[base + id]? = some ob)
    (h : (asFresh ob (check (AV.single (ax.ev F)) (ret2 (.ptr (base + id) 0) (some (.cells false [ax.ev F]))))) = some (av, no)) :
    ∃ o', no = some o' ∧ Done P o a w (OpPost P T S pl St w (St.set (base + id) o') av) := by
  unfold asFresh at h
  split at h
  · obtain ⟨hb, hB⟩ := check_some h; clear h
    simp only [ret2, Option.some.injEq, Prod.mk.injEq] at hB
    obtain ⟨rfl, rfl⟩ := hB
    have hv := opd_sound hs hx hF
    have hcs := (hv.single hb).2
    have hlt : base + id < St.length := (List.getElem?_eq_some_iff.1 hob).1
    have hk : Keeps pl St (pl.at (base + id) w.heap.size 0) (St.set (base + id) (.cells false [ax.ev F])) := .fresh hob (pl.at_ne _ _ _)
    refine ⟨_, rfl, done_run (v := .pointer (some ⟨w.heap.size, 0, none⟩)) (w' := w.alloc (.cells (a.eval x).cells t)) (by simp [execOp, ho, run_newVar]) ?_⟩
    refine new_post (cap := 0) hs hob ⟨_, t, by rw [Pl.at_blk]; exact heap_alloc_new w _, by rw [hcs]; rfl, fun i av hi => ?_, fun i hi => ?_⟩ ?_
    · cases i with
      | zero => simp at hi; subst hi; rw [hcs]; simpa using hv.keep hk S.le_refl
      | succ i => simp at hi
    · rw [hcs] at hi ⊢
      cases i with
      | zero => simpa using (hv.single hb).1
      | succ i => simp at hi
    · exact .ptr_cells (List.getElem?_set_self hlt) (by rw [Pl.at_blk])
  · simp at h

theorem s_boxA {t : TypeId} {id : Nat} {ob : Obj} {av : AV} {no : Option Obj} (ho : o.op = .box t x) (hx : opdOk P T x ax = true) (hob : St[base + id]? = some ob)
    (h : opO E F St ob (.boxA id ax) base ret2 = some (av, no)) :
    ∃ o', no = some o' ∧ Done P o a w (OpPost P T S pl St w (St.set (base + id) o') av) := by
  simp only [opO] at h
  unfold asFresh at h
  split at h
  · split at h
    · rename_i vs hcv
      simp only [ret2, Option.some.injEq, Prod.mk.injEq] at h
      obtain ⟨rfl, rfl⟩ := h
      have hv := opd_sound hs hx hF
      have hlt : base + id < St.length := (List.getElem?_eq_some_iff.1 hob).1
      have hk : Keeps pl St (pl.at (base + id) w.heap.size 0) (St.set (base + id) (.cells false vs)) := .fresh hob (pl.at_ne _ _ _)
      obtain ⟨c1, c2, c3⟩ := hv.cellsV hcv
      refine ⟨_, rfl, done_run (v := .pointer (some ⟨w.heap.size, 0, none⟩)) (w' := w.alloc (.cells (a.eval x).cells t)) (by simp [execOp, ho, run_newVar]) ?_⟩
      refine new_post (cap := 0) hs hob ⟨_, t, by rw [Pl.at_blk]; exact heap_alloc_new w _, c1, fun i av hi => (c2 i av hi).keep hk S.le_refl, c3⟩ ?_
      exact .ptr_cells (List.getElem?_set_self hlt) (by rw [Pl.at_blk])
    · simp at h
  · simp at h

theorem s_allocO {l : L} {t : TypeId} {id : Nat} {z : Row} {zv : Value} {i : TypeInfo} {ob : Obj} {av : AV} {no : Option Obj} (ho : o.op = .alloc t) (hi : P.info? t = some i) (hz : i.zero = some zv)
    (hc : constOk l zv z = true) (hob : St[base + id]? = some ob)
    (h : (asFresh ob (ret2 (.ptr (base + id) 0) (some (.var l z)))) = some (av, no)) :
    ∃ o', no = some o' ∧ Done P o a w (OpPost P T S pl St w (St.set (base + id) o') av) := by
  unfold asFresh at h
  split at h
  · simp only [ret2, Option.some.injEq, Prod.mk.injEq] at h
    obtain ⟨rfl, rfl⟩ := h
    have hr := (constOk_sound (P := P) (T := T) (S := S) hc).cells
    have hlt : base + id < St.length := (List.getElem?_eq_some_iff.1 hob).1
    refine ⟨_, rfl, done_run (v := .pointer (some ⟨w.heap.size, 0, none⟩)) (w' := w.alloc (.cells zv.cells t)) (by simp [execOp, ho, Instr.alloc, zeroValue, typeInfo, hi, hz, newVar, newRow]) ?_⟩
    refine new_post (cap := 0) hs hob ⟨_, t, by rw [Pl.at_blk]; exact heap_alloc_new w _, hr⟩ ?_
    exact .ptr_var (List.getElem?_set_self hlt) (by rw [Pl.at_blk])
  · simp at h

theorem s_allocC {t : TypeId} {id : Nat} {zv : Value} {i : TypeInfo} {ob : Obj} {av : AV} {no : Option Obj} (ho : o.op = .alloc t) (hi : P.info? t = some i) (hz : i.zero = some zv)
    (hc : zv.cells.size = 1) (h1 : ∀ i, i < zv.cells.size → (zv.cells.getD i undef).oneCell' = true) (hob : St[base + id]? = some ob)
    (h : (asFresh ob (ret2 (.ptr (base + id) 0) (some (.cells false [.undef])))) = some (av, no)) :
    ∃ o', no = some o' ∧ Done P o a w (OpPost P T S pl St w (St.set (base + id) o') av) := by
  unfold asFresh at h
  split at h
  · simp only [ret2, Option.some.injEq, Prod.mk.injEq] at h
    obtain ⟨rfl, rfl⟩ := h
    have hlt : base + id < St.length := (List.getElem?_eq_some_iff.1 hob).1
    refine ⟨_, rfl, done_run (v := .pointer (some ⟨w.heap.size, 0, none⟩)) (w' := w.alloc (.cells zv.cells t)) (by simp [execOp, ho, Instr.alloc, zeroValue, typeInfo, hi, hz, newVar, newRow]) ?_⟩
    refine new_post (cap := 0) hs hob ⟨_, t, by rw [Pl.at_blk]; exact heap_alloc_new w _, hc, fun i av hi => ?_, h1⟩ ?_
    · cases i with
      | zero => simp at hi; subst hi; exact .undef
      | succ i => simp at hi
    · exact .ptr_cells (List.getElem?_set_self hlt) (by rw [Pl.at_blk])
  · simp at h

omit hs hF in
theorem zsV_length : ∀ zs : List (Option (K × C)), (zsV zs).length = zs.length
  | [] => rfl
  | some (k, c) :: r => by simp [zsV, zsV_length r]
  | none :: r => by simp [zsV, zsV_length r]
def zsOk : List (Option (K × C)) → List Value → Bool
  | [], [] => true
  | some (k, c) :: r, v :: vs => constK k v c && zsOk r vs
  | none :: r, v :: vs => (match v with | .agg _ => false | .tuple _ => false | _ => true) && zsOk r vs
  | _, _ => false
omit hs hF in
theorem zsOk_sound : ∀ {zs : List (Option (K × C))} {vs : List Value}, zsOk zs vs = true → vs.length = zs.length ∧ (∀ i u, (zsV zs)[i]? = some u → RelV P T S pl St u (vs.getD i undef)) ∧ ∀ i, i < vs.length → (vs.getD i undef).oneCell' = true
  | [], [], _ => ⟨rfl, fun i u h => by simp [zsV] at h, fun i h => by simp at h⟩
  | some (k, c) :: r, v :: vs, h => by
    simp only [zsOk, Bool.and_eq_true] at h
    obtain ⟨h1, h2, h3⟩ := zsOk_sound h.2
    have hk := constK_sound (P := P) (T := T) (S := S) h.1
    refine ⟨by simp [h1], fun i u hi => ?_, fun i hi => ?_⟩
    · cases i with
      | zero => simp [zsV] at hi; subst hi; exact .d ⟨_, rfl, hk⟩
      | succ i => simpa using h2 i u (by simpa [zsV] using hi)
    · cases i with
      | zero => simpa using hk.not_agg.1
      | succ i => simpa using h3 i (by simpa using hi)
  | none :: r, v :: vs, h => by
    simp only [zsOk, Bool.and_eq_true] at h
    obtain ⟨h1, h2, h3⟩ := zsOk_sound h.2
    refine ⟨by simp [h1], fun i u hi => ?_, fun i hi => ?_⟩
    · cases i with
      | zero => simp [zsV] at hi; subst hi; exact .undef
      | succ i => simpa using h2 i u (by simpa [zsV] using hi)
    · cases i with
      | zero =>
        have := h.1
        cases v <;> first | rfl | simp at this
      | succ i => simpa using h3 i (by simpa using hi)
  | [], _ :: _, h => by simp [zsOk] at h
  | some _ :: _, [], h => by simp [zsOk] at h
  | none :: _, [], h => by simp [zsOk] at h

theorem s_allocA {t : TypeId} {id : Nat} {zs : List (Option (K × C))} {zv : Value} {i : TypeInfo} {ob : Obj} {av : AV} {no : Option Obj} (ho : o.op = .alloc t) (hi : P.info? t = some i) (hz : i.zero = some zv)
    (hc : zsOk zs zv.cells.toList = true) (hob : St[base + id]? = some ob)
    (h : opO E F St ob (.allocA id zs) base ret2 = some (av, no)) :
    ∃ o', no = some o' ∧ Done P o a w (OpPost P T S pl St w (St.set (base + id) o') av) := by
  simp only [opO] at h
  unfold asFresh at h
  split at h
  · simp only [ret2, Option.some.injEq, Prod.mk.injEq] at h
    obtain ⟨rfl, rfl⟩ := h
    have hlt : base + id < St.length := (List.getElem?_eq_some_iff.1 hob).1
    refine ⟨_, rfl, done_run (v := .pointer (some ⟨w.heap.size, 0, none⟩)) (w' := w.alloc (.cells zv.cells t)) (by simp [execOp, ho, Instr.alloc, zeroValue, typeInfo, hi, hz, newVar, newRow]) ?_⟩
    obtain ⟨c1, c2, c3⟩ := zsOk_sound (P := P) (T := T) (S := S) (pl := pl.at (base + id) w.heap.size 0) (St := St.set (base + id) (.cells false (zsV zs))) hc
    refine new_post (cap := 0) hs hob ⟨_, t, by rw [Pl.at_blk]; exact heap_alloc_new w _, by rw [zsV_length, ← c1]; simp, fun i av hi => by simpa [List.getD_eq_getElem?_getD] using c2 i av hi, fun i hi => by simpa [List.getD_eq_getElem?_getD] using c3 i (by simpa using hi)⟩ ?_
    exact .ptr_cells (List.getElem?_set_self hlt) (by rw [Pl.at_blk])
  · simp at h
end
end Go.Ev
