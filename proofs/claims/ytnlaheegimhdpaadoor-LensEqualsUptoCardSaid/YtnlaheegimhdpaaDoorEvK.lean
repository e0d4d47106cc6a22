/-
  Each operation of the abstract machine does what the model's operation does: nil, min, slices of slices, functions, tuples, make, append.
-/
import Derived.Test.YtnlaheegimhdpaaDoorEvJ
set_option linter.all false
namespace Go.Ev
variable {E : Env} {P : Program} {T : Nat → AFn} {S S' : Stab} {pl pl' : Pl} {St St' : Ev.St} {F : Fr} {a : Act} {w w' : World}

/-- An object without a block. -/
theorem new_post_none {i : Nat} {o' : Obj} {av : AV} {v : Value} (hs : Sim P T S pl St w) (hi : St[i]? = some .fresh) (hh : o'.has = false)
    (hobj : ∀ w', ObjIs P T S pl (St.set i o') w' i o') (hv : RelV P T S pl (St.set i o') av v) : OpPost P T S pl St w (St.set i o') av v w := by
  have hlt : i < St.length := (List.getElem?_eq_some_iff.1 hi).1
  have hk : Keeps pl St pl (St.set i o') := .fresh hi (fun _ _ => ⟨rfl, rfl⟩)
  refine ⟨S, pl, ?_, .refl _ _ _, hv, fun _ _ h => h.keep hk S.le_refl, ?_⟩
  · exact hs.upd hlt hk S.le_refl (fun _ _ => ⟨rfl, rfl⟩) (fun _ _ _ _ _ => rfl) hs.stab (hobj w) (fun h => by rw [hh] at h; cases h) (fun j o _ h ho => hs.apart j o h ho) (fun h => by rw [hh] at h; cases h)
  · rintro b ⟨j, o, h, ho, hb⟩
    by_cases hj : j = i
    · subst hj
      rw [List.getElem?_set_self hlt] at h
      obtain rfl := Option.some.inj h
      rw [hh] at ho; cases ho
    · rw [List.getElem?_set_ne (Ne.symm hj)] at h; exact .inl ⟨j, o, h, ho, hb⟩

theorem RelV.whole_nil {id ver : Nat} {l : L} (h : St[id]? = some (.arr ver l .nils)) : RelV P T S pl St (.whole id ver) (.slice none 0 0) :=
  .whole rfl h (by simp) (fun v l' c' e => by simp at e; omega) (fun _ _ => rfl) (fun l' rows e => by simp at e)
theorem RelV.whole_sl {id ver : Nat} {l : L} {rows : List Row} (h : St[id]? = some (.arr ver l (.sl rows))) : RelV P T S pl St (.whole id ver) (.slice (some ⟨pl.blk id, 0, none⟩) rows.length (pl.cap id)) :=
  .whole rfl h (by simp) (fun v l' c' e => by simp at e; omega) (fun l' e => by simp at e) (fun l' rows' e => by simp at e; rw [e.2])

theorem run_nil_any {t e : TypeId} (ht : P.underlying t = some (.slice e)) (neg : Bool) (v : Value) (ad : Option Addr) (n c : Nat) (hv : v = .slice ad n c) (sw : Bool) (w : World) :
    (binOp (if neg then .neq else .eql) t (if sw then .slice none 0 0 else v) (if sw then v else .slice none 0 0)).run P w = .ok (.bool (xorB neg ad.isNone)) w := by
  subst hv
  cases neg <;> cases sw
  · exact Lib.run_eql_slice_nil w t e ad n c 0 0 ht
  · exact run_eql_nil_slice w t e ad n c 0 0 ht
  · exact run_neq_slice_nil_any w t e ad n c 0 0 ht
  · exact run_neq_nil_slice w t e ad n c 0 0 ht

section
variable {o : Oper} {x y c : Operand} {ax ay ac : Opd} {base : Nat}
variable (hs : Sim P T S pl St w) (hF : RelF P T S pl St F a.tmps)
include hs hF

theorem s_nilO {l : L} {id : Nat} {ob : Obj} {av : AV} {no : Option Obj} (ho : o.op = .assign (.const (.slice none 0 0)) ∨ o.op = .move (.const (.slice none 0 0))) (hob : St[base + id]? = some ob)
    (h : opO E F St ob (.nilO id l) base ret2 = some (av, no)) : ∃ o', no = some o' ∧ Done P o a w (OpPost P T S pl St w (St.set (base + id) o') av) := by
  simp only [opO, asFresh] at h
  split at h
  · simp only [ret2, Option.some.injEq, Prod.mk.injEq] at h
    obtain ⟨rfl, rfl⟩ := h
    have hlt : base + id < St.length := (List.getElem?_eq_some_iff.1 hob).1
    refine ⟨_, rfl, done_run (v := .slice none 0 0) (w' := w) ?_ (new_post_none hs hob rfl (fun _ => .inl rfl) (.whole_nil (List.getElem?_set_self hlt)))⟩
    rcases ho with ho | ho <;> simp [execOp, ho, Act.eval]
  · simp at h

theorem s_nileq {neg : Bool} {op : BinOp} {t e u : TypeId} {ob : Obj} {av : AV} {no : Option Obj} (hop : op = (if neg then .neq else .eql)) (ht : P.underlying t = some (.slice e))
    (ho : o.op = .binOp op t x (.const (.slice none 0 0)) u ∨ o.op = .binOp op t (.const (.slice none 0 0)) x u) (hx : opdOk P T x ax = true) (hob : ∀ id, tgtV (ax.ev F) = some id → St[id]? = some ob)
    (h : opO E F St ob (.nileq neg ax) base ret2 = some (av, no)) : no = none ∧ Done P o a w (OpPost P T S pl St w St av) := by
  have hv := opd_soundD hs hx hF
  have key : ∀ (ad : Option Addr) (n c : Nat), a.eval x = .slice ad n c → (execOp a.eval o).run P w = .ok (.value (.bool (xorB neg ad.isNone))) w := by
    intro ad n c hvx
    rcases ho with ho | ho
    · simp only [execOp, ho]
      refine run_v ?_
      have := run_nil_any ht neg (a.eval x) ad n c hvx false w
      subst hop
      cases neg <;> simpa [Act.eval, hvx, eqGuard] using this
    · simp only [execOp, ho]
      refine run_v ?_
      have := run_nil_any ht neg (a.eval x) ad n c hvx true w
      subst hop
      cases neg <;> simpa [Act.eval, hvx, eqGuard] using this
  simp only [opO] at h
  split at h
  · rename_i e' r ex
    simp only [ret2, Option.some.injEq, Prod.mk.injEq] at h
    obtain ⟨rfl, rfl⟩ := h
    rw [ex] at hv
    rcases hv.of_sl with ⟨e1, e2⟩ | ⟨l', rows, ad, cap, f, e1, e2, _⟩
    · rw [e2]; exact ⟨rfl, done_run (key _ _ _ e1) (.same hs (relB _))⟩
    · rw [e2]; exact ⟨rfl, done_run (key _ _ _ e1) (.same hs (relB _))⟩
  · rename_i id v ex
    have hob := hob id (tgt_dat (by rw [ex]; rfl))
    rw [ex] at hv
    obtain ⟨l', c, rfl, hB⟩ := asArr_some h
    simp only [ret2, Option.some.injEq, Prod.mk.injEq] at hB
    obtain ⟨rfl, rfl⟩ := hB
    rcases hs.objs _ _ hob with rfl | ⟨rows, cur, e2, i, rfl, hh, q1, q2, q3, q4, q5, q6, q7⟩
    · exact ⟨rfl, done_run (key _ _ _ ((hv.of_whole hob).1 rfl)) (.same hs (relB _))⟩
    · exact ⟨rfl, done_run (key _ _ _ ((hv.of_whole hob).2 rows rfl)) (.same hs (relB _))⟩
  · simp at h

/-! ### min, max -/
def opdsOk (P : Program) (T : Nat → AFn) : List Operand → List Opd → Bool
  | [], [] => true
  | x :: xs, ax :: axs => opdOk P T x ax && opdsOk P T xs axs
  | _, _ => false
theorem minAll_sound {A : Type} {mx : Bool} {k : IntKind} {c : Int → Option A} {res : A} :
    ∀ (xs : List Operand) (axs : List Opd) (m : Int), opdsOk P T xs axs = true → minAll F St mx k axs m c = some res →
      ∃ n, (List.foldlM (if mx then Builtin.max2 else Builtin.min2) (Value.int k m) (xs.map a.eval)).run P w = .ok (.int k n) w ∧ c n = some res
  | [], [], m, _, h => ⟨m, by simp, h⟩
  | [], _ :: _, _, h, _ => by simp [opdsOk] at h
  | _ :: _, [], _, h, _ => by simp [opdsOk] at h
  | x :: xs, ax :: axs, m, hp, h => by
    simp only [opdsOk, Bool.and_eq_true] at hp
    simp only [minAll] at h
    obtain ⟨k', r, ex, hA⟩ := asI_some h
    obtain ⟨hb, hB⟩ := check_some hA
    obtain rfl := tag_inj hb
    have hv := opd_soundD hs hp.1 hF; rw [ex] at hv
    have e1 := hv.of_int
    obtain ⟨n, h1, h2⟩ := minAll_sound xs axs _ hp.2 hB
    refine ⟨n, ?_, h2⟩
    rw [List.map_cons, List.foldlM_cons, Sem.run_bind, e1]
    cases mx
    · simp only [Bool.false_eq_true, if_false, Builtin.min2, Sem.run_pure, Result.andThen_ok] at h1 ⊢; exact h1
    · simp only [if_true, Builtin.max2, Sem.run_pure, Result.andThen_ok] at h1 ⊢; exact h1

theorem s_imin {mx : Bool} {xs : Array Operand} {ts : Array TypeId} {axs : List Opd} {ob : Obj} {av : AV} {no : Option Obj} (ho : o.op = .call { callee := .builtin (if mx then .max else .min), args := xs, argTypes := ts }) (hx : opdsOk P T xs.toList axs = true)
    (h : opO E F St ob (.imin mx axs) base ret2 = some (av, no)) : no = none ∧ Done P o a w (OpPost P T S pl St w St av) := by
  simp only [opO] at h
  cases axs with
  | nil => simp at h
  | cons ax axs =>
    cases hxs : xs.toList with
    | nil => rw [hxs] at hx; simp [opdsOk] at hx
    | cons x xs' =>
      rw [hxs] at hx
      simp only [opdsOk, Bool.and_eq_true] at hx
      simp only at h
      obtain ⟨k, r, ex, hA⟩ := asI_some h
      have hv := opd_soundD hs hx.1 hF; rw [ex] at hv
      have e1 := hv.of_int
      obtain ⟨n, h1, h2⟩ := minAll_sound hs hF xs' axs _ hx.2 hA
      simp only [ret2, Option.some.injEq, Prod.mk.injEq] at h2
      obtain ⟨rfl, rfl⟩ := h2
      refine ⟨rfl, done_run (v := .int k n) (w' := w) ?_ (.same hs (relI _ _))⟩
      have hm : (xs.map a.eval).toList = Value.int k (at_ r 0).toI :: xs'.map a.eval := by rw [Array.toList_map, hxs, List.map_cons, e1]
      cases mx
      · simp only [Bool.false_eq_true, if_false] at ho h1
        simp only [execOp, ho, resolve, Sem.run_bind, Sem.run_pure, Result.andThen_ok, invoke, builtin]
        simp only [Builtin.min_, hm, h1, Result.andThen_ok]
      · simp only [if_true] at ho h1
        simp only [execOp, ho, resolve, Sem.run_bind, Sem.run_pure, Result.andThen_ok, invoke, builtin]
        simp only [Builtin.max_, hm, h1, Result.andThen_ok]

/-! ### Tuples, functions -/
theorem s_ext {i : Nat} {ob : Obj} {av : AV} {no : Option Obj} (ho : o.op = .extract x i) (hx : opdOk P T x ax = true)
    (h : opO E F St ob (.ext i ax) base ret2 = some (av, no)) : no = none ∧ Done P o a w (OpPost P T S pl St w St av) := by
  have hv := opd_sound hs hx hF
  simp only [opO] at h
  split at h
  · rename_i vs ex
    rw [ex] at hv
    split at h
    · rename_i u hu
      simp only [ret2, Option.some.injEq, Prod.mk.injEq] at h
      obtain ⟨rfl, rfl⟩ := h
      generalize hvx : a.eval x = vx at hv
      cases hv with
      | tup vals hh =>
        have hlt : i < vs.length := (List.getElem?_eq_some_iff.1 hu).1
        refine ⟨rfl, done_run (v := vals i) (w' := w) ?_ (.same hs (hh i u hu))⟩
        simp [execOp, ho, hvx, Instr.extract, hlt]
    · simp at h
  · simp at h

theorem s_mkfO {f : Nat} {cs : Array Operand} {acs : List Opd} {ob : Obj} {av : AV} {no : Option Obj} (ho : o.op = .makeFunc (.func f) #[] cs) (hx : opdsOk P T cs.toList acs = true)
    (h : opO E F St ob (.mkfO f acs) base ret2 = some (av, no)) : no = none ∧ Done P o a w (OpPost P T S pl St w St av) := by
  simp only [opO, ret2, Option.some.injEq, Prod.mk.injEq] at h
  obtain ⟨rfl, rfl⟩ := h
  have key : ∀ (xs : List Operand) (axs : List Opd), opdsOk P T xs axs = true → xs.length = axs.length ∧ ∀ i av, (axs.map (·.ev F))[i]? = some av → RelV P T S pl St av ((xs.map a.eval).getD i undef) := by
    intro xs
    induction xs with
    | nil => intro axs h; cases axs with
      | nil => exact ⟨rfl, fun i av h => by simp at h⟩
      | cons _ _ => simp [opdsOk] at h
    | cons x xs ih => intro axs h; cases axs with
      | nil => simp [opdsOk] at h
      | cons ax axs =>
        simp only [opdsOk, Bool.and_eq_true] at h
        obtain ⟨h1, h2⟩ := ih axs h.2
        refine ⟨by simp [h1], fun i av hi => ?_⟩
        cases i with
        | zero => simp at hi; subst hi; simpa using opd_sound hs h.1 hF
        | succ i => simpa using h2 i av (by simpa using hi)
  obtain ⟨h1, h2⟩ := key _ _ hx
  refine ⟨rfl, done_run (v := .func (.func f) #[] (cs.map a.eval)) (w' := w) (by simp [execOp, ho, Instr.makeFunc]) (.same hs ?_)⟩
  have := RelV.fn (P := P) (T := T) (S := S) (pl := pl) (St := St) (f := f) (fun i => (cs.toList.map a.eval).getD i undef) h2
  have e : ((List.range (acs.map (·.ev F)).length).map fun i => (cs.toList.map a.eval).getD i undef).toArray = cs.map a.eval := by
    apply Array.ext'
    simp only [List.length_map, List.toList_toArray, Array.toList_map]
    apply List.ext_getElem?
    intro i
    by_cases hi : i < acs.length
    · have : i < cs.size := by have := h1; simp at this; omega
      simp [hi, this]
    · have : ¬ i < cs.size := by have := h1; simp at this; omega
      simp [hi, this]
  rw [e] at this; exact this

theorem capRows_sound {A : Type} {k : Row → Option A} {res : A} : ∀ (ks : List K) (xs : List Operand) (axs : List Opd), opdsOk P T xs axs = true → capRows F St ks axs k = some res →
    ∃ row, xs.length = ks.length ∧ row.length = ks.length ∧ (∀ i kd, ks[i]? = some kd → Rep P T S kd ((xs.map a.eval).getD i undef) (at_ row i)) ∧ k row = some res := by
  intro ks
  induction ks generalizing k with
  | nil => intro xs axs hp h; cases axs with
    | nil => cases xs with
      | nil => exact ⟨[], rfl, rfl, fun i kd h => by simp at h, h⟩
      | cons _ _ => simp [opdsOk] at hp
    | cons _ _ => simp [capRows] at h
  | cons kd ks ih => intro xs axs hp h; cases axs with
    | nil => simp [capRows] at h
    | cons ax axs => cases xs with
      | nil => simp [opdsOk] at hp
      | cons x xs =>
        simp only [opdsOk, Bool.and_eq_true] at hp
        simp only [capRows] at h
        obtain ⟨l, r, ex, hA⟩ := asD_some h
        obtain ⟨hb, hB⟩ := check_some hA
        obtain rfl := L.beq_eq hb
        have hv := opd_soundD hs hp.1 hF; rw [ex] at hv
        obtain ⟨row, h1, h2, h3, h4⟩ := ih xs axs hp.2 hB
        refine ⟨at_ r 0 :: row, by simp [h1], by simp [h2], fun i kd' hi => ?_, h4⟩
        cases i with
        | zero => simp at hi; subst hi; simpa [at_] using hv.of_d.of_one
        | succ i => simpa [at_] using h3 i kd' (by simpa using hi)

theorem s_mkf {f : Nat} {t : TypeId} {ks : List K} {cs : Array Operand} {acs : List Opd} {ob : Obj} {av : AV} {no : Option Obj} (ho : o.op = .makeFunc (.func f) #[] cs) (hx : opdsOk P T cs.toList acs = true) (hsig : sigB P T t f ks = true)
    (h : opO E F St ob (.mkf f t ks acs) base ret2 = some (av, no)) : no = none ∧ Done P o a w (OpPost P T S pl St w St av) := by
  simp only [opO] at h
  obtain ⟨row, h1, h2, h3, h4⟩ := capRows_sound hs hF ks cs.toList acs hx h
  simp only [ret2, Option.some.injEq, Prod.mk.injEq] at h4
  obtain ⟨rfl, rfl⟩ := h4
  refine ⟨rfl, done_run (v := .func (.func f) #[] (cs.map a.eval)) (w' := w) (by simp [execOp, ho, Instr.makeFunc]) (.same hs (.d ⟨_, rfl, ?_⟩))⟩
  have := Rep.fn (P := P) (T := T) (S := S) (cs := row) (fun i => (cs.toList.map a.eval).getD i undef) (sigB_sound hsig) h2 h3
  have e : ((List.range ks.length).map fun i => (cs.toList.map a.eval).getD i undef).toArray = cs.map a.eval := by
    apply Array.ext'
    simp only [List.toList_toArray, Array.toList_map]
    apply List.ext_getElem?
    intro i
    by_cases hi : i < ks.length
    · have : i < cs.size := by have := h1; simp at this; omega
      simp [hi, this]
    · have : ¬ i < cs.size := by have := h1; simp at this; omega
      simp [hi, this]
  rw [e] at this; exact this
end
end Go.Ev
