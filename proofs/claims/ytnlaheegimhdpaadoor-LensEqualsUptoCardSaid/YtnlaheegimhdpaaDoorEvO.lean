/-
  Calls of functions whose arguments and results are data.
-/
import Derived.Test.YtnlaheegimhdpaaDoorEvN
set_option linter.all false
namespace Go.Ev
variable {E : Env} {P : Program} {T : Nat → AFn} {S S' : Stab} {pl pl' : Pl} {St St' : Ev.St} {F : Fr} {a : Act} {w w' : World}

/-- Values as rows of data. -/
structure ArgsOk (P : Program) (T : Nat → AFn) (S : Stab) (ls : List L) (vs : List Value) (rows : List Row) : Prop where
  vlen : vs.length = ls.length
  rlen : rows.length = ls.length
  arg : ∀ i l, ls[i]? = some l → RepL P T S l (vs.getD i undef) (rowsAt rows i)

theorem ArgsOk.mono (h : S.le S') {ls vs rows} (r : ArgsOk P T S ls vs rows) : ArgsOk P T S' ls vs rows := ⟨r.vlen, r.rlen, fun i l hi => (r.arg i l hi).mono h⟩
theorem ArgsOk.nil : ArgsOk P T S [] [] [] := ⟨rfl, rfl, fun i l h => by simp at h⟩
theorem ArgsOk.cons {l v row ls vs rows} (h : RepL P T S l v row) (r : ArgsOk P T S ls vs rows) : ArgsOk P T S (l :: ls) (v :: vs) (row :: rows) := by
  refine ⟨by simp [r.vlen], by simp [r.rlen], fun i l' hi => ?_⟩
  cases i with
  | zero => simp at hi; subst hi; simpa [rowsAt] using h
  | succ i => simpa [rowsAt] using r.arg i l' (by simpa using hi)
theorem ArgsOk.append {ls vs rows ls2 vs2 rows2} (h : ArgsOk P T S ls vs rows) (r : ArgsOk P T S ls2 vs2 rows2) : ArgsOk P T S (ls ++ ls2) (vs ++ vs2) (rows ++ rows2) := by
  have h1 := h.vlen
  have h2 := h.rlen
  refine ⟨by simp [h.vlen, r.vlen], by simp [h.rlen, r.rlen], fun i l hi => ?_⟩
  by_cases hlt : i < ls.length
  · rw [List.getElem?_append_left hlt] at hi
    have := h.arg i l hi
    simp only [rowsAt, List.getD_eq_getElem?_getD] at this ⊢
    rw [List.getElem?_append_left (by omega), List.getElem?_append_left (by omega)]; exact this
  · rw [List.getElem?_append_right (by omega)] at hi
    have := r.arg _ l hi
    simp only [rowsAt, List.getD_eq_getElem?_getD] at this ⊢
    rw [List.getElem?_append_right (by omega), List.getElem?_append_right (by omega), h1, h2]; exact this

/-- What a call's result is. -/
def retV (vs : List Value) : Value := match vs with | [v] => v | _ => .tuple vs.toArray

def StabIn (S : Stab) (w : World) : Prop := ∀ b o v, S b o = some v → w.cell? ⟨b, o, none⟩ = some v

/-- The library's comparison of two strings. -/
def CmpFn (P : Program) (f : Nat) : Prop := ∀ (a b : ByteArray) (w : World), (callFunc f #[.string a, .string b]).run P w = .ok (.value (.int .i64 (cmpBytes a.data.toList b.data.toList))) w

/-- The calls of data are known. -/
def PcOk (P : Program) (T : Nat → AFn) (pc : Nat → List Row → Option (List Row)) : Prop :=
  (∀ f, T f = .cmp → CmpFn P f) ∧ ∀ f rows out ps rs, pc f rows = some out → (T f).sig = some (ps, rs) → ∀ S w vs, StabIn S w → GlobOk P T S → ArgsOk P T S ps vs rows →
    (callFunc f vs.toArray).run P w = .ok (.enter f vs.toArray) w ∧
    Calls P f vs.toArray w fun e w' => ∃ out' S', e = .returned (retV out') ∧ Grow (fun _ => False) S w S' w' ∧ StabIn S' w' ∧ ArgsOk P T S' rs out' out

theorem rowsOf_sound {A : Type} {k : List Row → Option A} {res : A} (hs : Sim P T S pl St w) (hF : RelF P T S pl St F a.tmps) :
    ∀ (ps : List L) (xs : List Operand) (axs : List Opd), opdsOk P T xs axs = true → rowsOf F St ps axs k = some res → ∃ rows, ArgsOk P T S ps (xs.map a.eval) rows ∧ k rows = some res
  | [], [], [], _, h => ⟨[], .nil, h⟩
  | [], _ :: _, [], h, _ => by simp [opdsOk] at h
  | [], [], _ :: _, h, _ => by simp [opdsOk] at h
  | [], _ :: _, _ :: _, _, h => by simp [rowsOf] at h
  | _ :: _, [], [], _, h => by simp [rowsOf] at h
  | _ :: _, _ :: _, [], h, _ => by simp [opdsOk] at h
  | _ :: _, [], _ :: _, h, _ => by simp [opdsOk] at h
  | l :: ls, x :: xs, ax :: axs, hp, h => by
    simp only [opdsOk, Bool.and_eq_true] at hp
    simp only [rowsOf] at h
    obtain ⟨l', r, ex, hA⟩ := asD_some h
    obtain ⟨hb, hB⟩ := check_some hA
    obtain rfl := L.beq_eq hb
    have hv := opd_soundD hs hp.1 hF; rw [ex] at hv
    obtain ⟨rows, h1, h2⟩ := rowsOf_sound hs hF ls xs axs hp.2 hB
    exact ⟨r :: rows, .cons hv.of_d h1, h2⟩

theorem zipD_get : ∀ (ls : List L) (rows : List Row) (j i : Nat), (zipD ls rows j)[i]? = (ls[i]?).map fun l => .d l (nrm l (rowsAt rows (j + i)))
  | [], _, _, _ => by simp [zipD]
  | l :: ls, rows, j, 0 => by simp [zipD]
  | l :: ls, rows, j, i + 1 => by
    simp only [zipD, List.getElem?_cons_succ]
    rw [zipD_get ls rows (j + 1) i]
    simp only [Nat.add_assoc, Nat.add_comm 1 i]
theorem zipD_length : ∀ (ls : List L) (rows : List Row) (j : Nat), (zipD ls rows j).length = ls.length
  | [], _, _ => rfl
  | l :: ls, rows, j => by simp [zipD, zipD_length ls rows (j + 1)]

theorem resV_rel {ls : List L} {vs : List Value} {rows : List Row} (h : ArgsOk P T S ls vs rows) : RelV P T S pl St (resV ls rows) (retV vs) := by
  have tup : RelV P T S pl St (.tup (zipD ls rows 0)) (.tuple vs.toArray) := by
    have := RelV.tup (P := P) (T := T) (S := S) (pl := pl) (St := St) (avs := zipD ls rows 0) (fun i => vs.getD i undef) (fun i av hi => by
      rw [zipD_get] at hi
      obtain ⟨l, hl, rfl⟩ := Option.map_eq_some_iff.1 hi
      have := h.arg i l hl
      rw [Nat.zero_add, this.nrm]; exact .d this)
    have e : ((List.range (zipD ls rows 0).length).map fun i => vs.getD i undef) = vs := by
      rw [zipD_length, ← h.vlen]
      apply List.ext_getElem?
      intro i
      by_cases hi : i < vs.length
      · simp [hi]
      · simp [hi]
    rw [e] at this; exact this
  have hl := h.vlen
  match ls, vs, hl with
  | [l], [v], _ =>
    have := h.arg 0 l rfl
    simp only [List.getD_cons_zero] at this
    simp only [resV, retV, this.nrm]
    exact .d this
  | [], [], _ => exact tup
  | _ :: _ :: _, _ :: _ :: _, _ => exact tup

section
variable {o : Oper} {x y c : Operand} {ax ay ac : Opd} {base : Nat}
variable (hs : Sim P T S pl St w) (hF : RelF P T S pl St F a.tmps)
include hs hF

/-- Behind a call. -/
theorem call_post {f : Nat} {ps rs : List L} {rows out : List Row} {vs : List Value} (hpc : PcOk P T E.pc) (hsig : (T f).sig = some (ps, rs)) (hargs : ArgsOk P T S ps vs rows) (hout : E.pc f rows = some out)
    (hrun : (execOp a.eval o).run P w = (callFunc f vs.toArray).run P w) : Done P o a w (OpPost P T S pl St w St (resV rs out)) := by
  obtain ⟨h1, h2⟩ := hpc.2 f rows out ps rs hout hsig S w vs hs.stab hs.glob hargs
  intro next Q hn
  unfold Oper.wp
  rw [hrun, h1]
  rw [Oper.upon_enter]
  refine h2.mono fun e w' he => ?_
  obtain ⟨out', S', rfl, hg, hst, hr⟩ := he
  refine hn _ _ ⟨S', pl, ?_, ?_, resV_rel hr, fun _ _ h => h.keep (.refl _ _) hg.mono, fun _ h => .inl h⟩
  · refine hs.frame hg.mono (fun j ob hj hh => hg.block _ (hs.blk_lt hj hh) (fun h => h)) hst (fun j ob hj hh off hoff => ?_)
    rw [hg.new _ _ (hs.blk_lt hj hh) (fun h => h)]
    exact hs.apart j ob hj hh off hoff
  · exact ⟨hg.os, hg.tape, hg.output, hg.size, fun b hb _ => hg.block b hb (fun h => h), hg.mono, fun b off hb _ => hg.new b off hb (fun h => h)⟩

def callB (P : Program) (T : Nat → AFn) (f : Nat) (ps rs : List L) : Bool := match (T f).sig with | some (ps', rs') => lsBeq ps ps' && lsBeq rs rs' | none => false

omit hs hF in
theorem callB_sound {f : Nat} {ps rs : List L} (h : callB P T f ps rs = true) : (T f).sig = some (ps, rs) := by
  unfold callB at h
  split at h
  · rename_i hq
    simp only [Bool.and_eq_true] at h
    rw [hq, lsBeq_eq h.1, lsBeq_eq h.2]
  · simp at h

theorem s_call {f : Nat} {ps rs : List L} {xs : Array Operand} {ts : Array TypeId} {axs : List Opd} {ob : Obj} {av : AV} {no : Option Obj} (hpc : PcOk P T E.pc)
    (ho : o.op = .call { callee := .value (.func f), args := xs, argTypes := ts }) (hx : opdsOk P T xs.toList axs = true) (hc : callB P T f ps rs = true)
    (h : opO E F St ob (.call f ps rs axs) base ret2 = some (av, no)) : no = none ∧ Done P o a w (OpPost P T S pl St w St av) := by
  simp only [opO] at h
  obtain ⟨rows, h1, h2⟩ := rowsOf_sound hs hF ps xs.toList axs hx h
  obtain ⟨out, h3, h4⟩ := Option.bind_eq_some_iff.1 h2
  simp only [ret2, Option.some.injEq, Prod.mk.injEq] at h4
  obtain ⟨rfl, rfl⟩ := h4
  refine ⟨rfl, call_post hs hF hpc (callB_sound hc) h1 h3 ?_⟩
  have e : (List.map a.eval xs.toList).toArray = Array.map a.eval xs := by apply Array.ext'; simp
  rw [e]
  unfold execOp
  simp [ho, resolve, Deferred.ofValue, invoke, Act.eval]

def callvB (P : Program) (t : TypeId) (ps rs : List L) : Bool :=
  match P.underlying t with
  | some (.func pt rt _) => (match laysOf P pt.toList, laysOf P rt.toList with | some ps', some rs' => lsBeq ps ps' && lsBeq rs rs' | _, _ => false)
  | _ => false

theorem s_callv {t : TypeId} {ps rs : List L} {xs : Array Operand} {ts : Array TypeId} {axs : List Opd} {ob : Obj} {av : AV} {no : Option Obj} (hpc : PcOk P T E.pc)
    (ho : o.op = .call { callee := .value x, args := xs, argTypes := ts }) (hx : opdOk P T x ax = true) (hxs : opdsOk P T xs.toList axs = true) (hc : callvB P t ps rs = true)
    (h : opO E F St ob (.callv t ps rs ax axs) base ret2 = some (av, no)) : no = none ∧ Done P o a w (OpPost P T S pl St w St av) := by
  have hv := opd_sound hs hx hF
  simp only [opO] at h
  split at h
  · rename_i t' r ex
    rw [ex] at hv
    obtain ⟨hb, hA⟩ := check_some h
    obtain rfl := Nat.eq_of_beq_eq_true hb
    obtain ⟨rows, h1, h2⟩ := rowsOf_sound hs hF ps xs.toList axs hxs hA
    obtain ⟨out, h3, h4⟩ := Option.bind_eq_some_iff.1 h2
    simp only [ret2, Option.some.injEq, Prod.mk.injEq] at h4
    obtain ⟨rfl, rfl⟩ := h4
    obtain ⟨cc, rfl, hrep⟩ := hv.of_d
    have hat : at_ [cc] 0 = cc := rfl
    rw [hat] at h3
    generalize hvv : a.eval x = v at hrep
    cases hrep with
    | nilfn => simp [callC] at h3
    | @fn _ f ks cs vs hok hlen hcaps =>
      simp only [callC] at h3
      obtain ⟨pt, rt, vr, ps', rs', hu, hp1, hp2, hsig⟩ := hok
      simp only [callvB, hu, hp1, hp2, Bool.and_eq_true] at hc
      obtain rfl := lsBeq_eq hc.1
      obtain rfl := lsBeq_eq hc.2
      have hcap : ArgsOk P T S (ks.map .one) ((List.range ks.length).map vs) (cs.map fun c => [c]) := by
        refine ⟨by simp, by simp [hlen], fun i l hi => ?_⟩
        rw [List.getElem?_map] at hi
        obtain ⟨k, hk, rfl⟩ := Option.map_eq_some_iff.1 hi
        have hi' := (List.getElem?_eq_some_iff.1 hk).1
        have := hcaps i k hk
        refine ⟨at_ cs i, ?_, ?_⟩
        · simp [rowsAt, List.getD_eq_getElem?_getD, Ev.at_, show i < cs.length by omega]
        · simpa [List.getD_eq_getElem?_getD, hi'] using this
      refine ⟨rfl, call_post hs hF hpc hsig (h1.append hcap) h3 ?_⟩
      unfold execOp
      simp [ho, resolve, Deferred.ofValue, invoke, hvv, List.map_toArray]
      congr 2
      apply Array.ext'
      simp
  · simp at h
end
end Go.Ev
