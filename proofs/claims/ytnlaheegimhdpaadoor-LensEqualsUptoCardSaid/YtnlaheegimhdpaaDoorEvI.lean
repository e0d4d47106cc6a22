/-
  Each operation of the abstract machine does what the model's operation does: building, slices, appending.
-/
import Derived.Test.YtnlaheegimhdpaaDoorEvH
import Derived.Laws.MakeOwn
import Derived.Lib.ConvBytes
import Derived.Laws.BytesString
import Derived.WalkSpells
set_option linter.all false
namespace Go.Ev
variable {E : Env} {P : Program} {T : Nat → AFn} {S S' : Stab} {pl pl' : Pl} {St St' : Ev.St} {F : Fr} {a : Act} {w w' : World}

/-! ### Filling -/
theorem at_ge (r : Row) (j : Nat) (h : r.length ≤ j) : at_ r j = .undef := by simp [at_, List.getD_eq_getElem?_getD, h]

/-- Setting the cells one by one. -/
theorem zipIdx_foldl_set (vs : List Value) : ∀ (off k : Nat) (cells : Array Value), off + k + vs.length ≤ cells.size →
    ((vs.zipIdx k).foldl (fun cs (x : Value × Nat) => cs.setIfInBounds (off + x.2) x.1) cells).toList = cells.toList.take (off + k) ++ vs ++ cells.toList.drop (off + k + vs.length) := by
  induction vs with
  | nil => intro off k cells h; simp
  | cons v vs ih =>
    intro off k cells h
    simp only [List.zipIdx_cons, List.foldl_cons, List.length_cons] at h ⊢
    rw [ih off (k + 1) _ (by simp; omega)]
    have := list_seg_step cells.toList (off + k) v vs (by simp; omega)
    simp only [Array.toList_setIfInBounds]
    have e : off + (k + 1) = off + k + 1 := by omega
    rw [e]
    have e2 : off + k + 1 + vs.length = off + k + (vs.length + 1) := by omega
    simpa [e2, Nat.add_assoc] using this

theorem fill_step {place : Nat → Option (Nat × Nat)} {cells : Array Value} {i off n : Nat} {v : Value} {rest : List (Nat × Value)} (hp : place i = some (off, n)) (hv : v.cells.size = n) (hfit : off + n ≤ cells.size) :
    Instr.fill place cells ((i, v) :: rest) = Instr.fill place (cells.toList.take off ++ v.cells.toList ++ cells.toList.drop (off + n)).toArray rest := by
  have hl : v.cells.toList.length = n := by simpa using hv
  have h := zipIdx_foldl_set v.cells.toList off 0 cells (by rw [hl]; omega)
  have hn : ¬ (v.cells.size ≠ n ∨ off + v.cells.size > cells.size) := by omega
  simp only [Instr.fill, hp]
  rw [if_neg (by simpa using hn)]
  congr 1
  apply Array.ext'
  rw [hl] at h
  simp only [Nat.add_zero] at h
  rw [← h, ← Array.foldl_toList, Array.toList_zipIdx]

def partsOk (P : Program) (T : Nat → AFn) (place : Nat → Option (Nat × Nat)) : List (Nat × Operand) → List (Nat × Nat × Opd) → Bool
  | [], [] => true
  | (i, x) :: r, (off, m, ax) :: r' => (match place i with | some (off', m') => Nat.beq off off' && Nat.beq m m' | none => false) && opdOk P T x ax && partsOk P T place r r'
  | _, _ => false

theorem fillParts_sound {A : Type} {place : Nat → Option (Nat × Nat)} {l : L} {k : Row → Option A} {res : A} (hs : Sim P T S pl St w) (hF : RelF P T S pl St F a.tmps) :
    ∀ (parts : List (Nat × Operand)) (aparts : List (Nat × Nat × Opd)) (cells : Array Value) (z : Row), partsOk P T place parts aparts = true → RepR P T S l.ks cells.toList z →
      fillParts F St l.ks aparts z k = some res → ∃ cells' row, Instr.fill place cells (parts.map fun p => (p.1, a.eval p.2)) = some cells' ∧ RepR P T S l.ks cells'.toList row ∧ k row = some res
  | [], [], cells, z, _, hr, h => ⟨cells, z, rfl, hr, h⟩
  | [], _ :: _, _, _, h, _, _ => by simp [partsOk] at h
  | _ :: _, [], _, _, h, _, _ => by simp [partsOk] at h
  | (i, x) :: r, (off, m, ax) :: r', cells, z, hp, hr, h => by
    simp only [partsOk, Bool.and_eq_true] at hp
    obtain ⟨⟨hp1, hp2⟩, hp3⟩ := hp
    split at hp1
    · rename_i off' m' hpl
      simp only [Bool.and_eq_true] at hp1
      obtain rfl := Nat.eq_of_beq_eq_true hp1.1
      obtain rfl := Nat.eq_of_beq_eq_true hp1.2
      simp only [fillParts] at h
      obtain ⟨lv, row, ex, hA⟩ := asD_some h
      obtain ⟨hb, hB⟩ := check_some hA
      simp only [Bool.and_eq_true] at hb
      have hm := Nat.eq_of_beq_eq_true hb.1.1
      have hpos : 0 < m := by simpa using hb.1.2
      have hk := ksBeq_eq hb.2
      subst hm
      have hv := opd_soundD hs hp2 hF; rw [ex] at hv
      have hrow := hv.of_d.cells
      have hsz : (a.eval x).cells.size = lv.n := by have := hrow.clen; simpa [L.n] using this
      have hlen : off + lv.n ≤ l.n := by
        have := congrArg List.length hk; simp [L.n] at this ⊢; simp only [L.n] at hpos; omega
      have hcl : cells.size = l.n := by have := hr.clen; simpa [L.n] using this
      have hput := hr.put hrow hk hpos
      have hst := fill_step (cells := cells) (rest := r.map fun p => (p.1, a.eval p.2)) hpl hsz (by omega)
      obtain ⟨cells', row', g1, g2, g3⟩ := fillParts_sound hs hF r r' (cells.toList.take off ++ (a.eval x).cells.toList ++ cells.toList.drop (off + lv.n)).toArray _ hp3 hput hB
      exact ⟨cells', row', by rw [List.map_cons, hst]; exact g1, g2, g3⟩
    · simp at hp1

def bldB (P : Program) (T : Nat → AFn) (t : TypeId) (l : L) (z : Row) (parts : List (Nat × Operand)) (aparts : List (Nat × Nat × Opd)) : Bool :=
  match P.info? t, P.underlying t with
  | some it, some (.array _ e) => (match it.zero, P.info? e with
    | some zv, some ie => constOk l zv z && partsOk P T (fun i => some (i * ie.size, ie.size)) parts aparts
    | _, _ => false)
  | some it, some (.struct fields) => (match it.zero, fields.toList.mapM (fun f => (P.info? f.type).map fun i => (f.offset, i.size)) with
    | some zv, some places => constOk l zv z && partsOk P T (places.toArray[·]?) parts aparts
    | _, _ => false)
  | _, _ => false

section
variable {o : Oper} {x y c : Operand} {ax ay ac : Opd} {base : Nat}
variable (hs : Sim P T S pl St w) (hF : RelF P T S pl St F a.tmps)
include hs hF

theorem s_bld {t : TypeId} {l : L} {z : Row} {parts : Array (Nat × Operand)} {aparts : List (Nat × Nat × Opd)} {ob : Obj} {av : AV} {no : Option Obj} (ho : o.op = .build t parts) (hl : (match l with | .agg _ => true | .one _ => false) = true)
    (hb : bldB P T t l z parts.toList aparts = true)
    (h : opO E F St ob (.bld l z aparts) base ret2 = some (av, no)) : no = none ∧ Done P o a w (OpPost P T S pl St w St av) := by
  simp only [opO] at h
  have fin : ∀ (place : Nat → Option (Nat × Nat)) (zv : Value), constOk l zv z = true → partsOk P T place parts.toList aparts = true →
      ∃ cells row, Instr.fill place zv.cells (parts.toList.map fun p => (p.1, a.eval p.2)) = some cells ∧ RepL P T S l (.agg cells) row ∧ ret2 (.d l row) none = some (av, no) := by
    intro place zv hc hp
    obtain ⟨cells, row, g1, g2, g3⟩ := fillParts_sound hs hF _ _ zv.cells z hp (constOk_sound hc).cells h
    cases l with
    | one k => simp at hl
    | agg ks => exact ⟨cells, row, g1, ⟨cells, rfl, g2⟩, g3⟩
  have done : ∀ (cells : Array Value) (row : Row), P.built t (parts.toList.map fun p => (p.1, a.eval p.2)) = some cells → RepL P T S l (.agg cells) row → ret2 (.d l row) none = some (av, no) →
      no = none ∧ Done P o a w (OpPost P T S pl St w St av) := by
    intro cells row hbu hr he
    simp only [ret2, Option.some.injEq, Prod.mk.injEq] at he
    obtain ⟨rfl, rfl⟩ := he
    refine ⟨rfl, done_run (v := .agg cells) (w' := w) ?_ (.same hs (.d hr))⟩
    simp only [execOp, ho]
    refine run_v (run_build w t _ cells ?_)
    simpa using hbu
  unfold bldB at hb
  split at hb
  · rename_i it e hi hu
    split at hb
    · rename_i zv ie hz hie
      simp only [Bool.and_eq_true] at hb
      obtain ⟨cells, row, g1, g2, g3⟩ := fin _ _ hb.1 hb.2
      exact done cells row (by simp [Program.built, hi, hu, hz, hie]; simpa using g1) g2 g3
    · simp at hb
  · rename_i it fields hi hu
    split at hb
    · rename_i zv places hz hpl
      simp only [Bool.and_eq_true] at hb
      obtain ⟨cells, row, g1, g2, g3⟩ := fin _ _ hb.1 hb.2
      exact done cells row (by simp only [Program.built, hi, hu, hz, hpl]; simpa using g1) g2 g3
    · simp at hb
  · simp at hb
end
end Go.Ev
