/-
  Tables, row by row.
-/
import Derived.Test.YtnlaheegimhdpaaDoorEvY
set_option linter.all false
namespace Go.Ev
def RowOk (P : Program) (T : Nat → AFn) (f : Nat) : AFn → Prop
  | .none => True
  | .cmp => CmpFn P f
  | .glob _ _ _ => True
  | .imp af => okImp P T af = true
  | .code af => okFun P T f af = true
  | .given ps rs g => GivenOk P T f ps rs g
def RowsOk (P : Program) (T : Nat → AFn) : Nat → List AFn → Prop
  | _, [] => True
  | k, a :: r => RowOk P T k a ∧ RowsOk P T (k + 1) r
theorem rowsOk_at {P : Program} {T : Nat → AFn} : ∀ (l : List AFn) (k i : Nat), RowsOk P T k l → RowOk P T (k + i) (l.getD i .none)
  | [], k, i, _ => by simp [RowOk]
  | a :: r, k, 0, h => h.1
  | a :: r, k, i + 1, h => by
    have := rowsOk_at r (k + 1) i h.2
    rw [show k + 1 + i = k + (i + 1) by omega] at this
    exact this
theorem tabOk_of {P : Program} {tab : List AFn} (h : RowsOk P (fun f => tab.getD f .none) 0 tab) : TabOk P (fun f => tab.getD f .none) := by
  intro f
  have := rowsOk_at tab 0 f h
  rw [Nat.zero_add] at this
  simp only [RowOk] at this
  exact this
theorem given_none {P : Program} {T : Nat → AFn} {f : Nat} {ps rs : List L} : GivenOk P T f ps rs (fun _ => none) := by
  intro rows out h; simp at h
end Go.Ev
