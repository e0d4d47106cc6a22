/-
  claplaw3.AlignEdits returns true for all values a and b, where what is read is of bulk at most 1048576: align.Cost and align.ByEdits answer as clapref3.Cost and clapref3.ByEdits do.
-/
import Derived.Test.YtoopeecnlhgfbaaRows
import Derived.WalkKit
import Derived.ProofKit
import Derived.OpenShut
import Derived.JoinedCond
import Derived.Test.YtoopeecnlhgfbaaZS
import Derived.Test.YtoopeecnlhgfbaaEvZa
set_option linter.all false
namespace Go.Proofs.Ytoopeecnlhgfbaa.alignEdits
open Go.ChangeShapes Go.WideShapes Go.ChangeAt Go.RowKit Go.Ev

theorem own : ownKnob Try.prog.godebug = none := by kernel_rfl
theorem mixed : Try.prog.follows .mixedOrders = true := by kernel_rfl
theorem kids : Kids Try.prog (· < Try.prog.types.size) := kids_rows (by kernel_rfl) (by kernel_rfl)
theorem full : ∀ t e, t < Try.prog.types.size → Try.prog.underlying t = some (.slice e) → 0 < Try.prog.cellsOf e := slices_full_of Try.prog (by kernel_rfl)
theorem noGlob : ∀ g t l row, Zze.T (gbase + g) ≠ .glob t l row := by
  intro g t l row h
  have hl : Zze.tab.length ≤ gbase := of_decide_eq_true (by kernel_rfl)
  unfold Zze.T at h
  rw [List.getD_eq_getElem?_getD, List.getElem?_eq_none (by omega)] at h
  simp at h
theorem apiT : ApiT Try.prog 3 5 9 24 22 46 := ⟨by kernel_rfl, by kernel_rfl, by kernel_rfl, by kernel_rfl, by kernel_rfl, by kernel_rfl⟩
theorem plainTs : plainT Try.prog [24, 9, 3, 22, 5, 46] = true := by kernel_rfl
theorem lays : laysOf Try.prog Try.f3.params.toList = some [.agg [.int .i64, .int .i64, .str, .sl 46], .agg [.int .i64, .int .i64, .str, .sl 46]] := by kernel_rfl

mutual
theorem bulk_le {H : Type} : ∀ (d : DataW H), bulkD d ≤ Rows.uptoBulk d
  | .lit (.string _) => by simp only [bulkD, Rows.uptoBulk]; omega
  | .lit (.bool _) => by simp only [bulkD, Rows.uptoBulk]; omega
  | .lit (.int _ _) => by simp only [bulkD, Rows.uptoBulk]; omega
  | .lit (.float _ _) => by simp only [bulkD, Rows.uptoBulk]; omega
  | .lit .nil => by simp only [bulkD, Rows.uptoBulk]; omega
  | .nil => by simp only [bulkD, Rows.uptoBulk]; omega
  | .ptr d => by simp only [bulkD, Rows.uptoBulk]; omega
  | .slice es sp => by have := bulks_le es; simp only [bulkD, Rows.uptoBulk]; omega
  | .agg ps => by have := bulks_le ps; simp only [bulkD, Rows.uptoBulk]; omega
  | .iface _ d => by simp only [bulkD, Rows.uptoBulk]; omega
  | .map _ => by simp only [bulkD, Rows.uptoBulk]; omega
  | .held _ => by simp only [bulkD, Rows.uptoBulk]; omega
theorem bulks_le {H : Type} : ∀ (l : List (DataW H)), bulksD l ≤ Rows.uptoBulkAll l
  | [] => by simp only [bulksD, Rows.uptoBulkAll]; omega
  | d :: r => by have := bulk_le d; have := bulks_le r; simp only [bulksD, Rows.uptoBulkAll]; omega
end

set_option maxRecDepth 100000 in
theorem contract (H : Type) (enc : TypeId × Value → H) (W : World) (base : Nat) (args : Array Value) (ds gs : List (DataW H)) (before : List MemPlace)
    (hval : ∀ (j : Nat) t v, Try.f3.params[j]? = some t → args[j]? = some v → Value.okWide Try.prog W .any base t v)
    (hW : DataW.Whole enc Try.prog Try.f3.params.toList Rows.alignEditsSpec.vars false W args.toList ds gs before) (hk : Rows.uptoSmall H (ds ++ gs) = true) :
    Calls Try.prog 3 args W fun e W' => ∃ v, e = .returned v ∧ Rows.alignEditsSpec.post enc Try.prog Try.f3 false true false false W args v W' := by
  have hin : ∀ t ∈ Try.f3.params.toList, t ∈ [24, 9, 3, 22, 5, 46] := of_decide_eq_true (by kernel_rfl)
  have hfit := trodAll_fit plainTs hin hW.choose_spec.choose_spec.1
  have hgs : gs = [] := (trodVars_none hW.choose_spec.choose_spec.2.1).1
  subst hgs
  obtain ⟨hl, hf⟩ := hfit
  have hp : Try.f3.params.toList = [24, 24] := by kernel_rfl
  rw [hp] at hl hf
  obtain ⟨d0, d1, rfl⟩ : ∃ a b, ds = [a, b] := by
    match ds, hl with
    | [a, b], _ => exact ⟨a, b, rfl⟩
  obtain ⟨n0, h0⟩ := hf 0 _ _ rfl rfl
  obtain ⟨n1, h1⟩ := hf 1 _ _ rfl rfl
  obtain ⟨a, ra, wa, ba⟩ := fit_val apiT n0 d0 h0
  obtain ⟨v, rv, wv, bv⟩ := fit_val apiT n1 d1 h1
  have hbulk := of_decide_eq_true hk
  simp only [List.append_nil, Rows.uptoBulkAll] at hbulk
  have hb0 := bulk_le d0
  have hb1 := bulk_le d1
  refine contract_of (T := Zze.T) mixed Zze.tabOk noGlob kids full plainTs hin lays (by kernel_rfl) (by kernel_rfl) (by kernel_rfl : Try.prog.underlying 4 = some .bool) rfl hval hW (fun _ => rfl) ?_
  simp only [List.map_cons, List.map_nil, ra, rv]
  exact Zze.law a v wa wv (by unfold Zze.big; omega)

def zero : Value := .agg #[.int .i64 0, .int .i64 0, .string "".toUTF8, .slice none 0 0]
def zeroD {H : Type} : DataW H := .agg [.lit (.int .i64 0), .lit (.int .i64 0), .lit (.string []), .nil]
set_option maxRecDepth 100000 in
theorem lifted (os : Os) (started : os.Started) (H : Type) (enc : TypeId × Value → H) (F : Stop.Interp) :
    ReturnsInHanded {} Try.checked os 3 .any ((Rows.OpenSpec.upto Rows.alignEditsSpec).pre6 enc Try.prog Try.f3 Rows.alignEditsUptoRow.domain false) (((Rows.OpenSpec.upto Rows.alignEditsSpec).at F).post enc Try.prog Try.f3 false true false false) := by
  refine returnsInHanded_of_cond (C := Try.checked) (s := Rows.OpenSpec.upto Rows.alignEditsSpec) (k := Rows.uptoSmall) rfl own started (by kernel_rfl) Try.func3
    (OpenSpec.witness (enc := enc) (C := Try.checked) (s := Rows.OpenSpec.upto Rows.alignEditsSpec) (k := Rows.uptoSmall) rfl false ⟨#[], #[zero, zero], []⟩ 8 (by kernel_rfl) (by kernel_rfl) (by kernel_rfl)
      (x := ([zeroD, zeroD], [], [])) (by kernel_rfl) rfl (by kernel_rfl)) ?_
  intro W base args ds gs before hval hW _ hk _
  exact contract H enc W base args ds gs before hval hW hk

theorem over : Rows.alignEditsUptoRow.holds Try.pinned (Rows.OpenSpec.upto Rows.alignEditsSpec) :=
  OpenClaim.holds_of_cond 3 Try.f3 rfl rfl rfl rfl rfl rfl rfl ⟨rfl, rfl, rfl, rfl, rfl⟩ rfl rfl rfl rfl rfl (by kernel_rfl) Try.func3 (by kernel_rfl)
    (of_decide_eq_true (by kernel_rfl)) (by unfold Func.isWrapper; first | (rw [if_pos (by decide +kernel)]; kernel_rfl) | (rw [if_neg (by decide +kernel)]; exact ⟨rfl, rfl⟩))
    (fun os started H enc _ F => lifted os started H enc F)

theorem upto : Rows.AlignEditsUptoSaid :=
  over
end Go.Proofs.Ytoopeecnlhgfbaa.alignEdits
