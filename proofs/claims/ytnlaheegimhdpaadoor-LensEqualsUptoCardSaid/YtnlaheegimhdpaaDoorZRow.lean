/-
  claplaw3.LensEquals returns true for all lenses a and b and all numbers kind, where what is read is of bulk at most 1048576: lens.Equal answers as clapref3.Equal does, lens.Copy gives an equal lens, lens.Plain says which kinds are Bool, Int, Day and Text.
-/
import Derived.Test.YtnlaheegimhdpaaDoorCards
import Derived.Test.YtnlaheegimhdpaaDoorTie
import Derived.WalkKit
import Derived.ProofKit
import Derived.OpenShut
import Derived.Deep.DeepHandedRow
import Derived.Lib.LaidTab
import Derived.Test.YtnlaheegimhdpaaDoorZS
set_option linter.all false
namespace Go.Proofs.YtnlaheegimhdpaaDoor.lensEquals
open Go.ChangeShapes Go.WideShapes Go.ChangeAt Go.RowKit Go.Ev

theorem own : ownKnob Tryd.prog.godebug = none := by kernel_rfl
theorem mixed : Tryd.prog.follows .mixedOrders = true := by kernel_rfl
theorem kids : Kids Tryd.prog (· < Tryd.prog.types.size) := kids_rows (by kernel_rfl) (by kernel_rfl)
theorem full : ∀ t e, t < Tryd.prog.types.size → Tryd.prog.underlying t = some (.slice e) → 0 < Tryd.prog.cellsOf e := slices_full_of Tryd.prog (by kernel_rfl)
theorem noGlob : ∀ g t l row, Zza.T (gbase + g) ≠ .glob t l row := by
  intro g t l row h
  have hl : Zza.tab.length ≤ gbase := of_decide_eq_true (by kernel_rfl)
  unfold Zza.T at h
  rw [List.getD_eq_getElem?_getD, List.getElem?_eq_none (by omega)] at h
  simp at h
theorem apiT : ApiT Tryd.prog 3 5 9 25 23 55 := ⟨by kernel_rfl, by kernel_rfl, by kernel_rfl, by kernel_rfl, by kernel_rfl, by kernel_rfl⟩
theorem lensT : LensT Tryd.prog 3 5 9 25 29 22 44 26 27 := ⟨by kernel_rfl, by kernel_rfl, by kernel_rfl, by kernel_rfl, by kernel_rfl⟩
theorem plainTs : plainT Tryd.prog [29, 3, 9, 22, 5, 25, 23, 55, 26, 44, 27] = true := by kernel_rfl
theorem lays : laysOf Tryd.prog Tryd.f3.params.toList = some [.agg [.int .i64, .str, .str, .sl 9, .int .i64, .int .i64, .int .i64, .int .u8, .int .i64, .int .i64, .str, .sl 55, .sl 44, .sl 29], .agg [.int .i64, .str, .str, .sl 9, .int .i64, .int .i64, .int .i64, .int .u8, .int .i64, .int .i64, .str, .sl 55, .sl 44, .sl 29], .one (.int .i64)] := by kernel_rfl

mutual
theorem bulk_le {H : Type} : ∀ (d : DataW H), bulkD d ≤ Rows.uptoBulk d
  | .lit (.string _) => by simp only [bulkD, Rows.uptoBulk]; omega
  | .lit (.bool _) => by simp only [bulkD, Rows.uptoBulk]; omega
  | .lit (.int _ _) => by simp only [bulkD, Rows.uptoBulk]; omega
  | .lit (.float _ _) => by simp only [bulkD, Rows.uptoBulk]; omega
  | .lit .nil => by simp only [bulkD, Rows.uptoBulk]; omega
  | .nil => by simp only [bulkD, Rows.uptoBulk]; omega
  | .ptr d => by simp only [bulkD, Rows.uptoBulk]; omega
  | .slice es sp => by have := bulks_le es; simp only [bulkD, Rows.uptoBulk]; omega
  | .agg ps => by have := bulks_le ps; simp only [bulkD, Rows.uptoBulk]; omega
  | .iface _ d => by simp only [bulkD, Rows.uptoBulk]; omega
  | .map _ => by simp only [bulkD, Rows.uptoBulk]; omega
  | .held _ => by simp only [bulkD, Rows.uptoBulk]; omega
theorem bulks_le {H : Type} : ∀ (l : List (DataW H)), bulksD l ≤ Rows.uptoBulkAll l
  | [] => by simp only [bulksD, Rows.uptoBulkAll]; omega
  | d :: r => by have := bulk_le d; have := bulks_le r; simp only [bulksD, Rows.uptoBulkAll]; omega
end

set_option maxRecDepth 100000 in
theorem contract (H : Type) (enc : TypeId × Value → H) (W : World) (base : Nat) (args : Array Value) (ds gs : List (DataW H)) (before : List MemPlace)
    (hval : ∀ (j : Nat) t v, Tryd.f3.params[j]? = some t → args[j]? = some v → Value.okWide Tryd.prog W .any base t v)
    (hW : DataW.Whole enc Tryd.prog Tryd.f3.params.toList Rows.lensEqualsSpec.vars false W args.toList ds gs before) (hk : Rows.uptoSmall H (ds ++ gs) = true) :
    Calls Tryd.prog 3 args W fun e W' => ∃ v, e = .returned v ∧ Rows.lensEqualsSpec.post enc Tryd.prog Tryd.f3 false true false false W args v W' := by
  have hin : ∀ t ∈ Tryd.f3.params.toList, t ∈ [29, 3, 9, 22, 5, 25, 23, 55, 26, 44, 27] := of_decide_eq_true (by kernel_rfl)
  have hfit := trodAll_fit plainTs hin hW.choose_spec.choose_spec.1
  have hgs : gs = [] := (trodVars_none hW.choose_spec.choose_spec.2.1).1
  subst hgs
  obtain ⟨hl, hf⟩ := hfit
  have hp : Tryd.f3.params.toList = [29, 29, 3] := by kernel_rfl
  rw [hp] at hl hf
  obtain ⟨d0, d1, d2, rfl⟩ : ∃ a b c, ds = [a, b, c] := by
    match ds, hl with
    | [a, b, c], _ => exact ⟨a, b, c, rfl⟩
  obtain ⟨n0, h0⟩ := hf 0 _ _ rfl rfl
  obtain ⟨n1, h1⟩ := hf 1 _ _ rfl rfl
  obtain ⟨n2, h2⟩ := hf 2 _ _ rfl rfl
  obtain ⟨a, ra, wa, ba⟩ := fit_lens apiT lensT n0 d0 h0
  obtain ⟨b, rb, wb, bb⟩ := fit_lens apiT lensT n1 d1 h1
  obtain ⟨k, rfl, wk⟩ := fit_int apiT.int h2
  have hbulk := of_decide_eq_true hk
  simp only [List.append_nil, Rows.uptoBulkAll] at hbulk
  have hb0 := bulk_le d0
  refine contract_of (T := Zza.T) mixed Zza.tabOk noGlob kids full plainTs hin lays (by kernel_rfl) (by kernel_rfl) (by kernel_rfl : Tryd.prog.underlying 4 = some .bool) rfl hval hW (fun _ => rfl) ?_
  simp only [List.map_cons, List.map_nil, ra, rb]
  exact Zza.law a b k wa wb (by unfold Zza.big; omega)

def setC (cs : Array Value) : Obj → Obj
  | .cells _ t frozen => .cells cs t frozen
  | o => o
/-- A world for the witness: the listed variables hold what their initialisers lay. -/
def tab10 : Array Value := #[.int .u64 1, .int .u64 10, .int .u64 100, .int .u64 1000, .int .u64 10000, .int .u64 100000, .int .u64 1000000, .int .u64 10000000, .int .u64 100000000, .int .u64 1000000000, .int .u64 10000000000, .int .u64 100000000000, .int .u64 1000000000000, .int .u64 10000000000000, .int .u64 100000000000000, .int .u64 1000000000000000, .int .u64 10000000000000000, .int .u64 100000000000000000, .int .u64 1000000000000000000, .int .u64 10000000000000000000]
def tab32 : Array Value := #[.int .u8 0, .int .u8 1, .int .u8 28, .int .u8 2, .int .u8 29, .int .u8 14, .int .u8 24, .int .u8 3, .int .u8 30, .int .u8 22, .int .u8 20, .int .u8 15, .int .u8 25, .int .u8 17, .int .u8 4, .int .u8 8, .int .u8 31, .int .u8 27, .int .u8 13, .int .u8 23, .int .u8 21, .int .u8 19, .int .u8 16, .int .u8 7, .int .u8 26, .int .u8 12, .int .u8 18, .int .u8 6, .int .u8 11, .int .u8 5, .int .u8 10, .int .u8 9]
def tab64 : Array Value := #[.int .u8 0, .int .u8 1, .int .u8 56, .int .u8 2, .int .u8 57, .int .u8 49, .int .u8 28, .int .u8 3, .int .u8 61, .int .u8 58, .int .u8 42, .int .u8 50, .int .u8 38, .int .u8 29, .int .u8 17, .int .u8 4, .int .u8 62, .int .u8 47, .int .u8 59, .int .u8 36, .int .u8 45, .int .u8 43, .int .u8 51, .int .u8 22, .int .u8 53, .int .u8 39, .int .u8 33, .int .u8 30, .int .u8 24, .int .u8 18, .int .u8 12, .int .u8 5, .int .u8 63, .int .u8 55, .int .u8 48, .int .u8 27, .int .u8 60, .int .u8 41, .int .u8 37, .int .u8 16, .int .u8 46, .int .u8 35, .int .u8 44, .int .u8 21, .int .u8 52, .int .u8 32, .int .u8 23, .int .u8 11, .int .u8 54, .int .u8 26, .int .u8 40, .int .u8 15, .int .u8 34, .int .u8 20, .int .u8 31, .int .u8 10, .int .u8 25, .int .u8 14, .int .u8 19, .int .u8 9, .int .u8 13, .int .u8 8, .int .u8 7, .int .u8 6]
noncomputable def laidWorld (os : Os) : World :=
  let w := World.holding Tryd.prog os ⟨#[], #[], []⟩
  { w with heap := ((w.heap.modify 1 (setC tab10)).modify 2 (setC tab32)).modify 3 (setC tab64) }
def zero : Value := .agg #[.int .i64 0, .string "".toUTF8, .string "".toUTF8, .slice none 0 0, .int .i64 0, .int .i64 0, .int .i64 0, .int .u8 0, .int .i64 0, .int .i64 0, .string "".toUTF8, .slice none 0 0, .slice none 0 0, .slice none 0 0]
def zeroD {H : Type} : DataW H := .agg [.lit (.int .i64 0), .lit (.string []), .lit (.string []), .nil, .lit (.int .i64 0), .lit (.int .i64 0), .lit (.int .i64 0), .lit (.int .u8 0), .agg [.lit (.int .i64 0), .lit (.int .i64 0), .lit (.string []), .nil], .nil, .nil]
def wargs : Array Value := #[zero, zero, .int .i64 0]
theorem laid_met (os : Os) : laidMet Tryd.prog Rows.lensEqualsUptoRow.laid ((laidWorld os).forCall (fun _ _ => 0) ⟨#[], wargs, []⟩).memory :=
  laidMet_of_run' 8 (by kernel_rfl) (by kernel_rfl)
theorem reads (os : Os) {H : Type} (enc : TypeId × Value → H) : ∃ places, DataW.whole enc Tryd.prog ((laidWorld os).forCall (fun _ _ => 0) ⟨#[], wargs, []⟩).memory Tryd.f3.params.toList Rows.lensEqualsSpec.vars false wargs.toList 8 = some ([zeroD, zeroD, .lit (.int .i64 0)], [], places) :=
  ⟨[], by kernel_rfl⟩

set_option maxRecDepth 100000 in
theorem liftedUpto (os : Os) (started : os.Started) (H : Type) (enc : TypeId × Value → H) (F : Stop.Interp) :
    ReturnsInHanded {} Tryd.checked os 3 .any ((Rows.OpenSpec.upto Rows.lensEqualsSpec).preRow enc Tryd.prog Tryd.f3 Rows.lensEqualsUptoRow.domain false Rows.lensEqualsUptoRow.laid) (((Rows.OpenSpec.upto Rows.lensEqualsSpec).at F).post enc Tryd.prog Tryd.f3 false true false false) := by
  obtain ⟨places, hx⟩ := reads os enc
  refine returnsInHanded_of_row (C := Tryd.checked) (s := Rows.OpenSpec.upto Rows.lensEqualsSpec) own started (by kernel_rfl) Tryd.func3
    (witness_row_at (enc := enc) (C := Tryd.checked) false (laidWorld os) wargs rfl (by kernel_rfl) (by kernel_rfl) (by kernel_rfl)
      (OpenSpec.preRow_of_cond 8 hx (by kernel_rfl) (fun k hk => by cases hk; kernel_rfl) (by kernel_rfl) (laid_met os))) ?_
  intro W base args ds gs before hval hW _ hcond _ hL _ _
  exact contract H enc W base args ds gs before hval hW (hcond _ rfl)

theorem saidUpto : Rows.LensEqualsUptoSaid :=
  OpenClaim.holds_of_cond 3 Tryd.f3 rfl rfl rfl rfl rfl rfl rfl ⟨rfl, rfl, rfl, rfl, rfl⟩ rfl rfl rfl rfl rfl (by kernel_rfl) Tryd.func3 (by kernel_rfl)
    (of_decide_eq_true (by kernel_rfl)) (by unfold Func.isWrapper; first | (rw [if_pos (by decide +kernel)]; kernel_rfl) | (rw [if_neg (by decide +kernel)]; exact ⟨rfl, rfl⟩))
    (fun os started H enc _ F => by rw [OpenClaim.pre_eq_preRow]; exact liftedUpto os started H enc F)

theorem plain (f : FuncId) (fn : Func) (hf : Tryd.pinned.checked.prog.funcNamed "clapperbridge/claplaw3.LensEquals" = some f) (hfn : Tryd.pinned.checked.prog.funcs[f]? = some fn) :
    false = Tryd.pinned.checked.prog.looks [] ∧ ∀ (j : Nat) t, fn.params[j]? = some t → Tryd.pinned.checked.prog.wantsStandIn t = false := by
  obtain rfl : f = 3 := Option.some.inj ((show Tryd.prog.funcNamed "clapperbridge/claplaw3.LensEquals" = some 3 by kernel_rfl).symm.trans hf) |>.symm
  obtain rfl : fn = Tryd.f3 := (Option.some.inj (Tryd.func3.symm.trans hfn)).symm
  refine ⟨by kernel_rfl, fun j t ht => ?_⟩
  have h := Array.mem_of_getElem? ht
  have hall : ∀ t ∈ Tryd.f3.params.toList, Tryd.prog.wantsStandIn t = false := of_decide_eq_true (by kernel_rfl)
  exact hall t (by simpa using h)

/-- The card. -/
theorem cardUpto : Rows.LensEqualsUptoCardSaid :=
  Claim7.holds_tied_plain_at .later [] _ _ _ _ saidUpto (fun _ h => by cases h) (by kernel_rfl) (fun _ h => by cases h) lensEqualsUpto_row_tie rfl ⟨rfl, rfl⟩ (by kernel_rfl) rfl plain (by kernel_rfl)
end Go.Proofs.YtnlaheegimhdpaaDoor.lensEquals
