/-
  claplaw3.AlignLists returns true for all lists of pairs a and b and all numbers n and m, where what is read is of bulk at most 1048576: Check, Kept, Invert, Compose and Crossings answer as the reference does.
-/
import Derived.Test.YtgfpahfegbmoeaaRows
import Derived.WalkKit
import Derived.ProofKit
import Derived.OpenShut
import Derived.JoinedCond
import Derived.Test.YtgfpahfegbmoeaaZSi
import Derived.Test.YtgfpahfegbmoeaaEvZa
set_option linter.all false
namespace Go.Proofs.Ytgfpahfegbmoeaa.alignLists
open Go.ChangeShapes Go.WideShapes Go.ChangeAt Go.RowKit Go.Ev

theorem own : ownKnob Try.prog.godebug = none := by kernel_rfl
theorem mixed : Try.prog.follows .mixedOrders = true := by kernel_rfl
theorem kids : Kids Try.prog (· < Try.prog.types.size) := kids_rows (by kernel_rfl) (by kernel_rfl)
theorem full : ∀ t e, t < Try.prog.types.size → Try.prog.underlying t = some (.slice e) → 0 < Try.prog.cellsOf e := slices_full_of Try.prog (by kernel_rfl)
theorem noGlob : ∀ g t l row, Zzi.T (gbase + g) ≠ .glob t l row := by
  intro g t l row h
  have hl : Zzi.tab.length ≤ gbase := of_decide_eq_true (by kernel_rfl)
  unfold Zzi.T at h
  rw [List.getD_eq_getElem?_getD, List.getElem?_eq_none (by omega)] at h
  simp at h
theorem pairT : isStruct Try.prog 27 [3, 3] = true := by kernel_rfl
theorem slT : Try.prog.underlying 22 = some (.slice 27) := by kernel_rfl
theorem inT : Try.prog.underlying 3 = some (.int .i64) := by kernel_rfl
theorem plainTs : plainT Try.prog [22, 27, 3] = true := by kernel_rfl
theorem lays : laysOf Try.prog Try.f3.params.toList = some [.one (.sl 27), .one (.sl 27), lI, lI] := by kernel_rfl
theorem pairs_len : ∀ x : List (Int × Int), x.length ≤ List.foldr (fun _ n => n + 1) 0 x
  | [] => Nat.le_refl _
  | _ :: r => by have := pairs_len r; simp only [List.length_cons, List.foldr_cons]; omega
theorem fit_pairs {H : Type} {n : Nat} {d : DataW H} (h : fitD Try.prog n 22 d) : ∃ c : C, rowD d = [c] ∧ Zzi.Two c ∧ c.rows.length + 1 ≤ bulkD d := by
  obtain ⟨b, es, hes, hrow, hbulk⟩ := fit_slice slT h
  obtain ⟨fs, e1, e2, e3⟩ := fit_list (α := Int × Int) Zzi.pr (fun _ => True) (fun _ => 0) (fun l => List.foldr (fun _ n => n + 1) 0 l) 1 rfl (fun a r => by simp only [List.foldr_cons]; omega) (by
    intro d hd
    cases hn : n - 1 with
    | zero => rw [hn] at hd; simp [fitD] at hd
    | succ q =>
      rw [hn] at hd
      obtain ⟨ds, rfl, hl, hf⟩ := fit_struct pairT hd
      obtain ⟨d0, d1, rfl⟩ := list2 hl
      obtain ⟨x, rfl, _⟩ := fit_int inT (hf 0 _ _ rfl rfl)
      obtain ⟨y, rfl, _⟩ := fit_int inT (hf 1 _ _ rfl rfl)
      exact ⟨(x, y), rfl, trivial, by simp only [bulkD, bulksD]; omega⟩) es hes
  refine ⟨_, hrow, ?_, ?_⟩
  · exact Zzi.two_pr (l := fs) (by rw [slC_rows, e1])
  · have := pairs_len fs
    have hl : fs.length = es.length := by have := congrArg List.length e1; simpa using this.symm
    rw [slC_rows, List.length_map]; omega

mutual
theorem bulk_le {H : Type} : ∀ (d : DataW H), bulkD d ≤ Rows.uptoBulk d
  | .lit (.string _) => by simp only [bulkD, Rows.uptoBulk]; omega
  | .lit (.bool _) => by simp only [bulkD, Rows.uptoBulk]; omega
  | .lit (.int _ _) => by simp only [bulkD, Rows.uptoBulk]; omega
  | .lit (.float _ _) => by simp only [bulkD, Rows.uptoBulk]; omega
  | .lit .nil => by simp only [bulkD, Rows.uptoBulk]; omega
  | .nil => by simp only [bulkD, Rows.uptoBulk]; omega
  | .ptr d => by simp only [bulkD, Rows.uptoBulk]; omega
  | .slice es sp => by have := bulks_le es; simp only [bulkD, Rows.uptoBulk]; omega
  | .agg ps => by have := bulks_le ps; simp only [bulkD, Rows.uptoBulk]; omega
  | .iface _ d => by simp only [bulkD, Rows.uptoBulk]; omega
  | .map _ => by simp only [bulkD, Rows.uptoBulk]; omega
  | .held _ => by simp only [bulkD, Rows.uptoBulk]; omega
theorem bulks_le {H : Type} : ∀ (l : List (DataW H)), bulksD l ≤ Rows.uptoBulkAll l
  | [] => by simp only [bulksD, Rows.uptoBulkAll]; omega
  | d :: r => by have := bulk_le d; have := bulks_le r; simp only [bulksD, Rows.uptoBulkAll]; omega
end

set_option maxRecDepth 100000 in
theorem contract (H : Type) (enc : TypeId × Value → H) (W : World) (base : Nat) (args : Array Value) (ds gs : List (DataW H)) (before : List MemPlace)
    (hval : ∀ (j : Nat) t v, Try.f3.params[j]? = some t → args[j]? = some v → Value.okWide Try.prog W .any base t v)
    (hW : DataW.Whole enc Try.prog Try.f3.params.toList Rows.alignListsSpec.vars false W args.toList ds gs before) (hk : Rows.uptoSmall H (ds ++ gs) = true) :
    Calls Try.prog 3 args W fun e W' => ∃ v, e = .returned v ∧ Rows.alignListsSpec.post enc Try.prog Try.f3 false true false false W args v W' := by
  have hin : ∀ t ∈ Try.f3.params.toList, t ∈ [22, 27, 3] := of_decide_eq_true (by kernel_rfl)
  have hfit := trodAll_fit plainTs hin hW.choose_spec.choose_spec.1
  have hgs : gs = [] := (trodVars_none hW.choose_spec.choose_spec.2.1).1
  subst hgs
  obtain ⟨hl, hf⟩ := hfit
  have hp : Try.f3.params.toList = [22, 22, 3, 3] := by kernel_rfl
  rw [hp] at hl hf
  obtain ⟨d0, d1, d2, d3, rfl⟩ : ∃ a b c d, ds = [a, b, c, d] := by
    match ds, hl with
    | [a, b, c, d], _ => exact ⟨a, b, c, d, rfl⟩
  obtain ⟨n0, h0⟩ := hf 0 _ _ rfl rfl
  obtain ⟨n1, h1⟩ := hf 1 _ _ rfl rfl
  obtain ⟨n2, h2⟩ := hf 2 _ _ rfl rfl
  obtain ⟨n3, h3⟩ := hf 3 _ _ rfl rfl
  obtain ⟨a, ra, wa, ba⟩ := fit_pairs h0
  obtain ⟨b, rb, wb, bb⟩ := fit_pairs h1
  obtain ⟨n, rfl, _⟩ := fit_int inT h2
  obtain ⟨m, rfl, _⟩ := fit_int inT h3
  have hbulk := of_decide_eq_true hk
  simp only [List.append_nil, Rows.uptoBulkAll] at hbulk
  have hb0 := bulk_le d0
  have hb1 := bulk_le d1
  refine contract_of (T := Zzi.T) mixed Zzi.tabOk noGlob kids full plainTs hin lays (by kernel_rfl) (by kernel_rfl) (by kernel_rfl : Try.prog.underlying 4 = some .bool) rfl hval hW (fun _ => rfl) ?_
  simp only [List.map_cons, List.map_nil, ra, rb]
  exact Zzi.law a b n m wa wb (by omega) (by omega)

set_option maxRecDepth 100000 in
theorem lifted (os : Os) (started : os.Started) (H : Type) (enc : TypeId × Value → H) (F : Stop.Interp) :
    ReturnsInHanded {} Try.checked os 3 .any ((Rows.OpenSpec.upto Rows.alignListsSpec).pre6 enc Try.prog Try.f3 Rows.alignListsUptoRow.domain false) (((Rows.OpenSpec.upto Rows.alignListsSpec).at F).post enc Try.prog Try.f3 false true false false) := by
  refine returnsInHanded_of_cond (C := Try.checked) (s := Rows.OpenSpec.upto Rows.alignListsSpec) (k := Rows.uptoSmall) rfl own started (by kernel_rfl) Try.func3
    (OpenSpec.witness (enc := enc) (C := Try.checked) (s := Rows.OpenSpec.upto Rows.alignListsSpec) (k := Rows.uptoSmall) rfl false ⟨#[], #[.slice none 0 0, .slice none 0 0, .int .i64 0, .int .i64 0], []⟩ 8 (by kernel_rfl) (by kernel_rfl) (by kernel_rfl)
      (x := ([.nil, .nil, .lit (.int .i64 0), .lit (.int .i64 0)], [], [])) (by kernel_rfl) rfl (by kernel_rfl)) ?_
  intro W base args ds gs before hval hW _ hk _
  exact contract H enc W base args ds gs before hval hW hk

theorem over : Rows.alignListsUptoRow.holds Try.pinned (Rows.OpenSpec.upto Rows.alignListsSpec) :=
  OpenClaim.holds_of_cond 3 Try.f3 rfl rfl rfl rfl rfl rfl rfl ⟨rfl, rfl, rfl, rfl, rfl⟩ rfl rfl rfl rfl rfl (by kernel_rfl) Try.func3 (by kernel_rfl)
    (of_decide_eq_true (by kernel_rfl)) (by unfold Func.isWrapper; first | (rw [if_pos (by decide +kernel)]; kernel_rfl) | (rw [if_neg (by decide +kernel)]; exact ⟨rfl, rfl⟩))
    (fun os started H enc _ F => lifted os started H enc F)

theorem upto : Rows.AlignListsUptoSaid :=
  over
end Go.Proofs.Ytgfpahfegbmoeaa.alignLists
