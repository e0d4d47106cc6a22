/-
  A part of the proof: what the functions of the program compute.
-/
import Derived.Test.YtnlaheegimhdpaaDoorZEq
import Derived.Test.YtnlaheegimhdpaaDoorEvDc
set_option linter.all false
set_option maxRecDepth 100000
namespace Go.Ev.Zza
/-- Numbers that no sum of ours passes. -/
abbrev big : Nat := 4294967296
theorem inI_of {i : Nat} (h : i ≤ big) : inI64 ((i : Int) + 1) := by unfold big at h; exact ⟨by omega, by omega⟩
theorem wrap_nat {i : Nat} (h : i ≤ big) : IntKind.wrap .i64 ((i : Int) + 1) = ((i + 1 : Nat) : Int) := by rw [wrap_i64 (inI_of h)]; omega

/-! slices.Equal of strings -/
theorem equal_strs_l (b b' : Bool) (l r : List Bytes) (hl : l.length = r.length) (hN : l.length ≤ big) : ∀ (j i : Nat), i + j = l.length →
    slices_Equal_string_l0 (lim T) (slC b (l.map strRow)) (slC b' (r.map strRow)) (l.length : Int) (i : Int) = if all2 (fun a b => a == b) (l.drop i) (r.drop i) = true then some (0, []) else some (1, [.r [.bool false]])
  | 0, i, h => by
    rw [slices_Equal_string_l0_eq]
    unfold slices_Equal_string_b0
    have : ¬ (i : Int) < (l.length : Int) := by omega
    rw [List.drop_eq_nil_of_le (by omega), List.drop_eq_nil_of_le (by omega)]
    simp [this, all2]
  | j + 1, i, h => by
    rw [slices_Equal_string_l0_eq]
    unfold slices_Equal_string_b0
    have h1 : i < l.length := by omega
    have h2 : i < r.length := by omega
    have ih := equal_strs_l b b' l r hl hN j (i + 1) (by omega)
    rw [List.drop_eq_getElem_cons h1, List.drop_eq_getElem_cons h2]
    simp only [slC_rows, rowsAt_map, List.length_map, Int.toNat_natCast, h1, h2, at_str0, toS_str, wrap_nat (show i ≤ big by omega), ih, all2]
    have g1 : (i : Int) < (l.length : Int) := by omega
    have g2 : (i : Int) < (r.length : Int) := by omega
    have g0 : (0 : Int) ≤ (i : Int) := by omega
    simp only [g1, g2, g0, decide_true, and_self, if_true]
    by_cases hc : l[i] = r[i] <;> simp [hc]
theorem equal_strs (b b' : Bool) (l r : List Bytes) (hN : l.length ≤ big) : (lim T).pc n_slices_Equal_string [[slC b (l.map strRow)], [slC b' (r.map strRow)]] = some [[.bool (decide (l = r))]] := by
  rw [slices_Equal_string_pc]
  unfold slices_Equal_string
  simp only [slC_rows, List.length_map]
  by_cases hl : l.length = r.length
  · have := equal_strs_l b b' l r hl hN l.length 0 (by omega)
    simp only [Int.ofNat_zero, Int.natCast_zero] at this
    rw [this, List.drop_zero, List.drop_zero, all2_beq]
    have e : ((l.length : Int) != (r.length : Int)) = false := by simp [hl]
    rw [e]
    by_cases he : l = r
    · simp [he]
    · simp [he]
  · have e : ((l.length : Int) != (r.length : Int)) = true := by simp; omega
    rw [e]
    have : ¬ l = r := fun h => hl (by rw [h])
    simp [this]

/-! cmp -/
theorem isNaN_int (a : Int) : (lim T).pc n_cmp_isNaN_int [[.int a]] = some [[.bool false]] := by
  rw [cmp_isNaN_int_pc]; simp [cmp_isNaN_int]
theorem compare_int (a b : Int) : (lim T).pc n_cmp_Compare_int [[.int a], [.int b]] = some [[.int (cmpI a b)]] := by
  rw [cmp_Compare_int_pc]
  unfold cmp_Compare_int cmpI
  simp only [isNaN_int, Option.bind_some, rowsAt_zero, at_zero, toB_bool, Bool.false_eq_true, if_false, decide_eq_true_eq]
  split
  · rfl
  · split <;> rfl
theorem compare_str (a b : Bytes) : (lim T).pc n_strings_Compare [[.str a], [.str b]] = some [[.int (cmpBytes a b)]] := by
  rw [strings_Compare_pc]
  unfold strings_Compare
  rw [internal_bytealg_CompareString_pc]
  simp [internal_bytealg_CompareString]
def intRow (n : Int) : Row := [.int n]
theorem or_int_l (l : List Int) (hN : l.length ≤ big) : ∀ (j i : Nat), i + j = l.length →
    cmp_Or_int_l0 (lim T) 0 (.sl (l.map intRow)) (l.length : Int) (i : Int) = if orI (l.drop i) = 0 then some (0, [.r [.int 0]]) else some (1, [.r [.int (orI (l.drop i))]])
  | 0, i, h => by
    rw [cmp_Or_int_l0_eq]
    unfold cmp_Or_int_b0
    have : ¬ (i : Int) < (l.length : Int) := by omega
    rw [List.drop_eq_nil_of_le (by omega)]
    simp [this, orI]
  | j + 1, i, h => by
    rw [cmp_Or_int_l0_eq]
    unfold cmp_Or_int_b0
    have h1 : i < l.length := by omega
    have ih := or_int_l l hN j (i + 1) (by omega)
    rw [List.drop_eq_getElem_cons h1]
    simp only [rows_sl, rowsAt_map, List.length_map, Int.toNat_natCast, h1, wrap_nat (show i ≤ big by omega), ih, orI, intRow, at_zero, toI_int]
    have g1 : (i : Int) < (l.length : Int) := by omega
    have g0 : (0 : Int) ≤ (i : Int) := by omega
    simp only [g1, g0, decide_true, and_self, if_true]
    by_cases hc : l[i] = 0 <;> simp [hc]
theorem or_int (l : List Int) (hN : l.length ≤ big) : (lim T).pc n_cmp_Or_int [[.sl (l.map intRow)]] = some [[.int (orI l)]] := by
  rw [cmp_Or_int_pc]
  unfold cmp_Or_int
  simp only [rows_sl, List.length_map]
  have := or_int_l l hN l.length 0 (by omega)
  simp only [Int.ofNat_zero, Int.natCast_zero] at this
  rw [this, List.drop_zero]
  by_cases h : orI l = 0 <;> simp [h]
theorem order_spec (n : Int) (h : inI64 n) : (lim T).pc n_value_order [[.int n]] = some [[.int (ordI n)]] := by
  rw [value_order_pc]
  unfold value_order ordI
  by_cases hn : n < 0
  · have h' := h
    obtain ⟨h1, h2⟩ := h'
    simp only [hn, decide_true, if_true, and_max h hn]
    rw [wrap_i64 ⟨by omega, by omega⟩]
  · simp only [hn, decide_false, Bool.false_eq_true, if_false]

/-! slices.CompareFunc of fields, value.Cmp -/
theorem compare_flds_l (b b' : Bool) (l r : List (Bytes × Val)) (hN : l.length ≤ big) (hc : ∀ p ∈ l, ∀ q ∈ r, (lim T).pc n_value_Cmp_1 [fldRow p, fldRow q] = some [[.int (fldCmp p q)]]) : ∀ (j i : Nat), i + j = l.length → i ≤ r.length →
    slices_CompareFunc_api_Field_l0 (lim T) (slC b (l.map fldRow)) (slC b' (r.map fldRow)) (.fn 37 []) (slC b (l.map fldRow)) (l.length : Int) (i : Int) =
      if lexL fldCmp (l.drop i) (r.drop i) = 0 then some (0, [.r [slC b (l.map fldRow)], .r [slC b' (r.map fldRow)]]) else some (1, [.r [.int (lexL fldCmp (l.drop i) (r.drop i))]])
  | 0, i, h, _ => by
    rw [slices_CompareFunc_api_Field_l0_eq]
    unfold slices_CompareFunc_api_Field_b0
    have : ¬ (i : Int) < (l.length : Int) := by omega
    rw [List.drop_eq_nil_of_le (by omega)]
    simp [this, lexL]
  | j + 1, i, h, hir => by
    rw [slices_CompareFunc_api_Field_l0_eq]
    unfold slices_CompareFunc_api_Field_b0
    have h1 : i < l.length := by omega
    have g1 : (i : Int) < (l.length : Int) := by omega
    have g0 : (0 : Int) ≤ (i : Int) := by omega
    rw [List.drop_eq_getElem_cons h1]
    by_cases h2 : i < r.length
    · have ih := compare_flds_l b b' l r hN hc j (i + 1) (by omega) (by omega)
      rw [List.drop_eq_getElem_cons h2]
      have g2 : (i : Int) < (r.length : Int) := by omega
      have g3 : ¬ (i : Int) ≥ (r.length : Int) := by omega
      have hcc := hc l[i] (List.getElem_mem h1) r[i] (List.getElem_mem h2)
      have hcc' : callC (lim T) (.fn 37 []) [fldRow l[i], fldRow r[i]] = some [[.int (fldCmp l[i] r[i])]] := hcc
      simp only [slC_rows, rowsAt_map, List.length_map, Int.toNat_natCast, h1, h2, wrap_nat (show i ≤ big by omega), ih, lexL, g1, g2, g0, g3, decide_true, decide_false, Bool.false_eq_true, if_false, and_self, if_true, hcc', Option.bind_some, rowsAt_zero, at_zero, toI_int]
      by_cases hz : fldCmp l[i] r[i] = 0 <;> simp [hz]
    · have g3 : (i : Int) ≥ (r.length : Int) := by omega
      rw [List.drop_eq_nil_of_le (show r.length ≤ i by omega)]
      simp only [slC_rows, List.length_map, g1, g0, g3, decide_true, and_self, if_true, lexL]
      simp
theorem compare_flds (b b' : Bool) (l r : List (Bytes × Val)) (hN : l.length ≤ big) (hc : ∀ p ∈ l, ∀ q ∈ r, (lim T).pc n_value_Cmp_1 [fldRow p, fldRow q] = some [[.int (fldCmp p q)]]) :
    (lim T).pc n_slices_CompareFunc_api_Field [[slC b (l.map fldRow)], [slC b' (r.map fldRow)], [.fn 37 []]] = some [[.int (lexI fldCmp l r)]] := by
  rw [slices_CompareFunc_api_Field_pc]
  unfold slices_CompareFunc_api_Field
  have := compare_flds_l b b' l r hN hc l.length 0 (by omega) (by omega)
  simp only [Int.ofNat_zero, Int.natCast_zero, List.drop_zero] at this
  simp only [slC_rows, List.length_map]
  rw [this, lexI_lexL]
  by_cases h : lexL fldCmp l r = 0
  · by_cases h' : l.length < r.length <;> simp [h, h']
  · simp [h]

/-- value.Cmp -/
theorem cmp_spec (v w : Val) (hv : v.wf) (hw : w.wf) (hN : v.bulk ≤ big) : (lim T).pc n_value_Cmp [v.row, w.row] = some [[.int (v.cmp w)]] := by
  have hrec : ∀ p ∈ v.fs, ∀ q ∈ w.fs, (lim T).pc n_value_Cmp_1 [fldRow p, fldRow q] = some [[.int (fldCmp p q)]] := by
    intro p hp q hq
    have := Val.size_lt hp
    have hb := Val.bulk_mem hp
    have ih := cmp_spec p.2 q.2 (Val.wf_mem hv hp) (Val.wf_mem hw hq) (by omega)
    rw [value_Cmp_1_pc]
    unfold value_Cmp_1
    have ho := or_int [cmpBytes p.1 q.1, p.2.cmp q.2] (by simp [big])
    simp only [List.map_cons, List.map_nil, intRow] at ho
    simp only [at_fld0, at_fld1, at_fld2, at_fld3, at_fld4, toS_str, val_fold, compare_str, ih, Option.bind_some, rowsAt_zero, at_zero, toI_int, ho, fldCmp]
  rw [value_Cmp_pc]
  unfold value_Cmp
  have hf := compare_flds v.nil w.nil v.fs w.fs (by have := v.bulk_len; omega) hrec
  rw [← v.fc_eq, ← w.fc_eq] at hf
  have ho := or_int [cmpI v.k w.k, cmpI (if v.k = 3 then ordI v.n else v.n) (if v.k = 3 then ordI w.n else w.n), cmpBytes v.s w.s] (by simp [big])
  simp only [List.map_cons, List.map_nil, intRow] at ho
  rw [v.cmp_eq]
  by_cases k3 : v.k = 3
  · simp only [k3, if_true] at ho
    simp only [at_val0, at_val1, at_val2, at_val3, toI_int, toS_str, k3, beq_self_eq_true, if_true, order_spec _ (Val.wf_n hv), order_spec _ (Val.wf_n hw), Option.bind_some, rowsAt_zero, at_zero, hd_r, List.tail_cons, isDp_dp, dpRow_dp, compare_int, compare_str, ho, hf]
    generalize orI _ = c
    by_cases hc : c = 0 <;> simp [hc]
  · simp only [k3, if_false] at ho
    have k3' : (v.k == 3) = false := by simp [k3]
    simp only [at_val0, at_val1, at_val2, at_val3, toI_int, toS_str, k3, k3', Bool.false_eq_true, if_false, Option.bind_some, rowsAt_zero, at_zero, hd_r, List.tail_cons, isDp_dp, dpRow_dp, compare_int, compare_str, ho, hf, if_true]
    generalize orI _ = c
    by_cases hc : c = 0 <;> simp [hc]
  termination_by SizeOf.sizeOf v
theorem same_spec (v w : Val) (hv : v.wf) (hw : w.wf) (hN : v.bulk ≤ big) : (lim T).pc n_value_Same [v.row, w.row] = some [[.bool (v.eqv w)]] := by
  rw [value_Same_pc]
  unfold value_Same
  simp only [cmp_spec v w hv hw hN, Option.bind_some, rowsAt_zero, at_zero, toI_int]
  have := Val.cmp_zero v w hv hw
  cases he : v.eqv w with
  | true => rw [this.2 he]; rfl
  | false =>
    have hne : ¬ v.cmp w = 0 := fun h => by rw [this.1 h] at he; cases he
    simp [hne]
end Go.Ev.Zza
namespace Go.Ev.Zza

/-! clapref3.same -/
theorem rsame_l (v w : Val) (hl : v.fs.length = w.fs.length) (hN : v.fs.length ≤ big) (hc : ∀ p ∈ v.fs, ∀ u : Val, (lim T).pc n_clapref3_same [p.2.row, u.row] = some [[.bool (p.2.eqv u)]]) : ∀ (j i : Nat), i + j = v.fs.length →
    clapref3_same_l0 (lim T) (.dp w.row) v.fc (v.fs.length : Int) (i : Int) = if all2 fldEq (v.fs.drop i) (w.fs.drop i) = true then some (0, []) else some (1, [.r [.bool false]])
  | 0, i, h => by
    rw [clapref3_same_l0_eq]
    unfold clapref3_same_b0
    have : ¬ (i : Int) < (v.fs.length : Int) := by omega
    rw [List.drop_eq_nil_of_le (by omega), List.drop_eq_nil_of_le (by omega)]
    simp [this, all2]
  | j + 1, i, h => by
    rw [clapref3_same_l0_eq]
    unfold clapref3_same_b0
    have h1 : i < v.fs.length := by omega
    have h2 : i < w.fs.length := by omega
    have ih := rsame_l v w hl hN hc j (i + 1) (by omega)
    rw [List.drop_eq_getElem_cons h1, List.drop_eq_getElem_cons h2]
    have hcc := hc _ (List.getElem_mem h1) (w.fs[i].2)
    have g1 : (i : Int) < (v.fs.length : Int) := by omega
    have g2 : (i : Int) < (w.fs.length : Int) := by omega
    have g0 : (0 : Int) ≤ (i : Int) := by omega
    simp only [Val.fc_rows, isDp_dp, dpRow_dp, at_val3, rowsAt_map, List.length_map, Int.toNat_natCast, h1, h2, at_fld0, at_fld1, at_fld2, at_fld3, at_fld4, toS_str, val_fold, hcc, wrap_nat (show i ≤ big by omega), ih, all2, g1, g2, g0, decide_true, and_self, if_true, Option.bind_some, rowsAt_zero, at_zero, toB_bool, fldEq]
    by_cases hc : v.fs[i].1 = w.fs[i].1
    · simp only [hc, beq_self_eq_true, Bool.not_true, Bool.false_eq_true, if_false, Bool.true_and]
      cases he : v.fs[i].2.eqv w.fs[i].2 <;> simp
    · simp [hc]
theorem rsame_spec (v w : Val) (hN : v.bulk ≤ big) : (lim T).pc n_clapref3_same [v.row, w.row] = some [[.bool (v.eqv w)]] := by
  have hrec : ∀ p ∈ v.fs, ∀ u : Val, (lim T).pc n_clapref3_same [p.2.row, u.row] = some [[.bool (p.2.eqv u)]] := by
    intro p hp u
    have := Val.size_lt hp
    have hb := Val.bulk_mem hp
    exact rsame_spec p.2 u (by omega)
  rw [clapref3_same_pc]
  unfold clapref3_same
  rw [v.eqv_eq]
  simp only [at_val0, at_val1, at_val2, at_val3, toI_int, toS_str, Val.fc_rows, List.length_map]
  by_cases h1 : v.k = w.k
  · by_cases h2 : v.n = w.n
    · by_cases h3 : v.s = w.s
      · by_cases h4 : v.fs.length = w.fs.length
        · have := rsame_l v w h4 (by have := v.bulk_len; omega) hrec v.fs.length 0 (by omega)
          simp only [Int.ofNat_zero, Int.natCast_zero, List.drop_zero] at this
          have e4 : ((v.fs.length : Int) != (w.fs.length : Int)) = false := by simp [h4]
          simp only [h1, h2, h3, e4, bne_self_eq_false, beq_self_eq_true, Bool.not_true, Bool.false_eq_true, if_false, Option.bind_some, hd_r, List.tail_cons, at_zero, toB_bool, isDp_dp, if_true, dpRow_dp, at_val3, Val.fc_rows, List.length_map, this, Bool.true_and]
          cases all2 fldEq v.fs w.fs <;> simp
        · have e4 : ((v.fs.length : Int) != (w.fs.length : Int)) = true := by simp; omega
          have e5 : all2 fldEq v.fs w.fs = false := by
            cases h : all2 fldEq v.fs w.fs
            · rfl
            · exact absurd (all2_len h) h4
          simp [h1, h2, h3, e4, e5]
      · simp [h1, h2, h3]
    · simp [h1, h2]
  · simp [h1]
  termination_by SizeOf.sizeOf v

/-! slices.EqualFunc -/
theorem samePair_spec (p q : Val × Val) (hp : p.1.wf ∧ p.2.wf) (hq : q.1.wf ∧ q.2.wf) (hN : p.1.bulk + p.2.bulk ≤ big) : (lim T).pc n_lens_samePair [pairRow p, pairRow q] = some [[.bool (pairEq p q)]] := by
  rw [lens_samePair_pc]
  unfold lens_samePair
  simp only [at_pair0, at_pair1, at_pair2, at_pair3, at_pair4, at_pair5, at_pair6, at_pair7, val_fold, same_spec p.1 q.1 hp.1 hq.1 (by omega), same_spec p.2 q.2 hp.2 hq.2 (by omega), Option.bind_some, rowsAt_zero, at_zero, toB_bool, pairEq]
  cases p.1.eqv q.1 <;> simp
theorem eqPairs_l (b b' : Bool) (l r : List (Val × Val)) (hl : l.length = r.length) (hN : l.length ≤ big) (hc : ∀ p ∈ l, ∀ q ∈ r, (lim T).pc n_lens_samePair [pairRow p, pairRow q] = some [[.bool (pairEq p q)]]) : ∀ (j i : Nat), i + j = l.length →
    slices_EqualFunc_2_api_Value_l0 (lim T) (slC b' (r.map pairRow)) (.fn 16 []) (slC b (l.map pairRow)) (l.length : Int) (i : Int) = if all2 pairEq (l.drop i) (r.drop i) = true then some (0, []) else some (1, [.r [.bool false]])
  | 0, i, h => by
    rw [slices_EqualFunc_2_api_Value_l0_eq]
    unfold slices_EqualFunc_2_api_Value_b0
    have : ¬ (i : Int) < (l.length : Int) := by omega
    rw [List.drop_eq_nil_of_le (by omega), List.drop_eq_nil_of_le (by omega)]
    simp [this, all2]
  | j + 1, i, h => by
    rw [slices_EqualFunc_2_api_Value_l0_eq]
    unfold slices_EqualFunc_2_api_Value_b0
    have h1 : i < l.length := by omega
    have h2 : i < r.length := by omega
    have ih := eqPairs_l b b' l r hl hN hc j (i + 1) (by omega)
    rw [List.drop_eq_getElem_cons h1, List.drop_eq_getElem_cons h2]
    have hcc : callC (lim T) (.fn 16 []) [pairRow l[i], pairRow r[i]] = some [[.bool (pairEq l[i] r[i])]] := hc _ (List.getElem_mem h1) _ (List.getElem_mem h2)
    have g1 : (i : Int) < (l.length : Int) := by omega
    have g2 : (i : Int) < (r.length : Int) := by omega
    have g0 : (0 : Int) ≤ (i : Int) := by omega
    simp only [slC_rows, rowsAt_map, List.length_map, Int.toNat_natCast, h1, h2, hcc, wrap_nat (show i ≤ big by omega), ih, all2, g1, g2, g0, decide_true, and_self, if_true, Option.bind_some, rowsAt_zero, at_zero, toB_bool]
    by_cases hq : pairEq l[i] r[i] = true <;> simp [hq]
theorem eqPairs (b b' : Bool) (l r : List (Val × Val)) (hN : l.length ≤ big) (hc : ∀ p ∈ l, ∀ q ∈ r, (lim T).pc n_lens_samePair [pairRow p, pairRow q] = some [[.bool (pairEq p q)]]) :
    (lim T).pc n_slices_EqualFunc_2_api_Value [[slC b (l.map pairRow)], [slC b' (r.map pairRow)], [.fn 16 []]] = some [[.bool (all2 pairEq l r)]] := by
  rw [slices_EqualFunc_2_api_Value_pc]
  unfold slices_EqualFunc_2_api_Value
  simp only [slC_rows, List.length_map]
  by_cases hl : l.length = r.length
  · have := eqPairs_l b b' l r hl hN hc l.length 0 (by omega)
    simp only [Int.ofNat_zero, Int.natCast_zero, List.drop_zero] at this
    have e : ((l.length : Int) != (r.length : Int)) = false := by simp [hl]
    rw [this, e]
    cases all2 pairEq l r <;> simp
  · have e : ((l.length : Int) != (r.length : Int)) = true := by simp; omega
    have e5 : all2 pairEq l r = false := by
      cases h : all2 pairEq l r
      · rfl
      · exact absurd (all2_len h) hl
    rw [e, e5]
    simp
theorem eqKids_l (b b' : Bool) (l r : List Lns) (hl : l.length = r.length) (hN : l.length ≤ big) (hc : ∀ p ∈ l, ∀ q ∈ r, (lim T).pc n_lens_Equal [p.row, q.row] = some [[.bool (p.eqv q)]]) : ∀ (j i : Nat), i + j = l.length →
    slices_EqualFunc_api_Lens_l0 (lim T) (slC b' (r.map Lns.row)) (.fn 5 []) (slC b (l.map Lns.row)) (l.length : Int) (i : Int) = if all2 Lns.eqv (l.drop i) (r.drop i) = true then some (0, []) else some (1, [.r [.bool false]])
  | 0, i, h => by
    rw [slices_EqualFunc_api_Lens_l0_eq]
    unfold slices_EqualFunc_api_Lens_b0
    have : ¬ (i : Int) < (l.length : Int) := by omega
    rw [List.drop_eq_nil_of_le (by omega), List.drop_eq_nil_of_le (by omega)]
    simp [this, all2]
  | j + 1, i, h => by
    rw [slices_EqualFunc_api_Lens_l0_eq]
    unfold slices_EqualFunc_api_Lens_b0
    have h1 : i < l.length := by omega
    have h2 : i < r.length := by omega
    have ih := eqKids_l b b' l r hl hN hc j (i + 1) (by omega)
    rw [List.drop_eq_getElem_cons h1, List.drop_eq_getElem_cons h2]
    have hcc : callC (lim T) (.fn 5 []) [l[i].row, r[i].row] = some [[.bool (l[i].eqv r[i])]] := hc _ (List.getElem_mem h1) _ (List.getElem_mem h2)
    have g1 : (i : Int) < (l.length : Int) := by omega
    have g2 : (i : Int) < (r.length : Int) := by omega
    have g0 : (0 : Int) ≤ (i : Int) := by omega
    simp only [slC_rows, rowsAt_map, List.length_map, Int.toNat_natCast, h1, h2, hcc, wrap_nat (show i ≤ big by omega), ih, all2, g1, g2, g0, decide_true, and_self, if_true, Option.bind_some, rowsAt_zero, at_zero, toB_bool]
    by_cases hq : l[i].eqv r[i] = true <;> simp [hq]
theorem eqKids (b b' : Bool) (l r : List Lns) (hN : l.length ≤ big) (hc : ∀ p ∈ l, ∀ q ∈ r, (lim T).pc n_lens_Equal [p.row, q.row] = some [[.bool (p.eqv q)]]) :
    (lim T).pc n_slices_EqualFunc_api_Lens [[slC b (l.map Lns.row)], [slC b' (r.map Lns.row)], [.fn 5 []]] = some [[.bool (all2 Lns.eqv l r)]] := by
  rw [slices_EqualFunc_api_Lens_pc]
  unfold slices_EqualFunc_api_Lens
  simp only [slC_rows, List.length_map]
  by_cases hl : l.length = r.length
  · have := eqKids_l b b' l r hl hN hc l.length 0 (by omega)
    simp only [Int.ofNat_zero, Int.natCast_zero, List.drop_zero] at this
    have e : ((l.length : Int) != (r.length : Int)) = false := by simp [hl]
    rw [this, e]
    cases all2 Lns.eqv l r <;> simp
  · have e : ((l.length : Int) != (r.length : Int)) = true := by simp; omega
    have e5 : all2 Lns.eqv l r = false := by
      cases h : all2 Lns.eqv l r
      · rfl
      · exact absurd (all2_len h) hl
    rw [e, e5]
    simp

/-! lens.Equal -/
theorem lensEqual_spec (a b : Lns) (ha : a.wf) (hb : b.wf) (hN : a.bulk ≤ big) : (lim T).pc n_lens_Equal [a.row, b.row] = some [[.bool (a.eqv b)]] := by
  have hbe := a.bulk_eq
  have hrec : ∀ p ∈ a.kids, ∀ q ∈ b.kids, (lim T).pc n_lens_Equal [p.row, q.row] = some [[.bool (p.eqv q)]] := by
    intro p hp q hq
    have := Lns.size_lt hp
    have hb' := Lns.bulk_kid hp
    exact lensEqual_spec p q (Lns.wf_kid ha hp) (Lns.wf_kid hb hq) (by omega)
  have hk := eqKids a.kb b.kb a.kids b.kids (by have := Lns.bulks_len a.kids; omega) hrec
  rw [← a.kc_eq, ← b.kc_eq] at hk
  have hp := eqPairs a.pb b.pb a.pairs b.pairs (by have := pairsBulk_len a.pairs; omega) (fun p hp q hq => samePair_spec p q (Lns.wf_pair ha hp) (Lns.wf_pair hb hq) (by have := pairsBulk_mem hp; omega))
  have hs := equal_strs a.nb b.nb a.names b.names (by have := strsBulk_len a.names; omega)
  have hv := same_spec a.v b.v (Lns.wf_v ha) (Lns.wf_v hb) (by omega)
  rw [lens_Equal_pc]
  unfold lens_Equal
  rw [a.eqv_eq]
  simp only [at_lns0, at_lns1, at_lns2, at_lns3, at_lns4, at_lns5, at_lns6, at_lns7, toI_int, toS_str]
  by_cases h0 : a.op = b.op
  case neg => simp [h0]
  by_cases h1 : a.name = b.name
  case neg => simp [h0, h1]
  by_cases h2 : a.to = b.to
  case neg => simp [h0, h1, h2]
  by_cases h3 : a.n = b.n
  case neg => simp [h0, h1, h2, h3]
  by_cases h4 : a.low = b.low
  case neg => simp [h0, h1, h2, h3, h4]
  by_cases h5 : a.high = b.high
  case neg => simp [h0, h1, h2, h3, h4, h5]
  by_cases h6 : a.sep = b.sep
  case neg => simp [h0, h1, h2, h3, h4, h5, h6]
  simp only [h0, h1, h2, h3, h4, h5, h6, bne_self_eq_false, beq_self_eq_true, Bool.not_true, Bool.false_eq_true, if_false, Option.bind_some, hd_r, List.tail_cons, at_zero, toB_bool, isDp_dp, if_true, dpRow_dp,
    at_lns3, at_lns8, at_lns9, at_lns10, at_lns11, at_lns12, at_lns13, val_fold, hs, hv, hp, hk, rowsAt_zero, Bool.true_and]
  by_cases e1 : a.names = b.names
  case neg => simp [e1]
  simp only [e1, decide_true, Bool.not_true, Bool.false_eq_true, if_false, Bool.and_true]
  cases a.v.eqv b.v
  · simp
  · simp only [Bool.not_true, Bool.false_eq_true, if_false, Option.bind_some, hd_r, List.tail_cons, at_zero, toB_bool, isDp_dp, if_true, dpRow_dp, at_lns13, hk, rowsAt_zero]
    cases all2 pairEq a.pairs b.pairs
    · simp
    · simp [hk]
  termination_by SizeOf.sizeOf a
end Go.Ev.Zza
namespace Go.Ev.Zza

/-! clapref3.Equal -/
theorem rEqual_l0 (a b : Lns) (hl : a.names.length = b.names.length) (hN : a.names.length ≤ big) : ∀ (j i : Nat), i + j = a.names.length →
    clapref3_Equal_l0 (lim T) (.dp a.row) (.dp b.row) (a.names.length : Int) (i : Int) = if all2 (fun a b => a == b) (a.names.drop i) (b.names.drop i) = true then some (0, [.r [.dp a.row], .r [.dp b.row]]) else some (1, [.r [.bool false]])
  | 0, i, h => by
    rw [clapref3_Equal_l0_eq]
    unfold clapref3_Equal_b0
    have : ¬ (i : Int) < (a.names.length : Int) := by omega
    rw [List.drop_eq_nil_of_le (by omega), List.drop_eq_nil_of_le (by omega)]
    simp [this, all2]
  | j + 1, i, h => by
    rw [clapref3_Equal_l0_eq]
    unfold clapref3_Equal_b0
    have h1 : i < a.names.length := by omega
    have h2 : i < b.names.length := by omega
    have ih := rEqual_l0 a b hl hN j (i + 1) (by omega)
    rw [List.drop_eq_getElem_cons h1, List.drop_eq_getElem_cons h2]
    have g1 : (i : Int) < (a.names.length : Int) := by omega
    have g2 : (i : Int) < (b.names.length : Int) := by omega
    have g0 : (0 : Int) ≤ (i : Int) := by omega
    simp only [isDp_dp, dpRow_dp, at_lns3, slC_rows, rowsAt_map, List.length_map, Int.toNat_natCast, h1, h2, at_str0, toS_str, wrap_nat (show i ≤ big by omega), ih, all2, g1, g2, g0, decide_true, and_self, if_true]
    by_cases hc : a.names[i] = b.names[i] <;> simp [hc]
theorem rEqual_l1 (a b : Lns) (hl : a.pairs.length = b.pairs.length) (hN : a.bulk ≤ big) : ∀ (j i : Nat), i + j = a.pairs.length →
    clapref3_Equal_l1 (lim T) (.dp a.row) (.dp b.row) (a.pairs.length : Int) (i : Int) = if all2 pairEq (a.pairs.drop i) (b.pairs.drop i) = true then some (0, [.r [.dp a.row], .r [.dp b.row]]) else some (1, [.r [.bool false]])
  | 0, i, h => by
    rw [clapref3_Equal_l1_eq]
    unfold clapref3_Equal_b1
    have : ¬ (i : Int) < (a.pairs.length : Int) := by omega
    rw [List.drop_eq_nil_of_le (by omega), List.drop_eq_nil_of_le (by omega)]
    simp [this, all2]
  | j + 1, i, h => by
    rw [clapref3_Equal_l1_eq]
    unfold clapref3_Equal_b1
    have hbe := a.bulk_eq
    have hpl := pairsBulk_len a.pairs
    have h1 : i < a.pairs.length := by omega
    have h2 : i < b.pairs.length := by omega
    have ih := rEqual_l1 a b hl hN j (i + 1) (by omega)
    rw [List.drop_eq_getElem_cons h1, List.drop_eq_getElem_cons h2]
    have g1 : (i : Int) < (a.pairs.length : Int) := by omega
    have g2 : (i : Int) < (b.pairs.length : Int) := by omega
    have g0 : (0 : Int) ≤ (i : Int) := by omega
    have hm := pairsBulk_mem (List.getElem_mem h1)
    have s1 := rsame_spec a.pairs[i].1 b.pairs[i].1 (by omega)
    have s2 := rsame_spec a.pairs[i].2 b.pairs[i].2 (by omega)
    simp only [isDp_dp, dpRow_dp, at_lns12, slC_rows, rowsAt_map, List.length_map, Int.toNat_natCast, h1, h2, at_pair0, at_pair1, at_pair2, at_pair3, at_pair4, at_pair5, at_pair6, at_pair7, val_fold, s1, s2, wrap_nat (show i ≤ big by omega), ih, all2, g1, g2, g0, decide_true, and_self, if_true, Option.bind_some, rowsAt_zero, at_zero, toB_bool, pairEq]
    by_cases e1 : a.pairs[i].1.eqv b.pairs[i].1 = true
    · by_cases e2 : a.pairs[i].2.eqv b.pairs[i].2 = true <;> simp [e1, e2]
    · simp [e1]
theorem rEqual_l2 (a b : Lns) (hl : a.kids.length = b.kids.length) (hN : a.bulk ≤ big) (hc : ∀ p ∈ a.kids, ∀ q : Lns, (lim T).pc n_clapref3_Equal [p.row, q.row] = some [[.bool (p.eqv q)]]) : ∀ (j i : Nat), i + j = a.kids.length →
    clapref3_Equal_l2 (lim T) (.dp a.row) (.dp b.row) (a.kids.length : Int) (i : Int) = if all2 Lns.eqv (a.kids.drop i) (b.kids.drop i) = true then some (0, []) else some (1, [.r [.bool false]])
  | 0, i, h => by
    rw [clapref3_Equal_l2_eq]
    unfold clapref3_Equal_b2
    have : ¬ (i : Int) < (a.kids.length : Int) := by omega
    rw [List.drop_eq_nil_of_le (by omega), List.drop_eq_nil_of_le (by omega)]
    simp [this, all2]
  | j + 1, i, h => by
    rw [clapref3_Equal_l2_eq]
    unfold clapref3_Equal_b2
    have hbe := a.bulk_eq
    have hpl := Lns.bulks_len a.kids
    have h1 : i < a.kids.length := by omega
    have h2 : i < b.kids.length := by omega
    have ih := rEqual_l2 a b hl hN hc j (i + 1) (by omega)
    rw [List.drop_eq_getElem_cons h1, List.drop_eq_getElem_cons h2]
    have g1 : (i : Int) < (a.kids.length : Int) := by omega
    have g2 : (i : Int) < (b.kids.length : Int) := by omega
    have g0 : (0 : Int) ≤ (i : Int) := by omega
    have s1 := hc _ (List.getElem_mem h1) b.kids[i]
    simp only [isDp_dp, dpRow_dp, at_lns13, Lns.kc_rows, rowsAt_map, List.length_map, Int.toNat_natCast, h1, h2, s1, wrap_nat (show i ≤ big by omega), ih, all2, g1, g2, g0, decide_true, and_self, if_true, Option.bind_some, rowsAt_zero, at_zero, toB_bool]
    by_cases e1 : a.kids[i].eqv b.kids[i] = true <;> simp [e1]
theorem len_ne {α : Type} {f : α → α → Bool} {l r : List α} (h : ¬ l.length = r.length) : all2 f l r = false := by
  cases e : all2 f l r
  · rfl
  · exact absurd (all2_len e) h
theorem rEqual_spec (a b : Lns) (hN : a.bulk ≤ big) : (lim T).pc n_clapref3_Equal [a.row, b.row] = some [[.bool (a.eqv b)]] := by
  have hbe := a.bulk_eq
  have hrec : ∀ p ∈ a.kids, ∀ q : Lns, (lim T).pc n_clapref3_Equal [p.row, q.row] = some [[.bool (p.eqv q)]] := by
    intro p hp q
    have := Lns.size_lt hp
    have hb' := Lns.bulk_kid hp
    exact rEqual_spec p q (by omega)
  have hv := rsame_spec a.v b.v (by omega)
  rw [clapref3_Equal_pc]
  unfold clapref3_Equal
  rw [a.eqv_eq]
  simp only [at_lns0, at_lns1, at_lns2, at_lns3, at_lns4, at_lns5, at_lns6, at_lns7, at_lns8, at_lns9, at_lns10, at_lns11, val_fold, hv, toI_int, toS_str]
  by_cases h0 : a.op = b.op
  case neg => simp [h0]
  by_cases h1 : a.name = b.name
  case neg => simp [h0, h1]
  by_cases h2 : a.to = b.to
  case neg => simp [h0, h1, h2]
  by_cases h3 : a.n = b.n
  case neg => simp [h0, h1, h2, h3]
  by_cases h4 : a.low = b.low
  case neg => simp [h0, h1, h2, h3, h4]
  by_cases h5 : a.high = b.high
  case neg => simp [h0, h1, h2, h3, h4, h5]
  by_cases h6 : a.sep = b.sep
  case neg => simp [h0, h1, h2, h3, h4, h5, h6]
  simp only [h0, h1, h2, h3, h4, h5, h6, bne_self_eq_false, beq_self_eq_true, Bool.not_true, Bool.false_eq_true, if_false, Option.bind_some, hd_r, List.tail_cons, at_zero, toB_bool, isDp_dp, if_true, dpRow_dp, rowsAt_zero, Bool.true_and]
  by_cases e0 : a.v.eqv b.v = true
  case neg => simp [e0]
  simp only [e0, Bool.not_true, Bool.false_eq_true, if_false, Bool.true_and, at_lns3, at_lns12, at_lns13, slC_rows, Lns.kc_rows, List.length_map]
  by_cases l0 : a.names.length = b.names.length
  case neg =>
    have e : ((a.names.length : Int) != (b.names.length : Int)) = true := by simp; omega
    have : ¬ a.names = b.names := fun h => l0 (by rw [h])
    simp [e, this]
  have el0 : ((a.names.length : Int) != (b.names.length : Int)) = false := by simp [l0]
  by_cases l1 : a.pairs.length = b.pairs.length
  case neg =>
    have e : ((a.pairs.length : Int) != (b.pairs.length : Int)) = true := by simp; omega
    simp [e, el0, len_ne l1]
  have el1 : ((a.pairs.length : Int) != (b.pairs.length : Int)) = false := by simp [l1]
  by_cases l2 : a.kids.length = b.kids.length
  case neg =>
    have e : ((a.kids.length : Int) != (b.kids.length : Int)) = true := by simp; omega
    simp [e, el0, el1, len_ne l2]
  have el2 : ((a.kids.length : Int) != (b.kids.length : Int)) = false := by simp [l2]
  have r0 := rEqual_l0 a b l0 (by have := strsBulk_len a.names; omega) a.names.length 0 (by omega)
  have r1 := rEqual_l1 a b l1 hN a.pairs.length 0 (by omega)
  have r2 := rEqual_l2 a b l2 hN hrec a.kids.length 0 (by omega)
  simp only [Int.ofNat_zero, Int.natCast_zero, List.drop_zero] at r0 r1 r2
  rw [all2_beq] at r0
  simp only [el0, el1, el2, Bool.false_eq_true, if_false, Option.bind_some, hd_r, List.tail_cons, at_zero, toB_bool, isDp_dp, if_true, dpRow_dp, at_lns3, slC_rows, List.length_map, r0]
  by_cases e1 : a.names = b.names
  case neg => simp [e1]
  simp only [e1, decide_true, if_true, Option.bind_some, hd_r, List.tail_cons, at_zero, isDp_dp, dpRow_dp, at_lns12, slC_rows, List.length_map, r1, Bool.true_and]
  by_cases e2 : all2 pairEq a.pairs b.pairs = true
  case neg => simp [e2]
  simp only [e2, if_true, Option.bind_some, hd_r, List.tail_cons, at_zero, isDp_dp, dpRow_dp, at_lns13, Lns.kc_rows, List.length_map, r2, Bool.true_and]
  by_cases e3 : all2 Lns.eqv a.kids b.kids = true <;> simp [e3]
  termination_by SizeOf.sizeOf a

/-! value.Copy -/
theorem clone_spec (v : Val) (hN : v.bulk ≤ big) : (lim T).ic slices_Clone_api_Field_i2_n [.r [v.fc]] = some [.r [v.fc]] := by
  rw [slices_Clone_api_Field_i2_ic]
  unfold slices_Clone_api_Field_i2
  rw [Val.fc_eq, slC_rows]
  have hl := v.bulk_len
  cases hn : v.nil with
  | true =>
    cases hf : v.fs with
    | nil => simp [slC, C.isNil]
    | cons p r =>
      rw [hf] at hl
      have : (0 + (r.length + 1)) * 72 ≤ 140737488355328 := by simp only [List.length_cons] at hl; unfold big at hN; omega
      simp [slC, C.isNil, appC, this]
      omega
  | false =>
    have : (0 + v.fs.length) * 72 ≤ 140737488355328 := by unfold big at hN; omega
    simp [slC_false, C.isNil, appC]
    omega
theorem putRow (p : Bytes × Val) : put (fldRow p) 1 4 p.2.row 0 5 = fldRow p := rfl
theorem set_same {α : Type} (l : List α) (i : Nat) (h : i < l.length) : l.set i l[i] = l := by simp
theorem copy_l1 (v : Val) (x y : Int) (s : Bytes) (r : Row) (b : Bool) (hN : v.fs.length ≤ big) (hc : ∀ p ∈ v.fs, (lim T).ic value_Copy_i3_n [.r p.2.row] = some [.r p.2.row]) : ∀ (j i : Nat), i + j = v.fs.length → 
    value_Copy_i1_l0 (lim T) (v.fs.length : Int) (i : Int) x y s r v.fc = some (0, [.r [.int x], .r [.int y], .r [.str s], .r r, .r [v.fc]])
  | 0, i, h => by
    rw [value_Copy_i1_l0_eq]
    unfold value_Copy_i1_b0
    have : ¬ (i : Int) < (v.fs.length : Int) := by omega
    simp [this]
  | j + 1, i, h => by
    rw [value_Copy_i1_l0_eq]
    unfold value_Copy_i1_b0
    have h1 : i < v.fs.length := by omega
    have ih := copy_l1 v x y s r b hN hc j (i + 1) (by omega)
    have hcc := hc _ (List.getElem_mem h1)
    have g1 : (i : Int) < (v.fs.length : Int) := by omega
    have g0 : (0 : Int) ≤ (i : Int) := by omega
    have hne : C.sl (v.fs.map fldRow) = v.fc := by
      rw [v.fc_eq]
      cases hf : v.fs with
      | nil => rw [hf] at h1; simp at h1
      | cons p r => cases v.nil <;> rfl
    have hset : (v.fs.map fldRow).set i (fldRow v.fs[i]) = v.fs.map fldRow := by
      rw [show fldRow v.fs[i] = (v.fs.map fldRow)[i]'(by simpa using h1) by simp]
      exact set_same _ _ _
    simp only [Val.fc_rows, rowsAt_map, List.length_map, Int.toNat_natCast, h1, at_fld1, at_fld2, at_fld3, at_fld4, val_fold, hcc, wrap_nat (show i ≤ big by omega), g1, g0, decide_true, and_self, if_true, Option.bind_some, hd_r, putRow, hset, hne, ih]
theorem copy_l3 (v : Val) (x y : Int) (s : Bytes) (r : Row) (b : Bool) (hN : v.fs.length ≤ big) (hc : ∀ p ∈ v.fs, (lim T).ic value_Copy_i3_n [.r p.2.row] = some [.r p.2.row]) : ∀ (j i : Nat), i + j = v.fs.length → 
    value_Copy_i3_l0 (lim T) (v.fs.length : Int) (i : Int) x y s r v.fc = some (0, [.r [.int x], .r [.int y], .r [.str s], .r r, .r [v.fc]])
  | 0, i, h => by
    rw [value_Copy_i3_l0_eq]
    unfold value_Copy_i3_b0
    have : ¬ (i : Int) < (v.fs.length : Int) := by omega
    simp [this]
  | j + 1, i, h => by
    rw [value_Copy_i3_l0_eq]
    unfold value_Copy_i3_b0
    have h1 : i < v.fs.length := by omega
    have ih := copy_l3 v x y s r b hN hc j (i + 1) (by omega)
    have hcc := hc _ (List.getElem_mem h1)
    have g1 : (i : Int) < (v.fs.length : Int) := by omega
    have g0 : (0 : Int) ≤ (i : Int) := by omega
    have hne : C.sl (v.fs.map fldRow) = v.fc := by
      rw [v.fc_eq]
      cases hf : v.fs with
      | nil => rw [hf] at h1; simp at h1
      | cons p r => cases v.nil <;> rfl
    have hset : (v.fs.map fldRow).set i (fldRow v.fs[i]) = v.fs.map fldRow := by
      rw [show fldRow v.fs[i] = (v.fs.map fldRow)[i]'(by simpa using h1) by simp]
      exact set_same _ _ _
    simp only [Val.fc_rows, rowsAt_map, List.length_map, Int.toNat_natCast, h1, at_fld1, at_fld2, at_fld3, at_fld4, val_fold, hcc, wrap_nat (show i ≤ big by omega), g1, g0, decide_true, and_self, if_true, Option.bind_some, hd_r, putRow, hset, hne, ih]
theorem copy3_spec (v : Val) (hN : v.bulk ≤ big) : (lim T).ic value_Copy_i3_n [.r v.row] = some [.r v.row] := by
  have hrec : ∀ p ∈ v.fs, (lim T).ic value_Copy_i3_n [.r p.2.row] = some [.r p.2.row] := by
    intro p hp
    have := Val.size_lt hp
    have hb := Val.bulk_mem hp
    exact copy3_spec p.2 (by omega)
  rw [value_Copy_i3_ic]
  unfold value_Copy_i3
  have hl := copy_l3 v v.k v.n v.s [.int 0, .int 0, .str [], .nils] true (by have := v.bulk_len; omega) hrec v.fs.length 0 (by omega)
  simp only [Int.ofNat_zero, Int.natCast_zero] at hl
  simp only [at_val0, at_val1, at_val2, at_val3, toI_int, toS_str, clone_spec v hN, Option.bind_some, hd_r, at_zero, Val.fc_rows, List.length_map, hl, List.tail_cons, val_fold]
  termination_by SizeOf.sizeOf v
theorem copy1_spec (v : Val) (hN : v.bulk ≤ big) : (lim T).ic value_Copy_i1_n [.r [.int v.k], .r [.int v.n], .r [.str v.s], .r [v.fc]] = some [.r v.row] := by
  rw [value_Copy_i1_ic]
  unfold value_Copy_i1
  have hl := copy_l1 v v.k v.n v.s [.int 0, .int 0, .str [], .nils] true (by have := v.bulk_len; omega) (fun p hp => copy3_spec p.2 (by have := Val.bulk_mem hp; omega)) v.fs.length 0 (by omega)
  simp only [Int.ofNat_zero, Int.natCast_zero] at hl
  simp only [clone_spec v hN, Option.bind_some, hd_r, at_zero, Val.fc_rows, List.length_map, hl, List.tail_cons, toI_int, toS_str, val_fold]
end Go.Ev.Zza
namespace Go.Ev.Zza
theorem appC_true (a new : List Row) : appC (slC true a) new = slC true (a ++ new) := by
  cases a with
  | nil => cases new <;> rfl
  | cons x r => rfl
theorem appC_nils (new : List Row) : appC .nils new = slC true new := appC_true [] new
theorem take_next {α : Type} (l : List α) (i : Nat) (h : i < l.length) : l.take i ++ [l[i]] = l.take (i + 1) := by simp

theorem lcopy_l0 (b : Bool) (l : List (Val × Val)) (hN : pairsBulk l ≤ big) (v3 : Int) (v4 : List UInt8) (v5 : List UInt8) (v6 : C) (v7 : Int) (v8 : Int) (v9 : Int) (v10 : Int) (v11 : Int) (v12 : Int) (v13 : List UInt8) (v14 : C) (v15 : C) (v16 : C) (v17 : Row) (v18 : Int) (v19 : List UInt8) (v20 : List UInt8) (v21 : Int) (v22 : Int) (v23 : Int) (v24 : Int) (v25 : Int) (v26 : Int) (v27 : List UInt8) (v28 : C) (v29 : C) (v31 : C) : ∀ (j i : Nat), i + j = l.length →
    lens_Copy_i0_l0 (lim T) (slC b (l.map pairRow)) (l.length : Int) (i : Int) v3 v4 v5 v6 v7 v8 v9 v10 v11 v12 v13 v14 v15 v16 v17 v18 v19 v20 v21 v22 v23 v24 v25 v26 v27 v28 v29 (slC true ((l.take i).map pairRow)) v31 = some (0, [.r [.int v3], .r [.str v4], .r [.str v5], .r [v6], .r [.int v7], .r [.int v8], .r [.int v9], .r [.int v10], .r [.int v11], .r [.int v12], .r [.str v13], .r [v14], .r [v15], .r [v16], .r v17, .r [.int v18], .r [.str v19], .r [.str v20], .r [.int v21], .r [.int v22], .r [.int v23], .r [.int v24], .r [.int v25], .r [.int v26], .r [.str v27], .r [v28], .r [v29], .r [slC true (l.map pairRow)], .r [v31]])
  | 0, i, h => by
    rw [lens_Copy_i0_l0_eq]
    unfold lens_Copy_i0_b0
    have : ¬ (i : Int) < (l.length : Int) := by omega
    rw [List.take_of_length_le (by omega)]
    simp only [this, decide_false, Bool.false_eq_true, if_false]
  | j + 1, i, h => by
    rw [lens_Copy_i0_l0_eq]
    unfold lens_Copy_i0_b0
    have hpl := pairsBulk_len l
    have h1 : i < l.length := by omega
    have ih := lcopy_l0 b l hN v3 v4 v5 v6 v7 v8 v9 v10 v11 v12 v13 v14 v15 v16 v17 v18 v19 v20 v21 v22 v23 v24 v25 v26 v27 v28 v29 v31 j (i + 1) (by omega)
    have hm := pairsBulk_mem (List.getElem_mem h1)
    have s1 := copy1_spec l[i].1 (by omega)
    have s2 := copy1_spec l[i].2 (by omega)
    have g1 : (i : Int) < (l.length : Int) := by omega
    have g0 : (0 : Int) ≤ (i : Int) := by omega
    have hi : min i l.length = i := by omega
    have g3 : (i + 1) * 112 ≤ 140737488355328 := by unfold big at hN; omega
    simp only [slC_rows, rowsAt_map, List.length_map, Int.toNat_natCast, h1, at_pair0, at_pair1, at_pair2, at_pair3, at_pair4, at_pair5, at_pair6, at_pair7, toI_int, toS_str, s1, s2, wrap_nat (show i ≤ big by omega), g1, g0, decide_true, and_self, if_true, Option.bind_some, hd_r, at_val0, at_val1, at_val2, at_val3, List.length_take, hi, List.length_cons, List.length_nil, Nat.zero_add, g3, appC_true, pair_fold]
    rw [show ((l.take i).map pairRow ++ [pairRow l[i]]) = (l.take (i + 1)).map pairRow by rw [← take_next l i h1, List.map_append]; rfl]
    exact ih

theorem lcopy_l1 (b : Bool) (ls : List Lns) (hN : Lns.bulks ls ≤ big) (hc : ∀ l ∈ ls, (lim T).ic lens_Copy_i0_n [.r [.int l.op], .r [.str l.name], .r [.str l.to], .r [slC l.nb (l.names.map strRow)], .r [.int l.n], .r [.int l.low], .r [.int l.high], .r [.int l.sep], .r [.int l.v.k], .r [.int l.v.n], .r [.str l.v.s], .r [l.v.fc], .r [slC l.pb (l.pairs.map pairRow)], .r [l.kc]] = some [.r l.norm.row]) (v3 : Row) (v4 : Int) (v5 : List UInt8) (v6 : List UInt8) (v7 : Int) (v8 : Int) (v9 : Int) (v10 : Int) (v11 : Int) (v12 : Int) (v13 : List UInt8) (v14 : C) (v15 : C) (v16 : C) : ∀ (j i : Nat), i + j = ls.length →
    lens_Copy_i0_l1 (lim T) (slC b (ls.map Lns.row)) (ls.length : Int) (i : Int) v3 v4 v5 v6 v7 v8 v9 v10 v11 v12 v13 v14 v15 v16 (slC true ((ls.take i).map fun l => l.norm.row)) = some (0, [.r v3, .r [.int v4], .r [.str v5], .r [.str v6], .r [.int v7], .r [.int v8], .r [.int v9], .r [.int v10], .r [.int v11], .r [.int v12], .r [.str v13], .r [v14], .r [v15], .r [v16], .r [slC true (ls.map fun l => l.norm.row)]])
  | 0, i, h => by
    rw [lens_Copy_i0_l1_eq]
    unfold lens_Copy_i0_b1
    have : ¬ (i : Int) < (ls.length : Int) := by omega
    rw [List.take_of_length_le (by omega)]
    simp only [this, decide_false, Bool.false_eq_true, if_false]
  | j + 1, i, h => by
    rw [lens_Copy_i0_l1_eq]
    unfold lens_Copy_i0_b1
    have hpl := Lns.bulks_len ls
    have h1 : i < ls.length := by omega
    have ih := lcopy_l1 b ls hN hc v3 v4 v5 v6 v7 v8 v9 v10 v11 v12 v13 v14 v15 v16 j (i + 1) (by omega)
    have s1 := hc _ (List.getElem_mem h1)
    have g1 : (i : Int) < (ls.length : Int) := by omega
    have g0 : (0 : Int) ≤ (i : Int) := by omega
    have hi : min i ls.length = i := by omega
    have g3 : (i + 1) * 200 ≤ 140737488355328 := by unfold big at hN; omega
    simp only [slC_rows, rowsAt_map, List.length_map, Int.toNat_natCast, h1, at_lns0, at_lns1, at_lns2, at_lns3, at_lns4, at_lns5, at_lns6, at_lns7, at_lns8, at_lns9, at_lns10, at_lns11, at_lns12, at_lns13, toI_int, toS_str, s1, wrap_nat (show i ≤ big by omega), g1, g0, decide_true, and_self, if_true, Option.bind_some, hd_r, List.length_take, hi, List.length_cons, List.length_nil, Nat.zero_add, g3, appC_true]
    rw [show ((ls.take i).map (fun l => l.norm.row) ++ [ls[i].norm.row]) = (ls.take (i + 1)).map (fun l => l.norm.row) by rw [← take_next ls i h1, List.map_append]; rfl]
    exact ih
theorem norm_row (l : Lns) : l.norm.row = [.int l.op, .str l.name, .str l.to, slC true (l.names.map strRow), .int l.n, .int l.low, .int l.high, .int l.sep, .int l.v.k, .int l.v.n, .str l.v.s, l.v.fc, slC true (l.pairs.map pairRow), slC true (l.kids.map fun l => l.norm.row)] := by
  cases l
  simp only [Lns.norm, Lns.row, Lns.op, Lns.name, Lns.to, Lns.nb, Lns.names, Lns.n, Lns.low, Lns.high, Lns.sep, Lns.v, Lns.pb, Lns.pairs, Lns.kids, Lns.kc, Lns.rowsOf_map, Lns.norms_map, List.map_map]
  rfl
theorem lcopy_spec (l : Lns) (hN : l.bulk ≤ big) : (lim T).ic lens_Copy_i0_n [.r [.int l.op], .r [.str l.name], .r [.str l.to], .r [slC l.nb (l.names.map strRow)], .r [.int l.n], .r [.int l.low], .r [.int l.high], .r [.int l.sep], .r [.int l.v.k], .r [.int l.v.n], .r [.str l.v.s], .r [l.v.fc], .r [slC l.pb (l.pairs.map pairRow)], .r [l.kc]] = some [.r l.norm.row] := by
  have hbe := l.bulk_eq
  have hrec : ∀ k ∈ l.kids, (lim T).ic lens_Copy_i0_n [.r [.int k.op], .r [.str k.name], .r [.str k.to], .r [slC k.nb (k.names.map strRow)], .r [.int k.n], .r [.int k.low], .r [.int k.high], .r [.int k.sep], .r [.int k.v.k], .r [.int k.v.n], .r [.str k.v.s], .r [k.v.fc], .r [slC k.pb (k.pairs.map pairRow)], .r [k.kc]] = some [.r k.norm.row] := by
    intro k hk
    have := Lns.size_lt hk
    have hb := Lns.bulk_kid hk
    exact lcopy_spec k (by omega)
  rw [lens_Copy_i0_ic, norm_row l]
  unfold lens_Copy_i0
  have g1 : l.names.length * 16 ≤ 140737488355328 := by have := strsBulk_len l.names; unfold big at hN; omega
  have hv := copy1_spec l.v (by omega)
  have h0 := fun x3 x4 x5 x6 x7 x8 x9 x10 x11 x12 x13 x14 x15 x16 x17 x18 x19 x20 x21 x22 x23 x24 x25 x26 x27 x28 x29 x31 => lcopy_l0 l.pb l.pairs (by omega) x3 x4 x5 x6 x7 x8 x9 x10 x11 x12 x13 x14 x15 x16 x17 x18 x19 x20 x21 x22 x23 x24 x25 x26 x27 x28 x29 x31 l.pairs.length 0 (by omega)
  have h1 := fun x3 x4 x5 x6 x7 x8 x9 x10 x11 x12 x13 x14 x15 x16 => lcopy_l1 l.kb l.kids (by omega) hrec x3 x4 x5 x6 x7 x8 x9 x10 x11 x12 x13 x14 x15 x16 l.kids.length 0 (by omega)
  simp only [Int.ofNat_zero, Int.natCast_zero, List.take_zero, List.map_nil, slC_nil, ← l.kc_eq] at h0 h1
  simp (maxSteps := 3000000) only [slC_rows, List.length_map, g1, if_true, hv, Option.bind_some, hd_r, at_val0, at_val1, at_val2, at_val3, toI_int, toS_str, appC_nils, h0, List.tail_cons, at_zero, Lns.kc_rows, h1]
  termination_by SizeOf.sizeOf l

/-! lens.Plain, the law -/
theorem plain_spec (k : Int) : (lim T).pc n_lens_Plain [[.int k]] = some [[.bool (k == 1 || (k == 2 || (k == 4 || k == 5)))]] := by
  rw [lens_Plain_pc]
  unfold lens_Plain
  by_cases h1 : k = 1
  · simp [h1]
  · by_cases h2 : k = 2
    · simp [h2]
    · by_cases h3 : k = 4
      · simp [h3]
      · have b1 : (k == 1) = false := by simp [h1]
        have b2 : (k == 2) = false := by simp [h2]
        have b3 : (k == 4) = false := by simp [h3]
        simp [b1, b2, b3]
theorem formed_true : (lim T).pc n_claplaw3_formed [] = some [[.bool true]] := (lim_pc T).2 ⟨40, by kernel_rfl⟩
def dropL : Lns := .mk 4 [98] [] true [] 0 0 0 0 (.mk 2 7 [] true []) true [] true []
theorem drop_row : (lim T).pc n_claplaw3_drop [] = some [dropL.row] := (lim_pc T).2 ⟨10, by kernel_rfl⟩
theorem law (a b : Lns) (k : Int) (ha : a.wf) (hb : b.wf) (hN : a.bulk ≤ big) : (lim T).pc 3 [a.row, b.row, [.int k]] = some [[.bool true]] := by
  have hd := lensEqual_spec dropL dropL (by simp [dropL, Lns.wf, Lns.wfs, Val.wf, Val.wfs, inI64]) (by simp [dropL, Lns.wf, Lns.wfs, Val.wf, Val.wfs, inI64]) (by simp [dropL, Lns.bulk, Lns.bulks, Val.bulk, Val.bulks, strsBulk, pairsBulk, big])
  have hde : dropL.eqv dropL = true := by rfl
  rw [hde] at hd
  rw [show (3 : Nat) = n_claplaw3_LensEquals from rfl, claplaw3_LensEquals_pc]
  unfold claplaw3_LensEquals
  have e1 := lensEqual_spec a b ha hb hN
  have e2 := rEqual_spec a b hN
  have e3 := lcopy_spec a hN
  have e4 : (lim T).pc n_clapref3_Equal [a.norm.row, a.row] = some [[.bool true]] := by
    rw [rEqual_spec a.norm a (by rw [norm_bulk]; exact hN), a.norm_eqv]
  simp only [at_lns0, at_lns1, at_lns2, at_lns3, at_lns4, at_lns5, at_lns6, at_lns7, at_lns8, at_lns9, at_lns10, at_lns11, at_lns12, at_lns13, toI_int, toS_str, formed_true, drop_row, hd, Option.bind_some, rowsAt_zero, at_zero, toB_bool, Bool.not_true, Bool.false_eq_true, if_false, hd_r, List.tail_cons]
  have step : ∀ (c : Bool), c = (k == 1 || (k == 2 || (k == 4 || k == 5))) → ((lim T).pc n_lens_Plain [[.int k]]).bind (fun y11 => some [[C.bool (((at_ (rowsAt y11 0) 0).toB) == c)]]) = some [[C.bool true]] := by
    rintro c rfl
    rw [plain_spec]
    simp
  by_cases h1 : k = 1
  · subst h1
    simp only [beq_self_eq_true, if_true, Option.bind_some, hd_r, List.tail_cons, at_zero, toI_int, toS_str, toB_bool, isDp_dp, dpRow_dp, lns_fold, e1, e2, e3, e4, rowsAt_zero]
    exact step true (by rfl)
  · have b1 : (k == 1) = false := by simp [h1]
    by_cases h2 : k = 2
    · subst h2
      simp only [b1, Bool.false_eq_true, if_false, beq_self_eq_true, if_true, Option.bind_some, hd_r, List.tail_cons, at_zero, toI_int, toS_str, toB_bool, isDp_dp, dpRow_dp, lns_fold, e1, e2, e3, e4, rowsAt_zero]
      exact step true (by rfl)
    · have b2 : (k == 2) = false := by simp [h2]
      by_cases h3 : k = 4
      · subst h3
        simp only [b1, b2, Bool.false_eq_true, if_false, beq_self_eq_true, if_true, Option.bind_some, hd_r, List.tail_cons, at_zero, toI_int, toS_str, toB_bool, isDp_dp, dpRow_dp, lns_fold, e1, e2, e3, e4, rowsAt_zero]
        exact step true (by rfl)
      · have b3 : (k == 4) = false := by simp [h3]
        simp only [b1, b2, b3, Bool.false_eq_true, if_false, beq_self_eq_true, if_true, Option.bind_some, hd_r, List.tail_cons, at_zero, toI_int, toS_str, toB_bool, isDp_dp, dpRow_dp, lns_fold, e1, e2, e3, e4, rowsAt_zero]
        exact step (k == 5) (by rw [b1, b2, b3]; simp)
end Go.Ev.Zza
