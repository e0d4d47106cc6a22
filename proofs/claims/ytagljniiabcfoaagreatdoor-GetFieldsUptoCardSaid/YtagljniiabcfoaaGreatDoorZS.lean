/-
  A part of the proof: what the functions of the program compute.
-/
import Derived.Test.YtagljniiabcfoaaGreatDoorZEq
import Derived.Test.YtagljniiabcfoaaGreatDoorEvDa
set_option linter.all false
set_option maxRecDepth 100000
namespace Go.Ev.Zzg
/-- It answers, and the answer is as Q says. -/
def Tot {β : Type} (Q : β → Prop) (x : Option β) : Prop := ∃ r, x = some r ∧ Q r
theorem Tot.some {β : Type} {Q : β → Prop} {r : β} (h : Q r) : Tot Q (some r) := ⟨r, rfl, h⟩
theorem Tot.bind {α β : Type} {R : α → Prop} {Q : β → Prop} {x : Option α} {f : α → Option β} (h : Tot R x) (k : ∀ r, R r → Tot Q (f r)) : Tot Q (x.bind f) := by
  obtain ⟨r, rfl, hr⟩ := h
  exact k r hr
theorem Tot.eqbind {α β : Type} {Q : β → Prop} {x : Option α} {y : α} {f : α → Option β} (h : x = Option.some y) (k : Tot Q (f y)) : Tot Q (x.bind f) := by rw [h]; exact k
theorem Tot.ite {β : Type} {c : Prop} [Decidable c] {Q : β → Prop} {x y : Option β} (h : c → Tot Q x) (k : ¬ c → Tot Q y) : Tot Q (if c then x else y) := by
  split
  · exact h ‹_›
  · exact k ‹_›
theorem Tot.pos {β : Type} {c : Prop} [Decidable c] {Q : β → Prop} {x y : Option β} (h : c) (k : Tot Q x) : Tot Q (if c then x else y) := by rw [if_pos h]; exact k
theorem Tot.mono {β : Type} {R Q : β → Prop} {x : Option β} (h : Tot R x) (k : ∀ r, R r → Q r) : Tot Q x := by
  obtain ⟨r, h1, h2⟩ := h; exact ⟨r, h1, k r h2⟩
/-- Numbers that no sum of ours passes. -/
abbrev big : Nat := 4294967296
theorem inI_of {i : Nat} (h : i ≤ big) : inI64 ((i : Int) + 1) := by unfold big at h; exact ⟨by omega, by omega⟩
theorem wrap_nat {i : Nat} (h : i ≤ big) : IntKind.wrap .i64 ((i : Int) + 1) = ((i + 1 : Nat) : Int) := by rw [wrap_i64 (inI_of h)]; omega

/-! cmp -/
theorem isNaN_int (a : Int) : (lim T).pc n_cmp_isNaN_int [[.int a]] = some [[.bool false]] := by
  rw [cmp_isNaN_int_pc]; simp [cmp_isNaN_int]
theorem compare_int (a b : Int) : (lim T).pc n_cmp_Compare_int [[.int a], [.int b]] = some [[.int (cmpI a b)]] := by
  rw [cmp_Compare_int_pc]
  unfold cmp_Compare_int cmpI
  simp only [isNaN_int, Option.bind_some, rowsAt_zero, at_zero, toB_bool, Bool.false_eq_true, if_false, decide_eq_true_eq]
  split
  · rfl
  · split <;> rfl
theorem compare_str (a b : Bytes) : (lim T).pc n_strings_Compare [[.str a], [.str b]] = some [[.int (cmpBytes a b)]] := by
  rw [strings_Compare_pc]
  unfold strings_Compare
  rw [internal_bytealg_CompareString_pc]
  simp [internal_bytealg_CompareString]
def intRow (n : Int) : Row := [.int n]
theorem or_int_l (l : List Int) (hN : l.length ≤ big) : ∀ (j i : Nat), i + j = l.length →
    cmp_Or_int_l0 (lim T) 0 (.sl (l.map intRow)) (l.length : Int) (i : Int) = if orI (l.drop i) = 0 then some (0, [.r [.int 0]]) else some (1, [.r [.int (orI (l.drop i))]])
  | 0, i, h => by
    rw [cmp_Or_int_l0_eq]
    unfold cmp_Or_int_b0
    have : ¬ (i : Int) < (l.length : Int) := by omega
    rw [List.drop_eq_nil_of_le (by omega)]
    simp [this, orI]
  | j + 1, i, h => by
    rw [cmp_Or_int_l0_eq]
    unfold cmp_Or_int_b0
    have h1 : i < l.length := by omega
    have ih := or_int_l l hN j (i + 1) (by omega)
    rw [List.drop_eq_getElem_cons h1]
    simp only [rows_sl, rowsAt_map, List.length_map, Int.toNat_natCast, h1, wrap_nat (show i ≤ big by omega), ih, orI, intRow, at_zero, toI_int]
    have g1 : (i : Int) < (l.length : Int) := by omega
    have g0 : (0 : Int) ≤ (i : Int) := by omega
    simp only [g1, g0, decide_true, and_self, if_true]
    by_cases hc : l[i] = 0 <;> simp [hc]
theorem or_int (l : List Int) (hN : l.length ≤ big) : (lim T).pc n_cmp_Or_int [[.sl (l.map intRow)]] = some [[.int (orI l)]] := by
  rw [cmp_Or_int_pc]
  unfold cmp_Or_int
  simp only [rows_sl, List.length_map]
  have := or_int_l l hN l.length 0 (by omega)
  simp only [Int.ofNat_zero, Int.natCast_zero] at this
  rw [this, List.drop_zero]
  by_cases h : orI l = 0 <;> simp [h]
theorem order_spec (n : Int) (h : inI64 n) : (lim T).pc n_value_order [[.int n]] = some [[.int (ordI n)]] := by
  rw [value_order_pc]
  unfold value_order ordI
  by_cases hn : n < 0
  · have h' := h
    obtain ⟨h1, h2⟩ := h'
    simp only [hn, decide_true, if_true, and_max h hn]
    rw [wrap_i64 ⟨by omega, by omega⟩]
  · simp only [hn, decide_false, Bool.false_eq_true, if_false]

/-! slices.CompareFunc of fields, value.Cmp -/
theorem compare_flds_l (b b' : Bool) (l r : List (Bytes × Val)) (hN : l.length ≤ big) (hc : ∀ p ∈ l, ∀ q ∈ r, (lim T).pc n_value_Cmp_1 [fldRow p, fldRow q] = some [[.int (fldCmp p q)]]) : ∀ (j i : Nat), i + j = l.length → i ≤ r.length →
    slices_CompareFunc_api_Field_l0 (lim T) (slC b (l.map fldRow)) (slC b' (r.map fldRow)) (.fn n_value_Cmp_1 []) (slC b (l.map fldRow)) (l.length : Int) (i : Int) =
      if lexL fldCmp (l.drop i) (r.drop i) = 0 then some (0, [.r [slC b (l.map fldRow)], .r [slC b' (r.map fldRow)]]) else some (1, [.r [.int (lexL fldCmp (l.drop i) (r.drop i))]])
  | 0, i, h, _ => by
    rw [slices_CompareFunc_api_Field_l0_eq]
    unfold slices_CompareFunc_api_Field_b0
    have : ¬ (i : Int) < (l.length : Int) := by omega
    rw [List.drop_eq_nil_of_le (by omega)]
    simp [this, lexL]
  | j + 1, i, h, hir => by
    rw [slices_CompareFunc_api_Field_l0_eq]
    unfold slices_CompareFunc_api_Field_b0
    have h1 : i < l.length := by omega
    have g1 : (i : Int) < (l.length : Int) := by omega
    have g0 : (0 : Int) ≤ (i : Int) := by omega
    rw [List.drop_eq_getElem_cons h1]
    by_cases h2 : i < r.length
    · have ih := compare_flds_l b b' l r hN hc j (i + 1) (by omega) (by omega)
      rw [List.drop_eq_getElem_cons h2]
      have g2 : (i : Int) < (r.length : Int) := by omega
      have g3 : ¬ (i : Int) ≥ (r.length : Int) := by omega
      have hcc := hc l[i] (List.getElem_mem h1) r[i] (List.getElem_mem h2)
      have hcc' : callC (lim T) (.fn n_value_Cmp_1 []) [fldRow l[i], fldRow r[i]] = some [[.int (fldCmp l[i] r[i])]] := hcc
      simp only [slC_rows, rowsAt_map, List.length_map, Int.toNat_natCast, h1, h2, wrap_nat (show i ≤ big by omega), ih, lexL, g1, g2, g0, g3, decide_true, decide_false, Bool.false_eq_true, if_false, and_self, if_true, hcc', Option.bind_some, rowsAt_zero, at_zero, toI_int]
      by_cases hz : fldCmp l[i] r[i] = 0 <;> simp [hz]
    · have g3 : (i : Int) ≥ (r.length : Int) := by omega
      rw [List.drop_eq_nil_of_le (show r.length ≤ i by omega)]
      simp only [slC_rows, List.length_map, g1, g0, g3, decide_true, and_self, if_true, lexL]
      simp
theorem compare_flds (b b' : Bool) (l r : List (Bytes × Val)) (hN : l.length ≤ big) (hc : ∀ p ∈ l, ∀ q ∈ r, (lim T).pc n_value_Cmp_1 [fldRow p, fldRow q] = some [[.int (fldCmp p q)]]) :
    (lim T).pc n_slices_CompareFunc_api_Field [[slC b (l.map fldRow)], [slC b' (r.map fldRow)], [.fn n_value_Cmp_1 []]] = some [[.int (lexI fldCmp l r)]] := by
  rw [slices_CompareFunc_api_Field_pc]
  unfold slices_CompareFunc_api_Field
  have := compare_flds_l b b' l r hN hc l.length 0 (by omega) (by omega)
  simp only [Int.ofNat_zero, Int.natCast_zero, List.drop_zero] at this
  simp only [slC_rows, List.length_map]
  rw [this, lexI_lexL]
  by_cases h : lexL fldCmp l r = 0
  · by_cases h' : l.length < r.length <;> simp [h, h']
  · simp [h]

/-- value.Cmp -/
theorem cmp_spec (v w : Val) (hv : v.wf) (hw : w.wf) (hN : v.bulk ≤ big) : (lim T).pc n_value_Cmp [v.row, w.row] = some [[.int (v.cmp w)]] := by
  have hrec : ∀ p ∈ v.fs, ∀ q ∈ w.fs, (lim T).pc n_value_Cmp_1 [fldRow p, fldRow q] = some [[.int (fldCmp p q)]] := by
    intro p hp q hq
    have := Val.size_lt hp
    have hb := Val.bulk_mem hp
    have ih := cmp_spec p.2 q.2 (Val.wf_mem hv hp) (Val.wf_mem hw hq) (by omega)
    rw [value_Cmp_1_pc]
    unfold value_Cmp_1
    have ho := or_int [cmpBytes p.1 q.1, p.2.cmp q.2] (by simp [big])
    simp only [List.map_cons, List.map_nil, intRow] at ho
    simp only [at_fld0, at_fld1, at_fld2, at_fld3, at_fld4, toS_str, val_fold, compare_str, ih, Option.bind_some, rowsAt_zero, at_zero, toI_int, ho, fldCmp]
  rw [value_Cmp_pc]
  unfold value_Cmp
  have hf := compare_flds v.nil w.nil v.fs w.fs (by have := v.bulk_len; omega) hrec
  rw [← v.fc_eq, ← w.fc_eq] at hf
  have ho := or_int [cmpI v.k w.k, cmpI (if v.k = 3 then ordI v.n else v.n) (if v.k = 3 then ordI w.n else w.n), cmpBytes v.s w.s] (by simp [big])
  simp only [List.map_cons, List.map_nil, intRow] at ho
  rw [v.cmp_eq]
  by_cases k3 : v.k = 3
  · simp only [k3, if_true] at ho
    simp only [at_val0, at_val1, at_val2, at_val3, toI_int, toS_str, k3, beq_self_eq_true, if_true, order_spec _ (Val.wf_n hv), order_spec _ (Val.wf_n hw), Option.bind_some, rowsAt_zero, at_zero, gR_s, gC_s, gI_s, gB_s, gS_s, gM_s, gR_z, gC_z, gI_z, gB_z, gS_z, gM_z, hd_r, List.tail_cons, isDp_dp, dpRow_dp, compare_int, compare_str, ho, hf]
    generalize orI _ = c
    by_cases hc : c = 0 <;> simp [hc]
  · simp only [k3, if_false] at ho
    have k3' : (v.k == 3) = false := by simp [k3]
    simp only [at_val0, at_val1, at_val2, at_val3, toI_int, toS_str, k3, k3', Bool.false_eq_true, if_false, Option.bind_some, rowsAt_zero, at_zero, gR_s, gC_s, gI_s, gB_s, gS_s, gM_s, gR_z, gC_z, gI_z, gB_z, gS_z, gM_z, hd_r, List.tail_cons, isDp_dp, dpRow_dp, compare_int, compare_str, ho, hf, if_true]
    generalize orI _ = c
    by_cases hc : c = 0 <;> simp [hc]
  termination_by SizeOf.sizeOf v
theorem same_spec (v w : Val) (hv : v.wf) (hw : w.wf) (hN : v.bulk ≤ big) : (lim T).pc n_value_Same [v.row, w.row] = some [[.bool (v.eqv w)]] := by
  rw [value_Same_pc]
  unfold value_Same
  simp only [cmp_spec v w hv hw hN, Option.bind_some, rowsAt_zero, at_zero, toI_int]
  have := Val.cmp_zero v w hv hw
  cases he : v.eqv w with
  | true => rw [this.2 he]; rfl
  | false =>
    have hne : ¬ v.cmp w = 0 := fun h => by rw [this.1 h] at he; cases he
    simp [hne]
end Go.Ev.Zzg
namespace Go.Ev.Zzg
/-! value.Copy -/
theorem clone_spec (v : Val) (hN : v.bulk ≤ big) : (lim T).ic slices_Clone_api_Field_i1_n [.r [v.fc]] = some [.r [v.fc]] := by
  rw [slices_Clone_api_Field_i1_ic]
  unfold slices_Clone_api_Field_i1
  rw [Val.fc_eq, slC_rows]
  have hl := v.bulk_len
  cases hn : v.nil with
  | true =>
    cases hf : v.fs with
    | nil => simp [slC, C.isNil]
    | cons p r =>
      rw [hf] at hl
      have : (0 + (r.length + 1)) * 72 ≤ 140737488355328 := by simp only [List.length_cons] at hl; unfold big at hN; omega
      simp [slC, C.isNil, appC, this]
      omega
  | false =>
    have : (0 + v.fs.length) * 72 ≤ 140737488355328 := by unfold big at hN; omega
    simp [slC_false, C.isNil, appC]
    omega
theorem putRow (p : Bytes × Val) : put (fldRow p) 1 4 p.2.row 0 5 = fldRow p := rfl
theorem set_same {α : Type} (l : List α) (i : Nat) (h : i < l.length) : l.set i l[i] = l := by simp
theorem copy_l1 (v : Val) (x y : Int) (s : Bytes) (r : Row) (b : Bool) (hN : v.fs.length ≤ big) (hc : ∀ p ∈ v.fs, (lim T).ic value_Copy_i2_n [.r p.2.row] = some [.r p.2.row]) : ∀ (j i : Nat), i + j = v.fs.length → 
    value_Copy_i0_l0 (lim T) (v.fs.length : Int) (i : Int) x y s r v.fc = some (0, [.r [.int x], .r [.int y], .r [.str s], .r r, .r [v.fc]])
  | 0, i, h => by
    rw [value_Copy_i0_l0_eq]
    unfold value_Copy_i0_b0
    have : ¬ (i : Int) < (v.fs.length : Int) := by omega
    simp [this]
  | j + 1, i, h => by
    rw [value_Copy_i0_l0_eq]
    unfold value_Copy_i0_b0
    have h1 : i < v.fs.length := by omega
    have ih := copy_l1 v x y s r b hN hc j (i + 1) (by omega)
    have hcc := hc _ (List.getElem_mem h1)
    have g1 : (i : Int) < (v.fs.length : Int) := by omega
    have g0 : (0 : Int) ≤ (i : Int) := by omega
    have hne : C.sl (v.fs.map fldRow) = v.fc := by
      rw [v.fc_eq]
      cases hf : v.fs with
      | nil => rw [hf] at h1; simp at h1
      | cons p r => cases v.nil <;> rfl
    have hset : (v.fs.map fldRow).set i (fldRow v.fs[i]) = v.fs.map fldRow := by
      rw [show fldRow v.fs[i] = (v.fs.map fldRow)[i]'(by simpa using h1) by simp]
      exact set_same _ _ _
    simp only [Val.fc_rows, rowsAt_map, List.length_map, Int.toNat_natCast, h1, at_fld1, at_fld2, at_fld3, at_fld4, val_fold, hcc, wrap_nat (show i ≤ big by omega), g1, g0, decide_true, and_self, if_true, Option.bind_some, gR_s, gC_s, gI_s, gB_s, gS_s, gM_s, gR_z, gC_z, gI_z, gB_z, gS_z, gM_z, hd_r, putRow, hset, hne, ih]
theorem copy_l3 (v : Val) (x y : Int) (s : Bytes) (r : Row) (b : Bool) (hN : v.fs.length ≤ big) (hc : ∀ p ∈ v.fs, (lim T).ic value_Copy_i2_n [.r p.2.row] = some [.r p.2.row]) : ∀ (j i : Nat), i + j = v.fs.length → 
    value_Copy_i2_l0 (lim T) (v.fs.length : Int) (i : Int) x y s r v.fc = some (0, [.r [.int x], .r [.int y], .r [.str s], .r r, .r [v.fc]])
  | 0, i, h => by
    rw [value_Copy_i2_l0_eq]
    unfold value_Copy_i2_b0
    have : ¬ (i : Int) < (v.fs.length : Int) := by omega
    simp [this]
  | j + 1, i, h => by
    rw [value_Copy_i2_l0_eq]
    unfold value_Copy_i2_b0
    have h1 : i < v.fs.length := by omega
    have ih := copy_l3 v x y s r b hN hc j (i + 1) (by omega)
    have hcc := hc _ (List.getElem_mem h1)
    have g1 : (i : Int) < (v.fs.length : Int) := by omega
    have g0 : (0 : Int) ≤ (i : Int) := by omega
    have hne : C.sl (v.fs.map fldRow) = v.fc := by
      rw [v.fc_eq]
      cases hf : v.fs with
      | nil => rw [hf] at h1; simp at h1
      | cons p r => cases v.nil <;> rfl
    have hset : (v.fs.map fldRow).set i (fldRow v.fs[i]) = v.fs.map fldRow := by
      rw [show fldRow v.fs[i] = (v.fs.map fldRow)[i]'(by simpa using h1) by simp]
      exact set_same _ _ _
    simp only [Val.fc_rows, rowsAt_map, List.length_map, Int.toNat_natCast, h1, at_fld1, at_fld2, at_fld3, at_fld4, val_fold, hcc, wrap_nat (show i ≤ big by omega), g1, g0, decide_true, and_self, if_true, Option.bind_some, gR_s, gC_s, gI_s, gB_s, gS_s, gM_s, gR_z, gC_z, gI_z, gB_z, gS_z, gM_z, hd_r, putRow, hset, hne, ih]
theorem copy3_spec (v : Val) (hN : v.bulk ≤ big) : (lim T).ic value_Copy_i2_n [.r v.row] = some [.r v.row] := by
  have hrec : ∀ p ∈ v.fs, (lim T).ic value_Copy_i2_n [.r p.2.row] = some [.r p.2.row] := by
    intro p hp
    have := Val.size_lt hp
    have hb := Val.bulk_mem hp
    exact copy3_spec p.2 (by omega)
  rw [value_Copy_i2_ic]
  unfold value_Copy_i2
  have hl := copy_l3 v v.k v.n v.s [.int 0, .int 0, .str [], .nils] true (by have := v.bulk_len; omega) hrec v.fs.length 0 (by omega)
  simp only [Int.ofNat_zero, Int.natCast_zero] at hl
  simp only [at_val0, at_val1, at_val2, at_val3, toI_int, toS_str, clone_spec v hN, Option.bind_some, gR_s, gC_s, gI_s, gB_s, gS_s, gM_s, gR_z, gC_z, gI_z, gB_z, gS_z, gM_z, hd_r, at_zero, Val.fc_rows, List.length_map, hl, List.tail_cons, val_fold]
  termination_by SizeOf.sizeOf v
theorem copy1_spec (v : Val) (hN : v.bulk ≤ big) : (lim T).ic value_Copy_i0_n [.r [.int v.k], .r [.int v.n], .r [.str v.s], .r [v.fc]] = some [.r v.row] := by
  rw [value_Copy_i0_ic]
  unfold value_Copy_i0
  have hl := copy_l1 v v.k v.n v.s [.int 0, .int 0, .str [], .nils] true (by have := v.bulk_len; omega) (fun p hp => copy3_spec p.2 (by have := Val.bulk_mem hp; omega)) v.fs.length 0 (by omega)
  simp only [Int.ofNat_zero, Int.natCast_zero] at hl
  simp only [clone_spec v hN, Option.bind_some, gR_s, gC_s, gI_s, gB_s, gS_s, gM_s, gR_z, gC_z, gI_z, gB_z, gS_z, gM_z, hd_r, at_zero, Val.fc_rows, List.length_map, hl, List.tail_cons, toI_int, toS_str, val_fold]

theorem Tot.eq {β : Type} {x : Option β} {y : β} (h : Tot (fun r => r = y) x) : x = Option.some y := by
  obtain ⟨r, e, rfl⟩ := h; exact e
theorem dec_lt {i n : Nat} (h : i < n) : decide ((i : Int) < (n : Int)) = true := decide_eq_true (by omega)
theorem dec_ge {n : Nat} : ¬ decide ((n : Int) < (n : Int)) = true := by simp
theorem ix_ok {i : Nat} {rows : List Row} (h : i < rows.length) : (0 : Int) ≤ (i : Int) ∧ (i : Int) < (rows.length : Int) := ⟨by omega, by omega⟩
/-! finding fields -/
def fIdx (s : Bytes) : List (Bytes × Val) → Nat → Int
  | [], _ => -1
  | p :: r, i => if p.1 == s then (i : Int) else fIdx s r (i + 1)
theorem index_l (v : Val) (s : Bytes) (hN : v.fs.length ≤ big) : ∀ (j i : Nat), i + j = v.fs.length →
    slices_IndexFunc_api_Field_l0 (lim T) v.fc (.fn n_get_Find_1 [.dp [.str s]]) (v.fs.length : Int) (i : Int) = some (if fIdx s (v.fs.drop i) i = -1 then (0, []) else (1, [.r [.int (fIdx s (v.fs.drop i) i)]]))
  | 0, i, h => by
    rw [slices_IndexFunc_api_Field_l0_eq]; unfold slices_IndexFunc_api_Field_b0
    obtain rfl : i = v.fs.length := by omega
    rw [List.drop_length]
    exact Tot.eq (.ite (fun h => absurd h dec_ge) fun _ => .some rfl)
  | j + 1, i, h => by
    rw [slices_IndexFunc_api_Field_l0_eq]; unfold slices_IndexFunc_api_Field_b0
    have hi : i < v.fs.length := by omega
    have ih := index_l v s hN j (i + 1) (by omega)
    refine Tot.eq (.pos (dec_lt hi) (.pos (ix_ok (by rw [Val.fc_rows, List.length_map]; exact hi)) ?_))
    rw [show rowsAt v.fc.rows (i : Int).toNat = fldRow v.fs[i] from (by rw [Val.fc_rows, Int.toNat_natCast]; exact rowsAt_map _ _ _ hi), List.drop_eq_getElem_cons hi, fIdx, wrap_nat (show i ≤ big by omega), ih]
    have e : callC (lim T) (.fn n_get_Find_1 [.dp [.str s]]) [fldRow v.fs[i]] = some [[.bool (v.fs[i].1 == s)]] := by
      show (lim T).pc n_get_Find_1 [fldRow v.fs[i], [.dp [.str s]]] = _
      rw [get_Find_1_pc]; unfold get_Find_1
      rfl
    refine .eqbind e ?_
    simp only [rowsAt_zero, at_zero, toB_bool]
    cases v.fs[i].1 == s with
    | true =>
      simp only [if_true]
      rw [if_neg (show ¬ (i : Int) = -1 by omega)]
      exact .some rfl
    | false => simp only [Bool.false_eq_true, if_false]; exact .some rfl
theorem find_spec (v : Val) (s : Bytes) (hN : v.bulk ≤ big) : (lim T).pc n_get_Find [v.row, [.str s]] = some [[.int (fIdx s v.fs 0)]] := by
  rw [get_Find_pc]; unfold get_Find
  rw [at_val3]
  have hl := index_l v s (by have := v.bulk_len; omega) v.fs.length 0 (by omega)
  rw [List.drop_zero, show ((0 : Nat) : Int) = 0 from rfl] at hl
  have : (lim T).pc n_slices_IndexFunc_api_Field [[v.fc], [.fn n_get_Find_1 [.dp [.str s]]]] = some [[.int (fIdx s v.fs 0)]] := by
    rw [slices_IndexFunc_api_Field_pc]; unfold slices_IndexFunc_api_Field
    rw [Val.fc_rows, List.length_map, hl]
    by_cases h : fIdx s v.fs 0 = -1
    · simp [h]
    · simp [h]
  rw [this]
  rfl
/-! value.Get -/
theorem get_l (v : Val) (s : Bytes) (hN : v.bulk ≤ big) (z : Row) : ∀ (j i : Nat), i + j = v.fs.length →
    Tot (fun r => r = (0, [.r z]) ∨ ∃ p ∈ v.fs, r = (1, [.r [.bool true], .r p.2.row])) (value_Get_l0 (lim T) s (.dp v.row) v.fc (v.fs.length : Int) (i : Int) z)
  | 0, i, h => by
    rw [value_Get_l0_eq]; unfold value_Get_b0
    obtain rfl : i = v.fs.length := by omega
    exact .ite (fun h => absurd h dec_ge) fun _ => .some (.inl rfl)
  | j + 1, i, h => by
    rw [value_Get_l0_eq]; unfold value_Get_b0
    have hi : i < v.fs.length := by omega
    have hl := v.bulk_len
    have ih := get_l v s hN z j (i + 1) (by omega)
    refine .pos (dec_lt hi) (.pos (ix_ok (by rw [Val.fc_rows, List.length_map]; exact hi)) ?_)
    rw [show rowsAt v.fc.rows (i : Int).toNat = fldRow v.fs[i] from (by rw [Val.fc_rows, Int.toNat_natCast]; exact rowsAt_map _ _ _ hi), wrap_nat (show i ≤ big by omega)]
    have hc := copy1_spec v.fs[i].2 (by have := Val.bulk_mem (List.getElem_mem hi); omega)
    have k : ∀ q : Bool, Tot (fun r => r = (0, [.r z]) ∨ ∃ p ∈ v.fs, r = (1, [.r [.bool true], .r p.2.row])) (if q = true then ((lim T).ic value_Copy_i0_n [.r [.int v.fs[i].2.k], .r [.int v.fs[i].2.n], .r [.str v.fs[i].2.s], .r [v.fs[i].2.fc]]).bind fun y3 => some ((1 : Nat), ([.r [.bool true], .r (gR 0 y3)] : List PV)) else value_Get_l0 (lim T) s (.dp v.row) v.fc (v.fs.length : Int) ((i + 1 : Nat) : Int) z) := by
      intro q
      refine .ite (fun _ => ?_) fun _ => ih
      exact .eqbind hc (.some (.inr ⟨v.fs[i], List.getElem_mem hi, rfl⟩))
    exact .ite (fun _ => .pos rfl (k _)) fun _ => k _
def zeroV : Val := .mk 0 0 [] true []
theorem get_spec (v : Val) (s : Bytes) (hw : v.wf) (hN : v.bulk ≤ big) : ∃ (u : Val) (ok : Bool), u.wf ∧ u.bulk ≤ big ∧ (lim T).pc n_value_Get [v.row, [.str s]] = some [u.row, [.bool ok]] := by
  have : Tot (fun r => ∃ (u : Val) (ok : Bool), u.wf ∧ u.bulk ≤ big ∧ r = [u.row, [.bool ok]]) ((lim T).pc n_value_Get [v.row, [.str s]]) := by
    rw [value_Get_pc]; unfold value_Get
    rw [at_val3, Val.fc_rows, List.length_map]
    refine .bind (get_l v s hN _ v.fs.length 0 (by omega)) ?_
    rintro r (rfl | ⟨p, hp, rfl⟩)
    · exact .some ⟨zeroV, false, by simp [zeroV, Val.wf, Val.wfs, inI64], by simp [zeroV, Val.bulk, Val.bulks, big], rfl⟩
    · exact .some ⟨p.2, true, Val.wf_mem hw hp, by have := Val.bulk_mem hp; omega, rfl⟩
  obtain ⟨r, e, u, ok, h1, h2, rfl⟩ := this
  exact ⟨u, ok, h1, h2, e⟩
/-! the law -/
theorem seen_true : (lim T).pc n_claplaw3_seen [] = some [[.bool true]] := (lim_pc T).2 ⟨60, by kernel_rfl⟩
theorem rec_true : (lim T).pc n_claplaw3_rec [[.int 1], [.int 2]] = some [(Val.mk 6 0 [] false [([97], .mk 2 1 [] true []), ([98], .mk 2 2 [] true [])]).row] := (lim_pc T).2 ⟨20, by kernel_rfl⟩
theorem law_l1 (p0 v : Val) (l : Lns) (s : Bytes) (a : Int) (ha : 0 ≤ a) (hN : v.fs.length ≤ big) : ∀ (j i : Nat), i + j = v.fs.length →
    claplaw3_GetFields_l0 (lim T) s (.dp l.row) (.dp v.row) a v.fc (v.fs.length : Int) (i : Int) = some (0, [.r [.str s], .r [.dp l.row], .r [.dp v.row], .r [.int a]])
  | 0, i, h => by
    rw [claplaw3_GetFields_l0_eq]; unfold claplaw3_GetFields_b0
    obtain rfl : i = v.fs.length := by omega
    exact Tot.eq (.ite (fun h => absurd h dec_ge) fun _ => .some rfl)
  | j + 1, i, h => by
    rw [claplaw3_GetFields_l0_eq]; unfold claplaw3_GetFields_b0
    have hi : i < v.fs.length := by omega
    have ih := law_l1 p0 v l s a ha hN j (i + 1) (by omega)
    refine Tot.eq (.pos (dec_lt hi) (.pos (ix_ok (by rw [Val.fc_rows, List.length_map]; exact hi)) ?_))
    have hd : decide (a < 0) = false := decide_eq_false (by omega)
    rw [wrap_nat (show i ≤ big by omega), ih, hd]
    exact .ite (fun _ => .some rfl) fun _ => .some rfl
theorem law_l (v : Val) (l : Lns) (s : Bytes) (hN : v.fs.length ≤ big) : ∀ (j i : Nat), i + j = v.fs.length →
    claplaw3_GetFields_l0 (lim T) s (.dp l.row) (.dp v.row) (-1) v.fc (v.fs.length : Int) (i : Int) = some (0, [.r [.str s], .r [.dp l.row], .r [.dp v.row], .r [.int (fIdx s (v.fs.drop i) i)]])
  | 0, i, h => by
    rw [claplaw3_GetFields_l0_eq]; unfold claplaw3_GetFields_b0
    obtain rfl : i = v.fs.length := by omega
    rw [List.drop_length]
    exact Tot.eq (.ite (fun h => absurd h dec_ge) fun _ => .some rfl)
  | j + 1, i, h => by
    rw [claplaw3_GetFields_l0_eq]; unfold claplaw3_GetFields_b0
    have hi : i < v.fs.length := by omega
    have ih := law_l v l s hN j (i + 1) (by omega)
    refine Tot.eq (.pos (dec_lt hi) (.pos (ix_ok (by rw [Val.fc_rows, List.length_map]; exact hi)) ?_))
    have l1 := law_l1 v v l s (i : Int) (by omega) hN j (i + 1) (by omega)
    rw [show rowsAt v.fc.rows (i : Int).toNat = fldRow v.fs[i] from (by rw [Val.fc_rows, Int.toNat_natCast]; exact rowsAt_map _ _ _ hi), wrap_nat (show i ≤ big by omega), List.drop_eq_getElem_cons hi, fIdx, at_fld0, toS_str]
    cases v.fs[i].1 == s with
    | true =>
      simp only [if_true]
      rw [l1]; exact .some rfl
    | false => simp only [Bool.false_eq_true, if_false]; exact ⟨_, ih, rfl⟩
/-- The law. -/
theorem law (l : Lns) (v : Val) (s : Bytes) (hl : l.wf) (hv : v.wf) (hb : l.bulk + v.bulk ≤ big) : (lim T).pc 3 [l.row, v.row, [.str s]] = some [[.bool true]] := by
  refine (claplaw3_GetFields_pc l.row v.row s).trans ?_
  unfold claplaw3_GetFields
  have hvb : v.bulk ≤ big := by omega
  have hf1 := find_spec (Val.mk 6 0 [] false [([97], .mk 2 1 [] true []), ([98], .mk 2 2 [] true [])]) [98] (by simp [Val.bulk, Val.bulks, big])
  have hrow : ([at_ l.row 8, at_ l.row 9, at_ l.row 10, at_ l.row 11] : Row) = l.v.row := rfl
  refine Tot.eq (.bind (R := fun r => r = (0, [.r [.str s], .r [.dp l.row], .r [.dp v.row], .r [.bool false]])) ?_ ?_)
  · refine .eqbind seen_true ?_
    simp only [rowsAt_zero, at_zero, toB_bool, Bool.not_true, Bool.false_eq_true, if_false]
    refine .eqbind rec_true ?_
    rw [rowsAt_zero]
    refine .eqbind hf1 (.some rfl)
  rintro r rfl
  simp (config := { zeta := false, letToHave := false }) only [gB_s, gB_z, gC_s, gC_z, gS_s, gS_z, gI_s, gI_z, isDp_dp, if_true, dpRow_dp, Bool.false_eq_true, if_false, at_val3, Val.fc_rows, List.length_map]
  have hlo := law_l v l s (by have := v.bulk_len; omega) v.fs.length 0 (by omega)
  rw [List.drop_zero, show ((0 : Nat) : Int) = 0 from rfl] at hlo
  refine .eqbind hlo ?_
  simp (config := { zeta := false, letToHave := false }) only [gB_s, gB_z, gC_s, gC_z, gS_s, gS_z, gI_s, gI_z, isDp_dp, if_true, dpRow_dp, at_lns1, toS_str, hrow]
  obtain ⟨u, ok, hu, hub, hg⟩ := get_spec v l.name hv hvb
  have hs := same_spec u l.v hu (Lns.wf_v hl) hub
  refine .eqbind hg (.eqbind (find_spec v s hvb) ?_)
  have hch : (lim T).pc n_get_Chosen [l.row, v.row] = some [[.bool (ok && u.eqv l.v)]] := by
    rw [get_Chosen_pc]; unfold get_Chosen
    rw [at_lns1, toS_str, hg, hrow]
    refine Tot.eq (.eqbind rfl ?_)
    cases ok with
    | true => exact .pos rfl (.eqbind hs (.some rfl))
    | false => exact .some rfl
  refine .pos (by simp) (.eqbind hch ?_)
  cases ok with
  | true =>
    refine .pos rfl (.eqbind hs ?_)
    cases u.eqv l.v
    · exact .some rfl
    · exact .some rfl
  | false => exact .some rfl
end Go.Ev.Zzg
