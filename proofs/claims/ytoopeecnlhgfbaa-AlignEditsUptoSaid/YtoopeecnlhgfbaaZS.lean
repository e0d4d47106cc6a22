/-
  A part of the proof: what the functions of the program compute.
-/
import Derived.Test.YtoopeecnlhgfbaaZEq
import Derived.Test.YtoopeecnlhgfbaaEvDa
set_option linter.all false
set_option maxRecDepth 100000
namespace Go.Ev.Zze
/-- It answers, and the answer is as Q says. -/
def Tot {β : Type} (Q : β → Prop) (x : Option β) : Prop := ∃ r, x = some r ∧ Q r
theorem Tot.some {β : Type} {Q : β → Prop} {r : β} (h : Q r) : Tot Q (some r) := ⟨r, rfl, h⟩
theorem Tot.bind {α β : Type} {R : α → Prop} {Q : β → Prop} {x : Option α} {f : α → Option β} (h : Tot R x) (k : ∀ r, R r → Tot Q (f r)) : Tot Q (x.bind f) := by
  obtain ⟨r, rfl, hr⟩ := h
  exact k r hr
theorem Tot.eqbind {α β : Type} {Q : β → Prop} {x : Option α} {y : α} {f : α → Option β} (h : x = Option.some y) (k : Tot Q (f y)) : Tot Q (x.bind f) := by rw [h]; exact k
theorem Tot.ite {β : Type} {c : Prop} [Decidable c] {Q : β → Prop} {x y : Option β} (h : c → Tot Q x) (k : ¬ c → Tot Q y) : Tot Q (if c then x else y) := by
  split
  · exact h ‹_›
  · exact k ‹_›
theorem Tot.pos {β : Type} {c : Prop} [Decidable c] {Q : β → Prop} {x y : Option β} (h : c) (k : Tot Q x) : Tot Q (if c then x else y) := by rw [if_pos h]; exact k
theorem Tot.mono {β : Type} {R Q : β → Prop} {x : Option β} (h : Tot R x) (k : ∀ r, R r → Q r) : Tot Q x := by
  obtain ⟨r, h1, h2⟩ := h; exact ⟨r, h1, k r h2⟩
/-- Numbers that no sum of ours passes. -/
abbrev big : Nat := 4294967296
theorem inI_of {i : Nat} (h : i ≤ big) : inI64 ((i : Int) + 1) := by unfold big at h; exact ⟨by omega, by omega⟩
theorem wrap_nat {i : Nat} (h : i ≤ big) : IntKind.wrap .i64 ((i : Int) + 1) = ((i + 1 : Nat) : Int) := by rw [wrap_i64 (inI_of h)]; omega

/-! cmp -/
theorem isNaN_int (a : Int) : (lim T).pc n_cmp_isNaN_int [[.int a]] = some [[.bool false]] := by
  rw [cmp_isNaN_int_pc]; simp [cmp_isNaN_int]
theorem compare_int (a b : Int) : (lim T).pc n_cmp_Compare_int [[.int a], [.int b]] = some [[.int (cmpI a b)]] := by
  rw [cmp_Compare_int_pc]
  unfold cmp_Compare_int cmpI
  simp only [isNaN_int, Option.bind_some, rowsAt_zero, at_zero, toB_bool, Bool.false_eq_true, if_false, decide_eq_true_eq]
  split
  · rfl
  · split <;> rfl
theorem compare_str (a b : Bytes) : (lim T).pc n_strings_Compare [[.str a], [.str b]] = some [[.int (cmpBytes a b)]] := by
  rw [strings_Compare_pc]
  unfold strings_Compare
  rw [internal_bytealg_CompareString_pc]
  simp [internal_bytealg_CompareString]
def intRow (n : Int) : Row := [.int n]
theorem or_int_l (l : List Int) (hN : l.length ≤ big) : ∀ (j i : Nat), i + j = l.length →
    cmp_Or_int_l0 (lim T) 0 (.sl (l.map intRow)) (l.length : Int) (i : Int) = if orI (l.drop i) = 0 then some (0, [.r [.int 0]]) else some (1, [.r [.int (orI (l.drop i))]])
  | 0, i, h => by
    rw [cmp_Or_int_l0_eq]
    unfold cmp_Or_int_b0
    have : ¬ (i : Int) < (l.length : Int) := by omega
    rw [List.drop_eq_nil_of_le (by omega)]
    simp [this, orI]
  | j + 1, i, h => by
    rw [cmp_Or_int_l0_eq]
    unfold cmp_Or_int_b0
    have h1 : i < l.length := by omega
    have ih := or_int_l l hN j (i + 1) (by omega)
    rw [List.drop_eq_getElem_cons h1]
    simp only [rows_sl, rowsAt_map, List.length_map, Int.toNat_natCast, h1, wrap_nat (show i ≤ big by omega), ih, orI, intRow, at_zero, toI_int]
    have g1 : (i : Int) < (l.length : Int) := by omega
    have g0 : (0 : Int) ≤ (i : Int) := by omega
    simp only [g1, g0, decide_true, and_self, if_true]
    by_cases hc : l[i] = 0 <;> simp [hc]
theorem or_int (l : List Int) (hN : l.length ≤ big) : (lim T).pc n_cmp_Or_int [[.sl (l.map intRow)]] = some [[.int (orI l)]] := by
  rw [cmp_Or_int_pc]
  unfold cmp_Or_int
  simp only [rows_sl, List.length_map]
  have := or_int_l l hN l.length 0 (by omega)
  simp only [Int.ofNat_zero, Int.natCast_zero] at this
  rw [this, List.drop_zero]
  by_cases h : orI l = 0 <;> simp [h]
theorem order_spec (n : Int) (h : inI64 n) : (lim T).pc n_value_order [[.int n]] = some [[.int (ordI n)]] := by
  rw [value_order_pc]
  unfold value_order ordI
  by_cases hn : n < 0
  · have h' := h
    obtain ⟨h1, h2⟩ := h'
    simp only [hn, decide_true, if_true, and_max h hn]
    rw [wrap_i64 ⟨by omega, by omega⟩]
  · simp only [hn, decide_false, Bool.false_eq_true, if_false]

/-! slices.CompareFunc of fields, value.Cmp -/
theorem compare_flds_l (b b' : Bool) (l r : List (Bytes × Val)) (hN : l.length ≤ big) (hc : ∀ p ∈ l, ∀ q ∈ r, (lim T).pc n_value_Cmp_1 [fldRow p, fldRow q] = some [[.int (fldCmp p q)]]) : ∀ (j i : Nat), i + j = l.length → i ≤ r.length →
    slices_CompareFunc_api_Field_l0 (lim T) (slC b (l.map fldRow)) (slC b' (r.map fldRow)) (.fn n_value_Cmp_1 []) (slC b (l.map fldRow)) (l.length : Int) (i : Int) =
      if lexL fldCmp (l.drop i) (r.drop i) = 0 then some (0, [.r [slC b (l.map fldRow)], .r [slC b' (r.map fldRow)]]) else some (1, [.r [.int (lexL fldCmp (l.drop i) (r.drop i))]])
  | 0, i, h, _ => by
    rw [slices_CompareFunc_api_Field_l0_eq]
    unfold slices_CompareFunc_api_Field_b0
    have : ¬ (i : Int) < (l.length : Int) := by omega
    rw [List.drop_eq_nil_of_le (by omega)]
    simp [this, lexL]
  | j + 1, i, h, hir => by
    rw [slices_CompareFunc_api_Field_l0_eq]
    unfold slices_CompareFunc_api_Field_b0
    have h1 : i < l.length := by omega
    have g1 : (i : Int) < (l.length : Int) := by omega
    have g0 : (0 : Int) ≤ (i : Int) := by omega
    rw [List.drop_eq_getElem_cons h1]
    by_cases h2 : i < r.length
    · have ih := compare_flds_l b b' l r hN hc j (i + 1) (by omega) (by omega)
      rw [List.drop_eq_getElem_cons h2]
      have g2 : (i : Int) < (r.length : Int) := by omega
      have g3 : ¬ (i : Int) ≥ (r.length : Int) := by omega
      have hcc := hc l[i] (List.getElem_mem h1) r[i] (List.getElem_mem h2)
      have hcc' : callC (lim T) (.fn n_value_Cmp_1 []) [fldRow l[i], fldRow r[i]] = some [[.int (fldCmp l[i] r[i])]] := hcc
      simp only [slC_rows, rowsAt_map, List.length_map, Int.toNat_natCast, h1, h2, wrap_nat (show i ≤ big by omega), ih, lexL, g1, g2, g0, g3, decide_true, decide_false, Bool.false_eq_true, if_false, and_self, if_true, hcc', Option.bind_some, rowsAt_zero, at_zero, toI_int]
      by_cases hz : fldCmp l[i] r[i] = 0 <;> simp [hz]
    · have g3 : (i : Int) ≥ (r.length : Int) := by omega
      rw [List.drop_eq_nil_of_le (show r.length ≤ i by omega)]
      simp only [slC_rows, List.length_map, g1, g0, g3, decide_true, and_self, if_true, lexL]
      simp
theorem compare_flds (b b' : Bool) (l r : List (Bytes × Val)) (hN : l.length ≤ big) (hc : ∀ p ∈ l, ∀ q ∈ r, (lim T).pc n_value_Cmp_1 [fldRow p, fldRow q] = some [[.int (fldCmp p q)]]) :
    (lim T).pc n_slices_CompareFunc_api_Field [[slC b (l.map fldRow)], [slC b' (r.map fldRow)], [.fn n_value_Cmp_1 []]] = some [[.int (lexI fldCmp l r)]] := by
  rw [slices_CompareFunc_api_Field_pc]
  unfold slices_CompareFunc_api_Field
  have := compare_flds_l b b' l r hN hc l.length 0 (by omega) (by omega)
  simp only [Int.ofNat_zero, Int.natCast_zero, List.drop_zero] at this
  simp only [slC_rows, List.length_map]
  rw [this, lexI_lexL]
  by_cases h : lexL fldCmp l r = 0
  · by_cases h' : l.length < r.length <;> simp [h, h']
  · simp [h]

/-- value.Cmp -/
theorem cmp_spec (v w : Val) (hv : v.wf) (hw : w.wf) (hN : v.bulk ≤ big) : (lim T).pc n_value_Cmp [v.row, w.row] = some [[.int (v.cmp w)]] := by
  have hrec : ∀ p ∈ v.fs, ∀ q ∈ w.fs, (lim T).pc n_value_Cmp_1 [fldRow p, fldRow q] = some [[.int (fldCmp p q)]] := by
    intro p hp q hq
    have := Val.size_lt hp
    have hb := Val.bulk_mem hp
    have ih := cmp_spec p.2 q.2 (Val.wf_mem hv hp) (Val.wf_mem hw hq) (by omega)
    rw [value_Cmp_1_pc]
    unfold value_Cmp_1
    have ho := or_int [cmpBytes p.1 q.1, p.2.cmp q.2] (by simp [big])
    simp only [List.map_cons, List.map_nil, intRow] at ho
    simp only [at_fld0, at_fld1, at_fld2, at_fld3, at_fld4, toS_str, val_fold, compare_str, ih, Option.bind_some, rowsAt_zero, at_zero, toI_int, ho, fldCmp]
  rw [value_Cmp_pc]
  unfold value_Cmp
  have hf := compare_flds v.nil w.nil v.fs w.fs (by have := v.bulk_len; omega) hrec
  rw [← v.fc_eq, ← w.fc_eq] at hf
  have ho := or_int [cmpI v.k w.k, cmpI (if v.k = 3 then ordI v.n else v.n) (if v.k = 3 then ordI w.n else w.n), cmpBytes v.s w.s] (by simp [big])
  simp only [List.map_cons, List.map_nil, intRow] at ho
  rw [v.cmp_eq]
  by_cases k3 : v.k = 3
  · simp only [k3, if_true] at ho
    simp only [at_val0, at_val1, at_val2, at_val3, toI_int, toS_str, k3, beq_self_eq_true, if_true, order_spec _ (Val.wf_n hv), order_spec _ (Val.wf_n hw), Option.bind_some, rowsAt_zero, at_zero, gR_s, gC_s, gI_s, gB_s, gS_s, gM_s, gR_z, gC_z, gI_z, gB_z, gS_z, gM_z, hd_r, List.tail_cons, isDp_dp, dpRow_dp, compare_int, compare_str, ho, hf]
    generalize orI _ = c
    by_cases hc : c = 0 <;> simp [hc]
  · simp only [k3, if_false] at ho
    have k3' : (v.k == 3) = false := by simp [k3]
    simp only [at_val0, at_val1, at_val2, at_val3, toI_int, toS_str, k3, k3', Bool.false_eq_true, if_false, Option.bind_some, rowsAt_zero, at_zero, gR_s, gC_s, gI_s, gB_s, gS_s, gM_s, gR_z, gC_z, gI_z, gB_z, gS_z, gM_z, hd_r, List.tail_cons, isDp_dp, dpRow_dp, compare_int, compare_str, ho, hf, if_true]
    generalize orI _ = c
    by_cases hc : c = 0 <;> simp [hc]
  termination_by SizeOf.sizeOf v
theorem same_spec (v w : Val) (hv : v.wf) (hw : w.wf) (hN : v.bulk ≤ big) : (lim T).pc n_value_Same [v.row, w.row] = some [[.bool (v.eqv w)]] := by
  rw [value_Same_pc]
  unfold value_Same
  simp only [cmp_spec v w hv hw hN, Option.bind_some, rowsAt_zero, at_zero, toI_int]
  have := Val.cmp_zero v w hv hw
  cases he : v.eqv w with
  | true => rw [this.2 he]; rfl
  | false =>
    have hne : ¬ v.cmp w = 0 := fun h => by rw [this.1 h] at he; cases he
    simp [hne]
/-! clapref3.same -/
theorem rsame_l (v w : Val) (hl : v.fs.length = w.fs.length) (hN : v.fs.length ≤ big) (hc : ∀ p ∈ v.fs, ∀ u : Val, (lim T).pc n_clapref3_same [p.2.row, u.row] = some [[.bool (p.2.eqv u)]]) : ∀ (j i : Nat), i + j = v.fs.length →
    clapref3_same_l0 (lim T) (.dp w.row) v.fc (v.fs.length : Int) (i : Int) = if all2 fldEq (v.fs.drop i) (w.fs.drop i) = true then some (0, []) else some (1, [.r [.bool false]])
  | 0, i, h => by
    rw [clapref3_same_l0_eq]
    unfold clapref3_same_b0
    have : ¬ (i : Int) < (v.fs.length : Int) := by omega
    rw [List.drop_eq_nil_of_le (by omega), List.drop_eq_nil_of_le (by omega)]
    simp [this, all2]
  | j + 1, i, h => by
    rw [clapref3_same_l0_eq]
    unfold clapref3_same_b0
    have h1 : i < v.fs.length := by omega
    have h2 : i < w.fs.length := by omega
    have ih := rsame_l v w hl hN hc j (i + 1) (by omega)
    rw [List.drop_eq_getElem_cons h1, List.drop_eq_getElem_cons h2]
    have hcc := hc _ (List.getElem_mem h1) (w.fs[i].2)
    have g1 : (i : Int) < (v.fs.length : Int) := by omega
    have g2 : (i : Int) < (w.fs.length : Int) := by omega
    have g0 : (0 : Int) ≤ (i : Int) := by omega
    simp only [Val.fc_rows, isDp_dp, dpRow_dp, at_val3, rowsAt_map, List.length_map, Int.toNat_natCast, h1, h2, at_fld0, at_fld1, at_fld2, at_fld3, at_fld4, toS_str, val_fold, hcc, wrap_nat (show i ≤ big by omega), ih, all2, g1, g2, g0, decide_true, and_self, if_true, Option.bind_some, rowsAt_zero, at_zero, toB_bool, fldEq]
    by_cases hc : v.fs[i].1 = w.fs[i].1
    · simp only [hc, beq_self_eq_true, Bool.not_true, Bool.false_eq_true, if_false, Bool.true_and]
      cases he : v.fs[i].2.eqv w.fs[i].2 <;> simp
    · simp [hc]
theorem rsame_spec (v w : Val) (hN : v.bulk ≤ big) : (lim T).pc n_clapref3_same [v.row, w.row] = some [[.bool (v.eqv w)]] := by
  have hrec : ∀ p ∈ v.fs, ∀ u : Val, (lim T).pc n_clapref3_same [p.2.row, u.row] = some [[.bool (p.2.eqv u)]] := by
    intro p hp u
    have := Val.size_lt hp
    have hb := Val.bulk_mem hp
    exact rsame_spec p.2 u (by omega)
  rw [clapref3_same_pc]
  unfold clapref3_same
  rw [v.eqv_eq]
  simp only [at_val0, at_val1, at_val2, at_val3, toI_int, toS_str, Val.fc_rows, List.length_map]
  by_cases h1 : v.k = w.k
  · by_cases h2 : v.n = w.n
    · by_cases h3 : v.s = w.s
      · by_cases h4 : v.fs.length = w.fs.length
        · have := rsame_l v w h4 (by have := v.bulk_len; omega) hrec v.fs.length 0 (by omega)
          simp only [Int.ofNat_zero, Int.natCast_zero, List.drop_zero] at this
          have e4 : ((v.fs.length : Int) != (w.fs.length : Int)) = false := by simp [h4]
          simp only [h1, h2, h3, e4, bne_self_eq_false, beq_self_eq_true, Bool.not_true, Bool.false_eq_true, if_false, Option.bind_some, gR_s, gC_s, gI_s, gB_s, gS_s, gM_s, gR_z, gC_z, gI_z, gB_z, gS_z, gM_z, hd_r, List.tail_cons, at_zero, toB_bool, isDp_dp, if_true, dpRow_dp, at_val3, Val.fc_rows, List.length_map, this, Bool.true_and]
          cases all2 fldEq v.fs w.fs <;> simp
        · have e4 : ((v.fs.length : Int) != (w.fs.length : Int)) = true := by simp; omega
          have e5 : all2 fldEq v.fs w.fs = false := by
            cases h : all2 fldEq v.fs w.fs
            · rfl
            · exact absurd (all2_len h) h4
          simp [h1, h2, h3, e4, e5]
      · simp [h1, h2, h3]
    · simp [h1, h2]
  · simp [h1]
  termination_by SizeOf.sizeOf v

/-! slices.EqualFunc -/

end Go.Ev.Zze
namespace Go.Ev.Zze
/-! value.Check: it answers; what its 0 says -/
theorem wrapS {n : Int} (h0 : 0 ≤ n) (h1 : n ≤ 1000000000000) : Go.IntKind.wrap .i64 n = n := wrap_i64 ⟨by omega, by omega⟩
theorem name_l (s : List UInt8) (hN : s.length ≤ big) : ∀ (j i : Nat), i + j = s.length →
    Tot (fun r => r = (0, []) ∨ r = (1, [.r [.bool false]])) (value_Name_l0 (lim T) (.sl (s.map byteRow)) (s.length : Int) (i : Int))
  | 0, i, h => by
    rw [value_Name_l0_eq]; unfold value_Name_b0
    have : ¬ (i : Int) < (s.length : Int) := by omega
    simp only [this, decide_false, Bool.false_eq_true, if_false]
    exact .some (.inl rfl)
  | j + 1, i, h => by
    rw [value_Name_l0_eq]; unfold value_Name_b0
    have hlt : (i : Int) < (s.length : Int) := by omega
    simp only [hlt, decide_true, if_true]
    refine .bind (R := fun r => r = (0, [.r [.sl (s.map byteRow)], .r [.int (s.length : Int)], .r [.int (i : Int)]]) ∨ r = (1, [.r [.bool false]])) ?_ ?_
    · refine .pos ⟨by omega, by simpa [C.rows] using hlt⟩ ?_
      repeat' (first | exact .some (.inl rfl) | exact .some (.inr rfl) | refine .ite (fun _ => ?_) fun _ => ?_)
    · rintro r (rfl | rfl)
      · simp only [gC_z, gC_s, gI_z, gI_s]
        rw [wrap_nat (by omega)]
        exact name_l s hN j (i + 1) (by omega)
      · exact .some (.inr rfl)
theorem name_tot (s : List UInt8) : ∃ b : Bool, (lim T).pc n_value_Name [[.str s]] = some [[.bool b]] := by
  have : Tot (fun r => ∃ b : Bool, r = [[.bool b]]) ((lim T).pc n_value_Name [[.str s]]) := by
    rw [value_Name_pc]; unfold value_Name
    refine .bind (R := fun r => ∃ q : Bool, (q = false → s.length ≤ 16) ∧ r = (0, [.r [.str s], .r [.bool q]])) ?_ ?_
    · refine .ite (fun _ => ?_) fun hne => ?_
      · simp only [if_true]; exact .some ⟨true, fun h => (by cases h), rfl⟩
      have hpos : 0 < s.length := by
        rcases s with _ | ⟨a, s⟩
        · simp at hne
        · simp
      refine .ite (fun _ => ?_) fun h => ?_
      · simp only [if_true]; exact .some ⟨true, fun h => (by cases h), rfl⟩
      have h16 : s.length ≤ 16 := by have := of_decide_eq_false (by simpa using h : decide ((s.length : Int) > 16) = false); omega
      refine .pos ⟨by omega, by omega⟩ ?_
      refine .ite (fun _ => .some ⟨true, fun h => (by cases h), rfl⟩) fun _ => .pos ⟨by omega, by omega⟩ (.some ⟨_, fun _ => h16, rfl⟩)
    rintro r ⟨q, hq, rfl⟩
    simp only [gB_s, gB_z, gS_z, List.length_map]
    refine .ite (fun _ => .some ⟨_, rfl⟩) fun h => ?_
    refine .bind (name_l s (by have := hq (by simpa using h); unfold big; omega) s.length 0 (by omega)) ?_
    rintro r (rfl | rfl)
    · exact .some ⟨_, rfl⟩
    · exact .some ⟨_, rfl⟩
  obtain ⟨r, h, b, rfl⟩ := this
  exact ⟨b, h⟩
/-- Is it a name? -/
noncomputable def nm (s : List UInt8) : Bool := (name_tot s).choose
theorem name_spec (s : List UInt8) : (lim T).pc n_value_Name [[.str s]] = some [[.bool (nm s)]] := (name_tot s).choose_spec

theorem fld_val (p : Bytes × Val) : ([at_ (fldRow p) 1, at_ (fldRow p) 2, at_ (fldRow p) 3, at_ (fldRow p) 4] : Row) = p.2.row := rfl
theorem dec_lt {i n : Nat} (h : i < n) : decide ((i : Int) < (n : Int)) = true := decide_eq_true (by omega)
theorem dec_ge {n : Nat} : ¬ decide ((n : Int) < (n : Int)) = true := by simp
theorem ix_ok {i : Nat} {rows : List Row} (h : i < rows.length) : (0 : Int) ≤ (i : Int) ∧ (i : Int) < (rows.length : Int) := ⟨by omega, by omega⟩
abbrev IntT (x : Option (List Row)) : Prop := Tot (fun r => ∃ n : Int, r = [[.int n]]) x
theorem vsize_l (v : Val) (hN : v.fs.length ≤ big) (hc : ∀ p ∈ v.fs, IntT ((lim T).pc n_value_Size [p.2.row])) : ∀ (j i : Nat) (a : Int), i + j = v.fs.length →
    Tot (fun r => ∃ n : Int, r = (0, [.r [.int n]])) (value_Size_l0 (lim T) a v.fc (v.fs.length : Int) (i : Int))
  | 0, i, a, h => by
    rw [value_Size_l0_eq]; unfold value_Size_b0
    obtain rfl : i = v.fs.length := by omega
    exact .ite (fun h => absurd h dec_ge) fun _ => .some ⟨_, rfl⟩
  | j + 1, i, a, h => by
    rw [value_Size_l0_eq]; unfold value_Size_b0
    have hi : i < v.fs.length := by omega
    refine .pos (dec_lt hi) (.pos (ix_ok (by simpa using hi)) ?_)
    rw [v.fc_rows, Int.toNat_natCast, rowsAt_map _ _ _ hi, fld_val, wrap_nat (by omega)]
    refine .bind (hc _ (List.getElem_mem hi)) ?_
    rintro r ⟨n, rfl⟩
    exact vsize_l v hN hc j (i + 1) _ (by omega)
theorem vsize_tot (v : Val) (hN : v.bulk ≤ big) : IntT ((lim T).pc n_value_Size [v.row]) := by
  have hrec : ∀ p ∈ v.fs, IntT ((lim T).pc n_value_Size [p.2.row]) := fun p hp => by
    have := Val.size_lt hp
    have hb := Val.bulk_mem hp
    exact vsize_tot p.2 (by omega)
  rw [value_Size_pc]; unfold value_Size
  simp only [at_val3, Val.fc_rows, List.length_map]
  refine .bind (vsize_l v (by have := v.bulk_len; omega) hrec v.fs.length 0 1 (by omega)) ?_
  rintro r ⟨n, rfl⟩
  exact .some ⟨_, rfl⟩
  termination_by SizeOf.sizeOf v
theorem vdeep_l (v : Val) (hN : v.fs.length ≤ big) (hc : ∀ p ∈ v.fs, IntT ((lim T).pc n_value_Deep [p.2.row])) : ∀ (j i : Nat) (a : Int), i + j = v.fs.length →
    Tot (fun r => ∃ n : Int, r = (0, [.r [.int n]])) (value_Deep_l0 (lim T) a v.fc (v.fs.length : Int) (i : Int))
  | 0, i, a, h => by
    rw [value_Deep_l0_eq]; unfold value_Deep_b0
    obtain rfl : i = v.fs.length := by omega
    exact .ite (fun h => absurd h dec_ge) fun _ => .some ⟨_, rfl⟩
  | j + 1, i, a, h => by
    rw [value_Deep_l0_eq]; unfold value_Deep_b0
    have hi : i < v.fs.length := by omega
    refine .pos (dec_lt hi) (.pos (ix_ok (by simpa using hi)) ?_)
    rw [v.fc_rows, Int.toNat_natCast, rowsAt_map _ _ _ hi, fld_val, wrap_nat (by omega)]
    refine .bind (hc _ (List.getElem_mem hi)) ?_
    rintro r ⟨n, rfl⟩
    exact vdeep_l v hN hc j (i + 1) _ (by omega)
theorem vdeep_tot (v : Val) (hN : v.bulk ≤ big) : IntT ((lim T).pc n_value_Deep [v.row]) := by
  have hrec : ∀ p ∈ v.fs, IntT ((lim T).pc n_value_Deep [p.2.row]) := fun p hp => by
    have := Val.size_lt hp
    have hb := Val.bulk_mem hp
    exact vdeep_tot p.2 (by omega)
  rw [value_Deep_pc]; unfold value_Deep
  simp only [at_val3, Val.fc_rows, List.length_map]
  refine .bind (vdeep_l v (by have := v.bulk_len; omega) hrec v.fs.length 0 0 (by omega)) ?_
  rintro r ⟨n, rfl⟩
  exact .some ⟨_, rfl⟩
  termination_by SizeOf.sizeOf v

/-- Has it something in a field that its kind does not use? -/
def numK (k : Int) : Bool := (decide (k ≥ 1) && decide (k ≤ 4)) || k == 11
def scaK (k : Int) : Bool := (decide (k ≥ 0) && decide (k ≤ 5)) || k == 11
def unusedB (v : Val) : Bool := (!numK v.k && v.n != 0) || (v.k != 5 && !(v.s == [])) || (scaK v.k && decide ((v.fs.length : Int) > 0))
theorem scalar_spec (k : Int) : (lim T).pc n_value_Scalar [[.int k]] = some [[.bool (scaK k)]] := by
  rw [value_Scalar_pc]; unfold value_Scalar scaK
  by_cases h : k ≥ 0
  · by_cases h2 : k ≤ 5
    · simp [h, h2]
    · simp [h, h2]
  · simp [h]
theorem Tot.eq {β : Type} {x : Option β} {y : β} (h : Tot (fun r => r = y) x) : x = Option.some y := by
  obtain ⟨r, e, rfl⟩ := h; exact e
theorem unused_spec (v : Val) : (lim T).pc n_value_unused [v.row] = some [[.bool (unusedB v)]] := by
  refine Tot.eq ?_
  rw [value_unused_pc]; unfold value_unused
  refine .bind (R := fun r => r = (0, [.r [.dp v.row], .r [.bool (numK v.k)]])) ?_ ?_
  · simp only [at_val0, toI_int]
    unfold numK
    by_cases h : v.k ≥ 1
    · by_cases h2 : v.k ≤ 4
      · simp only [h, h2, decide_true, if_true]; exact .some rfl
      · simp only [h, h2, decide_true, decide_false, if_true, Bool.false_eq_true, if_false]; exact .some rfl
    · simp only [h, decide_false, if_true, Bool.false_eq_true, if_false]; exact .some rfl
  rintro r rfl
  simp only [gB_s, gB_z, gC_z, dpRow_dp, isDp_dp, if_true, at_val0, at_val1, at_val2, at_val3, toI_int, toS_str, Val.fc_rows, List.length_map]
  unfold unusedB
  have fin : ∀ a f : Bool, Tot (fun r : List Row => r = [[C.bool (a || (scaK v.k && f))]]) (if a = true then some [[C.bool true]] else ((lim T).pc n_value_Scalar [[C.int v.k]]).bind fun y12 => if (at_ (rowsAt y12 0) 0).toB = true then some [[C.bool f]] else some [[C.bool false]]) := by
    intro a f
    cases a
    · refine .eqbind (scalar_spec v.k) ?_
      simp only [rowsAt_zero, at_zero, toB_bool]
      cases scaK v.k
      · exact .some rfl
      · exact .some rfl
    · exact .some rfl
  generalize numK v.k = a
  generalize (v.n != 0) = b
  generalize (v.k != 5) = c
  generalize (v.s == []) = d
  generalize decide ((v.fs.length : Int) > 0) = f at fin ⊢
  cases a <;> cases b <;> cases c <;> cases d <;> first | exact .some rfl | exact fin false f
theorem number_tot (v : Val) : Tot (fun r => ∃ b : Bool, r = [[.bool b]]) ((lim T).pc n_value_number [v.row]) := by
  rw [value_number_pc]; unfold value_number
  repeat' (first | exact .some ⟨_, rfl⟩ | refine .ite (fun _ => ?_) fun _ => ?_)

/-! the names of parts -/
theorem containsFld_tot (c0 : C) (c : Row) (h0 : c0.rows.length ≤ big) : Tot (fun r => ∃ b : Bool, r = [[.bool b]]) ((lim T).pc n_slices_ContainsFunc_api_Field [[c0], [.fn n_value_names_1 [.dp c]]]) := by
  rw [slices_ContainsFunc_api_Field_pc]; unfold slices_ContainsFunc_api_Field
  have : IntT ((lim T).pc n_slices_IndexFunc_api_Field [[c0], [.fn n_value_names_1 [.dp c]]]) := by
    rw [slices_IndexFunc_api_Field_pc]; unfold slices_IndexFunc_api_Field
    refine .bind (R := fun r => r = (0, []) ∨ ∃ n : Int, r = (1, [.r [.int n]])) ?_ ?_
    · have key : ∀ (j i : Nat), i + j = c0.rows.length →
        Tot (fun r => r = (0, []) ∨ ∃ n : Int, r = (1, [.r [.int n]])) (slices_IndexFunc_api_Field_l0 (lim T) c0 (.fn n_value_names_1 [.dp c]) (c0.rows.length : Int) (i : Int)) := by
        intro j
        induction j with
        | zero =>
          intro i h
          rw [slices_IndexFunc_api_Field_l0_eq]; unfold slices_IndexFunc_api_Field_b0
          obtain rfl : i = c0.rows.length := by omega
          exact .ite (fun h => absurd h dec_ge) fun _ => .some (.inl rfl)
        | succ j ih =>
          intro i h
          rw [slices_IndexFunc_api_Field_l0_eq]; unfold slices_IndexFunc_api_Field_b0
          have hi : i < c0.rows.length := by omega
          refine .pos (dec_lt hi) (.pos (ix_ok hi) ?_)
          have e : callC (lim T) (.fn n_value_names_1 [.dp c]) [rowsAt c0.rows (i : Int).toNat] = some [[.bool (((at_ (rowsAt c0.rows (i : Int).toNat) 0).toS) == ((at_ c 0).toS))]] := by
            show (lim T).pc n_value_names_1 [rowsAt c0.rows (i : Int).toNat, [.dp c]] = _
            rw [value_names_1_pc]; unfold value_names_1
            simp only [isDp_dp, if_true, dpRow_dp]
          refine .eqbind e ?_
          rw [wrap_nat (show i ≤ big by omega)]
          exact .ite (fun _ => .some (.inr ⟨_, rfl⟩)) fun _ => ih (i + 1) (by omega)
      exact key _ 0 (Nat.zero_add _)
    rintro r (rfl | ⟨n, rfl⟩)
    · exact .some ⟨_, rfl⟩
    · exact .some ⟨_, rfl⟩
  refine .bind this ?_
  rintro r ⟨n, rfl⟩
  exact .some ⟨_, rfl⟩
theorem slcC_len (c : C) (i : Nat) (h : i ≤ c.rows.length) : (slcC c 0 (i : Int)).rows.length = i := by
  have h0 : (C.rows c).length = c.rows.length := rfl
  unfold slcC
  split
  · simp [C.rows] at h ⊢; omega
  · simp [C.rows] at h ⊢
    split <;> simp_all
theorem vnames_tot (c : C) (h0 : c.rows.length ≤ big) : IntT ((lim T).pc n_value_names [[c]]) := by
  rw [value_names_pc]; unfold value_names
  refine .bind (R := fun r => r = (0, []) ∨ ∃ n : Int, r = (1, [.r [.int n]])) ?_ ?_
  · have key : ∀ (j i : Nat), i + j = c.rows.length → Tot (fun r => r = (0, []) ∨ ∃ n : Int, r = (1, [.r [.int n]])) (value_names_l0 (lim T) c c (c.rows.length : Int) (i : Int)) := by
      intro j
      induction j with
      | zero =>
        intro i h
        rw [value_names_l0_eq]; unfold value_names_b0
        obtain rfl : i = c.rows.length := by omega
        exact .ite (fun h => absurd h dec_ge) fun _ => .some (.inl rfl)
      | succ j ih =>
        intro i h
        rw [value_names_l0_eq]; unfold value_names_b0
        have hi : i < c.rows.length := by omega
        refine .pos (dec_lt hi) (.pos (ix_ok hi) ?_)
        refine .eqbind (name_spec _) ?_
        refine .ite (fun _ => .some (.inr ⟨_, rfl⟩)) fun _ => ?_
        refine .pos ⟨by omega, by omega, by omega⟩ ?_
        refine .bind (containsFld_tot _ _ (by rw [slcC_len c i (by omega)]; omega)) ?_
        rintro r ⟨b, rfl⟩
        rw [wrap_nat (show i ≤ big by omega)]
        exact .ite (fun _ => .some (.inr ⟨_, rfl⟩)) fun _ => ih (i + 1) (by omega)
    exact key _ 0 (Nat.zero_add _)
  rintro r (rfl | ⟨n, rfl⟩)
  · exact .some ⟨_, rfl⟩
  · exact .some ⟨_, rfl⟩
theorem vkeys_tot (p : Row) (h0 : (at_ p 3).rows.length ≤ big) : IntT ((lim T).pc n_value_keys [p]) := by
  rw [value_keys_pc]; unfold value_keys
  refine .bind (R := fun r => r = (0, []) ∨ ∃ n : Int, r = (1, [.r [.int n]])) ?_ ?_
  · have key : ∀ (j i : Nat), i + j = (at_ p 3).rows.length → Tot (fun r => r = (0, []) ∨ ∃ n : Int, r = (1, [.r [.int n]])) (value_keys_l0 (lim T) (.dp p) (at_ p 3) ((at_ p 3).rows.length : Int) (i : Int)) := by
      intro j
      induction j with
      | zero =>
        intro i h
        rw [value_keys_l0_eq]; unfold value_keys_b0
        obtain rfl : i = (at_ p 3).rows.length := by omega
        exact .ite (fun h => absurd h dec_ge) fun _ => .some (.inl rfl)
      | succ j ih =>
        intro i h
        rw [value_keys_l0_eq]; unfold value_keys_b0
        have hi : i < (at_ p 3).rows.length := by omega
        refine .pos (dec_lt hi) ?_
        refine .bind (R := fun r => r = (0, [.r [.dp p], .r [at_ p 3], .r [.int ((at_ p 3).rows.length : Int)], .r [.int (i : Int)]]) ∨ ∃ n : Int, r = (1, [.r [.int n]])) ?_ ?_
        · refine .pos (ix_ok hi) ?_
          refine .bind (R := fun r => ∃ (q : Bool) (w : Row), r = (0, [.r [.dp p], .r [.int (i : Int)], .r [at_ p 3], .r [.int ((at_ p 3).rows.length : Int)], .r [.int (i : Int)], .r [.bool q], .r w])) ?_ ?_
          · simp only [isDp_dp, if_true]
            exact .ite (fun _ => .some ⟨_, _, rfl⟩) fun _ => .some ⟨_, _, rfl⟩
          rintro r ⟨q, w, rfl⟩
          simp only [gB_s, gB_z, gC_s, gC_z, gI_s, gI_z, isDp_dp, if_true, dpRow_dp]
          refine .ite (fun _ => .some (.inr ⟨_, rfl⟩)) fun _ => .ite (fun _ => .some (.inl rfl)) fun _ => .ite (fun _ => .some (.inr ⟨_, rfl⟩)) fun _ => ?_
          refine .ite (fun hpos => ?_) fun _ => ?_
          · have hp : (0 : Int) < (i : Int) := of_decide_eq_true hpos
            have ew : IntKind.wrap .i64 ((i : Int) - 1) = (i : Int) - 1 := wrapS (by omega) (by unfold big at h0; omega)
            refine .pos (by rw [ew]; omega) ?_
            exact .ite (fun _ => .some (.inr ⟨_, rfl⟩)) fun _ => .some (.inl rfl)
          · exact .ite (fun _ => .some (.inr ⟨_, rfl⟩)) fun _ => .some (.inl rfl)
        rintro r (rfl | ⟨n, rfl⟩)
        · simp only [gC_s, gC_z, gI_s, gI_z]
          rw [wrap_nat (show i ≤ big by omega)]
          exact ih (i + 1) (by omega)
        · exact .some (.inr ⟨_, rfl⟩)
    exact key _ 0 (Nat.zero_add _)
  rintro r (rfl | ⟨n, rfl⟩)
  · exact .some ⟨_, rfl⟩
  · exact .some ⟨_, rfl⟩
theorem vfields_tot (v : Val) (h0 : v.fs.length ≤ big) : IntT ((lim T).pc n_value_fields [v.row]) := by
  rw [value_fields_pc]; unfold value_fields
  have h1 : (at_ v.row 3).rows.length ≤ big := by rw [at_val3, Val.fc_rows, List.length_map]; exact h0
  have kn : ∀ {f : List Row → Option (List Row)}, (∀ r, ∃ n : Int, f r = some [[.int n]]) → IntT (((lim T).pc n_value_names [[at_ v.row 3]]).bind f) := fun hf => .bind (vnames_tot _ h1) fun r _ => by obtain ⟨n, e⟩ := hf r; rw [e]; exact .some ⟨n, rfl⟩
  have kk : ∀ {f : List Row → Option (List Row)}, (∀ r, ∃ n : Int, f r = some [[.int n]]) → IntT (((lim T).pc n_value_keys [v.row]).bind f) := fun hf => .bind (vkeys_tot _ h1) fun r _ => by obtain ⟨n, e⟩ := hf r; rw [e]; exact .some ⟨n, rfl⟩
  repeat' (first | exact .some ⟨_, rfl⟩ | exact kn fun r => ⟨_, rfl⟩ | exact kk fun r => ⟨_, rfl⟩ | refine .ite (fun _ => ?_) fun _ => ?_)
theorem vnode_l (v : Val) (hN : v.fs.length ≤ big) (hc : ∀ p ∈ v.fs, IntT ((lim T).pc n_value_node [p.2.row, [.bool false]])) : ∀ (j i : Nat), i + j = v.fs.length →
    Tot (fun r => r = (0, []) ∨ ∃ n : Int, r = (1, [.r [.int n]])) (value_node_l0 (lim T) v.fc (v.fs.length : Int) (i : Int))
  | 0, i, h => by
    rw [value_node_l0_eq]; unfold value_node_b0
    obtain rfl : i = v.fs.length := by omega
    exact .ite (fun h => absurd h dec_ge) fun _ => .some (.inl rfl)
  | j + 1, i, h => by
    rw [value_node_l0_eq]; unfold value_node_b0
    have hi : i < v.fs.length := by omega
    refine .pos (dec_lt hi) (.pos (ix_ok (by simpa using hi)) ?_)
    rw [v.fc_rows, Int.toNat_natCast, rowsAt_map _ _ _ hi, fld_val, wrap_nat (by omega)]
    refine .bind (hc _ (List.getElem_mem hi)) ?_
    rintro r ⟨n, rfl⟩
    exact .ite (fun _ => .some (.inr ⟨_, rfl⟩)) fun _ => vnode_l v hN hc j (i + 1) (by omega)
theorem vnode_tot (v : Val) (b : Bool) (hN : v.bulk ≤ big) : Tot (fun r => ∃ n : Int, r = [[.int n]] ∧ (n = 0 → unusedB v = false)) ((lim T).pc n_value_node [v.row, [.bool b]]) := by
  have hrec : ∀ p ∈ v.fs, IntT ((lim T).pc n_value_node [p.2.row, [.bool false]]) := fun p hp => by
    have := Val.size_lt hp
    have hb := Val.bulk_mem hp
    exact (vnode_tot p.2 false (by omega)).mono fun r ⟨n, e, _⟩ => ⟨n, e⟩
  have hlen : v.fs.length ≤ big := by have := v.bulk_len; omega
  rw [value_node_pc]; unfold value_node
  refine .bind (R := fun r => (r = (0, [.r [.dp v.row]]) ∧ unusedB v = false) ∨ ∃ n : Int, n ≠ 0 ∧ r = (1, [.r [.int n]])) ?_ ?_
  · refine .bind (R := fun r => ∃ q : Bool, r = (0, [.r [.dp v.row], .r [.bool q]]) ∧ (q = false → unusedB v = false)) ?_ ?_
    · have fin : Tot (fun r => ∃ q : Bool, r = (0, [.r [.dp v.row], .r [.bool q]]) ∧ (q = false → unusedB v = false)) (((lim T).pc n_value_unused [v.row]).bind fun y9 => some ((0 : Nat), ([.r [.dp v.row], .r [.bool (at_ (rowsAt y9 0) 0).toB]] : List PV))) :=
        .eqbind (unused_spec v) (.some ⟨unusedB v, rfl, fun h => h⟩)
      repeat' (first | exact fin | exact .some ⟨true, rfl, fun h => by cases h⟩ | refine .ite (fun _ => ?_) fun _ => ?_)
    rintro r ⟨q, rfl, hq⟩
    simp only [gB_s, gB_z, gC_z, isDp_dp, if_true, dpRow_dp]
    refine .ite (fun _ => .some (.inr ⟨3, by decide, rfl⟩)) fun h => ?_
    refine .bind (number_tot v) ?_
    rintro r ⟨b', rfl⟩
    exact .ite (fun _ => .some (.inr ⟨11, by decide, rfl⟩)) fun _ => .some (.inl ⟨rfl, hq (by simpa using h)⟩)
  rintro r (⟨rfl, hu⟩ | ⟨n, hn, rfl⟩)
  · simp only [gC_z, isDp_dp, if_true, dpRow_dp]
    refine .bind (vfields_tot v hlen) ?_
    rintro r ⟨n, rfl⟩
    refine .ite (fun _ => .some ⟨n, rfl, fun _ => hu⟩) fun _ => ?_
    simp only [at_val3, Val.fc_rows, List.length_map]
    refine .bind (vnode_l v hlen hrec v.fs.length 0 (by omega)) ?_
    rintro r (rfl | ⟨n, rfl⟩)
    · exact .some ⟨_, rfl, fun _ => hu⟩
    · exact .some ⟨_, rfl, fun _ => hu⟩
  · exact .some ⟨n, rfl, fun h => absurd h hn⟩
  termination_by SizeOf.sizeOf v
theorem vcheck_tot (v : Val) (hN : v.bulk ≤ big) : ∃ n : Int, (lim T).pc n_value_Check [v.row] = some [[.int n]] ∧ (n = 0 → unusedB v = false) := by
  have : Tot (fun r => ∃ n : Int, r = [[.int n]] ∧ (n = 0 → unusedB v = false)) ((lim T).pc n_value_Check [v.row]) := by
    rw [value_Check_pc]; unfold value_Check
    refine .bind (vsize_tot v hN) ?_
    rintro r ⟨n, rfl⟩
    have fin : ∀ q : Bool, Tot (fun r => ∃ n : Int, r = [[.int n]] ∧ (n = 0 → unusedB v = false)) (if q = true then some [[C.int 2]] else ((lim T).pc n_value_node [v.row, [.bool true]]).bind fun y4 => some [[C.int (at_ (rowsAt y4 0) 0).toI]]) := by
      intro q
      refine .ite (fun _ => .some ⟨2, rfl, fun h => by cases h⟩) fun _ => .bind (vnode_tot v true hN) ?_
      rintro r ⟨n, rfl, h⟩
      exact .some ⟨n, rfl, h⟩
    refine .ite (fun _ => .some ⟨2, rfl, fun h => by cases h⟩) fun _ => .bind (vdeep_tot v hN) ?_
    rintro r ⟨n, rfl⟩
    exact fin _
  obtain ⟨r, h, n, rfl, h2⟩ := this
  exact ⟨n, h, h2⟩
end Go.Ev.Zze
namespace Go.Ev.Zze
/-! both checks -/
noncomputable def chk (v : Val) : Int := @Classical.epsilon _ ⟨0⟩ fun n => (lim T).pc n_value_Check [v.row] = some [[.int n]]
theorem chk_spec (v : Val) (hN : v.bulk ≤ big) : (lim T).pc n_value_Check [v.row] = some [[.int (chk v)]] := by
  obtain ⟨n, h, _⟩ := vcheck_tot v hN
  exact Classical.epsilon_spec (p := fun n : Int => (lim T).pc n_value_Check [v.row] = some [[.int n]]) ⟨n, h⟩
def chkE (v : Val) (n : Int) (e : Int) : Int := if n ≠ 0 then n else if v.k ≠ 8 then 8 else e
noncomputable def both (a b : Val) : Int := chkE a (chk a) (chkE b (chk b) 0)
theorem wrap1 : IntKind.wrap .i64 1 = 1 := by decide
theorem wrap2 : IntKind.wrap .i64 2 = 2 := by decide
theorem check_spec (a b : Val) (ha : a.bulk ≤ big) (hb : b.bulk ≤ big) : (lim T).pc n_align_check [a.row, b.row] = some [[.int (both a b)]] := by
  rw [align_check_pc]; unfold align_check
  rw [show ((([a.row, b.row] : List Row).length : Nat) : Int) = 2 from rfl]
  have e0 : rowsAt (C.sl [a.row, b.row]).rows (0 : Int).toNat = a.row := rfl
  have e1 : rowsAt (C.sl [a.row, b.row]).rows (1 : Int).toNat = b.row := rfl
  have l2 : align_check_l0 (lim T) (.sl [a.row, b.row]) 2 2 = some (0, []) := by rw [align_check_l0_eq]; unfold align_check_b0; simp
  have l1 : align_check_l0 (lim T) (.sl [a.row, b.row]) 2 1 = if chkE b (chk b) 0 = 0 then some (0, []) else some (1, [.r [.int (chkE b (chk b) 0)]]) := by
    rw [align_check_l0_eq]; unfold align_check_b0
    rw [e1, chk_spec b hb, at_val0]
    unfold chkE
    by_cases h1 : chk b = 0 <;> by_cases h2 : b.k = 8 <;> simp [h1, h2, wrap2, l2]
  rw [align_check_l0_eq]; unfold align_check_b0
  rw [e0, chk_spec a ha, at_val0]
  rw [both, chkE]
  by_cases h1 : chk a = 0 <;> by_cases h2 : a.k = 8 <;> simp [h1, h2, wrap1, l1]
  by_cases h3 : chkE b (chk b) 0 = 0 <;> simp [h3]
theorem lists_spec (a b : Val) (ha : a.bulk ≤ big) (hb : b.bulk ≤ big) : (lim T).pc n_clapref3_Lists [a.row, b.row] = some [[.int (both a b)]] := by
  rw [clapref3_Lists_pc]; unfold clapref3_Lists
  rw [show ((([a.row, b.row] : List Row).length : Nat) : Int) = 2 from rfl]
  have e0 : rowsAt (C.sl [a.row, b.row]).rows (0 : Int).toNat = a.row := rfl
  have e1 : rowsAt (C.sl [a.row, b.row]).rows (1 : Int).toNat = b.row := rfl
  have l2 : clapref3_Lists_l0 (lim T) (.sl [a.row, b.row]) 2 2 = some (0, []) := by rw [clapref3_Lists_l0_eq]; unfold clapref3_Lists_b0; simp
  have l1 : clapref3_Lists_l0 (lim T) (.sl [a.row, b.row]) 2 1 = if chkE b (chk b) 0 = 0 then some (0, []) else some (1, [.r [.int (chkE b (chk b) 0)]]) := by
    rw [clapref3_Lists_l0_eq]; unfold clapref3_Lists_b0
    rw [e1, chk_spec b hb, at_val0]
    unfold chkE
    by_cases h1 : chk b = 0 <;> by_cases h2 : b.k = 8 <;> simp [h1, h2, wrap2, l2]
  rw [clapref3_Lists_l0_eq]; unfold clapref3_Lists_b0
  rw [e0, chk_spec a ha, at_val0]
  rw [both, chkE]
  by_cases h1 : chk a = 0 <;> by_cases h2 : a.k = 8 <;> simp [h1, h2, wrap1, l1]
  by_cases h3 : chkE b (chk b) 0 = 0 <;> simp [h3]

def twoRow (i k : Nat) : Row := [.int (i : Int), .int (k : Int)]
def Two (c : C) : Prop := ∀ r ∈ c.rows, ∃ x y : Int, r = [.int x, .int y]
/-! twos, slices.Equal -/
theorem twos_l (c : C) (h2 : Two c) (hN : c.rows.length ≤ big) : ∀ (j i : Nat), i + j = c.rows.length → ∀ d : C, d.rows = c.rows.take i → ∃ d' : C, claplaw3_twos_l0 (lim T) c (c.rows.length : Int) (i : Int) d = some (0, [.r [d']]) ∧ d'.rows = c.rows
  | 0, i, h, d, hd => by
    rw [claplaw3_twos_l0_eq]; unfold claplaw3_twos_b0
    obtain rfl : i = c.rows.length := by omega
    exact ⟨d, by simp, by rw [hd, List.take_length]⟩
  | j + 1, i, h, d, hd => by
    rw [claplaw3_twos_l0_eq]; unfold claplaw3_twos_b0
    have hi : i < c.rows.length := by omega
    have h1 : (i : Int) < (c.rows.length : Int) := by omega
    have h0 : (0 : Int) ≤ (i : Int) := by omega
    obtain ⟨x, y, hxy⟩ := h2 _ (List.getElem_mem hi)
    have hr : rowsAt c.rows (i : Int).toNat = [.int x, .int y] := by rw [← hxy]; simp [rowsAt, hi]
    have hdl : d.rows.length ≤ i := by rw [hd, List.length_take]; omega
    have hg : (d.rows.length + 1) * 16 ≤ 140737488355328 := by unfold big at hN; omega
    obtain ⟨d', e1, e2⟩ := twos_l c h2 hN j (i + 1) (by omega) (appC d [[.int x, .int y]]) (by rw [appC_rows, hd, List.take_add_one, List.getElem?_eq_getElem hi, hxy]; rfl)
    refine ⟨d', ?_, e2⟩
    rw [hr]
    simp only [h1, h0, decide_true, and_self, if_true, List.length_cons, List.length_nil, Nat.zero_add, hg, at_zero, at_succ, toI_int, wrap_nat (show i ≤ big by omega), e1]
theorem twos_spec (c : C) (h2 : Two c) (hN : c.rows.length ≤ big) : ∃ d : C, (lim T).pc n_claplaw3_twos [[c]] = some [[d]] ∧ d.rows = c.rows := by
  rw [claplaw3_twos_pc]; unfold claplaw3_twos
  obtain ⟨d, e1, e2⟩ := twos_l c h2 hN _ 0 (Nat.zero_add _) .nils rfl
  simp only [Int.ofNat_zero, Int.natCast_zero] at e1
  exact ⟨d, by rw [e1]; simp, e2⟩
theorem equal_l (c d : C) (h2 : Two c) (hd : d.rows = c.rows) (hN : c.rows.length ≤ big) : ∀ (j i : Nat), i + j = c.rows.length → slices_Equal_clapref3_Two_l0 (lim T) d c (c.rows.length : Int) (i : Int) = some (0, [])
  | 0, i, h => by
    rw [slices_Equal_clapref3_Two_l0_eq]; unfold slices_Equal_clapref3_Two_b0
    obtain rfl : i = c.rows.length := by omega
    simp
  | j + 1, i, h => by
    rw [slices_Equal_clapref3_Two_l0_eq]; unfold slices_Equal_clapref3_Two_b0
    have hi : i < c.rows.length := by omega
    have h1 : (i : Int) < (c.rows.length : Int) := by omega
    have h0 : (0 : Int) ≤ (i : Int) := by omega
    obtain ⟨x, y, hxy⟩ := h2 _ (List.getElem_mem hi)
    have hr : rowsAt c.rows (i : Int).toNat = [.int x, .int y] := by rw [← hxy]; simp [rowsAt, hi]
    have ih := equal_l c d h2 hd hN j (i + 1) (by omega)
    rw [hd, hr]
    have hq : ceq [.int .i64, .int .i64] [.int x, .int y] [.int x, .int y] = true := by simp [ceq]
    simp only [h1, h0, decide_true, and_self, if_true, hq, Bool.not_true, Bool.false_eq_true, if_false, wrap_nat (show i ≤ big by omega), ih]
theorem equal_spec (c d : C) (h2 : Two c) (hd : d.rows = c.rows) (hN : c.rows.length ≤ big) : (lim T).pc n_slices_Equal_clapref3_Two [[d], [c]] = some [[.bool true]] := by
  rw [slices_Equal_clapref3_Two_pc]; unfold slices_Equal_clapref3_Two
  have := equal_l c d h2 hd hN _ 0 (Nat.zero_add _)
  simp only [Int.ofNat_zero, Int.natCast_zero] at this
  rw [hd, this]
  simp

end Go.Ev.Zze
namespace Go.Ev.Zze
abbrev Fld := Bytes × Val
/-! the cost of two elements -/
def dif : List Fld → List Fld → Int → Option Int
  | p :: r, q :: s, n => if p.1 = q.1 then dif r s (if p.2.eqv q.2 then n else n + 1) else none
  | _, _, n => some n
def costV (v w : Val) : Int := if v.eqv w then 0 else if v.k ≠ 6 ∨ w.k ≠ 6 ∨ v.fs.length ≠ w.fs.length then 3 else match dif v.fs w.fs 0 with | none => 3 | some n => if 3 < n then 3 else n
theorem dif_ge : ∀ (l r : List Fld) (n m : Int), dif l r n = some m → n ≤ m
  | p :: l, q :: r, n, m, h => by
    simp only [dif] at h
    split at h
    · have := dif_ge l r _ m h
      split at this <;> omega
    · cases h
  | [], _, n, m, h => by simp [dif] at h; omega
  | _ :: _, [], n, m, h => by simp [dif] at h; omega
theorem cost_rng (v w : Val) : 0 ≤ costV v w ∧ costV v w ≤ 3 := by
  unfold costV
  split
  · omega
  split
  · omega
  split
  · omega
  · rename_i n h
    have := dif_ge _ _ _ _ h
    split <;> omega
def difOut (x : Option Int) : Option (Nat × List PV) := match x with | some n => some (0, [.r [.int n]]) | none => some (1, [.r [.int 3]])
theorem cost_l (v w : Val) (hv : v.wf) (hw : w.wf) (hN : v.bulk ≤ big) (hl : v.fs.length = w.fs.length) : ∀ (j i : Nat), i + j = v.fs.length → ∀ n : Nat, n ≤ i →
    align_Cost_l0 (lim T) (.dp w.row) (n : Int) v.fc (v.fs.length : Int) (i : Int) = difOut (dif (v.fs.drop i) (w.fs.drop i) (n : Int))
  | 0, i, h, n, hn => by
    rw [align_Cost_l0_eq]; unfold align_Cost_b0
    obtain rfl : i = v.fs.length := by omega
    rw [List.drop_length]
    simp [dif, difOut]
  | j + 1, i, h, n, hn => by
    rw [align_Cost_l0_eq]; unfold align_Cost_b0
    have hi : i < v.fs.length := by omega
    have hi2 : i < w.fs.length := by omega
    have hib : i ≤ big := by have := v.bulk_len; omega
    have h1 : (i : Int) < (v.fs.length : Int) := by omega
    have h2 : (i : Int) < (w.fs.length : Int) := by omega
    have h0 : (0 : Int) ≤ (i : Int) := by omega
    have hr : rowsAt v.fc.rows (i : Int).toNat = fldRow v.fs[i] := by rw [v.fc_rows, Int.toNat_natCast]; exact rowsAt_map _ _ _ hi
    have hr2 : rowsAt w.fc.rows (i : Int).toNat = fldRow w.fs[i] := by rw [w.fc_rows, Int.toNat_natCast]; exact rowsAt_map _ _ _ hi2
    have hl1 : v.fc.rows.length = v.fs.length := by rw [v.fc_rows, List.length_map]
    have hl2 : w.fc.rows.length = w.fs.length := by rw [w.fc_rows, List.length_map]
    have hm := List.getElem_mem hi
    have hs := same_spec v.fs[i].2 w.fs[i].2 (Val.wf_mem hv hm) (Val.wf_mem hw (List.getElem_mem hi2)) (by have := Val.bulk_mem hm; omega)
    have ih1 := cost_l v w hv hw hN hl j (i + 1) (by omega) n (by omega)
    have ih2 := cost_l v w hv hw hN hl j (i + 1) (by omega) (n + 1) (by omega)
    rw [List.drop_eq_getElem_cons hi, List.drop_eq_getElem_cons hi2, dif]
    simp only [dpRow_dp, at_val3, hr, hr2, hl1, hl2, h0, h1, h2, decide_true, and_self, if_true, isDp_dp, at_fld0, at_fld1, at_fld2, at_fld3, at_fld4, toS_str, val_fold, hs, Option.bind_some, rowsAt_zero, at_zero, toB_bool, wrap_nat hib, wrap_nat (show n ≤ big by omega), ih1, ih2]
    by_cases hn : v.fs[i].1 = w.fs[i].1
    · have : (v.fs[i].1 == w.fs[i].1) = true := by simp [hn]
      simp only [this, Bool.not_true, Bool.false_eq_true, if_false, hn, if_true]
      cases v.fs[i].2.eqv w.fs[i].2 with
      | true => simp
      | false => simp
    · have : (v.fs[i].1 == w.fs[i].1) = false := by simp [hn]
      simp [this, hn, difOut]
theorem rcost_l (v w : Val) (hN : v.bulk ≤ big) (hl : v.fs.length = w.fs.length) : ∀ (j i : Nat), i + j = v.fs.length → ∀ n : Nat, n ≤ i →
    clapref3_Cost_l0 (lim T) (.dp w.row) (n : Int) v.fc (v.fs.length : Int) (i : Int) = difOut (dif (v.fs.drop i) (w.fs.drop i) (n : Int))
  | 0, i, h, n, hn => by
    rw [clapref3_Cost_l0_eq]; unfold clapref3_Cost_b0
    obtain rfl : i = v.fs.length := by omega
    rw [List.drop_length]
    simp [dif, difOut]
  | j + 1, i, h, n, hn => by
    rw [clapref3_Cost_l0_eq]; unfold clapref3_Cost_b0
    have hi : i < v.fs.length := by omega
    have hi2 : i < w.fs.length := by omega
    have hib : i ≤ big := by have := v.bulk_len; omega
    have h1 : (i : Int) < (v.fs.length : Int) := by omega
    have h2 : (i : Int) < (w.fs.length : Int) := by omega
    have h0 : (0 : Int) ≤ (i : Int) := by omega
    have hr : rowsAt v.fc.rows (i : Int).toNat = fldRow v.fs[i] := by rw [v.fc_rows, Int.toNat_natCast]; exact rowsAt_map _ _ _ hi
    have hr2 : rowsAt w.fc.rows (i : Int).toNat = fldRow w.fs[i] := by rw [w.fc_rows, Int.toNat_natCast]; exact rowsAt_map _ _ _ hi2
    have hl1 : v.fc.rows.length = v.fs.length := by rw [v.fc_rows, List.length_map]
    have hl2 : w.fc.rows.length = w.fs.length := by rw [w.fc_rows, List.length_map]
    have hm := List.getElem_mem hi
    have hs := rsame_spec v.fs[i].2 w.fs[i].2 (by have := Val.bulk_mem hm; omega)
    have ih1 := rcost_l v w hN hl j (i + 1) (by omega) n (by omega)
    have ih2 := rcost_l v w hN hl j (i + 1) (by omega) (n + 1) (by omega)
    rw [List.drop_eq_getElem_cons hi, List.drop_eq_getElem_cons hi2, dif]
    simp only [dpRow_dp, at_val3, hr, hr2, hl1, hl2, h0, h1, h2, decide_true, and_self, if_true, isDp_dp, at_fld0, at_fld1, at_fld2, at_fld3, at_fld4, toS_str, val_fold, hs, Option.bind_some, rowsAt_zero, at_zero, toB_bool, wrap_nat hib, wrap_nat (show n ≤ big by omega), ih1, ih2]
    by_cases hn : v.fs[i].1 = w.fs[i].1
    · have : (v.fs[i].1 == w.fs[i].1) = true := by simp [hn]
      simp only [this, Bool.not_true, Bool.false_eq_true, if_false, hn, if_true]
      cases v.fs[i].2.eqv w.fs[i].2 with
      | true => simp
      | false => simp
    · have : (v.fs[i].1 == w.fs[i].1) = false := by simp [hn]
      simp [this, hn, difOut]
theorem cost_spec (v w : Val) (hv : v.wf) (hw : w.wf) (hN : v.bulk ≤ big) : (lim T).pc n_align_Cost [v.row, w.row] = some [[.int (costV v w)]] := by
  rw [align_Cost_pc]; unfold align_Cost
  rw [same_spec v w hv hw hN]
  unfold costV
  cases he : v.eqv w with
  | true => simp
  | false =>
    have hl1 : v.fc.rows.length = v.fs.length := by rw [v.fc_rows, List.length_map]
    have hl2 : w.fc.rows.length = w.fs.length := by rw [w.fc_rows, List.length_map]
    by_cases hall : v.k = 6 ∧ w.k = 6 ∧ v.fs.length = w.fs.length
    · obtain ⟨hk, hk2, hl⟩ := hall
      have := cost_l v w hv hw hN hl _ 0 (Nat.zero_add _) 0 (Nat.le_refl _)
      simp only [Int.ofNat_zero, Int.natCast_zero, List.drop_zero] at this
      simp [hk, hk2, hl]
      rw [hl] at this
      rw [this]
      cases dif v.fs w.fs 0 with
      | none => simp [difOut]
      | some n => by_cases h3 : 3 < n <;> simp [difOut, h3]
    · have hor : v.k ≠ 6 ∨ w.k ≠ 6 ∨ v.fs.length ≠ w.fs.length := by
        rcases Decidable.em (v.k = 6) with h | h
        · rcases Decidable.em (w.k = 6) with h' | h'
          · exact .inr (.inr fun e => hall ⟨h, h', e⟩)
          · exact .inr (.inl h')
        · exact .inl h
      by_cases hk : v.k = 6 <;> by_cases hk2 : w.k = 6
      · have hl : v.fs.length ≠ w.fs.length := fun e => hall ⟨hk, hk2, e⟩
        have hne : ¬ ((v.fs.length : Int) = (w.fs.length : Int)) := by omega
        simp [hk, hk2, hl, hne]
      all_goals simp [hk, hk2]
theorem rcost_spec (v w : Val) (hN : v.bulk ≤ big) : (lim T).pc n_clapref3_Cost [v.row, w.row] = some [[.int (costV v w)]] := by
  rw [clapref3_Cost_pc]; unfold clapref3_Cost
  rw [rsame_spec v w hN]
  unfold costV
  cases he : v.eqv w with
  | true => simp
  | false =>
    have hl1 : v.fc.rows.length = v.fs.length := by rw [v.fc_rows, List.length_map]
    have hl2 : w.fc.rows.length = w.fs.length := by rw [w.fc_rows, List.length_map]
    by_cases hall : v.k = 6 ∧ w.k = 6 ∧ v.fs.length = w.fs.length
    · obtain ⟨hk, hk2, hl⟩ := hall
      have := rcost_l v w hN hl _ 0 (Nat.zero_add _) 0 (Nat.le_refl _)
      simp only [Int.ofNat_zero, Int.natCast_zero, List.drop_zero] at this
      simp [hk, hk2, hl]
      rw [hl] at this
      rw [this]
      cases dif v.fs w.fs 0 with
      | none => simp [difOut]
      | some n => by_cases h3 : 3 < n <;> simp [difOut, h3]
    · have hor : v.k ≠ 6 ∨ w.k ≠ 6 ∨ v.fs.length ≠ w.fs.length := by
        rcases Decidable.em (v.k = 6) with h | h
        · rcases Decidable.em (w.k = 6) with h' | h'
          · exact .inr (.inr fun e => hall ⟨h, h', e⟩)
          · exact .inr (.inl h')
        · exact .inl h
      by_cases hk : v.k = 6 <;> by_cases hk2 : w.k = 6
      · have hl : v.fs.length ≠ w.fs.length := fun e => hall ⟨hk, hk2, e⟩
        have hne : ¬ ((v.fs.length : Int) = (w.fs.length : Int)) := by omega
        simp [hk, hk2, hl, hne]
      all_goals simp [hk, hk2]
end Go.Ev.Zze
namespace Go.Ev.Zze
/-! the least costs -/
def D : List Fld → List Fld → Int
  | [], ys => 2 * ys.length
  | _ :: xs, [] => 2 * (xs.length + 1)
  | a :: xs, b :: ys =>
    let x := costV a.2 b.2 + D xs ys; let y := D xs (b :: ys) + 2; let z := D (a :: xs) ys + 2
    if z < (if y < x then y else x) then z else (if y < x then y else x)
  termination_by xs ys => xs.length + ys.length
theorem D_nil_l (ys : List Fld) : D [] ys = 2 * ys.length := by rw [D]
theorem D_nil_r (xs : List Fld) : D xs [] = 2 * xs.length := by
  cases xs with
  | nil => exact D_nil_l []
  | cons a xs => rw [D]; simp
theorem D_cons (a b : Fld) (xs ys : List Fld) : D (a :: xs) (b :: ys) = if D (a :: xs) ys + 2 < (if D xs (b :: ys) + 2 < costV a.2 b.2 + D xs ys then D xs (b :: ys) + 2 else costV a.2 b.2 + D xs ys) then D (a :: xs) ys + 2 else (if D xs (b :: ys) + 2 < costV a.2 b.2 + D xs ys then D xs (b :: ys) + 2 else costV a.2 b.2 + D xs ys) := by rw [D]
theorem D_rng : ∀ (xs ys : List Fld), 0 ≤ D xs ys ∧ D xs ys ≤ 2 * (xs.length + ys.length)
  | [], ys => by rw [D_nil_l]; simp; omega
  | a :: xs, [] => by rw [D_nil_r]; simp; omega
  | a :: xs, b :: ys => by
    have h1 := D_rng xs ys
    have h2 := D_rng xs (b :: ys)
    have h3 := D_rng (a :: xs) ys
    have hc := cost_rng a.2 b.2
    rw [D_cons]
    simp only [List.length_cons] at *
    split <;> split <;> omega
  termination_by xs ys => xs.length + ys.length
/-- The least cost from places i and k on. -/
def Dk (a b : Val) (i k : Nat) : Int := D (a.fs.drop i) (b.fs.drop k)
theorem Dk_rng (a b : Val) (i k : Nat) : 0 ≤ Dk a b i k ∧ Dk a b i k ≤ 2 * (a.fs.length + b.fs.length) := by
  have := D_rng (a.fs.drop i) (b.fs.drop k)
  simp only [List.length_drop] at this
  unfold Dk; omega
theorem Dk_n (a b : Val) (k : Nat) (hk : k ≤ b.fs.length) : Dk a b a.fs.length k = 2 * ((b.fs.length : Int) - k) := by
  unfold Dk; rw [List.drop_length, D_nil_l, List.length_drop]; omega
theorem Dk_m (a b : Val) (i : Nat) (hi : i ≤ a.fs.length) : Dk a b i b.fs.length = 2 * ((a.fs.length : Int) - i) := by
  unfold Dk; rw [List.drop_length, D_nil_r, List.length_drop]; omega
theorem Dk_step (a b : Val) (i k : Nat) (hi : i < a.fs.length) (hk : k < b.fs.length) : Dk a b i k =
    if Dk a b i (k + 1) + 2 < (if Dk a b (i + 1) k + 2 < costV a.fs[i].2 b.fs[k].2 + Dk a b (i + 1) (k + 1) then Dk a b (i + 1) k + 2 else costV a.fs[i].2 b.fs[k].2 + Dk a b (i + 1) (k + 1)) then Dk a b i (k + 1) + 2
    else (if Dk a b (i + 1) k + 2 < costV a.fs[i].2 b.fs[k].2 + Dk a b (i + 1) (k + 1) then Dk a b (i + 1) k + 2 else costV a.fs[i].2 b.fs[k].2 + Dk a b (i + 1) (k + 1)) := by
  unfold Dk
  rw [List.drop_eq_getElem_cons hi, List.drop_eq_getElem_cons hk, D_cons]
/-! align.table -/
def curR (a b : Val) (i j : Nat) : List Row := (List.range (b.fs.length + 1)).map fun q => [.int (if j ≤ q then Dk a b i q else 0)]
def tabR (a b : Val) (j : Nat) : List Row := (List.range (a.fs.length + 1)).map fun q => [if j ≤ q then .sl (curR a b q 0) else .nils]
theorem curR_len (a b : Val) (i j : Nat) : (curR a b i j).length = b.fs.length + 1 := by simp [curR]
theorem tabR_len (a b : Val) (j : Nat) : (tabR a b j).length = a.fs.length + 1 := by simp [tabR]
theorem curR_at (a b : Val) (i j q : Nat) (h : q ≤ b.fs.length) : rowsAt (curR a b i j) q = [.int (if j ≤ q then Dk a b i q else 0)] := by
  unfold curR; rw [rowsAt_map _ _ _ (by simp; omega)]; simp
theorem tabR_at (a b : Val) (j q : Nat) (h : q ≤ a.fs.length) : rowsAt (tabR a b j) q = [if j ≤ q then .sl (curR a b q 0) else .nils] := by
  unfold tabR; rw [rowsAt_map _ _ _ (by simp; omega)]; simp
theorem curR_set (a b : Val) (i j : Nat) (h : j ≤ b.fs.length) : (curR a b i (j + 1)).set j [.int (Dk a b i j)] = curR a b i j := by
  apply List.ext_getElem
  · simp [curR]
  · intro q h1 h2
    have hq : q < b.fs.length + 1 := by simpa [curR] using h2
    rw [List.getElem_set]
    by_cases e : j = q
    · subst e; simp [curR]
    · rw [if_neg e]
      simp only [curR, List.getElem_map, List.getElem_range]
      by_cases h3 : j + 1 ≤ q
      · rw [if_pos h3, if_pos (by omega)]
      · rw [if_neg h3, if_neg (by omega)]
theorem tabR_set (a b : Val) (j : Nat) (h : j ≤ a.fs.length) : (tabR a b (j + 1)).set j [.sl (curR a b j 0)] = tabR a b j := by
  apply List.ext_getElem
  · simp [tabR]
  · intro q h1 h2
    have hq : q < a.fs.length + 1 := by simpa [tabR] using h2
    rw [List.getElem_set]
    by_cases e : j = q
    · subst e; simp [tabR]
    · rw [if_neg e]
      simp only [tabR, List.getElem_map, List.getElem_range]
      by_cases h3 : j + 1 ≤ q
      · rw [if_pos h3, if_pos (by omega)]
      · rw [if_neg h3, if_neg (by omega)]
theorem wrapZ {n : Int} (h0 : -1 ≤ n) (h1 : n ≤ 1000000000000) : Go.IntKind.wrap .i64 n = n := wrap_i64 ⟨by omega, by omega⟩
theorem tab_l1 (a b : Val) (ha : a.wf) (hb : b.wf) (hN : a.bulk + b.bulk ≤ big) (i : Nat) (hi : i ≤ a.fs.length) : ∀ (j : Nat), j ≤ b.fs.length + 1 →
    align_table_l1 (lim T) a.fc b.fc (i : Int) ((j : Int) - 1) [.sl (tabR a b (i + 1)), .int (i : Int)] (.sl (curR a b i j)) = some (0, [.r [a.fc], .r [b.fc], .r [.int (i : Int)], .r [.sl (tabR a b (i + 1)), .int (i : Int)], .r [.sl (curR a b i 0)]])
  | 0, h => by
    rw [align_table_l1_eq]; unfold align_table_b1
    simp
  | j + 1, h => by
    have hla : a.fc.rows.length = a.fs.length := by rw [a.fc_rows, List.length_map]
    have hlb : b.fc.rows.length = b.fs.length := by rw [b.fc_rows, List.length_map]
    have ba := a.bulk_len
    have bb := b.bulk_len
    have hB : a.fs.length + b.fs.length ≤ 4294967296 := by unfold big at hN; omega
    have ih := tab_l1 a b ha hb hN i hi j (by omega)
    rw [align_table_l1_eq]; unfold align_table_b1
    have e : ((j + 1 : Nat) : Int) - 1 = (j : Int) := by omega
    rw [e]
    have hj0 : (0 : Int) ≤ (j : Int) := by omega
    have hi0 : (0 : Int) ≤ (i : Int) := by omega
    have t1 : (i : Int) < ((tabR a b (i + 1)).length : Int) := by rw [tabR_len]; omega
    have t2 : i < (tabR a b (i + 1)).length := by rw [tabR_len]; omega
    have t3 : (j : Int) < ((curR a b i (j + 1)).length : Int) := by rw [curR_len]; omega
    have t4 : j < (curR a b i (j + 1)).length := by rw [curR_len]; omega
    have wj : IntKind.wrap .i64 ((j : Int) - 1) = (j : Int) - 1 := wrapZ (by omega) (by omega)
    rw [if_pos (show decide ((j : Int) ≥ 0) = true from decide_eq_true hj0)]
    by_cases hin : i = a.fs.length
    · have : ((i : Int) == (a.fs.length : Int)) = true := by simp [hin]
      have w1 : IntKind.wrap .i64 ((b.fs.length : Int) - (j : Int)) = (b.fs.length : Int) - j := wrapZ (by omega) (by omega)
      have w2 : IntKind.wrap .i64 (2 * ((b.fs.length : Int) - (j : Int))) = 2 * ((b.fs.length : Int) - j) := wrapZ (by omega) (by omega)
      have hd := Dk_n a b j (by omega)
      rw [← hin] at hd
      simp only [at_zero, at_1, rows_sl, toI_int, Int.toNat_natCast, hla, hlb, wj, this, if_true, w1, w2, hj0, hi0, t1, t2, t3, t4, and_self]
      rw [← hd, curR_set a b i j (by omega)]
      exact ih
    · have hne : ((i : Int) == (a.fs.length : Int)) = false := by simp; omega
      by_cases hjm : j = b.fs.length
      · have : ((j : Int) == (b.fs.length : Int)) = true := by simp [hjm]
        have w1 : IntKind.wrap .i64 ((a.fs.length : Int) - (i : Int)) = (a.fs.length : Int) - i := wrapZ (by omega) (by omega)
        have w2 : IntKind.wrap .i64 (2 * ((a.fs.length : Int) - (i : Int))) = 2 * ((a.fs.length : Int) - i) := wrapZ (by omega) (by omega)
        have hd := Dk_m a b i hi
        rw [← hjm] at hd
        simp only [at_zero, at_1, rows_sl, toI_int, Int.toNat_natCast, hla, hlb, wj, hne, Bool.false_eq_true, if_false, this, if_true, w1, w2, hj0, hi0, t1, t2, t3, t4, and_self]
        rw [← hd, curR_set a b i j (by omega)]
        exact ih
      · have hne2 : ((j : Int) == (b.fs.length : Int)) = false := by simp; omega
        have hi2 : i < a.fs.length := by omega
        have hj2 : j < b.fs.length := by omega
        have wi1 : IntKind.wrap .i64 ((i : Int) + 1) = ((i + 1 : Nat) : Int) := by rw [wrapZ (by omega) (by omega)]; omega
        have wj1 : IntKind.wrap .i64 ((j : Int) + 1) = ((j + 1 : Nat) : Int) := by rw [wrapZ (by omega) (by omega)]; omega
        have hra : rowsAt a.fc.rows i = fldRow a.fs[i] := by rw [a.fc_rows]; exact rowsAt_map _ _ _ hi2
        have hrb : rowsAt b.fc.rows j = fldRow b.fs[j] := by rw [b.fc_rows]; exact rowsAt_map _ _ _ hj2
        have ma := List.getElem_mem hi2
        have mb := List.getElem_mem hj2
        have hcs := cost_spec a.fs[i].2 b.fs[j].2 (Val.wf_mem ha ma) (Val.wf_mem hb mb) (by have := Val.bulk_mem ma; omega)
        have hti : rowsAt (tabR a b (i + 1)) (i + 1) = [.sl (curR a b (i + 1) 0)] := by rw [tabR_at a b _ _ (by omega), if_pos (Nat.le_refl _)]
        have hc1 : rowsAt (curR a b (i + 1) 0) j = [.int (Dk a b (i + 1) j)] := by rw [curR_at a b _ _ _ (by omega), if_pos (Nat.zero_le _)]
        have hc2 : rowsAt (curR a b (i + 1) 0) (j + 1) = [.int (Dk a b (i + 1) (j + 1))] := by rw [curR_at a b _ _ _ (by omega), if_pos (Nat.zero_le _)]
        have hc3 : rowsAt (curR a b i (j + 1)) (j + 1) = [.int (Dk a b i (j + 1))] := by rw [curR_at a b _ _ _ (by omega), if_pos (Nat.le_refl _)]
        have u0 : (0 : Int) ≤ ((i + 1 : Nat) : Int) := by omega
        have u0' : (0 : Int) ≤ ((j + 1 : Nat) : Int) := by omega
        have u1 : ((i + 1 : Nat) : Int) < ((tabR a b (i + 1)).length : Int) := by rw [tabR_len]; omega
        have u2 : i + 1 < (tabR a b (i + 1)).length := by rw [tabR_len]; omega
        have u2' : (i + 1 = i) = False := by simp
        have u3 : ((j + 1 : Nat) : Int) < ((curR a b (i + 1) 0).length : Int) := by rw [curR_len]; omega
        have u4 : (i : Int) < (a.fs.length : Int) := by omega
        have u5 : (j : Int) < (b.fs.length : Int) := by omega
        have u6 : (j : Int) < ((curR a b (i + 1) 0).length : Int) := by rw [curR_len]; omega
        have u7 : ((j + 1 : Nat) : Int) < ((curR a b i (j + 1)).length : Int) := by rw [curR_len]; omega
        have u8 : j + 1 < (curR a b i (j + 1)).length := by rw [curR_len]; omega
        have d1 := Dk_rng a b (i + 1) j
        have d2 := Dk_rng a b (i + 1) (j + 1)
        have d3 := Dk_rng a b i (j + 1)
        have dc := cost_rng a.fs[i].2 b.fs[j].2
        have w1 : IntKind.wrap .i64 (Dk a b i (j + 1) + 2) = Dk a b i (j + 1) + 2 := wrapZ (by omega) (by omega)
        have w2 : IntKind.wrap .i64 (Dk a b (i + 1) j + 2) = Dk a b (i + 1) j + 2 := wrapZ (by omega) (by omega)
        have w3 : IntKind.wrap .i64 (Dk a b (i + 1) (j + 1) + costV a.fs[i].2 b.fs[j].2) = costV a.fs[i].2 b.fs[j].2 + Dk a b (i + 1) (j + 1) := by rw [wrapZ (by omega) (by omega)]; omega
        simp only [at_zero, at_1, rows_sl, toI_int, Int.toNat_natCast, hla, hlb, wj, hne, hne2, Bool.false_eq_true, if_false, wi1, wj1, hra, hrb, at_fld1, at_fld2, at_fld3, at_fld4, val_fold, hcs, Option.bind_some, rowsAt_zero, hti, hc1, hc2, hc3, w1, w2, w3, hj0, hi0, t1, t2, t3, t4, u0, u0', u1, u2, u2', u3, u4, u5, u6, u7, u8, and_self, if_true, ne_eq, not_false_eq_true]
        rw [← Dk_step a b i j hi2 hj2, curR_set a b i j (by omega)]
        exact ih
theorem tab_l0 (a b : Val) (ha : a.wf) (hb : b.wf) (hN : a.bulk + b.bulk ≤ big) : ∀ (j : Nat), j ≤ a.fs.length + 1 →
    align_table_l0 (lim T) a.fc b.fc ((j : Int) - 1) (.sl (tabR a b j)) = some (0, [.r [.sl (tabR a b 0)]])
  | 0, h => by
    rw [align_table_l0_eq]; unfold align_table_b0
    simp
  | j + 1, h => by
    have hlb : b.fc.rows.length = b.fs.length := by rw [b.fc_rows, List.length_map]
    have ba := a.bulk_len
    have bb := b.bulk_len
    have hB : a.fs.length + b.fs.length ≤ 4294967296 := by unfold big at hN; omega
    have ih := tab_l0 a b ha hb hN j (by omega)
    have hin := tab_l1 a b ha hb hN j (by omega) (b.fs.length + 1) (Nat.le_refl _)
    rw [align_table_l0_eq]; unfold align_table_b0
    have e : ((j + 1 : Nat) : Int) - 1 = (j : Int) := by omega
    have e2 : ((b.fs.length + 1 : Nat) : Int) - 1 = (b.fs.length : Int) := by omega
    rw [e2] at hin
    rw [e]
    have hj0 : (0 : Int) ≤ (j : Int) := by omega
    rw [if_pos (show decide ((j : Int) ≥ 0) = true from decide_eq_true hj0)]
    have wb : IntKind.wrap .i64 ((b.fs.length : Int) + 1) = ((b.fs.length + 1 : Nat) : Int) := by rw [wrapZ (by omega) (by omega)]; omega
    have wj : IntKind.wrap .i64 ((j : Int) - 1) = (j : Int) - 1 := wrapZ (by omega) (by omega)
    have hrep : List.replicate (b.fs.length + 1) ([.int 0] : Row) = curR a b j (b.fs.length + 1) := by
      apply List.ext_getElem
      · simp [curR]
      · intro q h1 h2
        simp only [curR, List.getElem_replicate, List.getElem_map, List.getElem_range]
        have : q < b.fs.length + 1 := by simpa using h1
        rw [if_neg (by omega)]
    have t0 : (0 : Int) ≤ ((b.fs.length + 1 : Nat) : Int) ∧ ((b.fs.length + 1 : Nat) : Int) ≤ ((b.fs.length + 1 : Nat) : Int) ∧ ((b.fs.length + 1 : Nat) : Int) * 8 ≤ 140737488355328 ∧ ((b.fs.length + 1 : Nat) : Int) ≤ 1099511627776 := by omega
    have t1 : (0 : Int) ≤ (j : Int) ∧ (j : Int) < ((tabR a b (j + 1)).length : Int) := by rw [tabR_len]; omega
    have t2 : (tabR a b (j + 1)).length ≤ (tabR a b (j + 1)).length ∧ j < (tabR a b (j + 1)).length := by rw [tabR_len]; omega
    simp only [asRows, hlb, wb, Int.toNat_natCast, hrep]
    rw [if_pos t0, if_pos t1, if_pos t2, hin]
    simp only [Option.bind_some, gC_s, gC_z, gI_s, gI_z, gR_s, gR_z, wj, at_1, toI_int, Int.toNat_natCast, rows_sl]
    rw [tabR_set a b j (by omega)]
    exact ih
theorem table_spec (a b : Val) (ha : a.wf) (hb : b.wf) (hN : a.bulk + b.bulk ≤ big) : (lim T).pc n_align_table [[a.fc], [b.fc]] = some [[.sl (tabR a b 0)]] := by
  rw [align_table_pc]; unfold align_table
  have ba := a.bulk_len
  have bb := b.bulk_len
  have hB : a.fs.length + b.fs.length ≤ 4294967296 := by unfold big at hN; omega
  have hla : a.fc.rows.length = a.fs.length := by rw [a.fc_rows, List.length_map]
  have wa : IntKind.wrap .i64 ((a.fs.length : Int) + 1) = ((a.fs.length + 1 : Nat) : Int) := by rw [wrapZ (by omega) (by omega)]; omega
  have hrep : List.replicate (a.fs.length + 1) ([.nils] : Row) = tabR a b (a.fs.length + 1) := by
    apply List.ext_getElem
    · simp [tabR]
    · intro q h1 h2
      simp only [tabR, List.getElem_replicate, List.getElem_map, List.getElem_range]
      have : q < a.fs.length + 1 := by simpa using h1
      rw [if_neg (by omega)]
  have t0 : (0 : Int) ≤ ((a.fs.length + 1 : Nat) : Int) ∧ ((a.fs.length + 1 : Nat) : Int) ≤ ((a.fs.length + 1 : Nat) : Int) ∧ ((a.fs.length + 1 : Nat) : Int) * 24 ≤ 140737488355328 ∧ ((a.fs.length + 1 : Nat) : Int) ≤ 1099511627776 := by omega
  have h := tab_l0 a b ha hb hN (a.fs.length + 1) (Nat.le_refl _)
  have e : ((a.fs.length + 1 : Nat) : Int) - 1 = (a.fs.length : Int) := by omega
  rw [e] at h
  rw [hla, wa, if_pos t0, Int.toNat_natCast, hrep, h]
  rfl
end Go.Ev.Zze
namespace Go.Ev.Zze
/-! the reference's known costs -/
theorem find_setG {κ : Type} [DecidableEq κ] (kl : L) (f : Row → κ) (hf : ∀ x y, ceq kl.ks x y = decide (f x = f y)) (x y v : Row) : ∀ (es : List (Row × Row)), findE kl x (setE kl y v es) = if f x = f y then some v else findE kl x es
  | [] => by
    simp only [setE, findE, hf]
    by_cases h : f x = f y <;> simp [h]
  | (q, u) :: r => by
    have ih := find_setG kl f hf x y v r
    simp only [setE, findE, hf]
    by_cases h : f y = f q
    · simp only [h, decide_true, if_true, findE, hf]
      by_cases h2 : f x = f q <;> simp [h2]
    · simp only [h, decide_false, Bool.false_eq_true, if_false, findE, hf, ih]
      by_cases h2 : f x = f q
      · simp only [h2, decide_true, if_true]
        rw [if_neg (fun e => h e.symm)]
      · simp [h2]
def two (r : Row) : Int × Int := ((at_ r 0).toI, (at_ (r.drop 1) 0).toI)
theorem ceq_two (x y : Row) : ceq lA2.ks x y = decide (two x = two y) := by
  simp only [L.ks, ceq, two, Prod.mk.injEq, Bool.and_true]
  generalize (at_ x 0).toI = p
  generalize (at_ y 0).toI = q
  generalize (at_ (x.drop 1) 0).toI = p'
  generalize (at_ (y.drop 1) 0).toI = q'
  by_cases h : p = q <;> by_cases h2 : p' = q' <;> simp [h, h2]
theorem find_set (i k i' k' : Int) (v : Row) (es : List (Row × Row)) : findE lA2 [.int i, .int k] (setE lA2 [.int i', .int k'] v es) = if i = i' ∧ k = k' then some v else findE lA2 [.int i, .int k] es := by
  rw [find_setG lA2 two ceq_two]
  simp [two]
/-- What is known is right. -/
def Inv (a b : Val) (es : List (Row × Row)) : Prop := ∀ i k : Nat, i ≤ a.fs.length → k ≤ b.fs.length → ∀ v, findE lA2 [.int (i : Int), .int (k : Int)] es = some v → v = [.int (Dk a b i k)]
theorem inv_nil (a b : Val) : Inv a b [] := fun i k _ _ v h => by simp [findE] at h
theorem inv_set (a b : Val) (es : List (Row × Row)) (h : Inv a b es) (i k : Nat) : Inv a b (setE lA2 [.int (i : Int), .int (k : Int)] [.int (Dk a b i k)] es) := fun i' k' hi hk v hv => by
  rw [find_set] at hv
  split at hv
  · rename_i e
    obtain ⟨e1, e2⟩ := e
    obtain rfl : i' = i := by omega
    obtain rfl : k' = k := by omega
    exact (Option.some.inj hv).symm
  · exact h i' k' hi hk v hv
theorem memo (a b : Val) (hN : a.bulk + b.bulk ≤ big) (i k : Nat) (hi : i ≤ a.fs.length) (hk : k ≤ b.fs.length) (es : List (Row × Row)) (he : Inv a b es) :
    ∃ es', Inv a b es' ∧ (lim T).ic clapref3_ByEdits_1_i0_n [.r [.int (i : Int)], .r [.int (k : Int)], .r [.dp a.row], .r [.dp b.row], .r [.dp a.row], .r [.dp b.row], .m es] = some [.r [.int (Dk a b i k)], .r [.dp a.row], .r [.dp b.row], .m es'] := by
  have ba := a.bulk_len
  have bb := b.bulk_len
  have hB : a.fs.length + b.fs.length ≤ 4294967296 := by unfold big at hN; omega
  have hla : a.fc.rows.length = a.fs.length := by rw [a.fc_rows, List.length_map]
  have hlb : b.fc.rows.length = b.fs.length := by rw [b.fc_rows, List.length_map]
  rw [clapref3_ByEdits_1_i0_ic]; unfold clapref3_ByEdits_1_i0
  cases hf : findE lA2 [.int (i : Int), .int (k : Int)] es with
  | some v =>
    have := he i k hi hk v hf
    subst this
    exact ⟨es, he, by simp⟩
  | none =>
    have w1 : IntKind.wrap .i64 ((a.fs.length : Int) - (i : Int)) = (a.fs.length : Int) - i := wrapZ (by omega) (by omega)
    have w2 : IntKind.wrap .i64 ((a.fs.length : Int) - (i : Int) + (b.fs.length : Int)) = (a.fs.length : Int) - i + b.fs.length := wrapZ (by omega) (by omega)
    have w3 : IntKind.wrap .i64 ((a.fs.length : Int) - (i : Int) + (b.fs.length : Int) - (k : Int)) = (a.fs.length : Int) - i + b.fs.length - k := wrapZ (by omega) (by omega)
    have w4 : IntKind.wrap .i64 (2 * ((a.fs.length : Int) - (i : Int) + (b.fs.length : Int) - (k : Int))) = 2 * ((a.fs.length : Int) - i + b.fs.length - k) := wrapZ (by omega) (by omega)
    by_cases hlt : i < a.fs.length ∧ k < b.fs.length
    · obtain ⟨hi2, hk2⟩ := hlt
      obtain ⟨e1, i1, c1⟩ := memo a b hN (i + 1) (k + 1) (by omega) (by omega) es he
      obtain ⟨e2, i2, c2⟩ := memo a b hN (i + 1) k (by omega) (by omega) e1 i1
      obtain ⟨e3, i3, c3⟩ := memo a b hN i (k + 1) (by omega) (by omega) e2 i2
      have ma := List.getElem_mem hi2
      have hcs := rcost_spec a.fs[i].2 b.fs[k].2 (by have := Val.bulk_mem ma; omega)
      have wi1 : IntKind.wrap .i64 ((i : Int) + 1) = ((i + 1 : Nat) : Int) := by rw [wrapZ (by omega) (by omega)]; omega
      have wk1 : IntKind.wrap .i64 ((k : Int) + 1) = ((k + 1 : Nat) : Int) := by rw [wrapZ (by omega) (by omega)]; omega
      have hra : rowsAt a.fc.rows i = fldRow a.fs[i] := by rw [a.fc_rows]; exact rowsAt_map _ _ _ hi2
      have hrb : rowsAt b.fc.rows k = fldRow b.fs[k] := by rw [b.fc_rows]; exact rowsAt_map _ _ _ hk2
      have h1 : (i : Int) < (a.fs.length : Int) := by omega
      have h2 : (k : Int) < (b.fs.length : Int) := by omega
      have h3 : (0 : Int) ≤ (i : Int) := by omega
      have h4 : (0 : Int) ≤ (k : Int) := by omega
      have d1 := Dk_rng a b (i + 1) k
      have d2 := Dk_rng a b (i + 1) (k + 1)
      have d3 := Dk_rng a b i (k + 1)
      have dc := cost_rng a.fs[i].2 b.fs[k].2
      have x1 : IntKind.wrap .i64 (2 + Dk a b i (k + 1)) = Dk a b i (k + 1) + 2 := by rw [wrapZ (by omega) (by omega)]; omega
      have x2 : IntKind.wrap .i64 (2 + Dk a b (i + 1) k) = Dk a b (i + 1) k + 2 := by rw [wrapZ (by omega) (by omega)]; omega
      have x3 : IntKind.wrap .i64 (costV a.fs[i].2 b.fs[k].2 + Dk a b (i + 1) (k + 1)) = costV a.fs[i].2 b.fs[k].2 + Dk a b (i + 1) (k + 1) := wrapZ (by omega) (by omega)
      refine ⟨_, inv_set a b e3 i3 i k, ?_⟩
      simp only [Option.isSome_none, Bool.false_eq_true, if_false, isDp_dp, dpRow_dp, at_val3, hla, hlb, if_true, h1, h2, decide_true, Option.bind_some, gB_s, gB_z, gC_s, gC_z, gI_s, gI_z, gM_s, gM_z, h3, h4, and_self, Int.toNat_natCast, hra, hrb, at_fld1, at_fld2, at_fld3, at_fld4, val_fold, hcs, rowsAt_zero, at_zero, toI_int, wi1, wk1, c1, c2, c3, x1, x2, x3, ← Dk_step a b i k hi2 hk2]
    · have hD : Dk a b i k = 2 * ((a.fs.length : Int) - i + b.fs.length - k) := by
        by_cases h : i = a.fs.length
        · rw [h, Dk_n a b k hk]; omega
        · obtain rfl : k = b.fs.length := by omega
          rw [Dk_m a b i hi]; omega
      refine ⟨_, inv_set a b es he i k, ?_⟩
      rw [hD]
      by_cases h : i < a.fs.length
      · have h1 : (i : Int) < (a.fs.length : Int) := by omega
        have h2 : ¬ (k : Int) < (b.fs.length : Int) := by omega
        simp only [Option.isSome_none, Bool.false_eq_true, if_false, isDp_dp, dpRow_dp, at_val3, hla, hlb, if_true, h1, h2, decide_true, decide_false, Option.bind_some, gB_s, gB_z, gC_s, gC_z, gI_s, gI_z, gM_s, gM_z, w1, w2, w3, w4]
      · have h1 : ¬ (i : Int) < (a.fs.length : Int) := by omega
        simp only [Option.isSome_none, Bool.false_eq_true, if_false, isDp_dp, dpRow_dp, at_val3, hla, hlb, if_true, h1, decide_true, decide_false, Option.bind_some, gB_s, gB_z, gC_s, gC_z, gI_s, gI_z, gM_s, gM_z, w1, w2, w3, w4]
  termination_by (a.fs.length - i) + (b.fs.length - k)

/-! the pairs -/
def outF (a b : Val) : Nat → Nat → Nat → C → C
  | 0, _, _, c => c
  | j + 1, i, k, c => if i < a.fs.length ∧ k < b.fs.length then
      (if Dk a b i k = costV (a.fs.getD i ([], .mk 0 0 [] true [])).2 (b.fs.getD k ([], .mk 0 0 [] true [])).2 + Dk a b (i + 1) (k + 1) then outF a b j (i + 1) (k + 1) (appC c [twoRow i k])
       else if Dk a b i k = Dk a b (i + 1) k + 2 then outF a b j (i + 1) k c else outF a b j i (k + 1) c) else c
theorem outF_stop (a b : Val) (j i k : Nat) (c : C) (h : ¬ (i < a.fs.length ∧ k < b.fs.length)) : outF a b j i k c = c := by
  cases j with
  | zero => rfl
  | succ j => rw [outF, if_neg h]
theorem two_app {c : C} (h : Two c) (i k : Nat) : Two (appC c [twoRow i k]) := fun r hr => by
  simp only [appC_rows, List.mem_append, List.mem_singleton] at hr
  rcases hr with hr | rfl
  · exact h r hr
  · exact ⟨_, _, rfl⟩
theorem outF_two (a b : Val) : ∀ (j i k : Nat) (c : C), Two c → c.rows.length ≤ i → i ≤ a.fs.length → Two (outF a b j i k c) ∧ (outF a b j i k c).rows.length ≤ a.fs.length
  | 0, i, k, c, h, hl, hi => ⟨h, by simp only [outF]; omega⟩
  | j + 1, i, k, c, h, hl, hi => by
    rw [outF]
    split
    · split
      · exact outF_two a b j (i + 1) (k + 1) _ (two_app h i k) (by simp; omega) (by omega)
      · split
        · exact outF_two a b j (i + 1) k c h (by omega) (by omega)
        · exact outF_two a b j i (k + 1) c h hl hi
    · exact ⟨h, by omega⟩
theorem edits_l (a b : Val) (ha : a.wf) (hb : b.wf) (hN : a.bulk + b.bulk ≤ big) : ∀ (j i k : Nat), i ≤ a.fs.length → k ≤ b.fs.length → (a.fs.length - i) + (b.fs.length - k) ≤ j → ∀ c : C, c.rows.length ≤ i →
    align_ByEdits_l0 (lim T) (.dp a.row) (.dp b.row) (.sl (tabR a b 0)) (i : Int) (k : Int) c = some (0, [.r [.sl (tabR a b 0)], .r [outF a b j i k c]])
  | j, i, k, hi, hk, hj, c, hc => by
    have ba := a.bulk_len
    have bb := b.bulk_len
    have hB : a.fs.length + b.fs.length ≤ 4294967296 := by unfold big at hN; omega
    have hla : a.fc.rows.length = a.fs.length := by rw [a.fc_rows, List.length_map]
    have hlb : b.fc.rows.length = b.fs.length := by rw [b.fc_rows, List.length_map]
    have wi1 : IntKind.wrap .i64 ((i : Int) + 1) = ((i + 1 : Nat) : Int) := by rw [wrapZ (by omega) (by omega)]; omega
    have wk1 : IntKind.wrap .i64 ((k : Int) + 1) = ((k + 1 : Nat) : Int) := by rw [wrapZ (by omega) (by omega)]; omega
    have h3 : (0 : Int) ≤ (i : Int) := by omega
    have h4 : (0 : Int) ≤ (k : Int) := by omega
    have h3' : (0 : Int) ≤ ((i + 1 : Nat) : Int) := by omega
    have h4' : (0 : Int) ≤ ((k + 1 : Nat) : Int) := by omega
    have tl : (tabR a b 0).length = a.fs.length + 1 := tabR_len a b 0
    have cl : ∀ q, (curR a b q 0).length = b.fs.length + 1 := fun q => curR_len a b q 0
    have ht : rowsAt (tabR a b 0) i = [.sl (curR a b i 0)] := by rw [tabR_at a b _ _ (by omega), if_pos (Nat.zero_le _)]
    have hc0 : rowsAt (curR a b i 0) k = [.int (Dk a b i k)] := by rw [curR_at a b _ _ _ (by omega), if_pos (Nat.zero_le _)]
    have u0 : (i : Int) < ((a.fs.length + 1 : Nat) : Int) := by omega
    have u0' : (k : Int) < ((b.fs.length + 1 : Nat) : Int) := by omega
    rw [align_ByEdits_l0_eq]; unfold align_ByEdits_b0
    by_cases hi2 : i < a.fs.length
    · have h1 : (i : Int) < (a.fs.length : Int) := by omega
      have u1 : ((i + 1 : Nat) : Int) < ((a.fs.length + 1 : Nat) : Int) := by omega
      have ht1 : rowsAt (tabR a b 0) (i + 1) = [.sl (curR a b (i + 1) 0)] := by rw [tabR_at a b _ _ (by omega), if_pos (Nat.zero_le _)]
      have hc1 : rowsAt (curR a b (i + 1) 0) k = [.int (Dk a b (i + 1) k)] := by rw [curR_at a b _ _ _ (by omega), if_pos (Nat.zero_le _)]
      have d1 := Dk_rng a b (i + 1) k
      have x2 : IntKind.wrap .i64 (Dk a b (i + 1) k + 2) = Dk a b (i + 1) k + 2 := wrapZ (by omega) (by omega)
      match j, hj with
      | 0, hj => exact absurd hj (by omega)
      | j + 1, hj =>
      by_cases hk2 : k < b.fs.length
      · have h2 : (k : Int) < (b.fs.length : Int) := by omega
        have u2 : ((k + 1 : Nat) : Int) < ((b.fs.length + 1 : Nat) : Int) := by omega
        have ma := List.getElem_mem hi2
        have mb := List.getElem_mem hk2
        have hcs := cost_spec a.fs[i].2 b.fs[k].2 (Val.wf_mem ha ma) (Val.wf_mem hb mb) (by have := Val.bulk_mem ma; omega)
        have hra : rowsAt a.fc.rows i = fldRow a.fs[i] := by rw [a.fc_rows]; exact rowsAt_map _ _ _ hi2
        have hrb : rowsAt b.fc.rows k = fldRow b.fs[k] := by rw [b.fc_rows]; exact rowsAt_map _ _ _ hk2
        have hc2 : rowsAt (curR a b (i + 1) 0) (k + 1) = [.int (Dk a b (i + 1) (k + 1))] := by rw [curR_at a b _ _ _ (by omega), if_pos (Nat.zero_le _)]
        have d2 := Dk_rng a b (i + 1) (k + 1)
        have dc := cost_rng a.fs[i].2 b.fs[k].2
        have x3 : IntKind.wrap .i64 (Dk a b (i + 1) (k + 1) + costV a.fs[i].2 b.fs[k].2) = costV a.fs[i].2 b.fs[k].2 + Dk a b (i + 1) (k + 1) := by rw [wrapZ (by omega) (by omega)]; omega
        have ga : a.fs.getD i ([], .mk 0 0 [] true []) = a.fs[i] := by simp [hi2]
        have gb : b.fs.getD k ([], .mk 0 0 [] true []) = b.fs[k] := by simp [hk2]
        have hg : (c.rows.length + 1) * 16 ≤ 140737488355328 := by omega
        have r1 := edits_l a b ha hb hN j (i + 1) (k + 1) (by omega) (by omega) (by omega) (appC c [twoRow i k]) (by simp; omega)
        have r2 := edits_l a b ha hb hN j (i + 1) k (by omega) (by omega) (by omega) c (by omega)
        have r3 := edits_l a b ha hb hN j i (k + 1) (by omega) (by omega) (by omega) c (by omega)
        have ho : outF a b (j + 1) i k c = if Dk a b i k = costV a.fs[i].2 b.fs[k].2 + Dk a b (i + 1) (k + 1) then outF a b j (i + 1) (k + 1) (appC c [[.int (i : Int), .int (k : Int)]])
          else if Dk a b i k = Dk a b (i + 1) k + 2 then outF a b j (i + 1) k c else outF a b j i (k + 1) c := by
          rw [outF, if_pos ⟨hi2, hk2⟩, ga, gb]; rfl
        rw [ho]
        simp only [isDp_dp, dpRow_dp, at_val3, hla, hlb, if_true, h1, h2, decide_true, Option.bind_some, gB_s, gB_z, gC_s, gC_z, gI_s, gI_z, h3, h4, h3', h4', and_self, Int.toNat_natCast, rows_sl, tl, cl, ht, ht1, hc0, hc1, hc2, at_zero, toI_int, u0, u0', u1, u2, wi1, wk1, hra, hrb, at_fld1, at_fld2, at_fld3, at_fld4, val_fold, hcs, rowsAt_zero, x2, x3, beq_iff_eq]
        by_cases q1 : Dk a b i k = costV a.fs[i].2 b.fs[k].2 + Dk a b (i + 1) (k + 1)
        · simp only [q1, beq_self_eq_true, if_true, List.length_cons, List.length_nil, Nat.zero_add, hg, Option.bind_some, gB_s, gB_z, gC_s, gC_z, gI_s, gI_z, wi1, wk1]
          exact r1
        · have q1' : (Dk a b i k == costV a.fs[i].2 b.fs[k].2 + Dk a b (i + 1) (k + 1)) = false := by simp [q1]
          simp only [q1, q1', Bool.false_eq_true, if_false, isDp_dp, dpRow_dp, at_val3, hla, if_true, h1, decide_true, h3, h4, h3', and_self, rows_sl, tl, cl, u0, u0', u1, Int.toNat_natCast, ht, ht1, hc0, hc1, at_zero, toI_int, x2, wi1, wk1]
          by_cases q2 : Dk a b i k = Dk a b (i + 1) k + 2
          · simp only [q2, beq_self_eq_true, if_true, Option.bind_some, gC_s, gC_z, gI_s, gI_z]
            exact r2
          · have q2' : (Dk a b i k == Dk a b (i + 1) k + 2) = false := by simp [q2]
            simp only [q2, q2', Bool.false_eq_true, if_false, Option.bind_some, gC_s, gC_z, gI_s, gI_z]
            exact r3
      · obtain rfl : k = b.fs.length := by omega
        have h2 : ¬ (b.fs.length : Int) < (b.fs.length : Int) := by omega
        have q2 : Dk a b i b.fs.length = Dk a b (i + 1) b.fs.length + 2 := by rw [Dk_m a b i hi, Dk_m a b (i + 1) (by omega)]; omega
        have r2 := edits_l a b ha hb hN j (i + 1) b.fs.length (by omega) (by omega) (by omega) c (by omega)
        rw [outF_stop _ _ _ _ _ _ (by omega)] at r2 ⊢
        simp only [isDp_dp, dpRow_dp, at_val3, hla, hlb, if_true, h1, h2, decide_true, decide_false, Bool.false_eq_true, if_false, Option.bind_some, gB_s, gB_z, gC_s, gC_z, gI_s, gI_z, h3, h4, h3', and_self, Int.toNat_natCast, rows_sl, tl, cl, ht, ht1, hc0, hc1, at_zero, toI_int, u0, u0', u1, wi1, wk1, x2, q2, beq_self_eq_true]
        exact r2
    · obtain rfl : i = a.fs.length := by omega
      have h1 : ¬ (a.fs.length : Int) < (a.fs.length : Int) := by omega
      rw [outF_stop _ _ _ _ _ _ (by omega)]
      by_cases hk2 : k < b.fs.length
      · have h2 : (k : Int) < (b.fs.length : Int) := by omega
        match j, hj with
        | 0, hj => exact absurd hj (by omega)
        | j + 1, hj =>
        have r3 := edits_l a b ha hb hN j a.fs.length (k + 1) (by omega) (by omega) (by omega) c (by omega)
        rw [outF_stop _ _ _ _ _ _ (by omega)] at r3
        simp only [isDp_dp, dpRow_dp, at_val3, hla, hlb, if_true, h1, h2, decide_true, decide_false, Bool.false_eq_true, if_false, Option.bind_some, gB_s, gB_z, gC_s, gC_z, gI_s, gI_z, wk1]
        exact r3
      · have h2 : ¬ (k : Int) < (b.fs.length : Int) := by omega
        simp only [isDp_dp, dpRow_dp, at_val3, hla, hlb, if_true, h1, h2, decide_true, decide_false, Bool.false_eq_true, if_false, Option.bind_some, gB_s, gB_z, gC_s, gC_z, gI_s, gI_z]
theorem redits_l (a b : Val) (hN : a.bulk + b.bulk ≤ big) : ∀ (j i k : Nat), i ≤ a.fs.length → k ≤ b.fs.length → (a.fs.length - i) + (b.fs.length - k) ≤ j → ∀ (c : C) (es : List (Row × Row)), Inv a b es → c.rows.length ≤ i →
    ∃ es', Inv a b es' ∧ clapref3_ByEdits_l0 (lim T) (.dp a.row) (.dp b.row) (i : Int) (k : Int) (.dp a.row) (.dp b.row) c es = some (0, [.r [.dp a.row], .r [.dp b.row], .r [outF a b j i k c], .m es'])
  | j, i, k, hi, hk, hj, c, es, he, hc => by
    have ba := a.bulk_len
    have bb := b.bulk_len
    have hB : a.fs.length + b.fs.length ≤ 4294967296 := by unfold big at hN; omega
    have hla : a.fc.rows.length = a.fs.length := by rw [a.fc_rows, List.length_map]
    have hlb : b.fc.rows.length = b.fs.length := by rw [b.fc_rows, List.length_map]
    rw [clapref3_ByEdits_l0_eq]; unfold clapref3_ByEdits_b0
    by_cases hlt : i < a.fs.length ∧ k < b.fs.length
    · obtain ⟨hi2, hk2⟩ := hlt
      match j, hj with
      | 0, hj => exact absurd hj (by omega)
      | j + 1, hj =>
      obtain ⟨e1, i1, c1⟩ := memo a b hN i k hi hk es he
      obtain ⟨e2, i2, c2⟩ := memo a b hN (i + 1) (k + 1) (by omega) (by omega) e1 i1
      obtain ⟨e3, i3, c3⟩ := memo a b hN (i + 1) k (by omega) (by omega) e2 i2
      have wi1 : IntKind.wrap .i64 ((i : Int) + 1) = ((i + 1 : Nat) : Int) := by rw [wrapZ (by omega) (by omega)]; omega
      have wk1 : IntKind.wrap .i64 ((k : Int) + 1) = ((k + 1 : Nat) : Int) := by rw [wrapZ (by omega) (by omega)]; omega
      have h1 : (i : Int) < (a.fs.length : Int) := by omega
      have h2 : (k : Int) < (b.fs.length : Int) := by omega
      have h3 : (0 : Int) ≤ (i : Int) := by omega
      have h4 : (0 : Int) ≤ (k : Int) := by omega
      have ma := List.getElem_mem hi2
      have hcs := rcost_spec a.fs[i].2 b.fs[k].2 (by have := Val.bulk_mem ma; omega)
      have hra : rowsAt a.fc.rows i = fldRow a.fs[i] := by rw [a.fc_rows]; exact rowsAt_map _ _ _ hi2
      have hrb : rowsAt b.fc.rows k = fldRow b.fs[k] := by rw [b.fc_rows]; exact rowsAt_map _ _ _ hk2
      have d1 := Dk_rng a b (i + 1) k
      have d2 := Dk_rng a b (i + 1) (k + 1)
      have dc := cost_rng a.fs[i].2 b.fs[k].2
      have x2 : IntKind.wrap .i64 (2 + Dk a b (i + 1) k) = Dk a b (i + 1) k + 2 := by rw [wrapZ (by omega) (by omega)]; omega
      have x3 : IntKind.wrap .i64 (costV a.fs[i].2 b.fs[k].2 + Dk a b (i + 1) (k + 1)) = costV a.fs[i].2 b.fs[k].2 + Dk a b (i + 1) (k + 1) := wrapZ (by omega) (by omega)
      have ga : a.fs.getD i ([], .mk 0 0 [] true []) = a.fs[i] := by simp [hi2]
      have gb : b.fs.getD k ([], .mk 0 0 [] true []) = b.fs[k] := by simp [hk2]
      have hg : (c.rows.length + 1) * 16 ≤ 140737488355328 := by omega
      have ho : outF a b (j + 1) i k c = if Dk a b i k = costV a.fs[i].2 b.fs[k].2 + Dk a b (i + 1) (k + 1) then outF a b j (i + 1) (k + 1) (appC c [[.int (i : Int), .int (k : Int)]])
        else if Dk a b i k = Dk a b (i + 1) k + 2 then outF a b j (i + 1) k c else outF a b j i (k + 1) c := by
        rw [outF, if_pos ⟨hi2, hk2⟩, ga, gb]; rfl
      rw [ho]
      simp only [isDp_dp, dpRow_dp, at_val3, hla, hlb, if_true, h1, h2, decide_true, Option.bind_some, gB_s, gB_z, gC_s, gC_z, gI_s, gI_z, gM_s, gM_z, h3, h4, and_self, Int.toNat_natCast, wi1, wk1, c1, c2, c3, hra, hrb, at_fld1, at_fld2, at_fld3, at_fld4, val_fold, hcs, rowsAt_zero, at_zero, toI_int, x2, x3, beq_iff_eq, List.length_cons, List.length_nil, Nat.zero_add, hg]
      by_cases q1 : Dk a b i k = costV a.fs[i].2 b.fs[k].2 + Dk a b (i + 1) (k + 1)
      · rw [if_pos q1]
        obtain ⟨es', z1, z2⟩ := redits_l a b hN j (i + 1) (k + 1) (by omega) (by omega) (by omega) (appC c [twoRow i k]) e2 i2 (by simp; omega)
        exact ⟨es', z1, by rw [if_pos q1]; exact z2⟩
      · rw [if_neg q1]
        by_cases q2 : Dk a b i k = Dk a b (i + 1) k + 2
        · rw [if_pos q2]
          obtain ⟨es', z1, z2⟩ := redits_l a b hN j (i + 1) k (by omega) (by omega) (by omega) c e3 i3 (by omega)
          exact ⟨es', z1, by rw [if_neg q1, if_pos q2]; exact z2⟩
        · rw [if_neg q2]
          obtain ⟨es', z1, z2⟩ := redits_l a b hN j i (k + 1) (by omega) (by omega) (by omega) c e3 i3 (by omega)
          exact ⟨es', z1, by rw [if_neg q1, if_neg q2]; exact z2⟩
    · rw [outF_stop _ _ _ _ _ _ hlt]
      refine ⟨es, he, ?_⟩
      by_cases h : i < a.fs.length
      · have h1 : (i : Int) < (a.fs.length : Int) := by omega
        have h2 : ¬ (k : Int) < (b.fs.length : Int) := by omega
        simp only [isDp_dp, dpRow_dp, at_val3, hla, hlb, if_true, h1, h2, decide_true, decide_false, Bool.false_eq_true, if_false, Option.bind_some, gB_s, gB_z, gC_s, gC_z, gM_s, gM_z]
      · have h1 : ¬ (i : Int) < (a.fs.length : Int) := by omega
        simp only [isDp_dp, dpRow_dp, at_val3, hla, hlb, if_true, h1, decide_true, decide_false, Bool.false_eq_true, if_false, Option.bind_some, gB_s, gB_z, gC_s, gC_z, gM_s, gM_z]

theorem byEdits_spec (a b : Val) (ha : a.wf) (hb : b.wf) (hN : a.bulk + b.bulk ≤ big) : ∃ (c : C) (n e : Int), (lim T).pc n_align_ByEdits [a.row, b.row] = some [[c], [.int n], [.int e]] ∧ (lim T).pc n_clapref3_ByEdits [a.row, b.row] = some [[c], [.int n], [.int e]] ∧ Two c ∧ c.rows.length ≤ big := by
  have hc1 := check_spec a b (by omega) (by omega)
  have hc2 := lists_spec a b (by omega) (by omega)
  have hnil : Two .nils := fun r hr => by cases hr
  have ba := a.bulk_len
  rw [align_ByEdits_pc, clapref3_ByEdits_pc]; unfold align_ByEdits clapref3_ByEdits
  rw [hc1, hc2]
  by_cases h : both a b ≠ 0
  · exact ⟨.nils, 0, both a b, by simp [h], by simp [h], hnil, Nat.zero_le _⟩
  replace h := Decidable.not_not.1 h
  have hp := edits_l a b ha hb hN (a.fs.length + b.fs.length) 0 0 (Nat.zero_le _) (Nat.zero_le _) (by omega) .nils (Nat.zero_le _)
  obtain ⟨es, q1, q2⟩ := redits_l a b hN (a.fs.length + b.fs.length) 0 0 (Nat.zero_le _) (Nat.zero_le _) (by omega) .nils [] (inv_nil a b) (Nat.zero_le _)
  obtain ⟨es', _, q3⟩ := memo a b hN 0 0 (Nat.zero_le _) (Nat.zero_le _) es q1
  obtain ⟨t1, t2⟩ := outF_two a b (a.fs.length + b.fs.length) 0 0 .nils hnil (Nat.zero_le _) (Nat.zero_le _)
  simp only [Int.ofNat_zero, Int.natCast_zero] at hp q2 q3
  refine ⟨_, Dk a b 0 0, 0, ?_, ?_, t1, by omega⟩
  · have ht := table_spec a b ha hb hN
    have u1 : (0 : Int) ≤ 0 ∧ (0 : Int) < ((tabR a b 0).length : Int) := by rw [tabR_len]; omega
    have u2 : (0 : Int) ≤ 0 ∧ (0 : Int) < ((curR a b 0 0).length : Int) := by rw [curR_len]; omega
    have t0 : rowsAt (tabR a b 0) 0 = [.sl (curR a b 0 0)] := by rw [tabR_at a b _ _ (Nat.zero_le _), if_pos (Nat.zero_le _)]
    have c0 : rowsAt (curR a b 0 0) 0 = [.int (Dk a b 0 0)] := by rw [curR_at a b _ _ _ (Nat.zero_le _), if_pos (Nat.zero_le _)]
    simp only [h, Option.bind_some, rowsAt_zero, at_zero, toI_int, bne_self_eq_false, Bool.false_eq_true, if_false, at_val3, ht, hp, gC_s, gC_z, rows_sl]
    rw [if_pos u1, t0]
    refine Eq.trans (if_pos u2) ?_
    rw [show (at_ ([.sl (curR a b 0 0)] : Row) 0).rows = curR a b 0 0 from rfl, c0]
    rfl
  · simp only [h, Option.bind_some, rowsAt_zero, at_zero, toI_int, bne_self_eq_false, Bool.false_eq_true, if_false, q2, gC_s, gC_z, gM_s, gM_z, gI_z, q3]

/-! the law -/
theorem aligned_true : (lim T).pc n_claplaw3_aligned [] = some [[.bool true]] := (lim_pc T).2 ⟨60, by kernel_rfl⟩
theorem law (a b : Val) (ha : a.wf) (hb : b.wf) (hN : a.bulk + b.bulk ≤ big) : (lim T).pc 3 [a.row, b.row] = some [[.bool true]] := by
  show (lim T).pc n_claplaw3_AlignEdits _ = _
  rw [claplaw3_AlignEdits_pc]; unfold claplaw3_AlignEdits
  obtain ⟨c, n, e, c1, c2, c3, c4⟩ := byEdits_spec a b ha hb hN
  obtain ⟨d, d1, d2⟩ := twos_spec c c3 c4
  have d3 := equal_spec c d c3 d2 c4
  rw [aligned_true, c1, c2, cost_spec a b ha hb (by omega), rcost_spec a b (by omega)]
  simp only [Option.bind_some, rowsAt_zero, rowsAt_succ, at_zero, toB_bool, toI_int, Bool.not_true, Bool.false_eq_true, if_false, beq_self_eq_true, if_true, d1, d3]
end Go.Ev.Zze
