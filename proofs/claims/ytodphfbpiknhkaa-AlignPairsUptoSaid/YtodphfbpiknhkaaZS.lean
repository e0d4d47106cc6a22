/-
  A part of the proof: what the functions of the program compute.
-/
import Derived.Test.YtodphfbpiknhkaaZEq
import Derived.Test.YtodphfbpiknhkaaEvDa
set_option linter.all false
set_option maxRecDepth 100000
namespace Go.Ev.Zzp
/-- It answers, and the answer is as Q says. -/
def Tot {β : Type} (Q : β → Prop) (x : Option β) : Prop := ∃ r, x = some r ∧ Q r
theorem Tot.some {β : Type} {Q : β → Prop} {r : β} (h : Q r) : Tot Q (some r) := ⟨r, rfl, h⟩
theorem Tot.bind {α β : Type} {R : α → Prop} {Q : β → Prop} {x : Option α} {f : α → Option β} (h : Tot R x) (k : ∀ r, R r → Tot Q (f r)) : Tot Q (x.bind f) := by
  obtain ⟨r, rfl, hr⟩ := h
  exact k r hr
theorem Tot.eqbind {α β : Type} {Q : β → Prop} {x : Option α} {y : α} {f : α → Option β} (h : x = Option.some y) (k : Tot Q (f y)) : Tot Q (x.bind f) := by rw [h]; exact k
theorem Tot.ite {β : Type} {c : Prop} [Decidable c] {Q : β → Prop} {x y : Option β} (h : c → Tot Q x) (k : ¬ c → Tot Q y) : Tot Q (if c then x else y) := by
  split
  · exact h ‹_›
  · exact k ‹_›
theorem Tot.pos {β : Type} {c : Prop} [Decidable c] {Q : β → Prop} {x y : Option β} (h : c) (k : Tot Q x) : Tot Q (if c then x else y) := by rw [if_pos h]; exact k
theorem Tot.mono {β : Type} {R Q : β → Prop} {x : Option β} (h : Tot R x) (k : ∀ r, R r → Q r) : Tot Q x := by
  obtain ⟨r, h1, h2⟩ := h; exact ⟨r, h1, k r h2⟩
/-- Numbers that no sum of ours passes. -/
abbrev big : Nat := 4294967296
theorem inI_of {i : Nat} (h : i ≤ big) : inI64 ((i : Int) + 1) := by unfold big at h; exact ⟨by omega, by omega⟩
theorem wrap_nat {i : Nat} (h : i ≤ big) : IntKind.wrap .i64 ((i : Int) + 1) = ((i + 1 : Nat) : Int) := by rw [wrap_i64 (inI_of h)]; omega

/-! cmp -/
theorem isNaN_int (a : Int) : (lim T).pc n_cmp_isNaN_int [[.int a]] = some [[.bool false]] := by
  rw [cmp_isNaN_int_pc]; simp [cmp_isNaN_int]
theorem compare_int (a b : Int) : (lim T).pc n_cmp_Compare_int [[.int a], [.int b]] = some [[.int (cmpI a b)]] := by
  rw [cmp_Compare_int_pc]
  unfold cmp_Compare_int cmpI
  simp only [isNaN_int, Option.bind_some, rowsAt_zero, at_zero, toB_bool, Bool.false_eq_true, if_false, decide_eq_true_eq]
  split
  · rfl
  · split <;> rfl
theorem compare_str (a b : Bytes) : (lim T).pc n_strings_Compare [[.str a], [.str b]] = some [[.int (cmpBytes a b)]] := by
  rw [strings_Compare_pc]
  unfold strings_Compare
  rw [internal_bytealg_CompareString_pc]
  simp [internal_bytealg_CompareString]
def intRow (n : Int) : Row := [.int n]
theorem or_int_l (l : List Int) (hN : l.length ≤ big) : ∀ (j i : Nat), i + j = l.length →
    cmp_Or_int_l0 (lim T) 0 (.sl (l.map intRow)) (l.length : Int) (i : Int) = if orI (l.drop i) = 0 then some (0, [.r [.int 0]]) else some (1, [.r [.int (orI (l.drop i))]])
  | 0, i, h => by
    rw [cmp_Or_int_l0_eq]
    unfold cmp_Or_int_b0
    have : ¬ (i : Int) < (l.length : Int) := by omega
    rw [List.drop_eq_nil_of_le (by omega)]
    simp [this, orI]
  | j + 1, i, h => by
    rw [cmp_Or_int_l0_eq]
    unfold cmp_Or_int_b0
    have h1 : i < l.length := by omega
    have ih := or_int_l l hN j (i + 1) (by omega)
    rw [List.drop_eq_getElem_cons h1]
    simp only [rows_sl, rowsAt_map, List.length_map, Int.toNat_natCast, h1, wrap_nat (show i ≤ big by omega), ih, orI, intRow, at_zero, toI_int]
    have g1 : (i : Int) < (l.length : Int) := by omega
    have g0 : (0 : Int) ≤ (i : Int) := by omega
    simp only [g1, g0, decide_true, and_self, if_true]
    by_cases hc : l[i] = 0 <;> simp [hc]
theorem or_int (l : List Int) (hN : l.length ≤ big) : (lim T).pc n_cmp_Or_int [[.sl (l.map intRow)]] = some [[.int (orI l)]] := by
  rw [cmp_Or_int_pc]
  unfold cmp_Or_int
  simp only [rows_sl, List.length_map]
  have := or_int_l l hN l.length 0 (by omega)
  simp only [Int.ofNat_zero, Int.natCast_zero] at this
  rw [this, List.drop_zero]
  by_cases h : orI l = 0 <;> simp [h]
theorem order_spec (n : Int) (h : inI64 n) : (lim T).pc n_value_order [[.int n]] = some [[.int (ordI n)]] := by
  rw [value_order_pc]
  unfold value_order ordI
  by_cases hn : n < 0
  · have h' := h
    obtain ⟨h1, h2⟩ := h'
    simp only [hn, decide_true, if_true, and_max h hn]
    rw [wrap_i64 ⟨by omega, by omega⟩]
  · simp only [hn, decide_false, Bool.false_eq_true, if_false]

/-! slices.CompareFunc of fields, value.Cmp -/
theorem compare_flds_l (b b' : Bool) (l r : List (Bytes × Val)) (hN : l.length ≤ big) (hc : ∀ p ∈ l, ∀ q ∈ r, (lim T).pc n_value_Cmp_1 [fldRow p, fldRow q] = some [[.int (fldCmp p q)]]) : ∀ (j i : Nat), i + j = l.length → i ≤ r.length →
    slices_CompareFunc_api_Field_l0 (lim T) (slC b (l.map fldRow)) (slC b' (r.map fldRow)) (.fn n_value_Cmp_1 []) (slC b (l.map fldRow)) (l.length : Int) (i : Int) =
      if lexL fldCmp (l.drop i) (r.drop i) = 0 then some (0, [.r [slC b (l.map fldRow)], .r [slC b' (r.map fldRow)]]) else some (1, [.r [.int (lexL fldCmp (l.drop i) (r.drop i))]])
  | 0, i, h, _ => by
    rw [slices_CompareFunc_api_Field_l0_eq]
    unfold slices_CompareFunc_api_Field_b0
    have : ¬ (i : Int) < (l.length : Int) := by omega
    rw [List.drop_eq_nil_of_le (by omega)]
    simp [this, lexL]
  | j + 1, i, h, hir => by
    rw [slices_CompareFunc_api_Field_l0_eq]
    unfold slices_CompareFunc_api_Field_b0
    have h1 : i < l.length := by omega
    have g1 : (i : Int) < (l.length : Int) := by omega
    have g0 : (0 : Int) ≤ (i : Int) := by omega
    rw [List.drop_eq_getElem_cons h1]
    by_cases h2 : i < r.length
    · have ih := compare_flds_l b b' l r hN hc j (i + 1) (by omega) (by omega)
      rw [List.drop_eq_getElem_cons h2]
      have g2 : (i : Int) < (r.length : Int) := by omega
      have g3 : ¬ (i : Int) ≥ (r.length : Int) := by omega
      have hcc := hc l[i] (List.getElem_mem h1) r[i] (List.getElem_mem h2)
      have hcc' : callC (lim T) (.fn n_value_Cmp_1 []) [fldRow l[i], fldRow r[i]] = some [[.int (fldCmp l[i] r[i])]] := hcc
      simp only [slC_rows, rowsAt_map, List.length_map, Int.toNat_natCast, h1, h2, wrap_nat (show i ≤ big by omega), ih, lexL, g1, g2, g0, g3, decide_true, decide_false, Bool.false_eq_true, if_false, and_self, if_true, hcc', Option.bind_some, rowsAt_zero, at_zero, toI_int]
      by_cases hz : fldCmp l[i] r[i] = 0 <;> simp [hz]
    · have g3 : (i : Int) ≥ (r.length : Int) := by omega
      rw [List.drop_eq_nil_of_le (show r.length ≤ i by omega)]
      simp only [slC_rows, List.length_map, g1, g0, g3, decide_true, and_self, if_true, lexL]
      simp
theorem compare_flds (b b' : Bool) (l r : List (Bytes × Val)) (hN : l.length ≤ big) (hc : ∀ p ∈ l, ∀ q ∈ r, (lim T).pc n_value_Cmp_1 [fldRow p, fldRow q] = some [[.int (fldCmp p q)]]) :
    (lim T).pc n_slices_CompareFunc_api_Field [[slC b (l.map fldRow)], [slC b' (r.map fldRow)], [.fn n_value_Cmp_1 []]] = some [[.int (lexI fldCmp l r)]] := by
  rw [slices_CompareFunc_api_Field_pc]
  unfold slices_CompareFunc_api_Field
  have := compare_flds_l b b' l r hN hc l.length 0 (by omega) (by omega)
  simp only [Int.ofNat_zero, Int.natCast_zero, List.drop_zero] at this
  simp only [slC_rows, List.length_map]
  rw [this, lexI_lexL]
  by_cases h : lexL fldCmp l r = 0
  · by_cases h' : l.length < r.length <;> simp [h, h']
  · simp [h]

/-- value.Cmp -/
theorem cmp_spec (v w : Val) (hv : v.wf) (hw : w.wf) (hN : v.bulk ≤ big) : (lim T).pc n_value_Cmp [v.row, w.row] = some [[.int (v.cmp w)]] := by
  have hrec : ∀ p ∈ v.fs, ∀ q ∈ w.fs, (lim T).pc n_value_Cmp_1 [fldRow p, fldRow q] = some [[.int (fldCmp p q)]] := by
    intro p hp q hq
    have := Val.size_lt hp
    have hb := Val.bulk_mem hp
    have ih := cmp_spec p.2 q.2 (Val.wf_mem hv hp) (Val.wf_mem hw hq) (by omega)
    rw [value_Cmp_1_pc]
    unfold value_Cmp_1
    have ho := or_int [cmpBytes p.1 q.1, p.2.cmp q.2] (by simp [big])
    simp only [List.map_cons, List.map_nil, intRow] at ho
    simp only [at_fld0, at_fld1, at_fld2, at_fld3, at_fld4, toS_str, val_fold, compare_str, ih, Option.bind_some, rowsAt_zero, at_zero, toI_int, ho, fldCmp]
  rw [value_Cmp_pc]
  unfold value_Cmp
  have hf := compare_flds v.nil w.nil v.fs w.fs (by have := v.bulk_len; omega) hrec
  rw [← v.fc_eq, ← w.fc_eq] at hf
  have ho := or_int [cmpI v.k w.k, cmpI (if v.k = 3 then ordI v.n else v.n) (if v.k = 3 then ordI w.n else w.n), cmpBytes v.s w.s] (by simp [big])
  simp only [List.map_cons, List.map_nil, intRow] at ho
  rw [v.cmp_eq]
  by_cases k3 : v.k = 3
  · simp only [k3, if_true] at ho
    simp only [at_val0, at_val1, at_val2, at_val3, toI_int, toS_str, k3, beq_self_eq_true, if_true, order_spec _ (Val.wf_n hv), order_spec _ (Val.wf_n hw), Option.bind_some, rowsAt_zero, at_zero, gR_s, gC_s, gI_s, gB_s, gS_s, gM_s, gR_z, gC_z, gI_z, gB_z, gS_z, gM_z, hd_r, List.tail_cons, isDp_dp, dpRow_dp, compare_int, compare_str, ho, hf]
    generalize orI _ = c
    by_cases hc : c = 0 <;> simp [hc]
  · simp only [k3, if_false] at ho
    have k3' : (v.k == 3) = false := by simp [k3]
    simp only [at_val0, at_val1, at_val2, at_val3, toI_int, toS_str, k3, k3', Bool.false_eq_true, if_false, Option.bind_some, rowsAt_zero, at_zero, gR_s, gC_s, gI_s, gB_s, gS_s, gM_s, gR_z, gC_z, gI_z, gB_z, gS_z, gM_z, hd_r, List.tail_cons, isDp_dp, dpRow_dp, compare_int, compare_str, ho, hf, if_true]
    generalize orI _ = c
    by_cases hc : c = 0 <;> simp [hc]
  termination_by SizeOf.sizeOf v
theorem same_spec (v w : Val) (hv : v.wf) (hw : w.wf) (hN : v.bulk ≤ big) : (lim T).pc n_value_Same [v.row, w.row] = some [[.bool (v.eqv w)]] := by
  rw [value_Same_pc]
  unfold value_Same
  simp only [cmp_spec v w hv hw hN, Option.bind_some, rowsAt_zero, at_zero, toI_int]
  have := Val.cmp_zero v w hv hw
  cases he : v.eqv w with
  | true => rw [this.2 he]; rfl
  | false =>
    have hne : ¬ v.cmp w = 0 := fun h => by rw [this.1 h] at he; cases he
    simp [hne]
/-! clapref3.same -/
theorem rsame_l (v w : Val) (hl : v.fs.length = w.fs.length) (hN : v.fs.length ≤ big) (hc : ∀ p ∈ v.fs, ∀ u : Val, (lim T).pc n_clapref3_same [p.2.row, u.row] = some [[.bool (p.2.eqv u)]]) : ∀ (j i : Nat), i + j = v.fs.length →
    clapref3_same_l0 (lim T) (.dp w.row) v.fc (v.fs.length : Int) (i : Int) = if all2 fldEq (v.fs.drop i) (w.fs.drop i) = true then some (0, []) else some (1, [.r [.bool false]])
  | 0, i, h => by
    rw [clapref3_same_l0_eq]
    unfold clapref3_same_b0
    have : ¬ (i : Int) < (v.fs.length : Int) := by omega
    rw [List.drop_eq_nil_of_le (by omega), List.drop_eq_nil_of_le (by omega)]
    simp [this, all2]
  | j + 1, i, h => by
    rw [clapref3_same_l0_eq]
    unfold clapref3_same_b0
    have h1 : i < v.fs.length := by omega
    have h2 : i < w.fs.length := by omega
    have ih := rsame_l v w hl hN hc j (i + 1) (by omega)
    rw [List.drop_eq_getElem_cons h1, List.drop_eq_getElem_cons h2]
    have hcc := hc _ (List.getElem_mem h1) (w.fs[i].2)
    have g1 : (i : Int) < (v.fs.length : Int) := by omega
    have g2 : (i : Int) < (w.fs.length : Int) := by omega
    have g0 : (0 : Int) ≤ (i : Int) := by omega
    simp only [Val.fc_rows, isDp_dp, dpRow_dp, at_val3, rowsAt_map, List.length_map, Int.toNat_natCast, h1, h2, at_fld0, at_fld1, at_fld2, at_fld3, at_fld4, toS_str, val_fold, hcc, wrap_nat (show i ≤ big by omega), ih, all2, g1, g2, g0, decide_true, and_self, if_true, Option.bind_some, rowsAt_zero, at_zero, toB_bool, fldEq]
    by_cases hc : v.fs[i].1 = w.fs[i].1
    · simp only [hc, beq_self_eq_true, Bool.not_true, Bool.false_eq_true, if_false, Bool.true_and]
      cases he : v.fs[i].2.eqv w.fs[i].2 <;> simp
    · simp [hc]
theorem rsame_spec (v w : Val) (hN : v.bulk ≤ big) : (lim T).pc n_clapref3_same [v.row, w.row] = some [[.bool (v.eqv w)]] := by
  have hrec : ∀ p ∈ v.fs, ∀ u : Val, (lim T).pc n_clapref3_same [p.2.row, u.row] = some [[.bool (p.2.eqv u)]] := by
    intro p hp u
    have := Val.size_lt hp
    have hb := Val.bulk_mem hp
    exact rsame_spec p.2 u (by omega)
  rw [clapref3_same_pc]
  unfold clapref3_same
  rw [v.eqv_eq]
  simp only [at_val0, at_val1, at_val2, at_val3, toI_int, toS_str, Val.fc_rows, List.length_map]
  by_cases h1 : v.k = w.k
  · by_cases h2 : v.n = w.n
    · by_cases h3 : v.s = w.s
      · by_cases h4 : v.fs.length = w.fs.length
        · have := rsame_l v w h4 (by have := v.bulk_len; omega) hrec v.fs.length 0 (by omega)
          simp only [Int.ofNat_zero, Int.natCast_zero, List.drop_zero] at this
          have e4 : ((v.fs.length : Int) != (w.fs.length : Int)) = false := by simp [h4]
          simp only [h1, h2, h3, e4, bne_self_eq_false, beq_self_eq_true, Bool.not_true, Bool.false_eq_true, if_false, Option.bind_some, gR_s, gC_s, gI_s, gB_s, gS_s, gM_s, gR_z, gC_z, gI_z, gB_z, gS_z, gM_z, hd_r, List.tail_cons, at_zero, toB_bool, isDp_dp, if_true, dpRow_dp, at_val3, Val.fc_rows, List.length_map, this, Bool.true_and]
          cases all2 fldEq v.fs w.fs <;> simp
        · have e4 : ((v.fs.length : Int) != (w.fs.length : Int)) = true := by simp; omega
          have e5 : all2 fldEq v.fs w.fs = false := by
            cases h : all2 fldEq v.fs w.fs
            · rfl
            · exact absurd (all2_len h) h4
          simp [h1, h2, h3, e4, e5]
      · simp [h1, h2, h3]
    · simp [h1, h2]
  · simp [h1]
  termination_by SizeOf.sizeOf v

/-! slices.EqualFunc -/

end Go.Ev.Zzp
namespace Go.Ev.Zzp
/-! value.Check: it answers; what its 0 says -/
theorem wrapS {n : Int} (h0 : 0 ≤ n) (h1 : n ≤ 1000000000000) : Go.IntKind.wrap .i64 n = n := wrap_i64 ⟨by omega, by omega⟩
theorem name_l (s : List UInt8) (hN : s.length ≤ big) : ∀ (j i : Nat), i + j = s.length →
    Tot (fun r => r = (0, []) ∨ r = (1, [.r [.bool false]])) (value_Name_l0 (lim T) (.sl (s.map byteRow)) (s.length : Int) (i : Int))
  | 0, i, h => by
    rw [value_Name_l0_eq]; unfold value_Name_b0
    have : ¬ (i : Int) < (s.length : Int) := by omega
    simp only [this, decide_false, Bool.false_eq_true, if_false]
    exact .some (.inl rfl)
  | j + 1, i, h => by
    rw [value_Name_l0_eq]; unfold value_Name_b0
    have hlt : (i : Int) < (s.length : Int) := by omega
    simp only [hlt, decide_true, if_true]
    refine .bind (R := fun r => r = (0, [.r [.sl (s.map byteRow)], .r [.int (s.length : Int)], .r [.int (i : Int)]]) ∨ r = (1, [.r [.bool false]])) ?_ ?_
    · refine .pos ⟨by omega, by simpa [C.rows] using hlt⟩ ?_
      repeat' (first | exact .some (.inl rfl) | exact .some (.inr rfl) | refine .ite (fun _ => ?_) fun _ => ?_)
    · rintro r (rfl | rfl)
      · simp only [gC_z, gC_s, gI_z, gI_s]
        rw [wrap_nat (by omega)]
        exact name_l s hN j (i + 1) (by omega)
      · exact .some (.inr rfl)
theorem name_tot (s : List UInt8) : ∃ b : Bool, (lim T).pc n_value_Name [[.str s]] = some [[.bool b]] := by
  have : Tot (fun r => ∃ b : Bool, r = [[.bool b]]) ((lim T).pc n_value_Name [[.str s]]) := by
    rw [value_Name_pc]; unfold value_Name
    refine .bind (R := fun r => ∃ q : Bool, (q = false → s.length ≤ 16) ∧ r = (0, [.r [.str s], .r [.bool q]])) ?_ ?_
    · refine .ite (fun _ => ?_) fun hne => ?_
      · simp only [if_true]; exact .some ⟨true, fun h => (by cases h), rfl⟩
      have hpos : 0 < s.length := by
        rcases s with _ | ⟨a, s⟩
        · simp at hne
        · simp
      refine .ite (fun _ => ?_) fun h => ?_
      · simp only [if_true]; exact .some ⟨true, fun h => (by cases h), rfl⟩
      have h16 : s.length ≤ 16 := by have := of_decide_eq_false (by simpa using h : decide ((s.length : Int) > 16) = false); omega
      refine .pos ⟨by omega, by omega⟩ ?_
      refine .ite (fun _ => .some ⟨true, fun h => (by cases h), rfl⟩) fun _ => .pos ⟨by omega, by omega⟩ (.some ⟨_, fun _ => h16, rfl⟩)
    rintro r ⟨q, hq, rfl⟩
    simp only [gB_s, gB_z, gS_z, List.length_map]
    refine .ite (fun _ => .some ⟨_, rfl⟩) fun h => ?_
    refine .bind (name_l s (by have := hq (by simpa using h); unfold big; omega) s.length 0 (by omega)) ?_
    rintro r (rfl | rfl)
    · exact .some ⟨_, rfl⟩
    · exact .some ⟨_, rfl⟩
  obtain ⟨r, h, b, rfl⟩ := this
  exact ⟨b, h⟩
/-- Is it a name? -/
noncomputable def nm (s : List UInt8) : Bool := (name_tot s).choose
theorem name_spec (s : List UInt8) : (lim T).pc n_value_Name [[.str s]] = some [[.bool (nm s)]] := (name_tot s).choose_spec

theorem fld_val (p : Bytes × Val) : ([at_ (fldRow p) 1, at_ (fldRow p) 2, at_ (fldRow p) 3, at_ (fldRow p) 4] : Row) = p.2.row := rfl
theorem dec_lt {i n : Nat} (h : i < n) : decide ((i : Int) < (n : Int)) = true := decide_eq_true (by omega)
theorem dec_ge {n : Nat} : ¬ decide ((n : Int) < (n : Int)) = true := by simp
theorem ix_ok {i : Nat} {rows : List Row} (h : i < rows.length) : (0 : Int) ≤ (i : Int) ∧ (i : Int) < (rows.length : Int) := ⟨by omega, by omega⟩
abbrev IntT (x : Option (List Row)) : Prop := Tot (fun r => ∃ n : Int, r = [[.int n]]) x
theorem vsize_l (v : Val) (hN : v.fs.length ≤ big) (hc : ∀ p ∈ v.fs, IntT ((lim T).pc n_value_Size [p.2.row])) : ∀ (j i : Nat) (a : Int), i + j = v.fs.length →
    Tot (fun r => ∃ n : Int, r = (0, [.r [.int n]])) (value_Size_l0 (lim T) a v.fc (v.fs.length : Int) (i : Int))
  | 0, i, a, h => by
    rw [value_Size_l0_eq]; unfold value_Size_b0
    obtain rfl : i = v.fs.length := by omega
    exact .ite (fun h => absurd h dec_ge) fun _ => .some ⟨_, rfl⟩
  | j + 1, i, a, h => by
    rw [value_Size_l0_eq]; unfold value_Size_b0
    have hi : i < v.fs.length := by omega
    refine .pos (dec_lt hi) (.pos (ix_ok (by simpa using hi)) ?_)
    rw [v.fc_rows, Int.toNat_natCast, rowsAt_map _ _ _ hi, fld_val, wrap_nat (by omega)]
    refine .bind (hc _ (List.getElem_mem hi)) ?_
    rintro r ⟨n, rfl⟩
    exact vsize_l v hN hc j (i + 1) _ (by omega)
theorem vsize_tot (v : Val) (hN : v.bulk ≤ big) : IntT ((lim T).pc n_value_Size [v.row]) := by
  have hrec : ∀ p ∈ v.fs, IntT ((lim T).pc n_value_Size [p.2.row]) := fun p hp => by
    have := Val.size_lt hp
    have hb := Val.bulk_mem hp
    exact vsize_tot p.2 (by omega)
  rw [value_Size_pc]; unfold value_Size
  simp only [at_val3, Val.fc_rows, List.length_map]
  refine .bind (vsize_l v (by have := v.bulk_len; omega) hrec v.fs.length 0 1 (by omega)) ?_
  rintro r ⟨n, rfl⟩
  exact .some ⟨_, rfl⟩
  termination_by SizeOf.sizeOf v
theorem vdeep_l (v : Val) (hN : v.fs.length ≤ big) (hc : ∀ p ∈ v.fs, IntT ((lim T).pc n_value_Deep [p.2.row])) : ∀ (j i : Nat) (a : Int), i + j = v.fs.length →
    Tot (fun r => ∃ n : Int, r = (0, [.r [.int n]])) (value_Deep_l0 (lim T) a v.fc (v.fs.length : Int) (i : Int))
  | 0, i, a, h => by
    rw [value_Deep_l0_eq]; unfold value_Deep_b0
    obtain rfl : i = v.fs.length := by omega
    exact .ite (fun h => absurd h dec_ge) fun _ => .some ⟨_, rfl⟩
  | j + 1, i, a, h => by
    rw [value_Deep_l0_eq]; unfold value_Deep_b0
    have hi : i < v.fs.length := by omega
    refine .pos (dec_lt hi) (.pos (ix_ok (by simpa using hi)) ?_)
    rw [v.fc_rows, Int.toNat_natCast, rowsAt_map _ _ _ hi, fld_val, wrap_nat (by omega)]
    refine .bind (hc _ (List.getElem_mem hi)) ?_
    rintro r ⟨n, rfl⟩
    exact vdeep_l v hN hc j (i + 1) _ (by omega)
theorem vdeep_tot (v : Val) (hN : v.bulk ≤ big) : IntT ((lim T).pc n_value_Deep [v.row]) := by
  have hrec : ∀ p ∈ v.fs, IntT ((lim T).pc n_value_Deep [p.2.row]) := fun p hp => by
    have := Val.size_lt hp
    have hb := Val.bulk_mem hp
    exact vdeep_tot p.2 (by omega)
  rw [value_Deep_pc]; unfold value_Deep
  simp only [at_val3, Val.fc_rows, List.length_map]
  refine .bind (vdeep_l v (by have := v.bulk_len; omega) hrec v.fs.length 0 0 (by omega)) ?_
  rintro r ⟨n, rfl⟩
  exact .some ⟨_, rfl⟩
  termination_by SizeOf.sizeOf v

/-- Has it something in a field that its kind does not use? -/
def numK (k : Int) : Bool := (decide (k ≥ 1) && decide (k ≤ 4)) || k == 11
def scaK (k : Int) : Bool := (decide (k ≥ 0) && decide (k ≤ 5)) || k == 11
def unusedB (v : Val) : Bool := (!numK v.k && v.n != 0) || (v.k != 5 && !(v.s == [])) || (scaK v.k && decide ((v.fs.length : Int) > 0))
theorem scalar_spec (k : Int) : (lim T).pc n_value_Scalar [[.int k]] = some [[.bool (scaK k)]] := by
  rw [value_Scalar_pc]; unfold value_Scalar scaK
  by_cases h : k ≥ 0
  · by_cases h2 : k ≤ 5
    · simp [h, h2]
    · simp [h, h2]
  · simp [h]
theorem Tot.eq {β : Type} {x : Option β} {y : β} (h : Tot (fun r => r = y) x) : x = Option.some y := by
  obtain ⟨r, e, rfl⟩ := h; exact e
theorem unused_spec (v : Val) : (lim T).pc n_value_unused [v.row] = some [[.bool (unusedB v)]] := by
  refine Tot.eq ?_
  rw [value_unused_pc]; unfold value_unused
  refine .bind (R := fun r => r = (0, [.r [.dp v.row], .r [.bool (numK v.k)]])) ?_ ?_
  · simp only [at_val0, toI_int]
    unfold numK
    by_cases h : v.k ≥ 1
    · by_cases h2 : v.k ≤ 4
      · simp only [h, h2, decide_true, if_true]; exact .some rfl
      · simp only [h, h2, decide_true, decide_false, if_true, Bool.false_eq_true, if_false]; exact .some rfl
    · simp only [h, decide_false, if_true, Bool.false_eq_true, if_false]; exact .some rfl
  rintro r rfl
  simp only [gB_s, gB_z, gC_z, dpRow_dp, isDp_dp, if_true, at_val0, at_val1, at_val2, at_val3, toI_int, toS_str, Val.fc_rows, List.length_map]
  unfold unusedB
  have fin : ∀ a f : Bool, Tot (fun r : List Row => r = [[C.bool (a || (scaK v.k && f))]]) (if a = true then some [[C.bool true]] else ((lim T).pc n_value_Scalar [[C.int v.k]]).bind fun y12 => if (at_ (rowsAt y12 0) 0).toB = true then some [[C.bool f]] else some [[C.bool false]]) := by
    intro a f
    cases a
    · refine .eqbind (scalar_spec v.k) ?_
      simp only [rowsAt_zero, at_zero, toB_bool]
      cases scaK v.k
      · exact .some rfl
      · exact .some rfl
    · exact .some rfl
  generalize numK v.k = a
  generalize (v.n != 0) = b
  generalize (v.k != 5) = c
  generalize (v.s == []) = d
  generalize decide ((v.fs.length : Int) > 0) = f at fin ⊢
  cases a <;> cases b <;> cases c <;> cases d <;> first | exact .some rfl | exact fin false f
theorem number_tot (v : Val) : Tot (fun r => ∃ b : Bool, r = [[.bool b]]) ((lim T).pc n_value_number [v.row]) := by
  rw [value_number_pc]; unfold value_number
  repeat' (first | exact .some ⟨_, rfl⟩ | refine .ite (fun _ => ?_) fun _ => ?_)

/-! the names of parts -/
theorem containsFld_tot (c0 : C) (c : Row) (h0 : c0.rows.length ≤ big) : Tot (fun r => ∃ b : Bool, r = [[.bool b]]) ((lim T).pc n_slices_ContainsFunc_api_Field [[c0], [.fn n_value_names_1 [.dp c]]]) := by
  rw [slices_ContainsFunc_api_Field_pc]; unfold slices_ContainsFunc_api_Field
  have : IntT ((lim T).pc n_slices_IndexFunc_api_Field [[c0], [.fn n_value_names_1 [.dp c]]]) := by
    rw [slices_IndexFunc_api_Field_pc]; unfold slices_IndexFunc_api_Field
    refine .bind (R := fun r => r = (0, []) ∨ ∃ n : Int, r = (1, [.r [.int n]])) ?_ ?_
    · have key : ∀ (j i : Nat), i + j = c0.rows.length →
        Tot (fun r => r = (0, []) ∨ ∃ n : Int, r = (1, [.r [.int n]])) (slices_IndexFunc_api_Field_l0 (lim T) c0 (.fn n_value_names_1 [.dp c]) (c0.rows.length : Int) (i : Int)) := by
        intro j
        induction j with
        | zero =>
          intro i h
          rw [slices_IndexFunc_api_Field_l0_eq]; unfold slices_IndexFunc_api_Field_b0
          obtain rfl : i = c0.rows.length := by omega
          exact .ite (fun h => absurd h dec_ge) fun _ => .some (.inl rfl)
        | succ j ih =>
          intro i h
          rw [slices_IndexFunc_api_Field_l0_eq]; unfold slices_IndexFunc_api_Field_b0
          have hi : i < c0.rows.length := by omega
          refine .pos (dec_lt hi) (.pos (ix_ok hi) ?_)
          have e : callC (lim T) (.fn n_value_names_1 [.dp c]) [rowsAt c0.rows (i : Int).toNat] = some [[.bool (((at_ (rowsAt c0.rows (i : Int).toNat) 0).toS) == ((at_ c 0).toS))]] := by
            show (lim T).pc n_value_names_1 [rowsAt c0.rows (i : Int).toNat, [.dp c]] = _
            rw [value_names_1_pc]; unfold value_names_1
            simp only [isDp_dp, if_true, dpRow_dp]
          refine .eqbind e ?_
          rw [wrap_nat (show i ≤ big by omega)]
          exact .ite (fun _ => .some (.inr ⟨_, rfl⟩)) fun _ => ih (i + 1) (by omega)
      exact key _ 0 (Nat.zero_add _)
    rintro r (rfl | ⟨n, rfl⟩)
    · exact .some ⟨_, rfl⟩
    · exact .some ⟨_, rfl⟩
  refine .bind this ?_
  rintro r ⟨n, rfl⟩
  exact .some ⟨_, rfl⟩
theorem slcC_len (c : C) (i : Nat) (h : i ≤ c.rows.length) : (slcC c 0 (i : Int)).rows.length = i := by
  have h0 : (C.rows c).length = c.rows.length := rfl
  unfold slcC
  split
  · simp [C.rows] at h ⊢; omega
  · simp [C.rows] at h ⊢
    split <;> simp_all
theorem vnames_tot (c : C) (h0 : c.rows.length ≤ big) : IntT ((lim T).pc n_value_names [[c]]) := by
  rw [value_names_pc]; unfold value_names
  refine .bind (R := fun r => r = (0, []) ∨ ∃ n : Int, r = (1, [.r [.int n]])) ?_ ?_
  · have key : ∀ (j i : Nat), i + j = c.rows.length → Tot (fun r => r = (0, []) ∨ ∃ n : Int, r = (1, [.r [.int n]])) (value_names_l0 (lim T) c c (c.rows.length : Int) (i : Int)) := by
      intro j
      induction j with
      | zero =>
        intro i h
        rw [value_names_l0_eq]; unfold value_names_b0
        obtain rfl : i = c.rows.length := by omega
        exact .ite (fun h => absurd h dec_ge) fun _ => .some (.inl rfl)
      | succ j ih =>
        intro i h
        rw [value_names_l0_eq]; unfold value_names_b0
        have hi : i < c.rows.length := by omega
        refine .pos (dec_lt hi) (.pos (ix_ok hi) ?_)
        refine .eqbind (name_spec _) ?_
        refine .ite (fun _ => .some (.inr ⟨_, rfl⟩)) fun _ => ?_
        refine .pos ⟨by omega, by omega, by omega⟩ ?_
        refine .bind (containsFld_tot _ _ (by rw [slcC_len c i (by omega)]; omega)) ?_
        rintro r ⟨b, rfl⟩
        rw [wrap_nat (show i ≤ big by omega)]
        exact .ite (fun _ => .some (.inr ⟨_, rfl⟩)) fun _ => ih (i + 1) (by omega)
    exact key _ 0 (Nat.zero_add _)
  rintro r (rfl | ⟨n, rfl⟩)
  · exact .some ⟨_, rfl⟩
  · exact .some ⟨_, rfl⟩
theorem vkeys_tot (p : Row) (h0 : (at_ p 3).rows.length ≤ big) : IntT ((lim T).pc n_value_keys [p]) := by
  rw [value_keys_pc]; unfold value_keys
  refine .bind (R := fun r => r = (0, []) ∨ ∃ n : Int, r = (1, [.r [.int n]])) ?_ ?_
  · have key : ∀ (j i : Nat), i + j = (at_ p 3).rows.length → Tot (fun r => r = (0, []) ∨ ∃ n : Int, r = (1, [.r [.int n]])) (value_keys_l0 (lim T) (.dp p) (at_ p 3) ((at_ p 3).rows.length : Int) (i : Int)) := by
      intro j
      induction j with
      | zero =>
        intro i h
        rw [value_keys_l0_eq]; unfold value_keys_b0
        obtain rfl : i = (at_ p 3).rows.length := by omega
        exact .ite (fun h => absurd h dec_ge) fun _ => .some (.inl rfl)
      | succ j ih =>
        intro i h
        rw [value_keys_l0_eq]; unfold value_keys_b0
        have hi : i < (at_ p 3).rows.length := by omega
        refine .pos (dec_lt hi) ?_
        refine .bind (R := fun r => r = (0, [.r [.dp p], .r [at_ p 3], .r [.int ((at_ p 3).rows.length : Int)], .r [.int (i : Int)]]) ∨ ∃ n : Int, r = (1, [.r [.int n]])) ?_ ?_
        · refine .pos (ix_ok hi) ?_
          refine .bind (R := fun r => ∃ (q : Bool) (w : Row), r = (0, [.r [.dp p], .r [.int (i : Int)], .r [at_ p 3], .r [.int ((at_ p 3).rows.length : Int)], .r [.int (i : Int)], .r [.bool q], .r w])) ?_ ?_
          · simp only [isDp_dp, if_true]
            exact .ite (fun _ => .some ⟨_, _, rfl⟩) fun _ => .some ⟨_, _, rfl⟩
          rintro r ⟨q, w, rfl⟩
          simp only [gB_s, gB_z, gC_s, gC_z, gI_s, gI_z, isDp_dp, if_true, dpRow_dp]
          refine .ite (fun _ => .some (.inr ⟨_, rfl⟩)) fun _ => .ite (fun _ => .some (.inl rfl)) fun _ => .ite (fun _ => .some (.inr ⟨_, rfl⟩)) fun _ => ?_
          refine .ite (fun hpos => ?_) fun _ => ?_
          · have hp : (0 : Int) < (i : Int) := of_decide_eq_true hpos
            have ew : IntKind.wrap .i64 ((i : Int) - 1) = (i : Int) - 1 := wrapS (by omega) (by unfold big at h0; omega)
            refine .pos (by rw [ew]; omega) ?_
            exact .ite (fun _ => .some (.inr ⟨_, rfl⟩)) fun _ => .some (.inl rfl)
          · exact .ite (fun _ => .some (.inr ⟨_, rfl⟩)) fun _ => .some (.inl rfl)
        rintro r (rfl | ⟨n, rfl⟩)
        · simp only [gC_s, gC_z, gI_s, gI_z]
          rw [wrap_nat (show i ≤ big by omega)]
          exact ih (i + 1) (by omega)
        · exact .some (.inr ⟨_, rfl⟩)
    exact key _ 0 (Nat.zero_add _)
  rintro r (rfl | ⟨n, rfl⟩)
  · exact .some ⟨_, rfl⟩
  · exact .some ⟨_, rfl⟩
theorem vfields_tot (v : Val) (h0 : v.fs.length ≤ big) : IntT ((lim T).pc n_value_fields [v.row]) := by
  rw [value_fields_pc]; unfold value_fields
  have h1 : (at_ v.row 3).rows.length ≤ big := by rw [at_val3, Val.fc_rows, List.length_map]; exact h0
  have kn : ∀ {f : List Row → Option (List Row)}, (∀ r, ∃ n : Int, f r = some [[.int n]]) → IntT (((lim T).pc n_value_names [[at_ v.row 3]]).bind f) := fun hf => .bind (vnames_tot _ h1) fun r _ => by obtain ⟨n, e⟩ := hf r; rw [e]; exact .some ⟨n, rfl⟩
  have kk : ∀ {f : List Row → Option (List Row)}, (∀ r, ∃ n : Int, f r = some [[.int n]]) → IntT (((lim T).pc n_value_keys [v.row]).bind f) := fun hf => .bind (vkeys_tot _ h1) fun r _ => by obtain ⟨n, e⟩ := hf r; rw [e]; exact .some ⟨n, rfl⟩
  repeat' (first | exact .some ⟨_, rfl⟩ | exact kn fun r => ⟨_, rfl⟩ | exact kk fun r => ⟨_, rfl⟩ | refine .ite (fun _ => ?_) fun _ => ?_)
theorem vnode_l (v : Val) (hN : v.fs.length ≤ big) (hc : ∀ p ∈ v.fs, IntT ((lim T).pc n_value_node [p.2.row, [.bool false]])) : ∀ (j i : Nat), i + j = v.fs.length →
    Tot (fun r => r = (0, []) ∨ ∃ n : Int, r = (1, [.r [.int n]])) (value_node_l0 (lim T) v.fc (v.fs.length : Int) (i : Int))
  | 0, i, h => by
    rw [value_node_l0_eq]; unfold value_node_b0
    obtain rfl : i = v.fs.length := by omega
    exact .ite (fun h => absurd h dec_ge) fun _ => .some (.inl rfl)
  | j + 1, i, h => by
    rw [value_node_l0_eq]; unfold value_node_b0
    have hi : i < v.fs.length := by omega
    refine .pos (dec_lt hi) (.pos (ix_ok (by simpa using hi)) ?_)
    rw [v.fc_rows, Int.toNat_natCast, rowsAt_map _ _ _ hi, fld_val, wrap_nat (by omega)]
    refine .bind (hc _ (List.getElem_mem hi)) ?_
    rintro r ⟨n, rfl⟩
    exact .ite (fun _ => .some (.inr ⟨_, rfl⟩)) fun _ => vnode_l v hN hc j (i + 1) (by omega)
theorem vnode_tot (v : Val) (b : Bool) (hN : v.bulk ≤ big) : Tot (fun r => ∃ n : Int, r = [[.int n]] ∧ (n = 0 → unusedB v = false)) ((lim T).pc n_value_node [v.row, [.bool b]]) := by
  have hrec : ∀ p ∈ v.fs, IntT ((lim T).pc n_value_node [p.2.row, [.bool false]]) := fun p hp => by
    have := Val.size_lt hp
    have hb := Val.bulk_mem hp
    exact (vnode_tot p.2 false (by omega)).mono fun r ⟨n, e, _⟩ => ⟨n, e⟩
  have hlen : v.fs.length ≤ big := by have := v.bulk_len; omega
  rw [value_node_pc]; unfold value_node
  refine .bind (R := fun r => (r = (0, [.r [.dp v.row]]) ∧ unusedB v = false) ∨ ∃ n : Int, n ≠ 0 ∧ r = (1, [.r [.int n]])) ?_ ?_
  · refine .bind (R := fun r => ∃ q : Bool, r = (0, [.r [.dp v.row], .r [.bool q]]) ∧ (q = false → unusedB v = false)) ?_ ?_
    · have fin : Tot (fun r => ∃ q : Bool, r = (0, [.r [.dp v.row], .r [.bool q]]) ∧ (q = false → unusedB v = false)) (((lim T).pc n_value_unused [v.row]).bind fun y9 => some ((0 : Nat), ([.r [.dp v.row], .r [.bool (at_ (rowsAt y9 0) 0).toB]] : List PV))) :=
        .eqbind (unused_spec v) (.some ⟨unusedB v, rfl, fun h => h⟩)
      repeat' (first | exact fin | exact .some ⟨true, rfl, fun h => by cases h⟩ | refine .ite (fun _ => ?_) fun _ => ?_)
    rintro r ⟨q, rfl, hq⟩
    simp only [gB_s, gB_z, gC_z, isDp_dp, if_true, dpRow_dp]
    refine .ite (fun _ => .some (.inr ⟨3, by decide, rfl⟩)) fun h => ?_
    refine .bind (number_tot v) ?_
    rintro r ⟨b', rfl⟩
    exact .ite (fun _ => .some (.inr ⟨11, by decide, rfl⟩)) fun _ => .some (.inl ⟨rfl, hq (by simpa using h)⟩)
  rintro r (⟨rfl, hu⟩ | ⟨n, hn, rfl⟩)
  · simp only [gC_z, isDp_dp, if_true, dpRow_dp]
    refine .bind (vfields_tot v hlen) ?_
    rintro r ⟨n, rfl⟩
    refine .ite (fun _ => .some ⟨n, rfl, fun _ => hu⟩) fun _ => ?_
    simp only [at_val3, Val.fc_rows, List.length_map]
    refine .bind (vnode_l v hlen hrec v.fs.length 0 (by omega)) ?_
    rintro r (rfl | ⟨n, rfl⟩)
    · exact .some ⟨_, rfl, fun _ => hu⟩
    · exact .some ⟨_, rfl, fun _ => hu⟩
  · exact .some ⟨n, rfl, fun h => absurd h hn⟩
  termination_by SizeOf.sizeOf v
theorem vcheck_tot (v : Val) (hN : v.bulk ≤ big) : ∃ n : Int, (lim T).pc n_value_Check [v.row] = some [[.int n]] ∧ (n = 0 → unusedB v = false) := by
  have : Tot (fun r => ∃ n : Int, r = [[.int n]] ∧ (n = 0 → unusedB v = false)) ((lim T).pc n_value_Check [v.row]) := by
    rw [value_Check_pc]; unfold value_Check
    refine .bind (vsize_tot v hN) ?_
    rintro r ⟨n, rfl⟩
    have fin : ∀ q : Bool, Tot (fun r => ∃ n : Int, r = [[.int n]] ∧ (n = 0 → unusedB v = false)) (if q = true then some [[C.int 2]] else ((lim T).pc n_value_node [v.row, [.bool true]]).bind fun y4 => some [[C.int (at_ (rowsAt y4 0) 0).toI]]) := by
      intro q
      refine .ite (fun _ => .some ⟨2, rfl, fun h => by cases h⟩) fun _ => .bind (vnode_tot v true hN) ?_
      rintro r ⟨n, rfl, h⟩
      exact .some ⟨n, rfl, h⟩
    refine .ite (fun _ => .some ⟨2, rfl, fun h => by cases h⟩) fun _ => .bind (vdeep_tot v hN) ?_
    rintro r ⟨n, rfl⟩
    exact fin _
  obtain ⟨r, h, n, rfl, h2⟩ := this
  exact ⟨n, h, h2⟩
end Go.Ev.Zzp
namespace Go.Ev.Zzp
/-! value.Copy -/
theorem clone_spec (v : Val) (hN : v.bulk ≤ big) : (lim T).ic slices_Clone_api_Field_i1_n [.r [v.fc]] = some [.r [v.fc]] := by
  rw [slices_Clone_api_Field_i1_ic]
  unfold slices_Clone_api_Field_i1
  rw [Val.fc_eq, slC_rows]
  have hl := v.bulk_len
  cases hn : v.nil with
  | true =>
    cases hf : v.fs with
    | nil => simp [slC, C.isNil]
    | cons p r =>
      rw [hf] at hl
      have : (0 + (r.length + 1)) * 72 ≤ 140737488355328 := by simp only [List.length_cons] at hl; unfold big at hN; omega
      simp [slC, C.isNil, appC, this]
      omega
  | false =>
    have : (0 + v.fs.length) * 72 ≤ 140737488355328 := by unfold big at hN; omega
    simp [slC_false, C.isNil, appC]
    omega
theorem putRow (p : Bytes × Val) : put (fldRow p) 1 4 p.2.row 0 5 = fldRow p := rfl
theorem set_same {α : Type} (l : List α) (i : Nat) (h : i < l.length) : l.set i l[i] = l := by simp
theorem copy_l1 (v : Val) (x y : Int) (s : Bytes) (r : Row) (b : Bool) (hN : v.fs.length ≤ big) (hc : ∀ p ∈ v.fs, (lim T).ic value_Copy_i2_n [.r p.2.row] = some [.r p.2.row]) : ∀ (j i : Nat), i + j = v.fs.length → 
    value_Copy_i0_l0 (lim T) (v.fs.length : Int) (i : Int) x y s r v.fc = some (0, [.r [.int x], .r [.int y], .r [.str s], .r r, .r [v.fc]])
  | 0, i, h => by
    rw [value_Copy_i0_l0_eq]
    unfold value_Copy_i0_b0
    have : ¬ (i : Int) < (v.fs.length : Int) := by omega
    simp [this]
  | j + 1, i, h => by
    rw [value_Copy_i0_l0_eq]
    unfold value_Copy_i0_b0
    have h1 : i < v.fs.length := by omega
    have ih := copy_l1 v x y s r b hN hc j (i + 1) (by omega)
    have hcc := hc _ (List.getElem_mem h1)
    have g1 : (i : Int) < (v.fs.length : Int) := by omega
    have g0 : (0 : Int) ≤ (i : Int) := by omega
    have hne : C.sl (v.fs.map fldRow) = v.fc := by
      rw [v.fc_eq]
      cases hf : v.fs with
      | nil => rw [hf] at h1; simp at h1
      | cons p r => cases v.nil <;> rfl
    have hset : (v.fs.map fldRow).set i (fldRow v.fs[i]) = v.fs.map fldRow := by
      rw [show fldRow v.fs[i] = (v.fs.map fldRow)[i]'(by simpa using h1) by simp]
      exact set_same _ _ _
    simp only [Val.fc_rows, rowsAt_map, List.length_map, Int.toNat_natCast, h1, at_fld1, at_fld2, at_fld3, at_fld4, val_fold, hcc, wrap_nat (show i ≤ big by omega), g1, g0, decide_true, and_self, if_true, Option.bind_some, gR_s, gC_s, gI_s, gB_s, gS_s, gM_s, gR_z, gC_z, gI_z, gB_z, gS_z, gM_z, hd_r, putRow, hset, hne, ih]
theorem copy_l3 (v : Val) (x y : Int) (s : Bytes) (r : Row) (b : Bool) (hN : v.fs.length ≤ big) (hc : ∀ p ∈ v.fs, (lim T).ic value_Copy_i2_n [.r p.2.row] = some [.r p.2.row]) : ∀ (j i : Nat), i + j = v.fs.length → 
    value_Copy_i2_l0 (lim T) (v.fs.length : Int) (i : Int) x y s r v.fc = some (0, [.r [.int x], .r [.int y], .r [.str s], .r r, .r [v.fc]])
  | 0, i, h => by
    rw [value_Copy_i2_l0_eq]
    unfold value_Copy_i2_b0
    have : ¬ (i : Int) < (v.fs.length : Int) := by omega
    simp [this]
  | j + 1, i, h => by
    rw [value_Copy_i2_l0_eq]
    unfold value_Copy_i2_b0
    have h1 : i < v.fs.length := by omega
    have ih := copy_l3 v x y s r b hN hc j (i + 1) (by omega)
    have hcc := hc _ (List.getElem_mem h1)
    have g1 : (i : Int) < (v.fs.length : Int) := by omega
    have g0 : (0 : Int) ≤ (i : Int) := by omega
    have hne : C.sl (v.fs.map fldRow) = v.fc := by
      rw [v.fc_eq]
      cases hf : v.fs with
      | nil => rw [hf] at h1; simp at h1
      | cons p r => cases v.nil <;> rfl
    have hset : (v.fs.map fldRow).set i (fldRow v.fs[i]) = v.fs.map fldRow := by
      rw [show fldRow v.fs[i] = (v.fs.map fldRow)[i]'(by simpa using h1) by simp]
      exact set_same _ _ _
    simp only [Val.fc_rows, rowsAt_map, List.length_map, Int.toNat_natCast, h1, at_fld1, at_fld2, at_fld3, at_fld4, val_fold, hcc, wrap_nat (show i ≤ big by omega), g1, g0, decide_true, and_self, if_true, Option.bind_some, gR_s, gC_s, gI_s, gB_s, gS_s, gM_s, gR_z, gC_z, gI_z, gB_z, gS_z, gM_z, hd_r, putRow, hset, hne, ih]
theorem copy3_spec (v : Val) (hN : v.bulk ≤ big) : (lim T).ic value_Copy_i2_n [.r v.row] = some [.r v.row] := by
  have hrec : ∀ p ∈ v.fs, (lim T).ic value_Copy_i2_n [.r p.2.row] = some [.r p.2.row] := by
    intro p hp
    have := Val.size_lt hp
    have hb := Val.bulk_mem hp
    exact copy3_spec p.2 (by omega)
  rw [value_Copy_i2_ic]
  unfold value_Copy_i2
  have hl := copy_l3 v v.k v.n v.s [.int 0, .int 0, .str [], .nils] true (by have := v.bulk_len; omega) hrec v.fs.length 0 (by omega)
  simp only [Int.ofNat_zero, Int.natCast_zero] at hl
  simp only [at_val0, at_val1, at_val2, at_val3, toI_int, toS_str, clone_spec v hN, Option.bind_some, gR_s, gC_s, gI_s, gB_s, gS_s, gM_s, gR_z, gC_z, gI_z, gB_z, gS_z, gM_z, hd_r, at_zero, Val.fc_rows, List.length_map, hl, List.tail_cons, val_fold]
  termination_by SizeOf.sizeOf v
theorem copy1_spec (v : Val) (hN : v.bulk ≤ big) : (lim T).ic value_Copy_i0_n [.r [.int v.k], .r [.int v.n], .r [.str v.s], .r [v.fc]] = some [.r v.row] := by
  rw [value_Copy_i0_ic]
  unfold value_Copy_i0
  have hl := copy_l1 v v.k v.n v.s [.int 0, .int 0, .str [], .nils] true (by have := v.bulk_len; omega) (fun p hp => copy3_spec p.2 (by have := Val.bulk_mem hp; omega)) v.fs.length 0 (by omega)
  simp only [Int.ofNat_zero, Int.natCast_zero] at hl
  simp only [clone_spec v hN, Option.bind_some, gR_s, gC_s, gI_s, gB_s, gS_s, gM_s, gR_z, gC_z, gI_z, gB_z, gS_z, gM_z, hd_r, at_zero, Val.fc_rows, List.length_map, hl, List.tail_cons, toI_int, toS_str, val_fold]

/-! value.Get -/
theorem get_l (v : Val) (s : Bytes) (hN : v.bulk ≤ big) (z : Row) : ∀ (j i : Nat), i + j = v.fs.length →
    Tot (fun r => r = (0, [.r z]) ∨ ∃ p ∈ v.fs, r = (1, [.r [.bool true], .r p.2.row])) (value_Get_l0 (lim T) s (.dp v.row) v.fc (v.fs.length : Int) (i : Int) z)
  | 0, i, h => by
    rw [value_Get_l0_eq]; unfold value_Get_b0
    obtain rfl : i = v.fs.length := by omega
    exact .ite (fun h => absurd h dec_ge) fun _ => .some (.inl rfl)
  | j + 1, i, h => by
    rw [value_Get_l0_eq]; unfold value_Get_b0
    have hi : i < v.fs.length := by omega
    have hl := v.bulk_len
    have ih := get_l v s hN z j (i + 1) (by omega)
    refine .pos (dec_lt hi) (.pos (ix_ok (by rw [Val.fc_rows, List.length_map]; exact hi)) ?_)
    rw [show rowsAt v.fc.rows (i : Int).toNat = fldRow v.fs[i] from (by rw [Val.fc_rows, Int.toNat_natCast]; exact rowsAt_map _ _ _ hi), wrap_nat (show i ≤ big by omega)]
    have hc := copy1_spec v.fs[i].2 (by have := Val.bulk_mem (List.getElem_mem hi); omega)
    have k : ∀ q : Bool, Tot (fun r => r = (0, [.r z]) ∨ ∃ p ∈ v.fs, r = (1, [.r [.bool true], .r p.2.row])) (if q = true then ((lim T).ic value_Copy_i0_n [.r [.int v.fs[i].2.k], .r [.int v.fs[i].2.n], .r [.str v.fs[i].2.s], .r [v.fs[i].2.fc]]).bind fun y3 => some ((1 : Nat), ([.r [.bool true], .r (gR 0 y3)] : List PV)) else value_Get_l0 (lim T) s (.dp v.row) v.fc (v.fs.length : Int) ((i + 1 : Nat) : Int) z) := by
      intro q
      refine .ite (fun _ => ?_) fun _ => ih
      exact .eqbind hc (.some (.inr ⟨v.fs[i], List.getElem_mem hi, rfl⟩))
    exact .ite (fun _ => .pos rfl (k _)) fun _ => k _
def zeroV : Val := .mk 0 0 [] true []
theorem get_spec (v : Val) (s : Bytes) (hw : v.wf) (hN : v.bulk ≤ big) : ∃ (u : Val) (ok : Bool), u.wf ∧ u.bulk ≤ big ∧ (lim T).pc n_value_Get [v.row, [.str s]] = some [u.row, [.bool ok]] := by
  have : Tot (fun r => ∃ (u : Val) (ok : Bool), u.wf ∧ u.bulk ≤ big ∧ r = [u.row, [.bool ok]]) ((lim T).pc n_value_Get [v.row, [.str s]]) := by
    rw [value_Get_pc]; unfold value_Get
    rw [at_val3, Val.fc_rows, List.length_map]
    refine .bind (get_l v s hN _ v.fs.length 0 (by omega)) ?_
    rintro r (rfl | ⟨p, hp, rfl⟩)
    · exact .some ⟨zeroV, false, by simp [zeroV, Val.wf, Val.wfs, inI64], by simp [zeroV, Val.bulk, Val.bulks, big], rfl⟩
    · exact .some ⟨p.2, true, Val.wf_mem hw hp, by have := Val.bulk_mem hp; omega, rfl⟩
  obtain ⟨r, e, u, ok, h1, h2, rfl⟩ := this
  exact ⟨u, ok, h1, h2, e⟩
/-! the law -/
end Go.Ev.Zzp
namespace Go.Ev.Zzp
theorem all2_comm {α : Type} {f : α → α → Bool} : ∀ {l r : List α}, (∀ a ∈ l, ∀ b ∈ r, f a b = f b a) → all2 f l r = all2 f r l
  | [], [], _ => rfl
  | a :: l, b :: r, h => by simp only [all2]; rw [h a (by simp) b (by simp), all2_comm (l := l) (r := r) (fun x hx y hy => h x (by simp [hx]) y (by simp [hy]))]
  | [], _ :: _, h => rfl
  | _ :: _, [], h => rfl
theorem beq_symm' {α : Type} [BEq α] [LawfulBEq α] (a b : α) : (a == b) = (b == a) := by
  by_cases h : a = b
  · subst h; rfl
  · rw [beq_eq_false_iff_ne.2 h, beq_eq_false_iff_ne.2 (Ne.symm h)]
theorem eqv_comm (v w : Val) : v.eqv w = w.eqv v := by
  rw [v.eqv_eq, w.eqv_eq, beq_symm' v.k, beq_symm' v.n, beq_symm' v.s, all2_comm (fun p hp q hq => ?_)]
  have := Val.size_lt hp
  simp only [fldEq]
  rw [beq_symm' p.1, eqv_comm p.2 q.2]
  termination_by SizeOf.sizeOf v

/-! the field of a name -/
noncomputable def gv (s : Bytes) (v : Val) : Val × Bool := @Classical.epsilon _ ⟨(zeroV, false)⟩ fun p => p.1.wf ∧ p.1.bulk ≤ big ∧ (lim T).pc n_value_Get [v.row, [.str s]] = some [p.1.row, [.bool p.2]]
theorem gv_spec (v : Val) (s : Bytes) (hw : v.wf) (hN : v.bulk ≤ big) : (gv s v).1.wf ∧ (gv s v).1.bulk ≤ big ∧ (lim T).pc n_value_Get [v.row, [.str s]] = some [(gv s v).1.row, [.bool (gv s v).2]] := by
  obtain ⟨u, ok, h1, h2, h3⟩ := get_spec v s hw hN
  exact Classical.epsilon_spec (p := fun p : Val × Bool => p.1.wf ∧ p.1.bulk ≤ big ∧ (lim T).pc n_value_Get [v.row, [.str s]] = some [p.1.row, [.bool p.2]]) ⟨(u, ok), h1, h2, h3⟩

/-! both checks -/
noncomputable def chk (v : Val) : Int := @Classical.epsilon _ ⟨0⟩ fun n => (lim T).pc n_value_Check [v.row] = some [[.int n]]
theorem chk_spec (v : Val) (hN : v.bulk ≤ big) : (lim T).pc n_value_Check [v.row] = some [[.int (chk v)]] := by
  obtain ⟨n, h, _⟩ := vcheck_tot v hN
  exact Classical.epsilon_spec (p := fun n : Int => (lim T).pc n_value_Check [v.row] = some [[.int n]]) ⟨n, h⟩
def chkE (v : Val) (n : Int) (e : Int) : Int := if n ≠ 0 then n else if v.k ≠ 8 then 8 else e
noncomputable def both (a b : Val) : Int := chkE a (chk a) (chkE b (chk b) 0)
theorem wrap1 : IntKind.wrap .i64 1 = 1 := by decide
theorem wrap2 : IntKind.wrap .i64 2 = 2 := by decide
theorem check_spec (a b : Val) (ha : a.bulk ≤ big) (hb : b.bulk ≤ big) : (lim T).pc n_align_check [a.row, b.row] = some [[.int (both a b)]] := by
  rw [align_check_pc]; unfold align_check
  rw [show ((([a.row, b.row] : List Row).length : Nat) : Int) = 2 from rfl]
  have e0 : rowsAt (C.sl [a.row, b.row]).rows (0 : Int).toNat = a.row := rfl
  have e1 : rowsAt (C.sl [a.row, b.row]).rows (1 : Int).toNat = b.row := rfl
  have l2 : align_check_l0 (lim T) (.sl [a.row, b.row]) 2 2 = some (0, []) := by rw [align_check_l0_eq]; unfold align_check_b0; simp
  have l1 : align_check_l0 (lim T) (.sl [a.row, b.row]) 2 1 = if chkE b (chk b) 0 = 0 then some (0, []) else some (1, [.r [.int (chkE b (chk b) 0)]]) := by
    rw [align_check_l0_eq]; unfold align_check_b0
    rw [e1, chk_spec b hb, at_val0]
    unfold chkE
    by_cases h1 : chk b = 0 <;> by_cases h2 : b.k = 8 <;> simp [h1, h2, wrap2, l2]
  rw [align_check_l0_eq]; unfold align_check_b0
  rw [e0, chk_spec a ha, at_val0]
  rw [both, chkE]
  by_cases h1 : chk a = 0 <;> by_cases h2 : a.k = 8 <;> simp [h1, h2, wrap1, l1]
  by_cases h3 : chkE b (chk b) 0 = 0 <;> simp [h3]
theorem lists_spec (a b : Val) (ha : a.bulk ≤ big) (hb : b.bulk ≤ big) : (lim T).pc n_clapref3_Lists [a.row, b.row] = some [[.int (both a b)]] := by
  rw [clapref3_Lists_pc]; unfold clapref3_Lists
  rw [show ((([a.row, b.row] : List Row).length : Nat) : Int) = 2 from rfl]
  have e0 : rowsAt (C.sl [a.row, b.row]).rows (0 : Int).toNat = a.row := rfl
  have e1 : rowsAt (C.sl [a.row, b.row]).rows (1 : Int).toNat = b.row := rfl
  have l2 : clapref3_Lists_l0 (lim T) (.sl [a.row, b.row]) 2 2 = some (0, []) := by rw [clapref3_Lists_l0_eq]; unfold clapref3_Lists_b0; simp
  have l1 : clapref3_Lists_l0 (lim T) (.sl [a.row, b.row]) 2 1 = if chkE b (chk b) 0 = 0 then some (0, []) else some (1, [.r [.int (chkE b (chk b) 0)]]) := by
    rw [clapref3_Lists_l0_eq]; unfold clapref3_Lists_b0
    rw [e1, chk_spec b hb, at_val0]
    unfold chkE
    by_cases h1 : chk b = 0 <;> by_cases h2 : b.k = 8 <;> simp [h1, h2, wrap2, l2]
  rw [clapref3_Lists_l0_eq]; unfold clapref3_Lists_b0
  rw [e0, chk_spec a ha, at_val0]
  rw [both, chkE]
  by_cases h1 : chk a = 0 <;> by_cases h2 : a.k = 8 <;> simp [h1, h2, wrap1, l1]
  by_cases h3 : chkE b (chk b) 0 = 0 <;> simp [h3]

/-! ByIndex -/
def twoRow (i k : Nat) : Row := [.int (i : Int), .int (k : Int)]
def diag (n : Nat) : List Row := (List.range n).map fun i => twoRow i i
theorem diag_succ (i : Nat) : diag (i + 1) = diag i ++ [twoRow i i] := by simp [diag, List.range_succ]
theorem diag_len (n : Nat) : (diag n).length = n := by simp [diag]
theorem byIndex_l (n : Nat) (hn : n ≤ big) : ∀ (j i : Nat), i + j = n → ∀ c : C, c.rows = diag i → (i = 0 → c = .nils) →
    ∃ c' : C, align_ByIndex_l0 (lim T) (n : Int) (i : Int) c = some (0, [.r [c']]) ∧ c'.rows = diag n
  | 0, i, h, c, hc, _ => by
    rw [align_ByIndex_l0_eq]; unfold align_ByIndex_b0
    obtain rfl : i = n := by omega
    exact ⟨c, by simp, hc⟩
  | j + 1, i, h, c, hc, _ => by
    rw [align_ByIndex_l0_eq]; unfold align_ByIndex_b0
    have h1 : (i : Int) < (n : Int) := by omega
    obtain ⟨c', e1, e2⟩ := byIndex_l n hn j (i + 1) (by omega) (appC c [[.int (i : Int), .int (i : Int)]]) (by rw [appC_rows, hc, diag_succ]; rfl) (by omega)
    refine ⟨c', ?_, e2⟩
    have hg : (c.rows.length + 1) * 16 ≤ 140737488355328 := by rw [hc, diag_len]; unfold big at hn; omega
    simp only [h1, decide_true, if_true, List.length_cons, List.length_nil, Nat.zero_add, hg, wrap_nat (show i ≤ big by omega), e1]
theorem byIndex_spec (a b : Val) (ha : a.bulk ≤ big) (hb : b.bulk ≤ big) : ∃ c : C, (lim T).pc n_align_ByIndex [a.row, b.row] = some [[c], [.int (both a b)]] ∧ (both a b ≠ 0 → c = .nils) ∧ (both a b = 0 → c.rows = diag (min b.fs.length a.fs.length)) := by
  rw [align_ByIndex_pc]; unfold align_ByIndex
  rw [check_spec a b ha hb]
  by_cases h : both a b = 0
  · have hm : (if (((at_ b.row 3).rows).length : Int) < (((at_ a.row 3).rows).length : Int) then (((at_ b.row 3).rows).length : Int) else (((at_ a.row 3).rows).length : Int)) = ((min b.fs.length a.fs.length : Nat) : Int) := by
      simp only [at_val3, Val.fc_rows, List.length_map]; split <;> omega
    obtain ⟨c, e1, e2⟩ := byIndex_l (min b.fs.length a.fs.length) (by have := b.bulk_len; omega) _ 0 (Nat.zero_add _) .nils rfl (fun _ => rfl)
    rw [hm]
    refine ⟨c, ?_, fun hn => absurd h hn, fun _ => e2⟩
    simp only [Int.ofNat_zero, Int.natCast_zero] at e1
    simp [h, e1]
  · exact ⟨.nils, by simp [h], fun _ => rfl, fun hn => absurd hn h⟩

/-! the keys -/
noncomputable def keyErr (s : Bytes) : List (Bytes × Val) → Int
  | [] => 0
  | p :: r => if p.2.k ≠ 6 then 8 else if (gv s p.2).2 = false then 16 else keyErr s r
noncomputable def kRow (s : Bytes) (p : Bytes × Val) : Row := (gv s p.2).1.row
theorem keys_l (s : Bytes) (c0 : C) (fs : List (Bytes × Val)) (hc0 : c0.rows = fs.map fldRow) (hw : ∀ p ∈ fs, p.2.wf ∧ p.2.bulk ≤ big) (hN : fs.length ≤ big) : ∀ (j i : Nat), i + j = fs.length → ∀ c : C, c.rows = (fs.take i).map (kRow s) →
    ∃ c' : C, clapref3_ByKey_1_l0 (lim T) (.dp [.str s]) c0 (fs.length : Int) (i : Int) c = (if keyErr s (fs.drop i) = 0 then some (0, [.r [c']]) else some (1, [.r [.nils], .r [.int (keyErr s (fs.drop i))]])) ∧ (keyErr s (fs.drop i) = 0 → c'.rows = fs.map (kRow s))
  | 0, i, h, c, hc => by
    rw [clapref3_ByKey_1_l0_eq]; unfold clapref3_ByKey_1_b0
    obtain rfl : i = fs.length := by omega
    refine ⟨c, ?_, fun _ => by rw [hc, List.take_length]⟩
    simp [keyErr]
  | j + 1, i, h, c, hc => by
    rw [clapref3_ByKey_1_l0_eq]; unfold clapref3_ByKey_1_b0
    have hi : i < fs.length := by omega
    have h1 : (i : Int) < (fs.length : Int) := by omega
    have hm := List.getElem_mem hi
    obtain ⟨g1, g2, g3⟩ := gv_spec fs[i].2 s (hw _ hm).1 (hw _ hm).2
    have hr : rowsAt c0.rows (i : Int).toNat = fldRow fs[i] := by rw [hc0, Int.toNat_natCast]; exact rowsAt_map _ _ _ hi
    have hl : c0.rows.length = fs.length := by rw [hc0, List.length_map]
    have hlen : c.rows.length ≤ i := by rw [hc, List.length_map, List.length_take]; omega
    have hg : (c.rows.length + 1) * 56 ≤ 140737488355328 := by unfold big at hN; omega
    obtain ⟨c', e1, e2⟩ := keys_l s c0 fs hc0 hw hN j (i + 1) (by omega) (appC c [kRow s fs[i]]) (by
      rw [appC_rows, hc, List.take_add_one, List.getElem?_eq_getElem hi, List.map_append]; rfl)
    rw [List.drop_eq_getElem_cons hi, keyErr]
    have h0 : (0 : Int) ≤ (i : Int) := by omega
    refine ⟨c', ?_, ?_⟩
    · rw [hr, hl]
      simp only [h1, h0, decide_true, and_self, if_true, at_fld1, at_fld2, at_fld3, at_fld4, toI_int, isDp_dp, dpRow_dp, at_zero, toS_str, val_fold, g3, Option.bind_some, rowsAt_zero, rowsAt_succ, toB_bool]
      by_cases k6 : fs[i].2.k = 6
      · cases hb : (gv s fs[i].2).2 with
        | false => simp [k6]
        | true =>
          simp only [k6, bne_self_eq_false, Bool.false_eq_true, if_false, Bool.not_true, List.length_cons, List.length_nil, Nat.zero_add, hg, if_true, wrap_nat (show i ≤ big by omega), ne_eq, not_true, Bool.true_eq_false]
          exact e1
      · have : (fs[i].2.k != 6) = true := by simp [k6]
        simp [k6]
    · intro hz
      apply e2
      by_cases k6 : fs[i].2.k = 6
      · cases hb : (gv s fs[i].2).2 with
        | false => simp [k6, hb] at hz
        | true => simpa [k6, hb] using hz
      · simp [k6] at hz
theorem keys_spec (s : Bytes) (v : Val) (hw : v.wf) (hN : v.bulk ≤ big) : ∃ c : C, (lim T).pc n_clapref3_ByKey_1 [v.row, [.dp [.str s]]] = (if keyErr s v.fs = 0 then some [[c], [.int 0]] else some [[.nils], [.int (keyErr s v.fs)]]) ∧ (keyErr s v.fs = 0 → c.rows = v.fs.map (kRow s)) := by
  rw [clapref3_ByKey_1_pc]; unfold clapref3_ByKey_1
  obtain ⟨c, e1, e2⟩ := keys_l s v.fc v.fs v.fc_rows (fun p hp => ⟨Val.wf_mem hw hp, by have := Val.bulk_mem hp; omega⟩) (by have := v.bulk_len; omega) _ 0 (Nat.zero_add _) .nils rfl
  simp only [Int.ofNat_zero, Int.natCast_zero, List.drop_zero] at e1 e2
  refine ⟨c, ?_, e2⟩
  rw [at_val3, Val.fc_rows, List.length_map, e1]
  by_cases h : keyErr s v.fs = 0 <;> simp [h]
end Go.Ev.Zzp
namespace Go.Ev.Zzp
/-! ByKey: the checks of the names -/
theorem err_l (s : Bytes) (v0 v1 c0 vc : C) (x5 : Int) (fs : List (Bytes × Val)) (x4 : Int) (hc0 : c0.rows = fs.map fldRow) (hw : ∀ p ∈ fs, p.2.wf ∧ p.2.bulk ≤ big) (hN : fs.length ≤ big) : ∀ (j i : Nat), i + j = fs.length →
    align_ByKey_l1 (lim T) s v0 v1 vc x4 x5 c0 (fs.length : Int) (i : Int) = (if keyErr s (fs.drop i) = 0 then some (0, [.r [.str s], .r [v0], .r [v1], .r [vc], .r [.int x4], .r [.int x5]]) else some (1, [.r [.nils], .r [.int (keyErr s (fs.drop i))]]))
  | 0, i, h => by
    rw [align_ByKey_l1_eq]; unfold align_ByKey_b1
    obtain rfl : i = fs.length := by omega
    simp [keyErr]
  | j + 1, i, h => by
    rw [align_ByKey_l1_eq]; unfold align_ByKey_b1
    have hi : i < fs.length := by omega
    have h1 : (i : Int) < (fs.length : Int) := by omega
    have hm := List.getElem_mem hi
    obtain ⟨g1, g2, g3⟩ := gv_spec fs[i].2 s (hw _ hm).1 (hw _ hm).2
    have hr : rowsAt c0.rows (i : Int).toNat = fldRow fs[i] := by rw [hc0, Int.toNat_natCast]; exact rowsAt_map _ _ _ hi
    have hl : c0.rows.length = fs.length := by rw [hc0, List.length_map]
    have ih := err_l s v0 v1 c0 vc x5 fs x4 hc0 hw hN j (i + 1) (by omega)
    rw [List.drop_eq_getElem_cons hi, keyErr]
    have h0 : (0 : Int) ≤ (i : Int) := by omega
    rw [hr, hl]
    simp only [h1, h0, decide_true, and_self, if_true, at_fld1, at_fld2, at_fld3, at_fld4, toI_int, isDp_dp, dpRow_dp, at_zero, toS_str, val_fold, g3, Option.bind_some, rowsAt_zero, rowsAt_succ, toB_bool]
    by_cases k6 : fs[i].2.k = 6
    · cases hb : (gv s fs[i].2).2 with
      | false => simp [k6]
      | true =>
        simp only [k6, bne_self_eq_false, Bool.false_eq_true, if_false, Bool.not_true, if_true, wrap_nat (show i ≤ big by omega), ne_eq, not_true, Bool.true_eq_false]
        exact ih
    · have : (fs[i].2.k != 6) = true := by simp [k6]
      simp [k6]
noncomputable def err2 (s : Bytes) (a b : Val) : Int := if keyErr s a.fs ≠ 0 then keyErr s a.fs else keyErr s b.fs
theorem errs (s : Bytes) (a b : Val) (ha : a.wf) (hb : b.wf) (hN : a.bulk + b.bulk ≤ big) (v0 v1 : C) :
    align_ByKey_l0 (lim T) s v0 v1 (.sl [a.row, b.row]) 2 0 = (if err2 s a b = 0 then some (0, [.r [.str s], .r [v0], .r [v1]]) else some (1, [.r [.nils], .r [.int (err2 s a b)]])) := by
  have e0 : rowsAt (C.sl [a.row, b.row]).rows (0 : Int).toNat = a.row := rfl
  have e1 : rowsAt (C.sl [a.row, b.row]).rows (1 : Int).toNat = b.row := rfl
  have l2 : align_ByKey_l0 (lim T) s v0 v1 (.sl [a.row, b.row]) 2 2 = some (0, [.r [.str s], .r [v0], .r [v1]]) := by rw [align_ByKey_l0_eq]; unfold align_ByKey_b0; simp
  have ka := fun x => err_l s v0 v1 a.fc (.sl [a.row, b.row]) x a.fs 2 a.fc_rows (fun p hp => ⟨Val.wf_mem ha hp, by have := Val.bulk_mem hp; omega⟩) (by have := a.bulk_len; omega) _ 0 (Nat.zero_add _)
  have kb := fun x => err_l s v0 v1 b.fc (.sl [a.row, b.row]) x b.fs 2 b.fc_rows (fun p hp => ⟨Val.wf_mem hb hp, by have := Val.bulk_mem hp; omega⟩) (by have := b.bulk_len; omega) _ 0 (Nat.zero_add _)
  simp only [Int.ofNat_zero, Int.natCast_zero, List.drop_zero] at ka kb
  have l1 : align_ByKey_l0 (lim T) s v0 v1 (.sl [a.row, b.row]) 2 1 = (if keyErr s b.fs = 0 then some (0, [.r [.str s], .r [v0], .r [v1]]) else some (1, [.r [.nils], .r [.int (keyErr s b.fs)]])) := by
    rw [align_ByKey_l0_eq]; unfold align_ByKey_b0
    rw [e1, at_val3, Val.fc_rows, List.length_map, kb]
    by_cases h : keyErr s b.fs = 0 <;> simp [h, wrap2, l2]
  rw [align_ByKey_l0_eq]; unfold align_ByKey_b0
  rw [e0, at_val3, Val.fc_rows, List.length_map, ka, err2]
  by_cases h : keyErr s a.fs = 0 <;> simp [h, wrap1, l1]

/-! ByKey: the pairs -/
def pickI (m u : Nat → Bool) : Nat → Nat → Option Nat
  | 0, _ => none
  | j + 1, i => if !u i && m i then some i else pickI m u j (i + 1)
theorem pickI_congr {m u u' : Nat → Bool} {m' : Nat → Bool} : ∀ (j i : Nat), (∀ q, i ≤ q → q < i + j → u q = u' q ∧ m q = m' q) → pickI m u j i = pickI m' u' j i
  | 0, _, _ => rfl
  | j + 1, i, h => by
    simp only [pickI]
    rw [(h i (by omega) (by omega)).1, (h i (by omega) (by omega)).2, pickI_congr j (i + 1) (fun q h1 h2 => h q (by omega) (by omega))]
theorem pickI_lt {m u : Nat → Bool} : ∀ {j i q : Nat}, pickI m u j i = some q → q < i + j
  | 0, _, _, h => by simp [pickI] at h
  | j + 1, i, q, h => by
    simp only [pickI] at h
    split at h
    · simp only [Option.some.injEq] at h; omega
    · have := pickI_lt h; omega
def bRow (b : Bool) : Row := [.bool b]
noncomputable def kv (s : Bytes) (fs : List (Bytes × Val)) (k : Nat) : Val := (gv s ((fs.map (·.2)).getD k zeroV)).1
theorem kv_eq (s : Bytes) (fs : List (Bytes × Val)) (k : Nat) (h : k < fs.length) : kv s fs k = (gv s fs[k].2).1 := by simp [kv, h]
theorem rowsAt_b (U : List Bool) (i : Nat) (h : i < U.length) : at_ (rowsAt (U.map bRow) i) 0 = .bool (U.getD i true) := by
  rw [rowsAt_map _ _ _ h]; simp [bRow, h]
noncomputable def resU (n : Option Nat) (k : Nat) (U : List Bool) (c : C) : List Bool × C := match n with | none => (U, c) | some q => (U.set q true, appC c [twoRow q k])
theorem inner_p (s : Bytes) (a x : Val) (k : Nat) (bc : C) (lb : Int) (U : List Bool) (c : C) (ha : a.wf) (hN : a.bulk ≤ big) (hx : x.wf) (hxN : x.bulk ≤ big) (hU : U.length = a.fs.length) (hc : c.rows.length ≤ big) : ∀ (j i : Nat), i + j = a.fs.length →
    align_ByKey_l3 (lim T) s (.dp a.row) (k : Int) bc lb (k : Int) a.fc (a.fs.length : Int) (i : Int) (.sl (U.map bRow)) c x.row =
      some (0, [.r [.str s], .r [.dp a.row], .r [bc], .r [.int lb], .r [.int (k : Int)], .r [.sl ((resU (pickI (fun i => x.eqv (kv s a.fs i)) (fun i => U.getD i true) j i) k U c).1.map bRow)], .r [(resU (pickI (fun i => x.eqv (kv s a.fs i)) (fun i => U.getD i true) j i) k U c).2]])
  | 0, i, h => by
    rw [align_ByKey_l3_eq]; unfold align_ByKey_b3
    obtain rfl : i = a.fs.length := by omega
    simp [pickI, resU]
  | j + 1, i, h => by
    rw [align_ByKey_l3_eq]; unfold align_ByKey_b3
    have hi : i < a.fs.length := by omega
    have h1 : (i : Int) < (a.fs.length : Int) := by omega
    have h0 : (0 : Int) ≤ (i : Int) := by omega
    have hm := List.getElem_mem hi
    obtain ⟨g1, g2, g3⟩ := gv_spec a.fs[i].2 s (Val.wf_mem ha hm) (by have := Val.bulk_mem hm; omega)
    have hr : rowsAt a.fc.rows (i : Int).toNat = fldRow a.fs[i] := by rw [a.fc_rows, Int.toNat_natCast]; exact rowsAt_map _ _ _ hi
    have hl : a.fc.rows.length = a.fs.length := by rw [a.fc_rows, List.length_map]
    have hib : i ≤ big := by have := a.bulk_len; omega
    have hUi : i < U.length := by omega
    have hUI : (i : Int) < (U.length : Int) := by omega
    have ih := inner_p s a x k bc lb U c ha hN hx hxN hU hc j (i + 1) (by omega)
    have hs := same_spec x (kv s a.fs i) hx (by rw [kv_eq s _ _ hi]; exact g1) hxN
    have hg : (c.rows.length + 1) * 16 ≤ 140737488355328 := by unfold big at hc; omega
    rw [kv_eq s _ _ hi] at hs
    rw [hr, hl]
    simp only [h1, h0, hUI, decide_true, and_self, if_true, at_fld1, at_fld2, at_fld3, at_fld4, val_fold, g3, Option.bind_some, rowsAt_zero, rows_sl, Int.toNat_natCast, List.length_map, hUi, rowsAt_b U i hUi, toB_bool, hs, at_zero, pickI, kv_eq s _ _ hi]
    cases hu : U.getD i true with
    | true =>
      simp only [Bool.not_true, Bool.false_and, Bool.false_eq_true, if_false, Option.bind_some, gB_s, gB_z, gS_z, gC_s, gC_z, gI_s, gI_z, gR_s, gR_z, wrap_nat hib]
      exact ih
    | false =>
      cases he : x.eqv (gv s a.fs[i].2).1 with
      | true =>
        simp only [Bool.not_false, Bool.true_and, if_true, Option.bind_some, gB_s, gB_z, gS_z, gC_s, gC_z, gI_s, gI_z, gR_s, gR_z, rows_sl, List.length_map, h0, hUi, hUI, and_self, List.length_cons, List.length_nil, Nat.zero_add, hg, Int.toNat_natCast, resU, List.map_set]
        rfl
      | false =>
        simp only [Bool.not_false, Bool.true_and, Bool.false_eq_true, if_false, if_true, Option.bind_some, gB_s, gB_z, gS_z, gC_s, gC_z, gI_s, gI_z, gR_s, gR_z, wrap_nat hib]
        exact ih

/-! the reference's -/
theorem ceqI (i j : Row) : ceq [.int .i64] i j = ((at_ i 0).toI == (at_ j 0).toI) := by simp [ceq]
theorem find_set (i j : Int) (v : Row) : ∀ (es : List (Row × Row)), findE lI [.int i] (setE lI [.int j] v es) = if i = j then some v else findE lI [.int i] es
  | [] => by
    simp only [setE, findE, L.ks, ceqI, at_zero, toI_int]
    by_cases h : i = j <;> simp [h]
  | (k, u) :: r => by
    have ih := find_set i j v r
    simp only [setE, findE, L.ks, ceqI, at_zero, toI_int]
    by_cases h : j = (at_ k 0).toI
    · simp only [h, beq_self_eq_true, if_true, findE, L.ks, ceqI, at_zero, toI_int]
      by_cases h2 : i = (at_ k 0).toI <;> simp [h2]
    · simp only [h, beq_iff_eq, if_false, findE, L.ks, ceqI, at_zero, toI_int, ih]
      by_cases h2 : i = (at_ k 0).toI
      · have : ¬ i = j := fun e => h (e.symm.trans h2)
        simp only [h2, if_true]
        rw [if_neg (fun e => h e.symm)]
      · simp only [h2, if_false]
def usedE (es : List (Row × Row)) (i : Nat) : Bool := (at_ ((findE lI [.int (i : Int)] es).getD [.bool false]) 0).toB
theorem used_set (es : List (Row × Row)) (q i : Nat) : usedE (setE lI [.int (q : Int)] [.bool true] es) i = (decide (i = q) || usedE es i) := by
  unfold usedE
  rw [find_set]
  by_cases h : i = q
  · subst h; simp
  · have : ¬ (i : Int) = (q : Int) := by omega
    simp [h, this]
noncomputable def resE (n : Option Nat) (k : Nat) (es : List (Row × Row)) (c : C) : List (Row × Row) × C := match n with | none => (es, c) | some q => (setE lI [.int (q : Int)] [.bool true] es, appC c [twoRow q k])
theorem inner_r (vs : List Val) (x : Val) (k : Nat) (ac bc : C) (lb : Int) (es : List (Row × Row)) (c : C) (hac : ac.rows = vs.map Val.row) (hvs : ∀ v ∈ vs, v.bulk ≤ big) (hN : vs.length ≤ big) (hc : c.rows.length ≤ big) : ∀ (j i : Nat), i + j = vs.length →
    clapref3_ByKey_l1 (lim T) ac (k : Int) bc lb (k : Int) ac (vs.length : Int) (i : Int) c es x.row =
      some (0, [.r [ac], .r [bc], .r [.int lb], .r [.int (k : Int)], .r [(resE (pickI (fun i => (vs.getD i zeroV).eqv x) (usedE es) j i) k es c).2], .m (resE (pickI (fun i => (vs.getD i zeroV).eqv x) (usedE es) j i) k es c).1])
  | 0, i, h => by
    rw [clapref3_ByKey_l1_eq]; unfold clapref3_ByKey_b1
    obtain rfl : i = vs.length := by omega
    simp [pickI, resE]
  | j + 1, i, h => by
    rw [clapref3_ByKey_l1_eq]; unfold clapref3_ByKey_b1
    have hi : i < vs.length := by omega
    have h1 : (i : Int) < (vs.length : Int) := by omega
    have h0 : (0 : Int) ≤ (i : Int) := by omega
    have hm := List.getElem_mem hi
    have hr : rowsAt ac.rows (i : Int).toNat = (vs[i]).row := by rw [hac, Int.toNat_natCast]; exact rowsAt_map _ _ _ hi
    have hl : ac.rows.length = vs.length := by rw [hac, List.length_map]
    have ih := inner_r vs x k ac bc lb es c hac hvs hN hc j (i + 1) (by omega)
    have hs := rsame_spec vs[i] x (hvs _ hm)
    have hg : (c.rows.length + 1) * 16 ≤ 140737488355328 := by unfold big at hc; omega
    have hv : vs.getD i zeroV = vs[i] := by simp [hi]
    rw [hr, hl]
    simp only [h1, h0, decide_true, and_self, if_true, Option.bind_some, rowsAt_zero, at_zero, toB_bool, hs, pickI, hv]
    have hue : (at_ ((findE lI [.int (i : Int)] es).getD [.bool false]) 0).toB = usedE es i := rfl
    rw [hue]
    cases he : vs[i].eqv x with
    | false =>
      simp only [Bool.and_false, Bool.false_eq_true, if_false, Option.bind_some, gB_s, gB_z, gS_z, gC_s, gC_z, gI_s, gI_z, gR_s, gR_z, gM_s, gM_z, wrap_nat (show i ≤ big by omega)]
      exact ih
    | true =>
      cases hu : usedE es i with
      | true =>
        simp only [Bool.not_true, Bool.false_and, Bool.false_eq_true, if_false, if_true, Option.bind_some, gB_s, gB_z, gS_z, gC_s, gC_z, gI_s, gI_z, gR_s, gR_z, gM_s, gM_z, wrap_nat (show i ≤ big by omega)]
        exact ih
      | false =>
        simp only [Bool.not_false, Bool.true_and, if_true, Option.bind_some, gB_s, gB_z, gS_z, gC_s, gC_z, gI_s, gI_z, gR_s, gR_z, gM_s, gM_z, List.length_cons, List.length_nil, Nat.zero_add, hg, resE]
        rfl
end Go.Ev.Zzp
namespace Go.Ev.Zzp
noncomputable def outF (s : Bytes) (a b : Val) : Nat → Nat → List Bool → C → C
  | 0, _, _, c => c
  | j + 1, k, U, c => outF s a b j (k + 1) (resU (pickI (fun i => (kv s b.fs k).eqv (kv s a.fs i)) (fun i => U.getD i true) a.fs.length 0) k U c).1 (resU (pickI (fun i => (kv s b.fs k).eqv (kv s a.fs i)) (fun i => U.getD i true) a.fs.length 0) k U c).2
def Two (c : C) : Prop := ∀ r ∈ c.rows, ∃ x y : Int, r = [.int x, .int y]
theorem resU_len (n : Option Nat) (k : Nat) (U : List Bool) (c : C) : (resU n k U c).1.length = U.length ∧ (resU n k U c).2.rows.length ≤ c.rows.length + 1 ∧ (Two c → Two (resU n k U c).2) := by
  cases n with
  | none => exact ⟨rfl, Nat.le_succ _, fun h => h⟩
  | some q =>
    refine ⟨by simp [resU], by simp [resU], fun h r hr => ?_⟩
    simp only [resU, appC_rows, List.mem_append, List.mem_singleton] at hr
    rcases hr with hr | rfl
    · exact h r hr
    · exact ⟨_, _, rfl⟩
theorem outer_p (s : Bytes) (a b : Val) (ha : a.wf) (hb : b.wf) (hN : a.bulk + b.bulk ≤ big) : ∀ (j k : Nat), k + j = b.fs.length → ∀ (U : List Bool) (c : C), U.length = a.fs.length → c.rows.length ≤ k → Two c →
    align_ByKey_l2 (lim T) s (.dp a.row) b.fc (b.fs.length : Int) (k : Int) (.sl (U.map bRow)) c = some (0, [.r [outF s a b j k U c]]) ∧ Two (outF s a b j k U c) ∧ (outF s a b j k U c).rows.length ≤ k + j
  | 0, k, h, U, c, hU, hc, h2 => by
    rw [align_ByKey_l2_eq]; unfold align_ByKey_b2
    obtain rfl : k = b.fs.length := by omega
    exact ⟨by simp [outF], h2, hc⟩
  | j + 1, k, h, U, c, hU, hc, h2 => by
    rw [align_ByKey_l2_eq]; unfold align_ByKey_b2
    have hk : k < b.fs.length := by omega
    have h1 : (k : Int) < (b.fs.length : Int) := by omega
    have h0 : (0 : Int) ≤ (k : Int) := by omega
    have hm := List.getElem_mem hk
    have hkb : k ≤ big := by have := b.bulk_len; omega
    obtain ⟨g1, g2, g3⟩ := gv_spec b.fs[k].2 s (Val.wf_mem hb hm) (by have := Val.bulk_mem hm; omega)
    have hr : rowsAt b.fc.rows (k : Int).toNat = fldRow b.fs[k] := by rw [b.fc_rows, Int.toNat_natCast]; exact rowsAt_map _ _ _ hk
    have hl : b.fc.rows.length = b.fs.length := by rw [b.fc_rows, List.length_map]
    have hla : a.fc.rows.length = a.fs.length := by rw [a.fc_rows, List.length_map]
    have hin := inner_p s a (kv s b.fs k) k b.fc (b.fs.length : Int) U c ha (by omega) (by rw [kv_eq s _ _ hk]; exact g1) (by rw [kv_eq s _ _ hk]; exact g2) hU (by omega) a.fs.length 0 (Nat.zero_add _)
    simp only [Int.ofNat_zero, Int.natCast_zero] at hin
    have hxr : (kv s b.fs k).row = (gv s b.fs[k].2).1.row := by rw [kv_eq s _ _ hk]
    rw [hxr] at hin
    obtain ⟨l1, l2, l3⟩ := resU_len (pickI (fun i => (kv s b.fs k).eqv (kv s a.fs i)) (fun i => U.getD i true) a.fs.length 0) k U c
    have ih := outer_p s a b ha hb hN j (k + 1) (by omega) _ _ (l1.trans hU) (by omega) (l3 h2)
    rw [hr, hl]
    refine ⟨?_, ih.2.1, by have := ih.2.2; simp only [outF]; omega⟩
    simp only [h1, h0, decide_true, and_self, if_true, at_fld1, at_fld2, at_fld3, at_fld4, val_fold, g3, Option.bind_some, rowsAt_zero, isDp_dp, dpRow_dp, at_val3, hla, hin, gB_s, gB_z, gS_z, gC_s, gC_z, gI_s, gI_z, gR_s, gR_z, wrap_nat hkb, outF]
    exact ih.1
noncomputable def gvs (s : Bytes) (fs : List (Bytes × Val)) : List Val := fs.map fun p => (gv s p.2).1
theorem gvs_row (s : Bytes) (fs : List (Bytes × Val)) : fs.map (kRow s) = (gvs s fs).map Val.row := by simp only [gvs, List.map_map]; rfl
theorem gvs_get (s : Bytes) (fs : List (Bytes × Val)) (i : Nat) (h : i < fs.length) : (gvs s fs).getD i zeroV = kv s fs i := by rw [kv_eq s fs i h]; simp [gvs, h]
theorem outer_r (s : Bytes) (a b : Val) (ac bc : C) (ha : a.wf) (hb : b.wf) (hN : a.bulk + b.bulk ≤ big) (hac : ac.rows = a.fs.map (kRow s)) (hbc : bc.rows = b.fs.map (kRow s)) : ∀ (j k : Nat), k + j = b.fs.length → ∀ (U : List Bool) (es : List (Row × Row)) (c : C), U.length = a.fs.length → (∀ i, i < a.fs.length → usedE es i = U.getD i true) → c.rows.length ≤ k →
    clapref3_ByKey_l0 (lim T) ac bc (b.fs.length : Int) (k : Int) c es = some (0, [.r [outF s a b j k U c]])
  | 0, k, h, U, es, c, hU, hes, hc => by
    rw [clapref3_ByKey_l0_eq]; unfold clapref3_ByKey_b0
    obtain rfl : k = b.fs.length := by omega
    simp [outF]
  | j + 1, k, h, U, es, c, hU, hes, hc => by
    rw [clapref3_ByKey_l0_eq]; unfold clapref3_ByKey_b0
    have hk : k < b.fs.length := by omega
    have h1 : (k : Int) < (b.fs.length : Int) := by omega
    have h0 : (0 : Int) ≤ (k : Int) := by omega
    have hkb : k ≤ big := by have := b.bulk_len; omega
    have hlen : (gvs s a.fs).length = a.fs.length := by simp [gvs]
    have hr : rowsAt bc.rows (k : Int).toNat = (kv s b.fs k).row := by
      rw [hbc, Int.toNat_natCast, rowsAt_map _ _ _ hk, kv_eq s _ _ hk]; rfl
    have hl : bc.rows.length = b.fs.length := by rw [hbc, List.length_map]
    have hla : ac.rows.length = (gvs s a.fs).length := by rw [hac, List.length_map, hlen]
    have hin := inner_r (gvs s a.fs) (kv s b.fs k) k ac bc (b.fs.length : Int) es c (by rw [hac, gvs_row]) (fun v hv => by
      simp only [gvs, List.mem_map] at hv
      obtain ⟨p, hp, rfl⟩ := hv
      exact (gv_spec p.2 s (Val.wf_mem ha hp) (by have := Val.bulk_mem hp; omega)).2.1) (by rw [hlen]; have := a.bulk_len; omega) (by omega) (gvs s a.fs).length 0 (Nat.zero_add _)
    simp only [Int.ofNat_zero, Int.natCast_zero] at hin
    have hpk : pickI (fun i => ((gvs s a.fs).getD i zeroV).eqv (kv s b.fs k)) (usedE es) (gvs s a.fs).length 0 = pickI (fun i => (kv s b.fs k).eqv (kv s a.fs i)) (fun i => U.getD i true) a.fs.length 0 := by
      rw [hlen]
      exact pickI_congr _ _ fun q _ hq => ⟨hes q (by omega), by rw [gvs_get s a.fs q (by omega), eqv_comm]⟩
    rw [hpk] at hin
    rw [hr, hl, hla]
    simp only [h1, h0, decide_true, and_self, if_true, Option.bind_some, hin, gB_s, gB_z, gS_z, gC_s, gC_z, gI_s, gI_z, gR_s, gR_z, gM_s, gM_z, wrap_nat hkb, outF]
    obtain ⟨l1, l2, _⟩ := resU_len (pickI (fun i => (kv s b.fs k).eqv (kv s a.fs i)) (fun i => U.getD i true) a.fs.length 0) k U c
    have e2 : (resE (pickI (fun i => (kv s b.fs k).eqv (kv s a.fs i)) (fun i => U.getD i true) a.fs.length 0) k es c).2 = (resU (pickI (fun i => (kv s b.fs k).eqv (kv s a.fs i)) (fun i => U.getD i true) a.fs.length 0) k U c).2 := by
      cases pickI (fun i => (kv s b.fs k).eqv (kv s a.fs i)) (fun i => U.getD i true) a.fs.length 0 <;> rfl
    rw [e2]
    refine outer_r s a b ac bc ha hb hN hac hbc j (k + 1) (by omega) _ _ _ (l1.trans hU) (fun i hi => ?_) (by omega)
    cases hp : pickI (fun i => (kv s b.fs k).eqv (kv s a.fs i)) (fun i => U.getD i true) a.fs.length 0 with
    | none => exact hes i hi
    | some q =>
      simp only [resE, resU, used_set]
      have hq := pickI_lt hp
      by_cases e : i = q
      · subst e
        have : i < U.length := by omega
        simp [this]
      · rw [hes i hi]
        have h3 : ¬ q = i := fun x => e x.symm
        simp [e, h3]
theorem byKey_spec (s : Bytes) (a b : Val) (ha : a.wf) (hb : b.wf) (hN : a.bulk + b.bulk ≤ big) : ∃ (c : C) (e : Int), (lim T).pc n_align_ByKey [a.row, b.row, [.str s]] = some [[c], [.int e]] ∧ (lim T).pc n_clapref3_ByKey [a.row, b.row, [.str s]] = some [[c], [.int e]] ∧ Two c ∧ c.rows.length ≤ big := by
  have hc1 := check_spec a b (by omega) (by omega)
  have hc2 := lists_spec a b (by omega) (by omega)
  have hnil : Two .nils := fun r hr => by cases hr
  rw [align_ByKey_pc, clapref3_ByKey_pc]; unfold align_ByKey clapref3_ByKey
  rw [hc1, hc2]
  by_cases h : both a b ≠ 0
  · exact ⟨.nils, both a b, by simp [h], by simp [h], hnil, Nat.zero_le _⟩
  replace h := Decidable.not_not.1 h
  obtain ⟨ac, q1, q2⟩ := keys_spec s a ha (by omega)
  obtain ⟨bc, r1, r2⟩ := keys_spec s b hb (by omega)
  have he := errs s a b ha hb hN (.dp a.row) (.dp b.row)
  rw [show ((([a.row, b.row] : List Row).length : Nat) : Int) = 2 from rfl]
  simp only [h, Option.bind_some, rowsAt_zero, at_zero, toI_int, bne_self_eq_false, Bool.false_eq_true, if_false, he, List.cons_append, List.nil_append, q1, r1]
  by_cases ka : keyErr s a.fs ≠ 0
  · refine ⟨.nils, keyErr s a.fs, by simp [err2, ka], by simp [ka], hnil, Nat.zero_le _⟩
  replace ka := Decidable.not_not.1 ka
  by_cases kb : keyErr s b.fs ≠ 0
  · refine ⟨.nils, keyErr s b.fs, by simp [err2, ka, kb], by simp [ka, kb], hnil, Nat.zero_le _⟩
  replace kb := Decidable.not_not.1 kb
  have hal : a.fs.length ≤ big := by have := a.bulk_len; omega
  have hp := outer_p s a b ha hb hN b.fs.length 0 (Nat.zero_add _) (List.replicate a.fs.length false) .nils (by simp) (Nat.zero_le _) hnil
  have hr := outer_r s a b ac bc ha hb hN (q2 ka) (r2 kb) b.fs.length 0 (Nat.zero_add _) (List.replicate a.fs.length false) [] .nils (by simp) (fun i hi => by simp [usedE, findE, hi]) (Nat.zero_le _)
  simp only [Int.ofNat_zero, Int.natCast_zero, List.map_replicate] at hp hr
  refine ⟨_, 0, ?_, ?_, hp.2.1, by have := hp.2.2; have := b.bulk_len; omega⟩
  · have hg : (0 : Int) ≤ (a.fs.length : Int) ∧ (a.fs.length : Int) ≤ (a.fs.length : Int) ∧ (a.fs.length : Int) * 1 ≤ 140737488355328 ∧ (a.fs.length : Int) ≤ 1099511627776 := by unfold big at hal; omega
    have e0 : err2 s a b = 0 := by simp [err2, ka, kb]
    simp only [e0, if_true, Option.bind_some, gB_s, gB_z, gS_z, gC_s, gC_z, gI_s, gI_z, isDp_dp, dpRow_dp, at_val3, Val.fc_rows, List.length_map, Int.toNat_natCast]
    rw [if_pos hg]
    have := hp.1
    simp only [bRow] at this
    rw [this]
    simp
  · simp only [ka, kb, if_true, Option.bind_some, rowsAt_zero, rowsAt_succ, at_zero, toI_int, bne_self_eq_false, Bool.false_eq_true, if_false]
    rw [r2 kb, List.length_map, hr]
    simp

/-! twos, slices.Equal -/
theorem twos_l (c : C) (h2 : Two c) (hN : c.rows.length ≤ big) : ∀ (j i : Nat), i + j = c.rows.length → ∀ d : C, d.rows = c.rows.take i → ∃ d' : C, claplaw3_twos_l0 (lim T) c (c.rows.length : Int) (i : Int) d = some (0, [.r [d']]) ∧ d'.rows = c.rows
  | 0, i, h, d, hd => by
    rw [claplaw3_twos_l0_eq]; unfold claplaw3_twos_b0
    obtain rfl : i = c.rows.length := by omega
    exact ⟨d, by simp, by rw [hd, List.take_length]⟩
  | j + 1, i, h, d, hd => by
    rw [claplaw3_twos_l0_eq]; unfold claplaw3_twos_b0
    have hi : i < c.rows.length := by omega
    have h1 : (i : Int) < (c.rows.length : Int) := by omega
    have h0 : (0 : Int) ≤ (i : Int) := by omega
    obtain ⟨x, y, hxy⟩ := h2 _ (List.getElem_mem hi)
    have hr : rowsAt c.rows (i : Int).toNat = [.int x, .int y] := by rw [← hxy]; simp [rowsAt, hi]
    have hdl : d.rows.length ≤ i := by rw [hd, List.length_take]; omega
    have hg : (d.rows.length + 1) * 16 ≤ 140737488355328 := by unfold big at hN; omega
    obtain ⟨d', e1, e2⟩ := twos_l c h2 hN j (i + 1) (by omega) (appC d [[.int x, .int y]]) (by rw [appC_rows, hd, List.take_add_one, List.getElem?_eq_getElem hi, hxy]; rfl)
    refine ⟨d', ?_, e2⟩
    rw [hr]
    simp only [h1, h0, decide_true, and_self, if_true, List.length_cons, List.length_nil, Nat.zero_add, hg, at_zero, at_succ, toI_int, wrap_nat (show i ≤ big by omega), e1]
theorem twos_spec (c : C) (h2 : Two c) (hN : c.rows.length ≤ big) : ∃ d : C, (lim T).pc n_claplaw3_twos [[c]] = some [[d]] ∧ d.rows = c.rows := by
  rw [claplaw3_twos_pc]; unfold claplaw3_twos
  obtain ⟨d, e1, e2⟩ := twos_l c h2 hN _ 0 (Nat.zero_add _) .nils rfl
  simp only [Int.ofNat_zero, Int.natCast_zero] at e1
  exact ⟨d, by rw [e1]; simp, e2⟩
theorem equal_l (c d : C) (h2 : Two c) (hd : d.rows = c.rows) (hN : c.rows.length ≤ big) : ∀ (j i : Nat), i + j = c.rows.length → slices_Equal_clapref3_Two_l0 (lim T) d c (c.rows.length : Int) (i : Int) = some (0, [])
  | 0, i, h => by
    rw [slices_Equal_clapref3_Two_l0_eq]; unfold slices_Equal_clapref3_Two_b0
    obtain rfl : i = c.rows.length := by omega
    simp
  | j + 1, i, h => by
    rw [slices_Equal_clapref3_Two_l0_eq]; unfold slices_Equal_clapref3_Two_b0
    have hi : i < c.rows.length := by omega
    have h1 : (i : Int) < (c.rows.length : Int) := by omega
    have h0 : (0 : Int) ≤ (i : Int) := by omega
    obtain ⟨x, y, hxy⟩ := h2 _ (List.getElem_mem hi)
    have hr : rowsAt c.rows (i : Int).toNat = [.int x, .int y] := by rw [← hxy]; simp [rowsAt, hi]
    have ih := equal_l c d h2 hd hN j (i + 1) (by omega)
    rw [hd, hr]
    have hq : ceq [.int .i64, .int .i64] [.int x, .int y] [.int x, .int y] = true := by simp [ceq]
    simp only [h1, h0, decide_true, and_self, if_true, hq, Bool.not_true, Bool.false_eq_true, if_false, wrap_nat (show i ≤ big by omega), ih]
theorem equal_spec (c d : C) (h2 : Two c) (hd : d.rows = c.rows) (hN : c.rows.length ≤ big) : (lim T).pc n_slices_Equal_clapref3_Two [[d], [c]] = some [[.bool true]] := by
  rw [slices_Equal_clapref3_Two_pc]; unfold slices_Equal_clapref3_Two
  have := equal_l c d h2 hd hN _ 0 (Nat.zero_add _)
  simp only [Int.ofNat_zero, Int.natCast_zero] at this
  rw [hd, this]
  simp

/-! the law -/
theorem aligned_true : (lim T).pc n_claplaw3_aligned [] = some [[.bool true]] := (lim_pc T).2 ⟨60, by kernel_rfl⟩
theorem law_l (s : Bytes) (v1 v2 c : C) (n : Nat) (hc : c.rows = diag n) (hN : n ≤ big) : ∀ (j i : Nat), i + j = n → claplaw3_AlignPairs_l0 (lim T) s v1 v2 c (n : Int) (i : Int) = some (0, [.r [.str s], .r [v1], .r [v2]])
  | 0, i, h => by
    rw [claplaw3_AlignPairs_l0_eq]; unfold claplaw3_AlignPairs_b0
    obtain rfl : i = n := by omega
    simp
  | j + 1, i, h => by
    rw [claplaw3_AlignPairs_l0_eq]; unfold claplaw3_AlignPairs_b0
    have h1 : (i : Int) < (n : Int) := by omega
    have h0 : (0 : Int) ≤ (i : Int) := by omega
    have hl : c.rows.length = n := by rw [hc, diag_len]
    have hr : rowsAt c.rows (i : Int).toNat = [.int (i : Int), .int (i : Int)] := by
      rw [hc, diag, Int.toNat_natCast, rowsAt_map _ _ _ (by simp; omega)]; simp [twoRow]
    have ih := law_l s v1 v2 c n hc hN j (i + 1) (by omega)
    rw [hr, hl]
    simp only [h1, h0, decide_true, and_self, if_true, at_zero, at_succ, toI_int, bne_self_eq_false, Bool.false_eq_true, if_false, wrap_nat (show i ≤ big by omega), ih]
theorem law (a b : Val) (s : Bytes) (ha : a.wf) (hb : b.wf) (hN : a.bulk + b.bulk ≤ big) : (lim T).pc 3 [a.row, b.row, [.str s]] = some [[.bool true]] := by
  show (lim T).pc n_claplaw3_AlignPairs _ = _
  rw [claplaw3_AlignPairs_pc]; unfold claplaw3_AlignPairs
  obtain ⟨x, x1, x2, x3⟩ := byIndex_spec a b (by omega) (by omega)
  obtain ⟨c, e, c1, c2, c3, c4⟩ := byKey_spec s a b ha hb hN
  obtain ⟨d, d1, d2⟩ := twos_spec c c3 c4
  have d3 := equal_spec c d c3 d2 c4
  rw [aligned_true, lists_spec a b (by omega) (by omega), x1]
  have hm : (if (((at_ b.row 3).rows).length : Int) < (((at_ a.row 3).rows).length : Int) then (((at_ b.row 3).rows).length : Int) else (((at_ a.row 3).rows).length : Int)) = ((min b.fs.length a.fs.length : Nat) : Int) := by
    simp only [at_val3, Val.fc_rows, List.length_map]; split <;> omega
  rw [hm]
  have fin : ∀ n : Nat, x.rows = diag n → n ≤ big → (claplaw3_AlignPairs_l0 (lim T) s (.dp a.row) (.dp b.row) x (x.rows.length : Int) 0) = some (0, [.r [.str s], .r [.dp a.row], .r [.dp b.row]]) := fun n hn hb => by
    have := law_l s (.dp a.row) (.dp b.row) x n hn hb n 0 (Nat.zero_add _)
    rw [show ((0 : Nat) : Int) = 0 from rfl] at this
    rw [hn, diag_len, this]
  by_cases h : both a b = 0
  · have hx := x3 h
    have := fin _ hx (by have := b.bulk_len; omega)
    simp only [h, Option.bind_some, rowsAt_zero, rowsAt_succ, at_zero, toB_bool, toI_int, Bool.not_true, Bool.false_eq_true, if_false, bne_self_eq_false, beq_self_eq_true, if_true, hx, diag_len, gB_s, gB_z, gS_s, gS_z, gC_s, gC_z]
    rw [hx, diag_len] at this
    simp only [this, Option.bind_some, gS_z, gC_s, gC_z, isDp_dp, if_true, dpRow_dp, c1, c2, rowsAt_zero, rowsAt_succ, at_zero, toI_int, beq_self_eq_true, d1, d3, toB_bool]
  · have hx := x2 h
    have := fin 0 (by rw [hx]; rfl) (Nat.zero_le _)
    rw [hx] at this
    simp only [rows_nils, List.length_nil, Int.ofNat_zero, Int.natCast_zero] at this
    have hne : (both a b == 0) = false := by simp [h]
    have hne2 : (both a b != 0) = true := by simp [h]
    simp only [hx, hne, hne2, Option.bind_some, rowsAt_zero, rowsAt_succ, at_zero, toB_bool, toI_int, Bool.not_true, Bool.false_eq_true, if_false, bne_self_eq_false, beq_self_eq_true, if_true, rows_nils, List.length_nil, gB_s, gB_z, gS_s, gS_z, gC_s, gC_z, Int.ofNat_zero, Int.natCast_zero, gt_iff_lt, Int.lt_irrefl, decide_false, this]
    simp only [Option.bind_some, gS_z, gC_s, gC_z, isDp_dp, if_true, dpRow_dp, c1, c2, rowsAt_zero, rowsAt_succ, at_zero, toI_int, beq_self_eq_true, d1, d3, toB_bool]
end Go.Ev.Zzp
