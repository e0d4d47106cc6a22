/-
  A part of the proof: what the functions of the program compute.
-/
import Derived.Test.YtpagadadfpmeaaaGreatDoorZU
set_option linter.all false
set_option maxRecDepth 100000
namespace Go.Ev.Zzl
/-! one node -/
noncomputable def patsE : List Bytes → Int
  | [a, b] => if patE a ≠ 0 then patE a else patE b
  | _ => 3
noncomputable def listsE (l : Lns) : Int :=
  if l.op = 14 then (if l.names.length ≠ l.kids.length then 3 else namesE l.names)
  else if l.op = 6 then namesE l.names
  else if l.op = 9 then patsE l.names
  else if l.op = 11 then pairsE l.pairs
  else if l.op = 12 then (if l.low < 0 ∨ l.high < l.low ∨ l.high > 999999999 then 11 else 0)
  else 0
noncomputable def specE (l : Lns) : Int :=
  if l.op = 5 then (if (l.v.k != 0 && !plainB l.v.k) = true then 8 else 0)
  else if l.op = 15 then (if (!plainB l.v.k) = true then 8 else 0)
  else listsE l
structure LnOk (l : Lns) : Prop where
  wf : l.wf
  bulk : l.bulk ≤ big
theorem strsBulk_len : ∀ (l : List Bytes), l.length ≤ strsBulk l
  | [] => by simp [strsBulk]
  | s :: r => by have := strsBulk_len r; simp only [strsBulk, List.length_cons]; omega
theorem LnOk.names {l : Lns} (h : LnOk l) : l.names.length ≤ big := by have := l.bulk_eq; have := h.bulk; have := strsBulk_len l.names; omega
theorem LnOk.pairs {l : Lns} (h : LnOk l) : PairsOk l.pairs := by
  have hb := l.bulk_eq
  have hbb := h.bulk
  refine ⟨fun p hp k => ?_, fun p hp k => ?_, by have := pairsBulk_len l.pairs; omega⟩
  · have := Lns.wf_pair h.wf hp
    cases k
    · exact this.1
    · exact this.2
  · have := pairsBulk_mem hp
    cases k
    · show p.1.bulk ≤ big; omega
    · show p.2.bulk ≤ big; omega
theorem LnOk.v {l : Lns} (h : LnOk l) : l.v.bulk ≤ big := by have := l.bulk_eq; have := h.bulk; omega
theorem LnOk.kids {l : Lns} (h : LnOk l) : l.kids.length ≤ big := by have := l.bulk_eq; have := h.bulk; have := Lns.bulks_len l.kids; omega
theorem LnOk.kid {l k : Lns} (h : LnOk l) (hk : k ∈ l.kids) : LnOk k := ⟨Lns.wf_kid h.wf hk, by have := Lns.bulk_kid hk; have := h.bulk; omega⟩
theorem pats_l (c : C) (a b : Bytes) (hc : c.rows = [a, b].map strRow) : lens_special_l0 (lim T) c 2 0 = some (if patsE [a, b] = 0 then (0, []) else (1, [.r [.int (patsE [a, b])]])) := by
  refine Tot.eq ?_
  rw [lens_special_l0_eq]; unfold lens_special_b0
  rw [hc]
  have hz : ∀ n : Int, decide ((n != 0) = true) = decide (n ≠ 0) := fun n => by simp
  refine .pos rfl (.pos (by simp) (.eqbind (pat_spec a) ?_))
  rw [patsE]
  refine .ite (fun h => ?_) fun h => ?_
  · have h' : ¬ patE a = 0 := by simpa using h
    simp only [h', ne_eq, not_false_eq_true, if_true, if_false]; exact .some rfl
  · have h' : patE a = 0 := by simpa using h
    simp only [h', ne_eq, not_true_eq_false, if_false]
    rw [show IntKind.wrap .i64 ((0 : Int) + 1) = 1 from rfl, lens_special_l0_eq]; unfold lens_special_b0
    rw [hc]
    refine .pos rfl (.pos (by simp) (.eqbind (pat_spec b) ?_))
    refine .ite (fun h => ?_) fun h => ?_
    · have h' : ¬ patE b = 0 := by simpa using h
      simp only [h', if_false]; exact .some rfl
    · have h' : patE b = 0 := by simpa using h
      simp only [h', if_true]
      rw [show IntKind.wrap .i64 ((1 : Int) + 1) = 2 from rfl, lens_special_l0_eq]; unfold lens_special_b0
      exact .some rfl
theorem len2 {l : List Bytes} (h : ¬ (((l.length : Int) != 2) = true)) : ∃ a b, l = [a, b] := by
  match l with
  | [a, b] => exact ⟨a, b, rfl⟩
  | [] => simp at h
  | [a] => simp at h
  | a :: b :: c :: r => simp at h; omega
theorem len2' {l : List Bytes} (h : ((l.length : Int) != 2) = true) : patsE l = 3 := by
  match l with
  | [a, b] => simp at h
  | [] => rfl
  | [a] => rfl
  | a :: b :: c :: r => rfl
theorem special_spec (l : Lns) (h : LnOk l) : (lim T).pc n_lens_special [l.row] = some [[.int (specE l)]] := by
  have hN := slC_rows l.nb (l.names.map strRow)
  have hP := slC_rows l.pb (l.pairs.map pairRow)
  refine Tot.eq ?_
  rw [lens_special_pc]; unfold lens_special specE listsE
  simp (config := { zeta := false, letToHave := false }) only [at_lns0, at_lns3, at_lns5, at_lns6, at_lns8, at_lns12, at_lns13, toI_int, hN, Lns.kc_rows, List.length_map, beq_iff_eq]
  refine .ite (fun e => ?_) fun e5 => ?_
  · rw [if_pos e]
    refine .ite (fun hk => ?_) fun hk => ?_
    rotate_left
    · have hk' : (l.v.k != 0) = false := by simpa using hk
      simp only [hk', Bool.false_and, Bool.false_eq_true, if_false]; exact .some rfl
    · simp only [hk, Bool.true_and]
      refine .eqbind (plain_spec _) ?_
      cases hp : plainB l.v.k
      · exact .some rfl
      · exact .some rfl
  rw [if_neg e5]
  refine .ite (fun e => ?_) fun e15 => ?_
  · rw [if_pos e]
    refine .eqbind (plain_spec _) ?_
    cases hp : plainB l.v.k
    · exact .some rfl
    · exact .some rfl
  rw [if_neg e15]
  refine .ite (fun e => ?_) fun e6 => ?_
  · rw [if_neg (by omega), if_pos e]
    exact .eqbind (names_spec _ _ hN h.names) (.some rfl)
  refine .ite (fun e => ?_) fun e14 => ?_
  · rw [if_pos e]
    refine .ite (fun e => ?_) fun e => ?_
    · rw [if_pos (by simp at e; omega)]; exact .some rfl
    · rw [if_neg (by simp at e; omega)]
      exact .eqbind (names_spec _ _ hN h.names) (.some rfl)
  rw [if_neg e14, if_neg e6]
  refine .ite (fun e => ?_) fun e9 => ?_
  · rw [if_pos e]
    refine .ite (fun e => ?_) fun e => ?_
    · rw [len2' e]; exact .some rfl
    · obtain ⟨a, b, hab⟩ := len2 e
      rw [hab] at hN ⊢
      refine .eqbind (pats_l _ a b hN) ?_
      by_cases h0 : patsE [a, b] = 0
      · simp only [h0, if_true]; exact .some rfl
      · simp only [h0, if_false]; exact .some rfl
  rw [if_neg e9]
  refine .ite (fun e => ?_) fun e11 => ?_
  · rw [if_pos e]
    exact .eqbind (lpairs_spec _ _ hP h.pairs) (.some rfl)
  rw [if_neg e11]
  refine .ite (fun e => ?_) fun e12 => ?_
  · rw [if_pos e]
    by_cases h1 : l.low < 0
    · simp only [h1, decide_true, if_true, true_or]; exact .some rfl
    · by_cases h2 : l.high < l.low
      · simp only [h1, h2, decide_true, decide_false, Bool.false_eq_true, if_true, if_false, true_or, or_true]; exact .some rfl
      · by_cases h3 : l.high > 999999999
        · simp only [h1, h2, h3, decide_true, decide_false, Bool.false_eq_true, if_true, if_false, true_or, or_true]; exact .some rfl
        · simp only [h1, h2, h3, decide_true, decide_false, Bool.false_eq_true, if_true, if_false, or_self]; exact .some rfl
  · rw [if_neg e12]; exact .some rfl
theorem lists_spec (l : Lns) (h : LnOk l) : (lim T).pc n_clapref3_lists [l.row] = some [[.int (listsE l)]] := by
  have hN := slC_rows l.nb (l.names.map strRow)
  have hP := slC_rows l.pb (l.pairs.map pairRow)
  refine Tot.eq ?_
  rw [clapref3_lists_pc]; unfold clapref3_lists listsE
  simp (config := { zeta := false, letToHave := false }) only [at_lns0, at_lns3, at_lns5, at_lns6, at_lns8, at_lns12, at_lns13, toI_int, hN, Lns.kc_rows, List.length_map, beq_iff_eq]
  refine .ite (fun e => ?_) fun e14 => ?_
  · rw [if_pos e]
    refine .ite (fun e => ?_) fun e => ?_
    · rw [if_pos (by simp at e; omega)]; exact .some rfl
    · rw [if_neg (by simp at e; omega)]
      exact .eqbind (distinct_spec _ _ hN h.names) (.some rfl)
  rw [if_neg e14]
  refine .ite (fun e => ?_) fun e6 => ?_
  · rw [if_pos e]
    exact .eqbind (distinct_spec _ _ hN h.names) (.some rfl)
  rw [if_neg e6]
  refine .ite (fun e => ?_) fun e9 => ?_
  · rw [if_pos e]
    refine .ite (fun e => ?_) fun e => ?_
    · rw [len2' e]; exact .some rfl
    · obtain ⟨a, b, hab⟩ := len2 e
      rw [hab] at hN ⊢
      refine .pos (by simp) (.eqbind (pat_spec a) ?_)
      rw [patsE]
      refine .ite (fun h => ?_) fun h => ?_
      · have h' : ¬ patE a = 0 := by simpa using h
        simp only [h', ne_eq, not_false_eq_true, if_true, if_false]; exact .some rfl
      · have h' : patE a = 0 := by simpa using h
        simp only [h', ne_eq, not_true_eq_false, if_false]
        exact .pos (by simp) (.eqbind (pat_spec b) (.some rfl))
  rw [if_neg e9]
  refine .ite (fun e => ?_) fun e11 => ?_
  · rw [if_pos e]
    exact .eqbind (rpairs_spec _ _ hP h.pairs) (.some rfl)
  rw [if_neg e11]
  refine .ite (fun e => ?_) fun e12 => ?_
  · rw [if_pos e]
    by_cases h1 : l.low < 0
    · have g1 : ¬ 0 ≤ l.low := by omega
      simp only [h1, g1, decide_true, decide_false, Bool.false_eq_true, if_true, if_false, true_or, Bool.not_false]; exact .some rfl
    · have g1 : 0 ≤ l.low := by omega
      by_cases h2 : l.high < l.low
      · have g2 : ¬ l.low ≤ l.high := by omega
        simp only [h1, h2, g1, g2, decide_true, decide_false, Bool.false_eq_true, if_true, if_false, true_or, or_true, Bool.not_false]; exact .some rfl
      · have g2 : l.low ≤ l.high := by omega
        by_cases h3 : l.high > 999999999
        · have g3 : ¬ l.high ≤ 999999999 := by omega
          simp only [h1, h2, h3, g1, g2, g3, decide_true, decide_false, Bool.false_eq_true, if_true, if_false, true_or, or_true, Bool.not_false]; exact .some rfl
        · have g3 : l.high ≤ 999999999 := by omega
          simp only [h1, h2, h3, g1, g2, g3, decide_true, decide_false, Bool.false_eq_true, if_true, if_false, or_self, Bool.not_true]; exact .some rfl
  · rw [if_neg e12]; exact .some rfl
end Go.Ev.Zzl
namespace Go.Ev.Zzl
theorem Tot.as {β : Type} {Q : β → Prop} {x y : Option β} (e : x = y) (h : Tot Q y) : Tot Q x := by rw [e]; exact h
@[simp] theorem fl0 (f : Fl) : at_ f.row 0 = .bool f.n := rfl
@[simp] theorem fl1 (f : Fl) : at_ f.row 1 = .bool f.t := rfl
@[simp] theorem fl2 (f : Fl) : at_ f.row 2 = .bool f.s := rfl
@[simp] theorem fl3 (f : Fl) : at_ f.row 3 = .bool f.i := rfl
@[simp] theorem fl4 (f : Fl) : at_ f.row 4 = .bool f.b := rfl
@[simp] theorem fl5 (f : Fl) : at_ f.row 5 = .bool f.p := rfl
@[simp] theorem fl6 (f : Fl) : at_ f.row 6 = .bool f.v := rfl
@[simp] theorem fl7 (f : Fl) : at_ f.row 7 = .bool f.l := rfl
@[simp] theorem fl8 (f : Fl) : at_ f.row 8 = .int f.k := rfl
def zeroV : Val := .mk 0 0 [] true []
theorem zeroV_row : zeroV.row = [.int 0, .int 0, .str [], .nils] := rfl
theorem zeroV_wf : zeroV.wf := by simp [zeroV, Val.wf, Val.wfs, inI64]
def setBad (l : Lns) (f : Fl) : Bool := (((((((!(l.name == []) && !f.n) || (!(l.to == []) && !f.t)) || (decide ((l.names.length : Int) > 0) && !f.s)) || ((l.n != 0) && !f.i)) || ((l.low != 0 || l.high != 0) && !f.b)) || ((l.sep != 0) && !f.p)) || (decide ((l.pairs.length : Int) > 0) && !f.l)) || (!f.v && !l.v.eqv zeroV)
def kidsBad (l : Lns) (f : Fl) : Bool := (decide (f.k ≥ 0) && ((l.kids.length : Int) != f.k)) || (decide (f.k < 0) && ((l.kids.length : Int) == 0))
noncomputable def nameBad (l : Lns) (f : Fl) : Bool := ((f.n && !nm l.name) && !((l.op == 13) && (l.name == []))) || (f.t && !nm l.to)
noncomputable def nodeE (l : Lns) (f : Fl) : Int := if setBad l f = true then 3 else if kidsBad l f = true then 3 else if nameBad l f = true then 15 else if f.v = true then (if chkE l.v ≠ 0 then chkE l.v else specE l) else specE l
theorem kand {β : Type} {K : Bool → Option β} {b x : Bool} : (if b = true then K x else K false) = K (b && x) := by cases b <;> rfl
theorem kor {β : Type} {K : Bool → Option β} {q b : Bool} {x : Option β} (h : x = K b) : (if q = true then K true else x) = K (q || b) := by cases q <;> simp [h]
theorem node_spec (l : Lns) (h : LnOk l) (f : Fl) (w u : Bytes) (h0 : 0 ≤ l.op) (h1 : l.op < 19) (ho : OpOk l.op f w u) : (lim T).pc n_lens_Node [l.row] = some [[.int (nodeE l f)]] := by
  have hN := slC_rows l.nb (l.names.map strRow)
  have hP := slC_rows l.pb (l.pairs.map pairRow)
  have hsame := same_spec l.v zeroV (Lns.wf_v h.wf) zeroV_wf h.v
  rw [zeroV_row] at hsame
  have hrow : ([at_ l.row 8, at_ l.row 9, at_ l.row 10, at_ l.row 11] : Row) = l.v.row := rfl
  refine Tot.eq ?_
  rw [lens_Node_pc]; unfold lens_Node
  refine .bind (R := fun r => r = (0, [.r [.dp l.row], .r [.bool false]])) ?_ ?_
  · refine .ite (fun e => absurd (of_decide_eq_true e) (by simp; omega)) fun _ => .some ?_
    have : decide ((at_ l.row 0).toI ≥ 19) = false := by simp; omega
    rw [this]
  rintro r rfl
  simp (config := { zeta := false, letToHave := false }) only [gB_s, gB_z, gC_z, isDp_dp, if_true, dpRow_dp, Bool.false_eq_true, if_false, at_lns0, toI_int]
  refine .eqbind ho.table ?_
  refine .bind (R := fun r => r = (0, [.r [.dp l.row], .r [.bool (setBad l f)], .r f.row])) ?_ ?_
  · simp (config := { zeta := false, letToHave := false }) only [hrow, rowsAt_zero, fl0, fl1, fl2, fl3, fl4, fl5, fl6, fl7, fl8, toB_bool, at_lns1, at_lns2, at_lns3, at_lns4, at_lns5, at_lns6, at_lns7, at_lns12, toS_str, toI_int, hN, hP, List.length_map, hsame]
    extract_lets K19 K21 K17 K24 K15 K26 K13 K30 K28 K11 K32 K9 K34 K7 K36 K5
    have e17 : ∀ q, K17 q = K19 (q || (!f.v && !l.v.eqv zeroV)) := fun q => kor (K := K19) (by cases f.v <;> rfl)
    have e15 : ∀ q, K15 q = K17 (q || (decide ((l.pairs.length : Int) > 0) && !f.l)) := fun q => kor (K := K17) (kand (K := K17))
    have e13 : ∀ q, K13 q = K15 (q || ((l.sep != 0) && !f.p)) := fun q => kor (K := K15) (kand (K := K15))
    have e11 : ∀ q, K11 q = K13 (q || ((l.low != 0 || l.high != 0) && !f.b)) := fun q => kor (K := K13) ((kor (K := K28) rfl).trans (kand (K := K13)))
    have e9 : ∀ q, K9 q = K11 (q || ((l.n != 0) && !f.i)) := fun q => kor (K := K11) (kand (K := K11))
    have e7 : ∀ q, K7 q = K9 (q || (decide ((l.names.length : Int) > 0) && !f.s)) := fun q => kor (K := K9) (kand (K := K9))
    have e5 : ∀ q, K5 q = K7 (q || (!(l.to == []) && !f.t)) := fun q => kor (K := K7) (kand (K := K7))
    refine .as (kand (K := K5)) ?_
    rw [e5, e7, e9, e11, e13, e15, e17]
    exact .some rfl
  rintro r rfl
  simp (config := { zeta := false, letToHave := false }) only [gB_s, gB_z, gC_z, gC_s, gR_z, gR_s, isDp_dp, if_true, dpRow_dp, Bool.false_eq_true, if_false, at_lns0, toI_int, hrow]
  unfold nodeE
  refine .ite (fun e => ?_) fun e => ?_
  · rw [if_pos e]; exact .some rfl
  rw [if_neg e]
  refine .bind (R := fun r => r = (0, [.r [.dp l.row], .r [.bool (kidsBad l f)], .r f.row])) ?_ ?_
  · simp (config := { zeta := false, letToHave := false }) only [fl8, at_lns13, Lns.kc_rows, List.length_map, toI_int]
    extract_lets K41 K43 K39
    have e39 : ∀ q, K39 q = K41 (q || (decide (f.k < 0) && ((l.kids.length : Int) == 0))) := fun q => kor (K := K41) (kand (K := K41))
    refine .as (kand (K := K39)) ?_
    rw [e39]
    exact .some rfl
  rintro r rfl
  simp (config := { zeta := false, letToHave := false }) only [gB_s, gB_z, gC_z, gC_s, gR_z, gR_s, isDp_dp, if_true, dpRow_dp, Bool.false_eq_true, if_false, at_lns0, toI_int, hrow]
  refine .ite (fun e => ?_) fun e => ?_
  · rw [if_pos e]; exact .some rfl
  rw [if_neg e]
  refine .bind (R := fun r => r = (0, [.r [.dp l.row], .r [.bool (nameBad l f)], .r f.row])) ?_ ?_
  · simp (config := { zeta := false, letToHave := false }) only [fl0, fl1, toB_bool, at_lns1, at_lns2, at_lns0, toS_str, toI_int, name_spec, Option.bind_some, rowsAt_zero, at_zero]
    extract_lets K50 K52 K48 K55 K46
    have e48 : ∀ q, K48 q = K50 (q || (f.t && !nm l.to)) := fun q => kor (K := K50) (kand (K := K50))
    have e46 : ∀ q, K46 q = K48 (q && !((l.op == 13) && (l.name == []))) := fun q => by
      cases q
      · rfl
      · show (if (l.op == 13) = true then K55 (l.name == []) else K55 false) = _
        rw [kand (K := K55)]
        rfl
    refine .as (y := K46 (f.n && !nm l.name)) (kand (K := K46)) ?_
    rw [e46, e48]
    exact .some rfl
  rintro r rfl
  simp (config := { zeta := false, letToHave := false }) only [gB_s, gB_z, gC_z, gC_s, gR_z, gR_s, isDp_dp, if_true, dpRow_dp, Bool.false_eq_true, if_false, at_lns0, toI_int, hrow, fl6, toB_bool]
  refine .ite (fun e => ?_) fun e => ?_
  · rw [if_pos e]; exact .some rfl
  rw [if_neg e]
  refine .ite (fun e => ?_) fun e => ?_
  · rw [if_pos e]
    refine .eqbind (chk_spec _ h.v).1 ?_
    refine .ite (fun e => ?_) fun e => ?_
    · rw [if_pos (by simpa using e)]; exact .some rfl
    · rw [if_neg (by simpa using e)]
      exact .eqbind (special_spec l h) (.some rfl)
  · rw [if_neg e]
    exact .eqbind (special_spec l h) (.some rfl)
end Go.Ev.Zzl
namespace Go.Ev.Zzl
/-! the reference's node -/
def cbRow (p : Int × Bool) : Row := [.int p.1, .bool p.2]
theorem rnode_l (c0 : C) (u : Bytes) (l : List (Int × Bool)) (hN : l.length ≤ big) : ∀ (j i : Nat), i + j = l.length →
    clapref3_Node_l0 (lim T) c0 u (.sl (l.map cbRow)) (l.length : Int) (i : Int) = some (if (l.drop i).any (fun p => p.2 && !hasB u p.1) = true then (1, [.r [.int 3]]) else (0, [.r [c0], .r [.str u]]))
  | 0, i, h => by
    rw [clapref3_Node_l0_eq]; unfold clapref3_Node_b0
    obtain rfl : i = l.length := by omega
    simp
  | j + 1, i, h => by
    rw [clapref3_Node_l0_eq]; unfold clapref3_Node_b0
    have hi : i < l.length := by omega
    have ih := rnode_l c0 u l hN j (i + 1) (by omega)
    refine Tot.eq ?_
    refine .pos (dec_lt hi) (.pos (ix_ok (by simpa using hi)) ?_)
    rw [rows_sl, show rowsAt (l.map cbRow) (i : Int).toNat = cbRow l[i] from (by rw [Int.toNat_natCast]; exact rowsAt_map _ _ _ hi), List.drop_eq_getElem_cons hi, List.any_cons, wrap_nat (show i ≤ big by omega), ih]
    have c1 : at_ (cbRow l[i]) 0 = .int l[i].1 := rfl
    have c2 : at_ (cbRow l[i]) 1 = .bool l[i].2 := rfl
    simp only [c1, c2, toI_int, toB_bool, has_spec, Option.bind_some, rowsAt_zero, at_zero]
    cases l[i].2 with
    | false => simp only [Bool.false_and, Bool.false_or, Bool.false_eq_true, if_false]; exact .some rfl
    | true =>
      cases hasB u l[i].1 with
      | true => simp only [Bool.true_and, Bool.not_true, Bool.false_or, Bool.false_eq_true, if_false, if_true]; exact .some rfl
      | false => simp only [Bool.true_and, Bool.not_false, Bool.true_or, if_true]; exact .some rfl
theorem zero_spec : (lim T).pc n_clapref3_Zero [] = some [zeroV.row] := by
  rw [clapref3_Zero_pc]; rfl
theorem rnode_spec (l : Lns) (h : LnOk l) (f : Fl) (w u : Bytes) (h0 : 0 ≤ l.op) (h1 : l.op < 19) (ho : OpOk l.op f w u) : (lim T).pc n_clapref3_Node [l.row] = some [[.int (nodeE l f)]] := by
  have hN := slC_rows l.nb (l.names.map strRow)
  have hP := slC_rows l.pb (l.pairs.map pairRow)
  have hsame := rsame_spec l.v zeroV h.v
  have hrow : ([at_ l.row 8, at_ l.row 9, at_ l.row 10, at_ l.row 11] : Row) = l.v.row := rfl
  refine Tot.eq ?_
  rw [clapref3_Node_pc]; unfold clapref3_Node
  refine .bind (R := fun r => r = (0, [.r [.dp l.row], .r [.bool false]])) ?_ ?_
  · refine .ite (fun e => absurd (of_decide_eq_true e) (by simp; omega)) fun _ => .some ?_
    have : decide ((at_ l.row 0).toI ≥ 19) = false := by simp; omega
    rw [this]
  rintro r rfl
  simp (config := { zeta := false, letToHave := false }) only [gB_s, gB_z, gC_z, isDp_dp, if_true, dpRow_dp, Bool.false_eq_true, if_false, at_lns0, toI_int]
  refine .eqbind ho.used ?_
  have hy : (at_ (rowsAt [[C.str w], [C.str u]] 1) 0).toS = u := rfl
  let xs : List (Int × Bool) := [(110, !(l.name == [])), (116, !(l.to == [])), (115, (l.names.length : Int) != 0), (105, l.n != 0), (98, l.low != 0 || l.high != 0), (112, l.sep != 0), (118, !l.v.eqv zeroV), (108, (l.pairs.length : Int) != 0)]
  refine .bind (R := fun r => r = (0, [.r [.dp l.row], .r [.str u], .r [.sl (xs.map cbRow)], .r [.int (xs.length : Int)], .r [.int 0]])) ?_ ?_
  · simp (config := { zeta := false, letToHave := false }) only [hy, zero_spec, Option.bind_some, hrow, rowsAt_zero, hsame, at_lns1, at_lns2, at_lns3, at_lns4, at_lns5, at_lns6, at_lns7, at_lns12, toS_str, toI_int, hN, hP, List.length_map, at_zero, toB_bool]
    extract_lets K5
    refine .as (kor (K := K5) rfl) ?_
    exact .some rfl
  rintro r rfl
  have hloop := rnode_l (.dp l.row) u xs (by simp [xs, big]) xs.length 0 (by omega)
  rw [List.drop_zero, show ((0 : Nat) : Int) = 0 from rfl] at hloop
  have hx : xs.any (fun p => p.2 && !hasB u p.1) = setBad l f := by
    have hnz : ∀ n : Nat, ((n : Int) != 0) = decide ((n : Int) > 0) := fun n => by
      cases n with
      | zero => rfl
      | succ n => simp; omega
    simp only [xs, List.any_cons, List.any_nil, Bool.or_false, ho.n, ho.t, ho.s, ho.i, ho.b, ho.p, ho.v, ho.l, hnz]
    unfold setBad
    generalize (l.name == []) = a1
    generalize (l.to == []) = a2
    generalize decide ((l.names.length : Int) > 0) = a3
    generalize (l.n != 0) = a4
    generalize (l.low != 0 || l.high != 0) = a5
    generalize (l.sep != 0) = a6
    generalize decide ((l.pairs.length : Int) > 0) = a7
    generalize l.v.eqv zeroV = a8
    cases f.v <;> cases a8 <;> simp [Bool.or_assoc]
  rw [hx] at hloop
  simp (config := { zeta := false, letToHave := false }) only [gB_s, gB_z, gC_z, gC_s, gS_z, gS_s, gI_z, gI_s, hloop]
  unfold nodeE
  cases hsb : setBad l f with
  | true => simp only [if_true]; exact .some rfl
  | false =>
  simp (config := { zeta := false, letToHave := false }) only [Bool.false_eq_true, if_false, Option.bind_some, gB_s, gB_z, gC_z, gC_s, gS_z, gS_s, gI_z, gI_s, isDp_dp, if_true, dpRow_dp, at_lns13, Lns.kc_rows, List.length_map]
  refine .bind (R := fun r => r = if kidsBad l f = true then (1, [.r [.int 3]]) else (0, [.r [.dp l.row], .r [.str u]])) ?_ ?_
  · simp only [has_spec, Option.bind_some, rowsAt_zero, at_zero, toB_bool]
    unfold kidsBad
    have hk := ho.k
    have hk1 := ho.k1
    have hk2 := ho.k2
    generalize f.k = k at hk hk1 hk2 ⊢
    rcases hk with rfl | rfl | rfl
    · have e1 : ((0 : Int) == 1) = false := rfl
      have e2 : ((0 : Int) == -1) = false := rfl
      have e3 : decide ((0 : Int) ≥ 0) = true := rfl
      have e4 : decide ((0 : Int) < 0) = false := rfl
      simp only [hk1, hk2, e1, e2, e3, e4, Bool.false_eq_true, if_false, if_true, Option.bind_some, gB_s, gB_z, gC_z, gC_s, gS_z, gS_s, gI_z, gI_s, Bool.not_false, Bool.true_and, Bool.false_and, Bool.or_false]
      cases ((l.kids.length : Int) != 0)
      · exact .some rfl
      · exact .some rfl
    · have e1 : ((1 : Int) == 1) = true := rfl
      have e2 : ((1 : Int) == -1) = false := rfl
      have e3 : decide ((1 : Int) ≥ 0) = true := rfl
      have e4 : decide ((1 : Int) < 0) = false := rfl
      simp only [hk1, hk2, e1, e2, e3, e4, Bool.false_eq_true, if_false, if_true, Option.bind_some, gB_s, gB_z, gC_z, gC_s, gS_z, gS_s, gI_z, gI_s, Bool.not_false, Bool.not_true, Bool.true_and, Bool.false_and, Bool.or_false]
      cases ((l.kids.length : Int) != 1)
      · exact .some rfl
      · exact .some rfl
    · have e1 : ((-1 : Int) == 1) = false := rfl
      have e2 : ((-1 : Int) == -1) = true := rfl
      have e3 : decide ((-1 : Int) ≥ 0) = false := rfl
      have e4 : decide ((-1 : Int) < 0) = true := rfl
      simp only [hk1, hk2, e1, e2, e3, e4, Bool.false_eq_true, if_false, if_true, Option.bind_some, gB_s, gB_z, gC_z, gC_s, gS_z, gS_s, gI_z, gI_s, Bool.not_false, Bool.not_true, Bool.true_and, Bool.false_and, Bool.false_or]
      cases ((l.kids.length : Int) == 0)
      · exact .some rfl
      · exact .some rfl
  rintro r rfl
  cases hkb : kidsBad l f with
  | true => simp only [if_true, gI_z]; exact .some rfl
  | false =>
  simp (config := { zeta := false, letToHave := false }) only [Bool.false_eq_true, if_false, Option.bind_some, gB_s, gB_z, gC_z, gC_s, gS_z, gS_s, gI_z, gI_s, isDp_dp, if_true, dpRow_dp]
  let n1 : Bool := (f.n && !nm l.name) && !((l.op == 13) && (l.name == []))
  let n2 : Bool := f.t && !nm l.to
  have hnb : nameBad l f = (n1 || n2) := rfl
  refine .bind (R := fun r => r = (0, [.r [.dp l.row], .r [.str u], .r [.bool n1]])) ?_ ?_
  · simp only [has_spec, Option.bind_some, rowsAt_zero, at_zero, toB_bool, ho.n, at_lns0, at_lns1, toS_str, toI_int, name_spec]
    refine .as (y := some ((0 : Nat), ([PV.r [.dp l.row], PV.r [.str u], PV.r [.bool n1]] : List PV))) ?_ (.some rfl)
    · show _ = some ((0 : Nat), ([PV.r [.dp l.row], PV.r [.str u], PV.r [.bool ((f.n && !nm l.name) && !((l.op == 13) && (l.name == [])))]] : List PV))
      by_cases h13 : l.op = 13
      · have b1 : (l.op != 13) = false := by simp [h13]
        have b2 : (l.op == 13) = true := by simp [h13]
        simp only [b1, b2]
        cases f.n <;> cases nm l.name <;> cases (l.name == []) <;> rfl
      · have b1 : (l.op != 13) = true := by simp [h13]
        have b2 : (l.op == 13) = false := by simp [h13]
        simp only [b1, b2]
        cases f.n <;> cases nm l.name <;> cases (l.name == []) <;> rfl
  rintro r rfl
  simp (config := { zeta := false, letToHave := false }) only [Bool.false_eq_true, if_false, Option.bind_some, gB_s, gB_z, gC_z, gC_s, gS_z, gS_s, gI_z, gI_s, isDp_dp, if_true, dpRow_dp, hnb]
  cases hn1 : n1 with
  | true => simp only [if_true, Bool.true_or]; exact .some rfl
  | false =>
  simp (config := { zeta := false, letToHave := false }) only [Bool.false_eq_true, if_false, Bool.false_or]
  refine .bind (R := fun r => r = (0, [.r [.dp l.row], .r [.str u], .r [.bool n2]])) ?_ ?_
  · simp only [has_spec, Option.bind_some, rowsAt_zero, at_zero, toB_bool, ho.t, at_lns2, toS_str, name_spec]
    refine .as (y := some ((0 : Nat), ([PV.r [.dp l.row], PV.r [.str u], PV.r [.bool n2]] : List PV))) ?_ (.some rfl)
    show _ = some ((0 : Nat), ([PV.r [.dp l.row], PV.r [.str u], PV.r [.bool (f.t && !nm l.to)]] : List PV))
    cases f.t <;> cases nm l.to <;> rfl
  rintro r rfl
  simp (config := { zeta := false, letToHave := false }) only [Bool.false_eq_true, if_false, Option.bind_some, gB_s, gB_z, gC_z, gC_s, gS_z, gS_s, gI_z, gI_s, isDp_dp, if_true, dpRow_dp]
  cases hn2 : n2 with
  | true => simp only [if_true]; exact .some rfl
  | false =>
  simp (config := { zeta := false, letToHave := false }) only [Bool.false_eq_true, if_false]
  have hsl := h
  have fin : ∀ e : Int, e = listsE l → Tot (fun r => r = [[C.int e]]) (if (C.dp l.row).isDp = true then ((lim T).pc n_clapref3_lists [(C.dp l.row).dpRow]).bind fun y59 => some [[C.int (at_ (rowsAt y59 0) 0).toI]] else none) := by
    rintro e rfl
    exact .pos rfl (.eqbind (lists_spec l h) (.some rfl))
  refine .eqbind (has_spec _ _) ?_
  simp (config := { zeta := false, letToHave := false }) only [rowsAt_zero, at_zero, toB_bool, ho.v]
  refine .bind (R := fun r : Nat × List PV => (r = (0, [PV.r [C.dp l.row]]) ∧ (if f.v = true then (if chkE l.v ≠ 0 then chkE l.v else specE l) else specE l) = listsE l) ∨ r = (1, [PV.r [C.int (if f.v = true then (if chkE l.v ≠ 0 then chkE l.v else specE l) else specE l)]])) ?_ ?_
  · simp (config := { zeta := false, letToHave := false }) only [has_spec, Option.bind_some, rowsAt_zero, at_zero, toB_bool, ho.v, hrow, (chk_spec _ h.v).1, toI_int, at_lns0]
    simp (config := { zeta := false, letToHave := false }) only [at_lns8, toI_int, rplain_spec, Option.bind_some, rowsAt_zero, at_zero, toB_bool]
    cases hv : f.v with
    | false =>
      have n5 : ¬ l.op = 5 := fun e => by rw [ho.o5 e] at hv; cases hv
      have n15 : ¬ l.op = 15 := fun e => by rw [ho.o15 e] at hv; cases hv
      simp only [Bool.false_eq_true, if_false]
      refine .some (.inl ⟨rfl, ?_⟩)
      unfold specE
      rw [if_neg n5, if_neg n15]
    | true =>
      simp only [if_true]
      by_cases hc : chkE l.v = 0
      · simp only [hc, ne_eq, not_true_eq_false, if_false, bne_self_eq_false, Bool.false_eq_true]
        unfold specE
        by_cases h5 : l.op = 5
        · have l0 : listsE l = 0 := by unfold listsE; rw [h5]; rfl
          have b5 : (l.op == 5) = true := by simp [h5]
          have b15 : (l.op == 15) = false := by simp [h5]
          simp only [b5, b15, if_pos h5, if_true, Bool.false_eq_true, if_false]
          rw [l0]
          cases hk : (l.v.k != 0) with
          | false => simp only [Bool.false_eq_true, if_false, Bool.false_and]; exact .some (.inl ⟨rfl, by simp⟩)
          | true =>
            cases hp : plainB l.v.k with
            | false => simp only [Bool.not_false, Bool.true_and, if_true]; exact .some (.inr rfl)
            | true => simp only [Bool.not_true, Bool.and_false, Bool.false_eq_true, if_true, if_false]; exact .some (.inl ⟨rfl, by simp⟩)
        · have b5 : (l.op == 5) = false := by simp [h5]
          by_cases h15 : l.op = 15
          · have l0 : listsE l = 0 := by unfold listsE; rw [h15]; rfl
            have b15 : (l.op == 15) = true := by simp [h15]
            simp only [b5, b15, if_neg h5, if_pos h15, if_true, Bool.false_eq_true, if_false]
            rw [l0]
            cases hp : plainB l.v.k with
            | false => simp only [Bool.not_false, if_true]; exact .some (.inr rfl)
            | true => simp only [Bool.not_true, Bool.false_eq_true, if_false]; exact .some (.inl ⟨rfl, by simp⟩)
          · have b15 : (l.op == 15) = false := by simp [h15]
            simp only [b5, b15, if_neg h5, if_neg h15, Bool.false_eq_true, if_false]
            exact .some (.inl ⟨rfl, by simp⟩)
      · have hc' : (chkE l.v != 0) = true := by simp [hc]
        simp only [hc', hc, ne_eq, not_false_eq_true, if_true]
        exact .some (.inr rfl)
  rintro r (⟨rfl, e⟩ | rfl)
  · exact fin _ e
  · exact .some rfl
end Go.Ev.Zzl
namespace Go.Ev.Zzl
/-! all nodes -/
mutual
def nodes : Lns → List Lns
  | .mk a b c d e f g h i v pb ps kb kids => .mk a b c d e f g h i v pb ps kb kids :: nodesAll kids
def nodesAll : List Lns → List Lns
  | [] => []
  | l :: r => nodes l ++ nodesAll r
end
theorem nodes_eq (l : Lns) : nodes l = l :: nodesAll l.kids := by cases l; simp only [nodes, Lns.kids]
mutual
def levels : Lns → Nat
  | .mk _ _ _ _ _ _ _ _ _ _ _ _ _ kids => levelsAll kids + 1
def levelsAll : List Lns → Nat
  | [] => 0
  | l :: r => max (levels l) (levelsAll r)
end
theorem levels_eq (l : Lns) : levels l = levelsAll l.kids + 1 := by cases l; simp only [levels, Lns.kids]
mutual
theorem nodes_le : ∀ l : Lns, (nodes l).length ≤ l.bulk
  | .mk a b c d e f g h i v pb ps kb kids => by
    have := nodesAll_le kids
    simp only [nodes, List.length_cons, Lns.bulk]; omega
theorem nodesAll_le : ∀ ls : List Lns, (nodesAll ls).length ≤ Lns.bulks ls
  | [] => by simp [nodesAll]
  | l :: r => by
    have := nodes_le l
    have := nodesAll_le r
    simp only [nodesAll, List.length_append, Lns.bulks]; omega
end
mutual
theorem levels_le : ∀ l : Lns, levels l ≤ l.bulk
  | .mk a b c d e f g h i v pb ps kb kids => by
    have := levelsAll_le kids
    simp only [levels, Lns.bulk]; omega
theorem levelsAll_le : ∀ ls : List Lns, levelsAll ls ≤ Lns.bulks ls
  | [] => by simp [levelsAll]
  | l :: r => by
    have := levels_le l
    have := levelsAll_le r
    simp only [levelsAll, Lns.bulks]; omega
end
theorem nodesAll_app : ∀ a b : List Lns, nodesAll (a ++ b) = nodesAll a ++ nodesAll b
  | [], b => by simp [nodesAll]
  | l :: r, b => by simp only [List.cons_append, nodesAll, nodesAll_app r b, List.append_assoc]
theorem levelsAll_app : ∀ a b : List Lns, levelsAll (a ++ b) = max (levelsAll a) (levelsAll b)
  | [], b => by simp [levelsAll]
  | l :: r, b => by simp only [List.cons_append, levelsAll, levelsAll_app r b]; omega
theorem bulks_take : ∀ (ls : List Lns) (i : Nat), Lns.bulks (ls.take i) ≤ Lns.bulks ls
  | [], i => by simp
  | l :: r, 0 => by simp [Lns.bulks]
  | l :: r, i + 1 => by have := bulks_take r i; simp only [List.take_succ_cons, Lns.bulks]; omega
theorem LnOk.nodes {l : Lns} (h : LnOk l) : (nodes l).length ≤ big := Nat.le_trans (nodes_le l) h.bulk
theorem take_next {ls : List Lns} {i : Nat} (hi : i < ls.length) : ls.take (i + 1) = ls.take i ++ [ls[i]] := by rw [List.take_add_one, List.getElem?_eq_getElem hi]; rfl
theorem kid_row {l : Lns} {i : Nat} (hi : i < l.kids.length) : rowsAt l.kc.rows (i : Int).toNat = l.kids[i].row := by rw [Lns.kc_rows, Int.toNat_natCast]; exact rowsAt_map _ _ _ hi
theorem kid_ix {l : Lns} {i : Nat} (hi : i < l.kids.length) : (0 : Int) ≤ (i : Int) ∧ (i : Int) < (l.kc.rows.length : Int) := ix_ok (by rw [Lns.kc_rows, List.length_map]; exact hi)
theorem wrap_to {n : Nat} (h : n ≤ big) : IntKind.wrap .i64 (n : Int) = (n : Int) := by unfold big at h; exact wrap_i64 ⟨by omega, by omega⟩
/-! Size, Deep -/
theorem size_l (l : Lns) (h : LnOk l) (hc : ∀ k ∈ l.kids, (lim T).pc n_lens_Size [k.row] = some [[.int ((nodes k).length : Int)]]) : ∀ (j i : Nat), i + j = l.kids.length →
    lens_Size_l0 (lim T) (((1 + (nodesAll (l.kids.take i)).length : Nat)) : Int) l.kc (l.kids.length : Int) (i : Int) = some (0, [.r [.int (((nodes l).length : Nat) : Int)]])
  | 0, i, hh => by
    rw [lens_Size_l0_eq]; unfold lens_Size_b0
    obtain rfl : i = l.kids.length := by omega
    refine Tot.eq (.ite (fun h => absurd h dec_ge) fun _ => .some ?_)
    rw [List.take_length, nodes_eq, List.length_cons, Nat.add_comm]
  | j + 1, i, hh => by
    rw [lens_Size_l0_eq]; unfold lens_Size_b0
    have hi : i < l.kids.length := by omega
    have ih := size_l l h hc j (i + 1) (by omega)
    refine Tot.eq (.pos (dec_lt hi) (.pos (kid_ix hi) ?_))
    rw [kid_row hi]
    refine .eqbind (hc _ (List.getElem_mem hi)) ?_
    have hk := h.kids
    have e1 : (at_ (rowsAt [[C.int ((nodes l.kids[i]).length : Int)]] 0) 0).toI = ((nodes l.kids[i]).length : Int) := rfl
    have e2 : 1 + (nodesAll (l.kids.take (i + 1))).length = 1 + (nodesAll (l.kids.take i)).length + (nodes l.kids[i]).length := by
      rw [take_next hi, nodesAll_app]; simp only [nodesAll, List.append_nil, List.length_append]; omega
    have hb : 1 + (nodesAll (l.kids.take (i + 1))).length ≤ big := by
      have := nodesAll_le (l.kids.take (i + 1)); have := bulks_take l.kids (i + 1); have := l.bulk_eq; have := h.bulk; omega
    rw [e1, ← Int.natCast_add, ← e2, wrap_to hb, wrap_nat (show i ≤ big by omega), ih]
    exact .some rfl
theorem size_spec (l : Lns) (h : LnOk l) : (lim T).pc n_lens_Size [l.row] = some [[.int ((nodes l).length : Int)]] := by
  have hrec : ∀ k ∈ l.kids, (lim T).pc n_lens_Size [k.row] = some [[.int ((nodes k).length : Int)]] := fun k hk => by
    have := Lns.size_lt hk
    exact size_spec k (h.kid hk)
  rw [lens_Size_pc]; unfold lens_Size
  have := size_l l h hrec l.kids.length 0 (by omega)
  rw [List.take_zero, show ((0 : Nat) : Int) = 0 from rfl, show ((1 + (nodesAll []).length : Nat) : Int) = 1 from rfl] at this
  rw [at_lns13, Lns.kc_rows, List.length_map, this]
  rfl
  termination_by SizeOf.sizeOf l
theorem deep_l (l : Lns) (h : LnOk l) (hc : ∀ k ∈ l.kids, (lim T).pc n_lens_Deep [k.row] = some [[.int (levels k : Int)]]) : ∀ (j i : Nat), i + j = l.kids.length →
    lens_Deep_l0 (lim T) ((levelsAll (l.kids.take i) : Nat) : Int) l.kc (l.kids.length : Int) (i : Int) = some (0, [.r [.int ((levelsAll l.kids : Nat) : Int)]])
  | 0, i, hh => by
    rw [lens_Deep_l0_eq]; unfold lens_Deep_b0
    obtain rfl : i = l.kids.length := by omega
    refine Tot.eq (.ite (fun h => absurd h dec_ge) fun _ => .some ?_)
    rw [List.take_length]
  | j + 1, i, hh => by
    rw [lens_Deep_l0_eq]; unfold lens_Deep_b0
    have hi : i < l.kids.length := by omega
    have ih := deep_l l h hc j (i + 1) (by omega)
    refine Tot.eq (.pos (dec_lt hi) (.pos (kid_ix hi) ?_))
    rw [kid_row hi]
    refine .eqbind (hc _ (List.getElem_mem hi)) ?_
    have hk := h.kids
    have e1 : (at_ (rowsAt [[C.int (levels l.kids[i] : Int)]] 0) 0).toI = (levels l.kids[i] : Int) := rfl
    have e2 : levelsAll (l.kids.take (i + 1)) = max (levelsAll (l.kids.take i)) (levels l.kids[i]) := by
      rw [take_next hi, levelsAll_app]; simp only [levelsAll]; omega
    have e3 : (if (levels l.kids[i] : Int) > (levelsAll (l.kids.take i) : Int) then (levels l.kids[i] : Int) else (levelsAll (l.kids.take i) : Int)) = ((levelsAll (l.kids.take (i + 1)) : Nat) : Int) := by
      rw [e2]; split <;> omega
    rw [e1, e3, wrap_nat (show i ≤ big by omega), ih]
    exact .some rfl
theorem deep_spec (l : Lns) (h : LnOk l) : (lim T).pc n_lens_Deep [l.row] = some [[.int (levels l : Int)]] := by
  have hrec : ∀ k ∈ l.kids, (lim T).pc n_lens_Deep [k.row] = some [[.int (levels k : Int)]] := fun k hk => by
    have := Lns.size_lt hk
    exact deep_spec k (h.kid hk)
  rw [lens_Deep_pc]; unfold lens_Deep
  have := deep_l l h hrec l.kids.length 0 (by omega)
  rw [List.take_zero, show ((0 : Nat) : Int) = 0 from rfl, show ((levelsAll [] : Nat) : Int) = 0 from rfl] at this
  rw [at_lns13, Lns.kc_rows, List.length_map, this]
  have hl := levelsAll_le l.kids
  have hb := l.bulk_eq
  have hbb := h.bulk
  refine Tot.eq (.some ?_)
  show [[C.int (IntKind.wrap .i64 ((levelsAll l.kids : Int) + 1))]] = _
  rw [wrap_nat (show levelsAll l.kids ≤ big by omega), levels_eq]
  termination_by SizeOf.sizeOf l
theorem levels_l (l : Lns) (h : LnOk l) (hc : ∀ k ∈ l.kids, (lim T).pc n_clapref3_Levels [k.row] = some [[.int (levels k : Int)]]) : ∀ (j i : Nat), i + j = l.kids.length →
    clapref3_Levels_l0 (lim T) ((levelsAll (l.kids.take i) : Nat) : Int) l.kc (l.kids.length : Int) (i : Int) = some (0, [.r [.int ((levelsAll l.kids : Nat) : Int)]])
  | 0, i, hh => by
    rw [clapref3_Levels_l0_eq]; unfold clapref3_Levels_b0
    obtain rfl : i = l.kids.length := by omega
    refine Tot.eq (.ite (fun h => absurd h dec_ge) fun _ => .some ?_)
    rw [List.take_length]
  | j + 1, i, hh => by
    rw [clapref3_Levels_l0_eq]; unfold clapref3_Levels_b0
    have hi : i < l.kids.length := by omega
    have ih := levels_l l h hc j (i + 1) (by omega)
    refine Tot.eq (.pos (dec_lt hi) (.pos (kid_ix hi) ?_))
    rw [kid_row hi]
    refine .eqbind (hc _ (List.getElem_mem hi)) ?_
    have hk := h.kids
    have e1 : (at_ (rowsAt [[C.int (levels l.kids[i] : Int)]] 0) 0).toI = (levels l.kids[i] : Int) := rfl
    have e2 : levelsAll (l.kids.take (i + 1)) = max (levelsAll (l.kids.take i)) (levels l.kids[i]) := by
      rw [take_next hi, levelsAll_app]; simp only [levelsAll]; omega
    rw [e1, wrap_nat (show i ≤ big by omega)]
    refine .ite (fun e => ?_) fun e => ?_
    · have e : (levels l.kids[i] : Int) > (levelsAll (l.kids.take i) : Int) := of_decide_eq_true e
      rw [show levels l.kids[i] = levelsAll (l.kids.take (i + 1)) by omega, ih]
      exact .some rfl
    · have e : ¬ (levels l.kids[i] : Int) > (levelsAll (l.kids.take i) : Int) := fun x => e (decide_eq_true x)
      rw [show levelsAll (l.kids.take i) = levelsAll (l.kids.take (i + 1)) by omega, ih]
      exact .some rfl
theorem levels_spec (l : Lns) (h : LnOk l) : (lim T).pc n_clapref3_Levels [l.row] = some [[.int (levels l : Int)]] := by
  have hrec : ∀ k ∈ l.kids, (lim T).pc n_clapref3_Levels [k.row] = some [[.int (levels k : Int)]] := fun k hk => by
    have := Lns.size_lt hk
    exact levels_spec k (h.kid hk)
  rw [clapref3_Levels_pc]; unfold clapref3_Levels
  have := levels_l l h hrec l.kids.length 0 (by omega)
  rw [List.take_zero, show ((0 : Nat) : Int) = 0 from rfl, show ((levelsAll [] : Nat) : Int) = 0 from rfl] at this
  rw [at_lns13, Lns.kc_rows, List.length_map, this]
  have hl := levelsAll_le l.kids
  have hb := l.bulk_eq
  have hbb := h.bulk
  refine Tot.eq (.some ?_)
  show [[C.int (IntKind.wrap .i64 ((levelsAll l.kids : Int) + 1))]] = _
  rw [wrap_nat (show levelsAll l.kids ≤ big by omega), levels_eq]
  termination_by SizeOf.sizeOf l
theorem nodes_l (l : Lns) (h : LnOk l) (hc : ∀ k ∈ l.kids, (lim T).pc n_clapref3_Nodes [k.row] = some [[.sl ((nodes k).map Lns.row)]]) : ∀ (j i : Nat), i + j = l.kids.length →
    clapref3_Nodes_l0 (lim T) l.kc (l.kids.length : Int) (i : Int) (.sl ((l :: nodesAll (l.kids.take i)).map Lns.row)) = some (0, [.r [.sl ((nodes l).map Lns.row)]])
  | 0, i, hh => by
    rw [clapref3_Nodes_l0_eq]; unfold clapref3_Nodes_b0
    obtain rfl : i = l.kids.length := by omega
    refine Tot.eq (.ite (fun h => absurd h dec_ge) fun _ => .some ?_)
    rw [List.take_length, nodes_eq]
  | j + 1, i, hh => by
    rw [clapref3_Nodes_l0_eq]; unfold clapref3_Nodes_b0
    have hi : i < l.kids.length := by omega
    have ih := nodes_l l h hc j (i + 1) (by omega)
    refine Tot.eq (.pos (dec_lt hi) (.pos (kid_ix hi) ?_))
    rw [kid_row hi]
    refine .eqbind (hc _ (List.getElem_mem hi)) ?_
    have hk := h.kids
    have e1 : (at_ (rowsAt [[C.sl ((nodes l.kids[i]).map Lns.row)]] 0) 0).rows = (nodes l.kids[i]).map Lns.row := rfl
    have e2 : (l :: nodesAll (l.kids.take i)).map Lns.row ++ (nodes l.kids[i]).map Lns.row = (l :: nodesAll (l.kids.take (i + 1))).map Lns.row := by
      rw [take_next hi, nodesAll_app]; simp only [nodesAll, List.append_nil, List.map_cons, List.map_append, List.cons_append]
    have hb1 : (l :: nodesAll (l.kids.take i)).length ≤ big := by
      have := nodesAll_le (l.kids.take i); have := bulks_take l.kids i; have := l.bulk_eq; have := h.bulk; simp only [List.length_cons]; omega
    have hb2 := (h.kid (List.getElem_mem hi)).nodes
    rw [e1, rows_sl, List.length_map, List.length_map]
    unfold big at hb1 hb2
    refine .pos (by omega) ?_
    have e3 : appC (.sl ((l :: nodesAll (l.kids.take i)).map Lns.row)) ((nodes l.kids[i]).map Lns.row) = .sl ((l :: nodesAll (l.kids.take (i + 1))).map Lns.row) := by rw [← e2]; rfl
    rw [e3, wrap_nat (show i ≤ big by omega), ih]
    exact .some rfl
theorem nodes_spec (l : Lns) (h : LnOk l) : (lim T).pc n_clapref3_Nodes [l.row] = some [[.sl ((nodes l).map Lns.row)]] := by
  have hrec : ∀ k ∈ l.kids, (lim T).pc n_clapref3_Nodes [k.row] = some [[.sl ((nodes k).map Lns.row)]] := fun k hk => by
    have := Lns.size_lt hk
    exact nodes_spec k (h.kid hk)
  rw [clapref3_Nodes_pc]; unfold clapref3_Nodes
  have := nodes_l l h hrec l.kids.length 0 (by omega)
  rw [List.take_zero, show ((0 : Nat) : Int) = 0 from rfl, show (C.sl ((l :: nodesAll []).map Lns.row)) = .sl [l.row] from rfl] at this
  rw [at_lns13, Lns.kc_rows, List.length_map, this]
  rfl
  termination_by SizeOf.sizeOf l
/-! Node, Check -/
theorem node_both (l : Lns) (h : LnOk l) : ∃ e : Int, (lim T).pc n_lens_Node [l.row] = some [[.int e]] ∧ (lim T).pc n_clapref3_Node [l.row] = some [[.int e]] := by
  by_cases hr : 0 ≤ l.op ∧ l.op < 19
  · obtain ⟨f, w, u, ho⟩ := op_spec hr.1 hr.2
    exact ⟨_, node_spec l h f w u hr.1 hr.2 ho, rnode_spec l h f w u hr.1 hr.2 ho⟩
  · refine ⟨1, ?_, ?_⟩
    · rw [lens_Node_pc]; unfold lens_Node
      refine Tot.eq (.bind (R := fun r => r = (0, [.r [.dp l.row], .r [.bool true]])) ?_ ?_)
      · refine .ite (fun e => .some rfl) fun e => .some ?_
        have e' : ¬ l.op < 0 := fun x => e (decide_eq_true x)
        have : decide ((at_ l.row 0).toI ≥ 19) = true := decide_eq_true (show l.op ≥ 19 by omega)
        rw [this]
      · rintro r rfl; exact .some rfl
    · rw [clapref3_Node_pc]; unfold clapref3_Node
      refine Tot.eq (.bind (R := fun r => r = (0, [.r [.dp l.row], .r [.bool true]])) ?_ ?_)
      · refine .ite (fun e => .some rfl) fun e => .some ?_
        have e' : ¬ l.op < 0 := fun x => e (decide_eq_true x)
        have : decide ((at_ l.row 0).toI ≥ 19) = true := decide_eq_true (show l.op ≥ 19 by omega)
        rw [this]
      · rintro r rfl; exact .some rfl
noncomputable def nodeV (l : Lns) : Int := match (lim T).pc n_lens_Node [l.row] with
  | some [[.int n]] => n
  | _ => 0
theorem nodeV_spec (l : Lns) (h : LnOk l) : (lim T).pc n_lens_Node [l.row] = some [[.int (nodeV l)]] ∧ (lim T).pc n_clapref3_Node [l.row] = some [[.int (nodeV l)]] := by
  obtain ⟨e, h1, h2⟩ := node_both l h
  have : nodeV l = e := by unfold nodeV; rw [h1]
  rw [this]; exact ⟨h1, h2⟩
noncomputable def firstE : List Lns → Int
  | [] => 0
  | l :: r => if nodeV l ≠ 0 then nodeV l else firstE r
theorem firstE_app : ∀ a b : List Lns, firstE (a ++ b) = if firstE a ≠ 0 then firstE a else firstE b
  | [], b => by simp [firstE]
  | l :: r, b => by
    simp only [List.cons_append, firstE, firstE_app r b]
    by_cases h : nodeV l = 0
    · simp [h]
    · simp [h]
theorem walk_l (l : Lns) (h : LnOk l) (hc : ∀ k ∈ l.kids, (lim T).pc n_lens_walk [k.row] = some [[.int (firstE (nodes k))]]) : ∀ (j i : Nat), i + j = l.kids.length →
    lens_walk_l0 (lim T) l.kc (l.kids.length : Int) (i : Int) = some (if firstE (nodesAll (l.kids.drop i)) = 0 then (0, []) else (1, [.r [.int (firstE (nodesAll (l.kids.drop i)))]]))
  | 0, i, hh => by
    rw [lens_walk_l0_eq]; unfold lens_walk_b0
    obtain rfl : i = l.kids.length := by omega
    rw [List.drop_length]
    exact Tot.eq (.ite (fun h => absurd h dec_ge) fun _ => .some rfl)
  | j + 1, i, hh => by
    rw [lens_walk_l0_eq]; unfold lens_walk_b0
    have hi : i < l.kids.length := by omega
    have ih := walk_l l h hc j (i + 1) (by omega)
    refine Tot.eq (.pos (dec_lt hi) (.pos (kid_ix hi) ?_))
    rw [kid_row hi]
    refine .eqbind (hc _ (List.getElem_mem hi)) ?_
    have hk := h.kids
    rw [List.drop_eq_getElem_cons hi, nodesAll, firstE_app]
    simp only [rowsAt_zero, at_zero, toI_int, wrap_nat (show i ≤ big by omega), ih]
    by_cases h0 : firstE (nodes l.kids[i]) = 0
    · have hb : (firstE (nodes l.kids[i]) != 0) = false := by simp [h0]
      simp only [hb, h0, Bool.false_eq_true, if_false, ne_eq, not_true_eq_false]
      exact .some rfl
    · have hb : (firstE (nodes l.kids[i]) != 0) = true := by simp [h0]
      simp only [hb, h0, if_true, if_false, ne_eq, not_false_eq_true]
      exact .some rfl
theorem walk_spec (l : Lns) (h : LnOk l) : (lim T).pc n_lens_walk [l.row] = some [[.int (firstE (nodes l))]] := by
  have hrec : ∀ k ∈ l.kids, (lim T).pc n_lens_walk [k.row] = some [[.int (firstE (nodes k))]] := fun k hk => by
    have := Lns.size_lt hk
    exact walk_spec k (h.kid hk)
  rw [lens_walk_pc]; unfold lens_walk
  refine Tot.eq (.eqbind (nodeV_spec l h).1 ?_)
  rw [nodes_eq, firstE]
  have hl := walk_l l h hrec l.kids.length 0 (by omega)
  rw [List.drop_zero, show ((0 : Nat) : Int) = 0 from rfl] at hl
  simp only [rowsAt_zero, at_zero, toI_int, at_lns13, Lns.kc_rows, List.length_map, hl]
  by_cases h0 : nodeV l = 0
  · have hb : (nodeV l != 0) = false := by simp [h0]
    simp only [hb, h0, Bool.false_eq_true, if_false, ne_eq, not_true_eq_false]
    by_cases h2 : firstE (nodesAll l.kids) = 0
    · simp only [h2, if_true]; exact .some rfl
    · simp only [h2, if_false]; exact .some rfl
  · have hb : (nodeV l != 0) = true := by simp [h0]
    simp only [hb, h0, if_true, ne_eq, not_false_eq_true]
    exact .some rfl
  termination_by SizeOf.sizeOf l
theorem nodes_ok (l : Lns) (h : LnOk l) : ∀ k ∈ nodes l, LnOk k := by
  rw [nodes_eq]
  intro k hk
  rcases List.mem_cons.1 hk with e | e
  · rw [e]; exact h
  · have : ∀ ls : List Lns, (∀ x ∈ ls, ∀ y ∈ nodes x, LnOk y) → ∀ y ∈ nodesAll ls, LnOk y := by
      intro ls
      induction ls with
      | nil => intro _ y hy; simp [nodesAll] at hy
      | cons a r ih =>
        intro hx y hy
        simp only [nodesAll, List.mem_append] at hy
        rcases hy with e | e
        · exact hx a (by simp) y e
        · exact ih (fun x hx' => hx x (by simp [hx'])) y e
    refine this l.kids (fun x hx y hy => ?_) k e
    have := Lns.size_lt hx
    exact nodes_ok x (h.kid hx) y hy
  termination_by SizeOf.sizeOf l
theorem rcheck_l (ls : List Lns) (hN : ls.length ≤ big) (ho : ∀ k ∈ ls, LnOk k) : ∀ (j i : Nat), i + j = ls.length →
    clapref3_Check_l0 (lim T) (.sl (ls.map Lns.row)) (ls.length : Int) (i : Int) = some (if firstE (ls.drop i) = 0 then (0, []) else (1, [.r [.int (firstE (ls.drop i))]]))
  | 0, i, hh => by
    rw [clapref3_Check_l0_eq]; unfold clapref3_Check_b0
    obtain rfl : i = ls.length := by omega
    rw [List.drop_length]
    exact Tot.eq (.ite (fun h => absurd h dec_ge) fun _ => .some rfl)
  | j + 1, i, hh => by
    rw [clapref3_Check_l0_eq]; unfold clapref3_Check_b0
    have hi : i < ls.length := by omega
    have ih := rcheck_l ls hN ho j (i + 1) (by omega)
    refine Tot.eq (.pos (dec_lt hi) (.pos (ix_ok (by simpa using hi)) ?_))
    rw [rows_sl, show rowsAt (ls.map Lns.row) (i : Int).toNat = ls[i].row from (by rw [Int.toNat_natCast]; exact rowsAt_map _ _ _ hi)]
    refine .eqbind (nodeV_spec _ (ho _ (List.getElem_mem hi))).2 ?_
    rw [List.drop_eq_getElem_cons hi, firstE]
    simp only [rowsAt_zero, at_zero, toI_int, wrap_nat (show i ≤ big by omega), ih]
    by_cases h0 : nodeV ls[i] = 0
    · have hb : (nodeV ls[i] != 0) = false := by simp [h0]
      simp only [hb, h0, Bool.false_eq_true, if_false, ne_eq, not_true_eq_false]
      exact .some rfl
    · have hb : (nodeV ls[i] != 0) = true := by simp [h0]
      simp only [hb, h0, if_true, if_false, ne_eq, not_false_eq_true]
      exact .some rfl
noncomputable def checkE (l : Lns) : Int := if (nodes l).length > 120 ∨ levels l > 40 then 2 else firstE (nodes l)
theorem check_spec (l : Lns) (h : LnOk l) : (lim T).pc n_lens_Check [l.row] = some [[.int (checkE l)]] := by
  rw [lens_Check_pc]; unfold lens_Check checkE
  refine Tot.eq (.eqbind (size_spec l h) ?_)
  refine .ite (fun e => ?_) fun e => ?_
  · rw [if_pos (.inl (by have : ((nodes l).length : Int) > 120 := of_decide_eq_true e; omega))]
    exact .some rfl
  · have e1 : ¬ (nodes l).length > 120 := by have := of_decide_eq_false (by simpa using e : decide (((nodes l).length : Int) > 120) = false); omega
    refine .eqbind (deep_spec l h) ?_
    refine .ite (fun e2 => ?_) fun e2 => ?_
    · rw [if_pos (.inr (by have : (levels l : Int) > 40 := of_decide_eq_true e2; omega))]
      exact .some rfl
    · have e3 : ¬ levels l > 40 := by have := of_decide_eq_false (by simpa using e2 : decide ((levels l : Int) > 40) = false); omega
      rw [if_neg (by omega)]
      exact .eqbind (walk_spec l h) (.some rfl)
theorem rcheck_spec (l : Lns) (h : LnOk l) : (lim T).pc n_clapref3_Check [l.row] = some [[.int (checkE l)]] := by
  rw [clapref3_Check_pc]; unfold clapref3_Check checkE
  refine Tot.eq (.eqbind (nodes_spec l h) ?_)
  have er : (at_ (rowsAt [[C.sl ((nodes l).map Lns.row)]] 0) 0) = C.sl ((nodes l).map Lns.row) := rfl
  refine .bind (R := fun r => r = (0, [.r [.sl ((nodes l).map Lns.row)], .r [.bool (decide ((nodes l).length > 120 ∨ levels l > 40))]])) ?_ ?_
  · rw [er, rows_sl, List.length_map]
    refine .ite (fun e => ?_) fun e => ?_
    · have e1 : (nodes l).length > 120 := by have := of_decide_eq_true e; omega
      refine .some ?_
      rw [decide_eq_true (.inl e1)]
    · have e1 : ¬ (nodes l).length > 120 := by have := of_decide_eq_false (by simpa using e : decide (((nodes l).length : Int) > 120) = false); omega
      refine .eqbind (levels_spec l h) (.some ?_)
      simp only [rowsAt_zero, at_zero, toI_int]
      have : decide ((levels l : Int) > 40) = decide ((nodes l).length > 120 ∨ levels l > 40) := by
        by_cases e2 : levels l > 40
        · rw [decide_eq_true (show (levels l : Int) > 40 by omega), decide_eq_true (show (nodes l).length > 120 ∨ levels l > 40 from .inr e2)]
        · rw [decide_eq_false (show ¬ (levels l : Int) > 40 by omega), decide_eq_false (show ¬ ((nodes l).length > 120 ∨ levels l > 40) by omega)]
      exact congrArg (fun b => ((0 : Nat), ([PV.r [.sl ((nodes l).map Lns.row)], PV.r [.bool b]] : List PV))) this
  rintro r rfl
  by_cases e : (nodes l).length > 120 ∨ levels l > 40
  · rw [if_pos e, decide_eq_true e]; exact .some rfl
  · rw [if_neg e, decide_eq_false e]
    simp only [gB_s, gB_z, gC_z, Bool.false_eq_true, if_false, rows_sl, List.length_map]
    have hl := rcheck_l (nodes l) h.nodes (nodes_ok l h) (nodes l).length 0 (by omega)
    rw [List.drop_zero, show ((0 : Nat) : Int) = 0 from rfl] at hl
    rw [hl]
    by_cases h2 : firstE (nodes l) = 0
    · simp only [h2, if_true]; exact .some rfl
    · simp only [h2, if_false]; exact .some rfl
theorem formed_true : (lim T).pc n_claplaw3_formed [] = some [[.bool true]] := (lim_pc T).2 ⟨60, by kernel_rfl⟩
/-- The law. -/
theorem law (l : Lns) (hw : l.wf) (hb : l.bulk ≤ big) : (lim T).pc 3 [l.row] = some [[.bool true]] := by
  have h : LnOk l := ⟨hw, hb⟩
  refine (claplaw3_LensChecks_pc l.row).trans ?_
  unfold claplaw3_LensChecks
  have hnl : (at_ (rowsAt [[C.sl ((nodes l).map Lns.row)]] 0) 0).rows = (nodes l).map Lns.row := rfl
  refine Tot.eq (.eqbind formed_true ?_)
  simp only [rowsAt_zero, at_zero, toB_bool, Bool.not_true, Bool.false_eq_true, if_false]
  refine .eqbind (check_spec l h) (.eqbind (rcheck_spec l h) ?_)
  simp only [rowsAt_zero, at_zero, toI_int, beq_self_eq_true, if_true]
  refine .eqbind (nodeV_spec l h).1 (.eqbind (nodeV_spec l h).2 ?_)
  simp only [rowsAt_zero, at_zero, toI_int, beq_self_eq_true, if_true]
  refine .eqbind (size_spec l h) (.eqbind (nodes_spec l h) ?_)
  simp only [rowsAt_zero, at_zero, toI_int, rows_sl, List.length_map, beq_self_eq_true, if_true]
  refine .eqbind (deep_spec l h) (.eqbind (levels_spec l h) ?_)
  simp only [rowsAt_zero, at_zero, toI_int, beq_self_eq_true]
  exact .some rfl
end Go.Ev.Zzl
