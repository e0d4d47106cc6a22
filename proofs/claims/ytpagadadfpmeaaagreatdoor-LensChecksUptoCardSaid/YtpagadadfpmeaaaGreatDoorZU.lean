/-
  A part of the proof: what the functions of the program compute.
-/
import Derived.Test.YtpagadadfpmeaaaGreatDoorZS
import Derived.Lib.ItoaLen
set_option linter.all false
set_option maxRecDepth 100000
namespace Go.Ev.Zzl
/-! what each operation uses -/
def lineWords : List Bytes := [[115, 97, 109, 101, 58], [116, 104, 101, 110, 58, 43], [97, 116, 58, 110, 49], [114, 101, 110, 97, 109, 101, 58, 110, 116], [100, 114, 111, 112, 58, 110, 118], [97, 100, 100, 58, 110, 118], [110, 101, 115, 116, 58, 116, 115], [102, 108, 97, 116, 58, 110], [109, 111, 118, 101, 58, 110, 105], [115, 112, 108, 105, 116, 58, 110, 116, 115, 112], [103, 108, 117, 101, 58, 110, 116, 112], [108, 111, 111, 107, 58, 108], [110, 117, 109, 98, 101, 114, 58, 98], [101, 97, 99, 104, 58, 110, 49], [99, 97, 115, 101, 58, 115, 43], [115, 101, 108, 101, 99, 116, 58, 110, 118], [116, 97, 103, 58, 110], [117, 110, 116, 97, 103, 58, 110], [102, 105, 108, 108, 58, 118]]
theorem fields_line : (lim T).pc n_strings_Fields [[.str [115, 97, 109, 101, 58, 32, 116, 104, 101, 110, 58, 43, 32, 97, 116, 58, 110, 49, 32, 114, 101, 110, 97, 109, 101, 58, 110, 116, 32, 100, 114, 111, 112, 58, 110, 118, 32, 97, 100, 100, 58, 110, 118, 32, 110, 101, 115, 116, 58, 116, 115, 32, 102, 108, 97, 116, 58, 110, 32, 109, 111, 118, 101, 58, 110, 105, 32, 115, 112, 108, 105, 116, 58, 110, 116, 115, 112, 32, 103, 108, 117, 101, 58, 110, 116, 112, 32, 108, 111, 111, 107, 58, 108, 32, 110, 117, 109, 98, 101, 114, 58, 98, 32, 101, 97, 99, 104, 58, 110, 49, 32, 99, 97, 115, 101, 58, 115, 43, 32, 115, 101, 108, 101, 99, 116, 58, 110, 118, 32, 116, 97, 103, 58, 110, 32, 117, 110, 116, 97, 103, 58, 110, 32, 102, 105, 108, 108, 58, 118]]] = some [[.sl (lineWords.map strRow)]] := (lim_pc T).2 ⟨300, by kernel_rfl⟩
def hasB (u : Bytes) (c : Int) : Bool := decide (idxBy u c.toNat.toUInt8 ≥ 0)
theorem has_spec (u : Bytes) (c : Int) : (lim T).pc n_clapref3_has [[.str u], [.int c]] = some [[.bool (hasB u c)]] := by
  rw [clapref3_has_pc]; unfold clapref3_has
  rw [strings_IndexByte_pc]; unfold strings_IndexByte
  rw [internal_stringslite_IndexByte_pc]; unfold internal_stringslite_IndexByte
  rfl
theorem used_of {n : Nat} (h : n < 19) {w u : Bytes} (hc : (lim T).pc n_strings_Cut [[.str (lineWords.getD n [])], [.str [58]]] = some [[.str w], [.str u], [.bool true]]) : (lim T).pc n_clapref3_used [[.int (n : Int)]] = some [[.str w], [.str u]] := by
  rw [clapref3_used_pc]; unfold clapref3_used
  refine Tot.eq (.eqbind fields_line ?_)
  have hl : lineWords.length = 19 := rfl
  refine .pos ⟨by omega, by show (n : Int) < ((lineWords.map strRow).length : Int); rw [List.length_map, hl]; omega⟩ ?_
  have e : (at_ (rowsAt (at_ (rowsAt [[C.sl (lineWords.map strRow)]] 0) 0).rows (n : Int).toNat) 0).toS = lineWords.getD n [] := by
    show (at_ (rowsAt (lineWords.map strRow) (n : Int).toNat) 0).toS = _
    rw [Int.toNat_natCast, rowsAt_map _ _ _ (by omega), List.getD_eq_getElem?_getD, List.getElem?_eq_getElem (by omega)]; rfl
  rw [e]
  exact .eqbind hc (.some rfl)
/-- The fields that an operation uses; how many kids it has (-1: one or more). -/
structure Fl where (n t s i b p v l : Bool) (k : Int)
def Fl.row (f : Fl) : Row := [.bool f.n, .bool f.t, .bool f.s, .bool f.i, .bool f.b, .bool f.p, .bool f.v, .bool f.l, .int f.k]
def flOf (u : Bytes) : Fl := ⟨hasB u 110, hasB u 116, hasB u 115, hasB u 105, hasB u 98, hasB u 112, hasB u 118, hasB u 108, if hasB u 49 = true then 1 else if hasB u 43 = true then -1 else 0⟩
structure OpOk (op : Int) (f : Fl) (w u : Bytes) : Prop where
  table : (lim T).pc n_lens_table [[.int op]] = some [f.row]
  used : (lim T).pc n_clapref3_used [[.int op]] = some [[.str w], [.str u]]
  n : hasB u 110 = f.n
  t : hasB u 116 = f.t
  s : hasB u 115 = f.s
  i : hasB u 105 = f.i
  b : hasB u 98 = f.b
  p : hasB u 112 = f.p
  v : hasB u 118 = f.v
  l : hasB u 108 = f.l
  k1 : hasB u 49 = (f.k == 1)
  k2 : hasB u 43 = (f.k == -1)
  k : f.k = 0 ∨ f.k = 1 ∨ f.k = -1
  o5 : op = 5 → f.v = true
  o15 : op = 15 → f.v = true
theorem op0 : OpOk 0 ⟨false, false, false, false, false, false, false, false, 0⟩ [115, 97, 109, 101] [] := ⟨(lim_pc T).2 ⟨5, by kernel_rfl⟩, used_of (n := 0) (by omega) ((lim_pc T).2 ⟨100, by kernel_rfl⟩), by kernel_rfl, by kernel_rfl, by kernel_rfl, by kernel_rfl, by kernel_rfl, by kernel_rfl, by kernel_rfl, by kernel_rfl, by kernel_rfl, by kernel_rfl, by decide, by decide, by decide⟩
theorem op1 : OpOk 1 ⟨false, false, false, false, false, false, false, false, -1⟩ [116, 104, 101, 110] [43] := ⟨(lim_pc T).2 ⟨5, by kernel_rfl⟩, used_of (n := 1) (by omega) ((lim_pc T).2 ⟨100, by kernel_rfl⟩), by kernel_rfl, by kernel_rfl, by kernel_rfl, by kernel_rfl, by kernel_rfl, by kernel_rfl, by kernel_rfl, by kernel_rfl, by kernel_rfl, by kernel_rfl, by decide, by decide, by decide⟩
theorem op2 : OpOk 2 ⟨true, false, false, false, false, false, false, false, 1⟩ [97, 116] [110, 49] := ⟨(lim_pc T).2 ⟨5, by kernel_rfl⟩, used_of (n := 2) (by omega) ((lim_pc T).2 ⟨100, by kernel_rfl⟩), by kernel_rfl, by kernel_rfl, by kernel_rfl, by kernel_rfl, by kernel_rfl, by kernel_rfl, by kernel_rfl, by kernel_rfl, by kernel_rfl, by kernel_rfl, by decide, by decide, by decide⟩
theorem op3 : OpOk 3 ⟨true, true, false, false, false, false, false, false, 0⟩ [114, 101, 110, 97, 109, 101] [110, 116] := ⟨(lim_pc T).2 ⟨5, by kernel_rfl⟩, used_of (n := 3) (by omega) ((lim_pc T).2 ⟨100, by kernel_rfl⟩), by kernel_rfl, by kernel_rfl, by kernel_rfl, by kernel_rfl, by kernel_rfl, by kernel_rfl, by kernel_rfl, by kernel_rfl, by kernel_rfl, by kernel_rfl, by decide, by decide, by decide⟩
theorem op4 : OpOk 4 ⟨true, false, false, false, false, false, true, false, 0⟩ [100, 114, 111, 112] [110, 118] := ⟨(lim_pc T).2 ⟨5, by kernel_rfl⟩, used_of (n := 4) (by omega) ((lim_pc T).2 ⟨100, by kernel_rfl⟩), by kernel_rfl, by kernel_rfl, by kernel_rfl, by kernel_rfl, by kernel_rfl, by kernel_rfl, by kernel_rfl, by kernel_rfl, by kernel_rfl, by kernel_rfl, by decide, by decide, by decide⟩
theorem op5 : OpOk 5 ⟨true, false, false, false, false, false, true, false, 0⟩ [97, 100, 100] [110, 118] := ⟨(lim_pc T).2 ⟨5, by kernel_rfl⟩, used_of (n := 5) (by omega) ((lim_pc T).2 ⟨100, by kernel_rfl⟩), by kernel_rfl, by kernel_rfl, by kernel_rfl, by kernel_rfl, by kernel_rfl, by kernel_rfl, by kernel_rfl, by kernel_rfl, by kernel_rfl, by kernel_rfl, by decide, by decide, by decide⟩
theorem op6 : OpOk 6 ⟨false, true, true, false, false, false, false, false, 0⟩ [110, 101, 115, 116] [116, 115] := ⟨(lim_pc T).2 ⟨5, by kernel_rfl⟩, used_of (n := 6) (by omega) ((lim_pc T).2 ⟨100, by kernel_rfl⟩), by kernel_rfl, by kernel_rfl, by kernel_rfl, by kernel_rfl, by kernel_rfl, by kernel_rfl, by kernel_rfl, by kernel_rfl, by kernel_rfl, by kernel_rfl, by decide, by decide, by decide⟩
theorem op7 : OpOk 7 ⟨true, false, false, false, false, false, false, false, 0⟩ [102, 108, 97, 116] [110] := ⟨(lim_pc T).2 ⟨5, by kernel_rfl⟩, used_of (n := 7) (by omega) ((lim_pc T).2 ⟨100, by kernel_rfl⟩), by kernel_rfl, by kernel_rfl, by kernel_rfl, by kernel_rfl, by kernel_rfl, by kernel_rfl, by kernel_rfl, by kernel_rfl, by kernel_rfl, by kernel_rfl, by decide, by decide, by decide⟩
theorem op8 : OpOk 8 ⟨true, false, false, true, false, false, false, false, 0⟩ [109, 111, 118, 101] [110, 105] := ⟨(lim_pc T).2 ⟨5, by kernel_rfl⟩, used_of (n := 8) (by omega) ((lim_pc T).2 ⟨100, by kernel_rfl⟩), by kernel_rfl, by kernel_rfl, by kernel_rfl, by kernel_rfl, by kernel_rfl, by kernel_rfl, by kernel_rfl, by kernel_rfl, by kernel_rfl, by kernel_rfl, by decide, by decide, by decide⟩
theorem op9 : OpOk 9 ⟨true, true, true, false, false, true, false, false, 0⟩ [115, 112, 108, 105, 116] [110, 116, 115, 112] := ⟨(lim_pc T).2 ⟨5, by kernel_rfl⟩, used_of (n := 9) (by omega) ((lim_pc T).2 ⟨100, by kernel_rfl⟩), by kernel_rfl, by kernel_rfl, by kernel_rfl, by kernel_rfl, by kernel_rfl, by kernel_rfl, by kernel_rfl, by kernel_rfl, by kernel_rfl, by kernel_rfl, by decide, by decide, by decide⟩
theorem op10 : OpOk 10 ⟨true, true, false, false, false, true, false, false, 0⟩ [103, 108, 117, 101] [110, 116, 112] := ⟨(lim_pc T).2 ⟨5, by kernel_rfl⟩, used_of (n := 10) (by omega) ((lim_pc T).2 ⟨100, by kernel_rfl⟩), by kernel_rfl, by kernel_rfl, by kernel_rfl, by kernel_rfl, by kernel_rfl, by kernel_rfl, by kernel_rfl, by kernel_rfl, by kernel_rfl, by kernel_rfl, by decide, by decide, by decide⟩
theorem op11 : OpOk 11 ⟨false, false, false, false, false, false, false, true, 0⟩ [108, 111, 111, 107] [108] := ⟨(lim_pc T).2 ⟨5, by kernel_rfl⟩, used_of (n := 11) (by omega) ((lim_pc T).2 ⟨100, by kernel_rfl⟩), by kernel_rfl, by kernel_rfl, by kernel_rfl, by kernel_rfl, by kernel_rfl, by kernel_rfl, by kernel_rfl, by kernel_rfl, by kernel_rfl, by kernel_rfl, by decide, by decide, by decide⟩
theorem op12 : OpOk 12 ⟨false, false, false, false, true, false, false, false, 0⟩ [110, 117, 109, 98, 101, 114] [98] := ⟨(lim_pc T).2 ⟨5, by kernel_rfl⟩, used_of (n := 12) (by omega) ((lim_pc T).2 ⟨100, by kernel_rfl⟩), by kernel_rfl, by kernel_rfl, by kernel_rfl, by kernel_rfl, by kernel_rfl, by kernel_rfl, by kernel_rfl, by kernel_rfl, by kernel_rfl, by kernel_rfl, by decide, by decide, by decide⟩
theorem op13 : OpOk 13 ⟨true, false, false, false, false, false, false, false, 1⟩ [101, 97, 99, 104] [110, 49] := ⟨(lim_pc T).2 ⟨5, by kernel_rfl⟩, used_of (n := 13) (by omega) ((lim_pc T).2 ⟨100, by kernel_rfl⟩), by kernel_rfl, by kernel_rfl, by kernel_rfl, by kernel_rfl, by kernel_rfl, by kernel_rfl, by kernel_rfl, by kernel_rfl, by kernel_rfl, by kernel_rfl, by decide, by decide, by decide⟩
theorem op14 : OpOk 14 ⟨false, false, true, false, false, false, false, false, -1⟩ [99, 97, 115, 101] [115, 43] := ⟨(lim_pc T).2 ⟨5, by kernel_rfl⟩, used_of (n := 14) (by omega) ((lim_pc T).2 ⟨100, by kernel_rfl⟩), by kernel_rfl, by kernel_rfl, by kernel_rfl, by kernel_rfl, by kernel_rfl, by kernel_rfl, by kernel_rfl, by kernel_rfl, by kernel_rfl, by kernel_rfl, by decide, by decide, by decide⟩
theorem op15 : OpOk 15 ⟨true, false, false, false, false, false, true, false, 0⟩ [115, 101, 108, 101, 99, 116] [110, 118] := ⟨(lim_pc T).2 ⟨5, by kernel_rfl⟩, used_of (n := 15) (by omega) ((lim_pc T).2 ⟨100, by kernel_rfl⟩), by kernel_rfl, by kernel_rfl, by kernel_rfl, by kernel_rfl, by kernel_rfl, by kernel_rfl, by kernel_rfl, by kernel_rfl, by kernel_rfl, by kernel_rfl, by decide, by decide, by decide⟩
theorem op16 : OpOk 16 ⟨true, false, false, false, false, false, false, false, 0⟩ [116, 97, 103] [110] := ⟨(lim_pc T).2 ⟨5, by kernel_rfl⟩, used_of (n := 16) (by omega) ((lim_pc T).2 ⟨100, by kernel_rfl⟩), by kernel_rfl, by kernel_rfl, by kernel_rfl, by kernel_rfl, by kernel_rfl, by kernel_rfl, by kernel_rfl, by kernel_rfl, by kernel_rfl, by kernel_rfl, by decide, by decide, by decide⟩
theorem op17 : OpOk 17 ⟨true, false, false, false, false, false, false, false, 0⟩ [117, 110, 116, 97, 103] [110] := ⟨(lim_pc T).2 ⟨5, by kernel_rfl⟩, used_of (n := 17) (by omega) ((lim_pc T).2 ⟨100, by kernel_rfl⟩), by kernel_rfl, by kernel_rfl, by kernel_rfl, by kernel_rfl, by kernel_rfl, by kernel_rfl, by kernel_rfl, by kernel_rfl, by kernel_rfl, by kernel_rfl, by decide, by decide, by decide⟩
theorem op18 : OpOk 18 ⟨false, false, false, false, false, false, true, false, 0⟩ [102, 105, 108, 108] [118] := ⟨(lim_pc T).2 ⟨5, by kernel_rfl⟩, used_of (n := 18) (by omega) ((lim_pc T).2 ⟨100, by kernel_rfl⟩), by kernel_rfl, by kernel_rfl, by kernel_rfl, by kernel_rfl, by kernel_rfl, by kernel_rfl, by kernel_rfl, by kernel_rfl, by kernel_rfl, by kernel_rfl, by decide, by decide, by decide⟩
theorem op_spec {op : Int} (h0 : 0 ≤ op) (h1 : op < 19) : ∃ f w u, OpOk op f w u := by
  have : op = 0 ∨ op = 1 ∨ op = 2 ∨ op = 3 ∨ op = 4 ∨ op = 5 ∨ op = 6 ∨ op = 7 ∨ op = 8 ∨ op = 9 ∨ op = 10 ∨ op = 11 ∨ op = 12 ∨ op = 13 ∨ op = 14 ∨ op = 15 ∨ op = 16 ∨ op = 17 ∨ op = 18 := by omega
  rcases this with rfl | rfl | rfl | rfl | rfl | rfl | rfl | rfl | rfl | rfl | rfl | rfl | rfl | rfl | rfl | rfl | rfl | rfl | rfl
  · exact ⟨_, _, _, op0⟩
  · exact ⟨_, _, _, op1⟩
  · exact ⟨_, _, _, op2⟩
  · exact ⟨_, _, _, op3⟩
  · exact ⟨_, _, _, op4⟩
  · exact ⟨_, _, _, op5⟩
  · exact ⟨_, _, _, op6⟩
  · exact ⟨_, _, _, op7⟩
  · exact ⟨_, _, _, op8⟩
  · exact ⟨_, _, _, op9⟩
  · exact ⟨_, _, _, op10⟩
  · exact ⟨_, _, _, op11⟩
  · exact ⟨_, _, _, op12⟩
  · exact ⟨_, _, _, op13⟩
  · exact ⟨_, _, _, op14⟩
  · exact ⟨_, _, _, op15⟩
  · exact ⟨_, _, _, op16⟩
  · exact ⟨_, _, _, op17⟩
  · exact ⟨_, _, _, op18⟩
end Go.Ev.Zzl
namespace Go.Ev.Zzl
/-! names -/
noncomputable def namesGo : List Bytes → List Bytes → Int
  | _, [] => 0
  | pre, s :: r => if nm s = false then 15 else if s ∈ pre then 5 else namesGo (pre ++ [s]) r
noncomputable def namesE (l : List Bytes) : Int := if l = [] then 3 else namesGo [] l
theorem at_str (s : Bytes) : at_ (strRow s) 0 = .str s := rfl
theorem index_l (s : Bytes) (c : C) (l : List Bytes) (hc : c.rows = l.map strRow) (hN : l.length ≤ big) : ∀ (j i : Nat), i + j = l.length →
    Tot (fun r => (r = (0, []) ∧ s ∉ l.drop i) ∨ ∃ n : Nat, r = (1, [.r [.int (n : Int)]]) ∧ s ∈ l.drop i) (slices_Index_string_l0 (lim T) c s (l.length : Int) (i : Int))
  | 0, i, h => by
    rw [slices_Index_string_l0_eq]; unfold slices_Index_string_b0
    obtain rfl : i = l.length := by omega
    exact .ite (fun h => absurd h dec_ge) fun _ => .some (.inl ⟨rfl, by simp⟩)
  | j + 1, i, h => by
    rw [slices_Index_string_l0_eq]; unfold slices_Index_string_b0
    have hi : i < l.length := by omega
    refine .pos (dec_lt hi) (.pos (ix_ok (by rw [hc]; simpa using hi)) ?_)
    rw [hc, Int.toNat_natCast, rowsAt_map _ _ _ hi, at_str, toS_str, wrap_nat (show i ≤ big by omega)]
    have hd := List.drop_eq_getElem_cons hi
    refine .ite (fun h => .some (.inr ⟨i, rfl, ?_⟩)) fun h => (index_l s c l hc hN j (i + 1) (by omega)).mono ?_
    · simp only [beq_iff_eq] at h; rw [hd, h]; exact List.mem_cons_self
    · simp only [beq_iff_eq] at h
      rintro r (⟨e, h1⟩ | ⟨n, e, h1⟩)
      · refine .inl ⟨e, ?_⟩
        rw [hd]
        exact fun hm => (List.mem_cons.1 hm).elim h h1
      · exact .inr ⟨n, e, by rw [hd]; exact List.mem_cons.2 (.inr h1)⟩
theorem contains_spec (s : Bytes) (c : C) (l : List Bytes) (hc : c.rows = l.map strRow) (hN : l.length ≤ big) : (lim T).pc n_slices_Contains_string [[c], [.str s]] = some [[.bool (decide (s ∈ l))]] := by
  refine Tot.eq ?_
  rw [slices_Contains_string_pc]; unfold slices_Contains_string
  have : Tot (fun r => ∃ n : Int, r = [[.int n]] ∧ (decide (n ≥ 0) = decide (s ∈ l))) ((lim T).pc n_slices_Index_string [[c], [.str s]]) := by
    rw [slices_Index_string_pc]; unfold slices_Index_string
    rw [hc, List.length_map]
    refine .bind (index_l s c l hc hN l.length 0 (by omega)) ?_
    rw [List.drop_zero]
    rintro r (⟨rfl, h1⟩ | ⟨n, rfl, h1⟩)
    · exact .some ⟨-1, rfl, by simp [h1]⟩
    · exact .some ⟨n, rfl, by simp [h1]⟩
  refine .bind this ?_
  rintro r ⟨n, rfl, e⟩
  refine .some ?_
  rw [← e]; rfl
theorem slc_rows {c : C} {l : List Bytes} (hc : c.rows = l.map strRow) (i : Nat) : (slcC c 0 (i : Int)).rows = (l.take i).map strRow := by
  cases c <;> simp [slcC, C.rows] at hc ⊢ <;> simp [← List.map_take, hc]
theorem names_l (c : C) (l : List Bytes) (hc : c.rows = l.map strRow) (hN : l.length ≤ big) : ∀ (j i : Nat), i + j = l.length →
    lens_names_l0 (lim T) c c (l.length : Int) (i : Int) = some (if namesGo (l.take i) (l.drop i) = 0 then (0, []) else (1, [.r [.int (namesGo (l.take i) (l.drop i))]]))
  | 0, i, h => by
    rw [lens_names_l0_eq]; unfold lens_names_b0
    obtain rfl : i = l.length := by omega
    simp [namesGo]
  | j + 1, i, h => by
    rw [lens_names_l0_eq]; unfold lens_names_b0
    have hi : i < l.length := by omega
    have ih := names_l c l hc hN j (i + 1) (by omega)
    refine Tot.eq ?_
    refine .pos (dec_lt hi) (.pos (ix_ok (by rw [hc]; simpa using hi)) ?_)
    rw [hc, Int.toNat_natCast, rowsAt_map _ _ _ hi, at_str, toS_str, List.drop_eq_getElem_cons hi, wrap_nat (show i ≤ big by omega), namesGo]
    refine .eqbind (name_spec _) ?_
    simp only [rowsAt_zero, at_zero, toB_bool]
    cases hn : nm l[i] with
    | false => simp only [Bool.not_false, if_true]; exact .some rfl
    | true =>
      simp only [Bool.not_true, Bool.false_eq_true, if_false, if_true]
      refine .pos ⟨by omega, by omega, by rw [List.length_map]; omega⟩ ?_
      refine .eqbind (contains_spec _ _ (l.take i) (slc_rows hc i) (by simp; omega)) ?_
      simp only [rowsAt_zero, at_zero, toB_bool, ih, List.take_add_one, List.getElem?_eq_getElem hi, Option.toList_some]
      by_cases hm : l[i] ∈ l.take i
      · simp only [hm, decide_true, if_true]; exact .some rfl
      · simp only [hm, decide_false, Bool.false_eq_true, if_false]; exact .some rfl
theorem names_spec (c : C) (l : List Bytes) (hc : c.rows = l.map strRow) (hN : l.length ≤ big) : (lim T).pc n_lens_names [[c]] = some [[.int (namesE l)]] := by
  rw [lens_names_pc]; unfold lens_names namesE
  have := names_l c l hc hN l.length 0 (by omega)
  rw [List.take_zero, List.drop_zero] at this
  rw [hc, List.length_map]
  by_cases h : l = []
  · subst h; rfl
  · have hl : ¬ ((l.length : Int) == 0) = true := by
      have : l.length ≠ 0 := by simpa using h
      simp; exact h
    simp only [hl, Bool.false_eq_true, if_false, h]
    show (lens_names_l0 (lim T) c c (l.length : Int) ((0 : Nat) : Int)).bind _ = _
    rw [this]
    by_cases h0 : namesGo [] l = 0 <;> simp [h0]
/-! the map of what is seen -/
theorem ceq_s (a b : Bytes) : ceq lS.ks [.str a] [.str b] = (a == b) := by simp [L.ks, ceq]
theorem find_set (a b : Bytes) (v : Row) : ∀ m : List (Row × Row), (∀ p ∈ m, ∃ s, p.1 = [C.str s]) → findE lS [.str b] (setE lS [.str a] v m) = if b = a then some v else findE lS [.str b] m
  | [], _ => by
    simp only [setE, findE, ceq_s, beq_iff_eq]
  | (k, u) :: r, h => by
    obtain ⟨s, hs⟩ := h (k, u) (by simp)
    simp only at hs
    subst hs
    have ih := find_set a b v r fun p hp => h p (by simp [hp])
    simp only [setE, ceq_s, beq_iff_eq]
    by_cases e : a = s
    · subst e
      simp only [if_true, findE, ceq_s, beq_iff_eq]
      by_cases e2 : b = a <;> simp [e2]
    · simp only [e, if_false, findE, ceq_s, beq_iff_eq, ih]
      by_cases e2 : b = s
      · subst e2; simp [Ne.symm e]
      · simp [e2]
theorem keys_set (a : Bytes) (v : Row) : ∀ m : List (Row × Row), (∀ p ∈ m, ∃ s, p.1 = [C.str s]) → ∀ p ∈ setE lS [.str a] v m, ∃ s, p.1 = [C.str s]
  | [], _, p, hp => by simp only [setE, List.mem_singleton] at hp; subst hp; exact ⟨a, rfl⟩
  | (k, u) :: r, h, p, hp => by
    simp only [setE] at hp
    split at hp
    · rcases List.mem_cons.1 hp with e | e
      · subst e; exact h (k, u) (by simp)
      · exact h p (by simp [e])
    · rcases List.mem_cons.1 hp with e | e
      · subst e; exact h (k, u) (by simp)
      · exact keys_set a v r (fun p hp => h p (by simp [hp])) p e
/-- A set of texts, as a map. -/
structure SetM (zero one : C) (pre : List Bytes) (m : List (Row × Row)) : Prop where
  keys : ∀ p ∈ m, ∃ s, p.1 = [C.str s]
  look : ∀ s, (findE lS [.str s] m).getD [zero] = [if s ∈ pre then one else zero]
theorem SetM.nil {zero one : C} : SetM zero one [] [] := ⟨fun p h => absurd h (by simp), fun s => by simp [findE]⟩
theorem SetM.add {zero one : C} {pre : List Bytes} {m : List (Row × Row)} (h : SetM zero one pre m) (s : Bytes) : SetM zero one (pre ++ [s]) (setE lS [.str s] [one] m) := by
  refine ⟨keys_set s _ m h.keys, fun b => ?_⟩
  rw [find_set s b _ m h.keys]
  by_cases e : b = s
  · subst e; simp
  · simp only [e, if_false, h.look b, List.mem_append, List.mem_singleton, or_false]
theorem distinct_l (c : C) (l : List Bytes) (hc : c.rows = l.map strRow) (hN : l.length ≤ big) : ∀ (j i : Nat) (m : List (Row × Row)), i + j = l.length → SetM (.int 0) (.int 1) (l.take i) m →
    clapref3_distinct_l0 (lim T) c (l.length : Int) (i : Int) m = some (if namesGo (l.take i) (l.drop i) = 0 then (0, []) else (1, [.r [.int (namesGo (l.take i) (l.drop i))]]))
  | 0, i, m, h, hm => by
    rw [clapref3_distinct_l0_eq]; unfold clapref3_distinct_b0
    obtain rfl : i = l.length := by omega
    simp [namesGo]
  | j + 1, i, m, h, hm => by
    rw [clapref3_distinct_l0_eq]; unfold clapref3_distinct_b0
    have hi : i < l.length := by omega
    refine Tot.eq ?_
    refine .pos (dec_lt hi) (.pos (ix_ok (by rw [hc]; simpa using hi)) ?_)
    rw [hc, Int.toNat_natCast, rowsAt_map _ _ _ hi, at_str, toS_str, List.drop_eq_getElem_cons hi, wrap_nat (show i ≤ big by omega), namesGo]
    refine .eqbind (name_spec _) ?_
    simp only [rowsAt_zero, at_zero, toB_bool]
    cases hn : nm l[i] with
    | false => simp only [Bool.not_false, if_true]; exact .some rfl
    | true =>
      simp only [Bool.not_true, Bool.false_eq_true, if_false, if_true]
      rw [find_set _ _ _ m hm.keys, if_pos rfl, hm.look]
      by_cases hmm : l[i] ∈ l.take i
      · simp only [hmm, if_true, at_zero, toI_int, Option.getD_some]
        exact .some rfl
      · simp only [hmm, if_false, at_zero, toI_int, Option.getD_some]
        have ih := distinct_l c l hc hN j (i + 1) (setE lS [.str l[i]] [.int 1] m) (by omega) (by rw [List.take_add_one, List.getElem?_eq_getElem hi]; exact hm.add _)
        rw [List.take_add_one, List.getElem?_eq_getElem hi] at ih
        exact ⟨_, ih, rfl⟩
theorem distinct_spec (c : C) (l : List Bytes) (hc : c.rows = l.map strRow) (hN : l.length ≤ big) : (lim T).pc n_clapref3_distinct [[c]] = some [[.int (namesE l)]] := by
  rw [clapref3_distinct_pc]; unfold clapref3_distinct namesE
  have := distinct_l c l hc hN l.length 0 [] (by omega) .nil
  rw [List.take_zero, List.drop_zero] at this
  rw [hc, List.length_map]
  by_cases h : l = []
  · subst h; rfl
  · have hl : ¬ ((l.length : Int) == 0) = true := by
      simp; exact h
    simp only [hl, Bool.false_eq_true, if_false, h]
    show (clapref3_distinct_l0 (lim T) c (l.length : Int) ((0 : Nat) : Int) []).bind _ = _
    rw [this]
    by_cases h0 : namesGo [] l = 0 <;> simp [h0]
/-! numerals -/
def valD (l : List UInt8) : Nat := l.foldl (fun a d => 10 * a + (d.toNat - 48)) 0
theorem dig48 {k : Nat} (h : k < 10) : (UInt8.ofNat (48 + k)).toNat = 48 + k := by simp; omega
theorem valD_dec (u : Nat) : valD (Lib.decDigits u) = u := by
  rw [Lib.decDigits]
  split
  · rename_i h; simp only [valD, List.foldl_cons, List.foldl_nil, dig48 h]; omega
  · rename_i h
    have ih := valD_dec (u / 10)
    unfold valD at ih ⊢
    rw [List.foldl_append, ih, List.foldl_cons, List.foldl_nil, dig48 (by omega)]
    omega
  termination_by u
  decreasing_by omega
theorem dec_mem (u : Nat) : ∀ d ∈ Lib.decDigits u, 48 ≤ d.toNat := by
  rw [Lib.decDigits]
  split
  · rename_i h; intro d hd; simp only [List.mem_singleton] at hd; rw [hd, dig48 h]; omega
  · rename_i h
    intro d hd
    rcases List.mem_append.1 hd with e | e
    · exact dec_mem (u / 10) d e
    · simp only [List.mem_singleton] at e; rw [e, dig48 (by omega)]; omega
  termination_by u
  decreasing_by omega
theorem dec_inj {u v : Nat} (h : Lib.decDigits u = Lib.decDigits v) : u = v := by rw [← valD_dec u, h, valD_dec]
theorem itoa_inj {a b : Int} (h : Lib.itoa a = Lib.itoa b) : a = b := by
  unfold Lib.itoa at h
  split at h <;> split at h
  · have := dec_inj (List.cons.inj h).2; omega
  · have := dec_mem b.toNat 45 (by rw [← h]; simp)
    exact absurd this (by decide)
  · have := dec_mem a.toNat 45 (by rw [h]; simp)
    exact absurd this (by decide)
  · have := dec_inj h; omega
end Go.Ev.Zzl
namespace Go.Ev.Zzl
/-! pairs -/
noncomputable def chkE (v : Val) : Int := match (lim T).pc n_value_Check [v.row] with
  | some [[.int n]] => n
  | _ => 0
theorem chk_spec (v : Val) (hN : v.bulk ≤ big) : (lim T).pc n_value_Check [v.row] = some [[.int (chkE v)]] ∧ (chkE v = 0 → unusedB v = false) := by
  obtain ⟨n, h, h2⟩ := vcheck_tot v hN
  have e : chkE v = n := by unfold chkE; rw [h]
  rw [e]; exact ⟨h, h2⟩
noncomputable def patE (s : Bytes) : Int := match (lim T).pc n_pattern_Check [[.str s]] with
  | some [[.int n]] => n
  | _ => 0
theorem pat_spec (s : Bytes) : (lim T).pc n_pattern_Check [[.str s]] = some [[.int (patE s)]] := by
  obtain ⟨n, h⟩ := patCheck_tot s
  have e : patE s = n := by unfold patE; rw [h]
  rw [e]; exact h
def plainB (k : Int) : Bool := k == 1 || k == 2 || k == 4 || k == 5
theorem plain_spec (k : Int) : (lim T).pc n_lens_Plain [[.int k]] = some [[.bool (plainB k)]] := by
  rw [lens_Plain_pc]; unfold lens_Plain plainB
  cases (k == 1) <;> cases (k == 2) <;> cases (k == 4) <;> rfl
theorem rplain_spec (k : Int) : (lim T).pc n_clapref3_plain [[.int k]] = some [[.bool (plainB k)]] := by
  rw [clapref3_plain_pc]; unfold clapref3_plain plainB
  cases (k == 1) <;> cases (k == 2) <;> cases (k == 4) <;> cases (k == 5) <;> rfl
/-- What one value of a pair is worth, behind others. -/
noncomputable def oneE (k0 : Int) (seen : List Val) (v : Val) : Int := if chkE v ≠ 0 then chkE v else if (!plainB v.k || v.k != k0) = true then 8 else if seen.any (fun q => v.eqv q) = true then 5 else 0
noncomputable def pairsGo (k0 k1 : Int) : List (Val × Val) → List (Val × Val) → Int
  | _, [] => 0
  | pre, p :: r => if oneE k0 (pre.map Prod.fst) p.1 ≠ 0 then oneE k0 (pre.map Prod.fst) p.1 else if oneE k1 (pre.map Prod.snd) p.2 ≠ 0 then oneE k1 (pre.map Prod.snd) p.2 else pairsGo k0 k1 (pre ++ [p]) r
noncomputable def pairsE : List (Val × Val) → Int
  | [] => 3
  | p :: r => if r.length ≥ 40 then 2 else pairsGo p.1.k p.2.k [] (p :: r)
def pk (p : Val × Val) : Nat → Val
  | 0 => p.1
  | _ => p.2
theorem pk_row (p : Val × Val) {k : Nat} (hk : k < 2) : ([at_ (pairRow p) ((k : Int).toNat * 4), at_ (pairRow p) ((k : Int).toNat * 4 + 1), at_ (pairRow p) ((k : Int).toNat * 4 + 2), at_ (pairRow p) ((k : Int).toNat * 4 + 3)] : Row) = (pk p k).row := by
  match k, hk with
  | 0, _ => rfl
  | 1, _ => rfl
theorem pk_k (p : Val × Val) {k : Nat} (hk : k < 2) : (at_ (pairRow p) ((k : Int).toNat * 4)).toI = (pk p k).k := by
  match k, hk with
  | 0, _ => rfl
  | 1, _ => rfl
/-- Pairs that are as they should be. -/
structure PairsOk (l : List (Val × Val)) : Prop where
  wf : ∀ p ∈ l, ∀ k, (pk p k).wf
  bulk : ∀ p ∈ l, ∀ k, (pk p k).bulk ≤ big
  len : l.length ≤ big
theorem slcP_rows {c : C} {l : List (Val × Val)} (hc : c.rows = l.map pairRow) (i : Nat) : (slcC c 0 (i : Int)).rows = (l.take i).map pairRow := by
  cases c <;> simp [slcC, C.rows] at hc ⊢ <;> simp [← List.map_take, hc]
theorem lpairs_l2 (v0 v4 : C) (v1 v5 v6 v7 : Int) (p : Val × Val) (k : Nat) (hk : k < 2) (c : C) (l : List (Val × Val)) (hc : c.rows = l.map pairRow) (hp : (pk p k).wf ∧ (pk p k).bulk ≤ big) (hl : PairsOk l) : ∀ (j i : Nat), i + j = l.length →
    lens_pairs_l2 (lim T) v0 v1 (.dp (pairRow p)) (k : Int) v4 v5 v6 v7 c (l.length : Int) (i : Int) = some (if (l.drop i).any (fun q => (pk p k).eqv (pk q k)) = true then (1, [.r [.int 5]]) else (0, [.r [v0], .r [.int v1], .r [.dp (pairRow p)], .r [v4], .r [.int v5], .r [.int v6], .r [.int v7]]))
  | 0, i, h => by
    rw [lens_pairs_l2_eq]; unfold lens_pairs_b2
    obtain rfl : i = l.length := by omega
    simp
  | j + 1, i, h => by
    rw [lens_pairs_l2_eq]; unfold lens_pairs_b2
    have hi : i < l.length := by omega
    have ih := lpairs_l2 v0 v4 v1 v5 v6 v7 p k hk c l hc hp hl j (i + 1) (by omega)
    refine Tot.eq ?_
    refine .pos (dec_lt hi) (.pos (ix_ok (by rw [hc]; simpa using hi)) ?_)
    refine .pos ⟨by omega, by omega, rfl⟩ (.pos ⟨by omega, by omega, rfl⟩ ?_)
    rw [show rowsAt c.rows (i : Int).toNat = pairRow l[i] from (by rw [hc, Int.toNat_natCast]; exact rowsAt_map _ _ _ hi), wrap_nat (show i ≤ big by have := hl.len; omega)]
    have e : (lim T).pc n_value_Same [(pk p k).row, (pk l[i] k).row] = some [[.bool ((pk p k).eqv (pk l[i] k))]] := same_spec _ _ hp.1 (hl.wf _ (List.getElem_mem hi) k) hp.2
    rw [← pk_row p hk, ← pk_row l[i] hk] at e
    refine .eqbind e ?_
    rw [ih, List.drop_eq_getElem_cons hi, List.any_cons]
    simp only [rowsAt_zero, at_zero, toB_bool]
    cases (pk p k).eqv (pk l[i] k) with
    | true => simp only [if_true, Bool.true_or]; exact .some rfl
    | false => simp only [Bool.false_eq_true, if_false, Bool.false_or]; exact .some rfl
theorem map_any {α β : Type} (f : α → β) (g : β → Bool) (l : List α) : (l.map f).any g = l.any (fun a => g (f a)) := by simp [List.any_map, Function.comp_def]
theorem lpairs_l1 (c : C) (l : List (Val × Val)) (hc : c.rows = l.map pairRow) (hl : PairsOk l) (i : Nat) (hi : i < l.length) (k : Nat) (hk : k < 2) :
    lens_pairs_l1 (lim T) c (i : Int) (.dp (pairRow l[i])) c (l.length : Int) (i : Int) (k : Int) =
      if oneE (pk (l[0]'(by omega)) k).k ((l.take i).map (fun p => pk p k)) (pk l[i] k) ≠ 0 then some (1, [.r [.int (oneE (pk (l[0]'(by omega)) k).k ((l.take i).map (fun p => pk p k)) (pk l[i] k))]])
      else lens_pairs_l1 (lim T) c (i : Int) (.dp (pairRow l[i])) c (l.length : Int) (i : Int) ((k + 1 : Nat) : Int) := by
  rw [lens_pairs_l1_eq]; unfold lens_pairs_b1
  have hmem := List.getElem_mem hi
  have hb := hl.bulk _ hmem k
  obtain ⟨hcs, -⟩ := chk_spec _ hb
  rw [← pk_row _ hk] at hcs
  have hgu : (0 : Int) ≤ (k : Int) ∧ (k : Int) < 2 ∧ (C.dp (pairRow l[i])).isDp = true := ⟨by omega, by omega, rfl⟩
  rw [if_pos (show decide ((k : Int) < 2) = true by simp; omega), if_pos hgu]
  simp only [dpRow_dp]
  rw [hcs]
  simp only [Option.bind_some, rowsAt_zero, at_zero, toI_int]
  by_cases h0 : chkE (pk l[i] k) = 0
  · have hne : ¬ (chkE (pk l[i] k) != 0) = true := by simp [h0]
    simp only [hne, if_false, if_pos hgu, pk_k _ hk, plain_spec, Option.bind_some, rowsAt_zero, at_zero, toB_bool]
    have hr0 : rowsAt c.rows 0 = pairRow (l[0]'(by omega)) := by rw [hc]; exact rowsAt_map _ _ _ (by omega)
    have hlen : (0 : Int) ≤ 0 ∧ (0 : Int) < (c.rows.length : Int) := ⟨by omega, by rw [hc, List.length_map]; omega⟩
    have hgu0 : (0 : Int) ≤ (k : Int) ∧ (k : Int) < 2 ∧ (C.dp (pairRow (l[0]'(by omega)))).isDp = true := ⟨by omega, by omega, rfl⟩
    simp only [if_pos hlen, if_pos hgu0, hr0, pk_k _ hk]
    have hguS : (0 : Int) ≤ 0 ∧ (0 : Int) ≤ (i : Int) ∧ (i : Int) ≤ (c.rows.length : Int) := ⟨by omega, by omega, by rw [hc, List.length_map]; omega⟩
    have h2 := lpairs_l2 c c (i : Int) (l.length : Int) (i : Int) (k : Int) l[i] k hk (slcC c 0 (i : Int)) (l.take i) (slcP_rows hc i) ⟨hl.wf _ hmem k, hb⟩ ⟨fun p hp => hl.wf p (List.mem_of_mem_take hp), fun p hp => hl.bulk p (List.mem_of_mem_take hp), by have := hl.len; simp; omega⟩ (l.take i).length 0 (by omega)
    rw [List.drop_zero, show ((0 : Nat) : Int) = 0 from rfl] at h2
    have hsl : ((slcC c 0 (i : Int)).rows.length : Int) = ((l.take i).length : Int) := by rw [slcP_rows hc i, List.length_map]
    unfold oneE
    simp only [h0, ne_eq, not_true_eq_false, if_false]
    rw [map_any]
    cases hpl : plainB (pk l[i] k).k with
    | false => simp
    | true =>
      cases hkk : (pk l[i] k).k != (pk (l[0]'(by omega)) k).k with
      | true => rfl
      | false =>
        simp only [Bool.not_true, Bool.false_eq_true, if_false, Option.bind_some, gB_s, gB_z, gI_s, gI_z, gC_s, gC_z, Bool.false_or, if_pos hguS, hsl]
        rw [h2]
        cases (l.take i).any fun q => (pk l[i] k).eqv (pk q k) with
        | true => simp
        | false =>
          simp only [Bool.false_eq_true, if_false, Option.bind_some, gI_s, gI_z, gC_s, gC_z, wrap_nat (show k ≤ big by unfold big; omega)]
          simp
  · have hne : (chkE (pk l[i] k) != 0) = true := by simp [h0]
    unfold oneE
    simp [hne, h0]

theorem lpairs_l1e (c : C) (l : List (Val × Val)) (hc : c.rows = l.map pairRow) (hl : PairsOk l) (i : Nat) (hi : i < l.length) :
    lens_pairs_l1 (lim T) c (i : Int) (.dp (pairRow l[i])) c (l.length : Int) (i : Int) 2 = some (0, [.r [c], .r [c], .r [.int (l.length : Int)], .r [.int (i : Int)]]) := by
  rw [lens_pairs_l1_eq]; unfold lens_pairs_b1
  rfl
theorem lpairs_l0 (c : C) (p0 : Val × Val) (r0 : List (Val × Val)) (hc : c.rows = (p0 :: r0).map pairRow) (hl : PairsOk (p0 :: r0)) : ∀ (j i : Nat), i + j = (p0 :: r0).length →
    lens_pairs_l0 (lim T) c c ((p0 :: r0).length : Int) (i : Int) = some (if pairsGo p0.1.k p0.2.k ((p0 :: r0).take i) ((p0 :: r0).drop i) = 0 then (0, []) else (1, [.r [.int (pairsGo p0.1.k p0.2.k ((p0 :: r0).take i) ((p0 :: r0).drop i))]]))
  | 0, i, h => by
    rw [lens_pairs_l0_eq]; unfold lens_pairs_b0
    obtain rfl : i = (p0 :: r0).length := by omega
    rw [List.drop_length]
    simp [pairsGo]
  | j + 1, i, h => by
    rw [lens_pairs_l0_eq]; unfold lens_pairs_b0
    generalize hL : p0 :: r0 = L at hc hl h ⊢
    have hi : i < L.length := by omega
    have ih := lpairs_l0 c p0 r0 (by rw [hL]; exact hc) (by rw [hL]; exact hl) j (i + 1) (by rw [hL]; omega)
    rw [hL, List.take_add_one, List.getElem?_eq_getElem hi, Option.toList_some] at ih
    have e0 : L[0]'(by omega) = p0 := by subst hL; rfl
    have l1 := lpairs_l1 c L hc hl i hi 0 (by omega)
    have l2 := lpairs_l1 c L hc hl i hi 1 (by omega)
    rw [e0] at l1 l2
    refine Tot.eq ?_
    refine .pos (dec_lt hi) (.pos (ix_ok (by rw [hc]; simpa using hi)) ?_)
    rw [show rowsAt c.rows (i : Int).toNat = pairRow L[i] from (by rw [hc, Int.toNat_natCast]; exact rowsAt_map _ _ _ hi), List.drop_eq_getElem_cons hi, pairsGo]
    rw [show ((0 : Nat) : Int) = 0 from rfl] at l1
    rw [l1, l2]
    simp only [show (((1 + 1 : Nat)) : Int) = 2 from rfl, lpairs_l1e c L hc hl i hi]
    show Tot (fun r => r = (if (if oneE p0.1.k ((L.take i).map Prod.fst) L[i].1 ≠ 0 then oneE p0.1.k ((L.take i).map Prod.fst) L[i].1 else if oneE p0.2.k ((L.take i).map Prod.snd) L[i].2 ≠ 0 then oneE p0.2.k ((L.take i).map Prod.snd) L[i].2 else pairsGo p0.1.k p0.2.k (L.take i ++ [L[i]]) (L.drop (i + 1))) = 0 then (0, []) else _)) (Option.bind (if oneE p0.1.k ((L.take i).map Prod.fst) L[i].1 ≠ 0 then some (1, [PV.r [C.int (oneE p0.1.k ((L.take i).map Prod.fst) L[i].1)]]) else if oneE p0.2.k ((L.take i).map Prod.snd) L[i].2 ≠ 0 then some (1, [PV.r [C.int (oneE p0.2.k ((L.take i).map Prod.snd) L[i].2)]]) else _) _)
    by_cases h1 : oneE p0.1.k ((L.take i).map Prod.fst) L[i].1 = 0
    · by_cases h2 : oneE p0.2.k ((L.take i).map Prod.snd) L[i].2 = 0
      · simp only [h1, h2, ne_eq, not_true_eq_false, if_false, Option.bind_some, gI_s, gI_z, gC_s, gC_z, wrap_nat (show i ≤ big by have := hl.len; omega), ih]
        exact .some rfl
      · simp only [h1, h2, ne_eq, not_true_eq_false, not_false_eq_true, if_false, if_true, Option.bind_some, gI_z]
        exact .some rfl
    · simp only [h1, ne_eq, not_false_eq_true, if_false, if_true, Option.bind_some, gI_z]
      exact .some rfl
theorem lpairs_spec (c : C) (l : List (Val × Val)) (hc : c.rows = l.map pairRow) (hl : PairsOk l) : (lim T).pc n_lens_pairs [[c]] = some [[.int (pairsE l)]] := by
  rw [lens_pairs_pc]; unfold lens_pairs
  rw [hc, List.length_map]
  cases l with
  | nil => rfl
  | cons p r =>
    rw [pairsE]
    have h0 : ¬ (((p :: r).length : Int) == 0) = true := by simp; omega
    rw [if_neg h0]
    by_cases h1 : r.length ≥ 40
    · rw [if_pos (show decide (((p :: r).length : Int) > 40) = true by simp; omega), if_pos h1]
    · rw [if_neg (show ¬ decide (((p :: r).length : Int) > 40) = true by simp; omega), if_neg h1]
      have := lpairs_l0 c p r hc hl (p :: r).length 0 (by omega)
      rw [List.take_zero, List.drop_zero, show ((0 : Nat) : Int) = 0 from rfl] at this
      rw [this]
      by_cases h2 : pairsGo p.1.k p.2.k [] (p :: r) = 0 <;> simp [h2]
end Go.Ev.Zzl
namespace Go.Ev.Zzl
/-! the reference's pairs -/
def idB (v : Val) : Bytes := Lib.itoa v.n ++ [32] ++ v.s
structure GoodV (k0 : Int) (v : Val) : Prop where
  u : unusedB v = false
  p : plainB v.k = true
  k : v.k = k0
theorem id_eqv {k0 : Int} {v q : Val} (hv : GoodV k0 v) (hq : GoodV k0 q) : idB v = idB q ↔ v.eqv q = true := by
  have hk := hv.k.trans hq.k.symm
  have hp := hv.p
  have fs0 : ∀ {x : Val}, unusedB x = false → plainB x.k = true → x.fs = [] := by
    intro x hu hp
    unfold unusedB at hu
    have hs : scaK x.k = true := by
      unfold plainB at hp; unfold scaK
      simp at hp ⊢; omega
    simp [hs] at hu
    exact hu.2
  have s0 : ∀ {x : Val}, unusedB x = false → x.k ≠ 5 → x.s = [] := by
    intro x hu h5
    unfold unusedB at hu
    simp [h5] at hu
    exact hu.1.2
  have n0 : ∀ {x : Val}, unusedB x = false → x.k = 5 → x.n = 0 := by
    intro x hu h5
    unfold unusedB at hu
    have : numK x.k = false := by rw [h5]; rfl
    simp [this] at hu
    exact hu.1.1
  rw [Val.eqv_eq, fs0 hv.u hv.p, fs0 hq.u hq.p]
  have hkk : (v.k == q.k) = true := by simp [hk]
  simp only [hkk, all2, Bool.true_and, Bool.and_true, Bool.and_eq_true, beq_iff_eq]
  unfold idB
  by_cases h5 : v.k = 5
  · rw [n0 hv.u h5, n0 hq.u (hk ▸ h5)]
    constructor
    · intro h; exact ⟨rfl, List.append_cancel_left h⟩
    · intro h; rw [h.2]
  · rw [s0 hv.u h5, s0 hq.u (hk ▸ h5)]
    constructor
    · intro h
      rw [List.append_nil, List.append_nil] at h
      exact ⟨itoa_inj (List.append_cancel_right h), rfl⟩
    · intro h; rw [h.1]
theorem id_mem {k0 : Int} {v : Val} (hv : GoodV k0 v) : ∀ {pre : List Val}, (∀ q ∈ pre, GoodV k0 q) → decide (idB v ∈ pre.map idB) = pre.any (fun q => v.eqv q)
  | [], _ => by simp
  | q :: r, h => by
    have ih := id_mem hv (pre := r) fun x hx => h x (by simp [hx])
    have e := id_eqv hv (h q (by simp))
    rw [List.any_cons, ← ih, List.map_cons]
    cases he : v.eqv q with
    | true => simp [e.2 he]
    | false =>
      have : ¬ idB v = idB q := fun h => by rw [e.1 h] at he; cases he
      simp [this]
theorem one_good {k0 : Int} {seen : List Val} {v : Val} (hb : v.bulk ≤ big) (h : oneE k0 seen v = 0) : GoodV k0 v := by
  unfold oneE at h
  by_cases h0 : chkE v = 0
  · simp only [h0, ne_eq, not_true_eq_false, if_false] at h
    split at h
    · omega
    · rename_i hn
      refine ⟨(chk_spec v hb).2 h0, ?_, ?_⟩
      · cases hp : plainB v.k
        · simp [hp] at hn
        · rfl
      · simp at hn; exact hn.2
  · simp only [ne_eq, h0, not_false_eq_true, if_true] at h
theorem itoa_spec {n : Int} (h : inI64 n) : (lim T).pc n_strconv_Itoa [[.int n]] = some [[.str (Lib.itoa n)]] := by
  refine (lim_given T (rfl : T n_strconv_Itoa = .given _ _ itoaG) _).trans ?_
  obtain ⟨h1, h2⟩ := h
  exact if_pos ⟨by omega, by omega⟩

theorem rpairs_l1_0 (c : C) (len i : Int) (p p0 : Val × Val) (hc : rowsAt c.rows 0 = pairRow p0) (hc0 : 0 < c.rows.length) (m0 m1 : List (Row × Row)) (pre : List Val) (hm : SetM (.bool false) (.bool true) (pre.map idB) m0) (hpre : ∀ q ∈ pre, GoodV p0.1.k q) (hb : p.1.bulk ≤ big) (hw : p.1.wf) :
    clapref3_Pairs_l1 (lim T) c c len i (pairRow p) 0 m0 m1 = if oneE p0.1.k pre p.1 ≠ 0 then some (1, [PV.r [C.int (oneE p0.1.k pre p.1)]]) else clapref3_Pairs_l1 (lim T) c c len i (pairRow p) 1 (setE lS [.str (idB p.1)] [.bool true] m0) m1 := by
  rw [clapref3_Pairs_l1_eq]; unfold clapref3_Pairs_b1
  obtain ⟨hcs, -⟩ := chk_spec _ hb
  have hrow : ([at_ (pairRow p) ((0 : Int).toNat * 4), at_ (pairRow p) ((0 : Int).toNat * 4 + 1), at_ (pairRow p) ((0 : Int).toNat * 4 + 2), at_ (pairRow p) ((0 : Int).toNat * 4 + 3)] : Row) = p.1.row := rfl
  have hkk : (at_ (pairRow p) ((0 : Int).toNat * 4)).toI = p.1.k := rfl
  have hkk0 : (at_ (pairRow p0) ((0 : Int).toNat * 4)).toI = p0.1.k := rfl
  rw [if_pos (show decide ((0 : Int) < 2) = true from rfl), if_pos (show (0 : Int) ≤ 0 ∧ (0 : Int) < 2 by omega)]
  have hlen : (0 : Int) ≤ 0 ∧ (0 : Int) < (c.rows.length : Int) := ⟨by omega, by omega⟩
  have hg2 : (0 : Int) ≤ 0 ∧ (0 : Int) < 2 ∧ (C.dp (pairRow p0)).isDp = true := ⟨by omega, by omega, rfl⟩
  simp only [hrow, hcs, Option.bind_some, rowsAt_zero, at_zero, toI_int, hkk, rplain_spec, toB_bool, if_pos hlen, hc, if_pos hg2, hkk0]
  by_cases h0 : chkE p.1 = 0
  · have hne : ¬ (chkE p.1 != 0) = true := by simp [h0]
    simp only [hne, if_false]
    cases hp : plainB p.1.k with
    | false =>
      unfold oneE
      simp [h0, hp]
    | true =>
      cases hk : (p.1.k != p0.1.k) with
      | true =>
        have hone : oneE p0.1.k pre p.1 = 8 := by unfold oneE; simp only [h0, ne_eq, not_true_eq_false, if_false, hp, hk, Bool.not_true, Bool.false_or, if_true]
        rw [hone]
        rfl
      | false =>
        have hgood : GoodV p0.1.k p.1 := ⟨(chk_spec _ hb).2 h0, hp, by simpa using hk⟩
        have hl1 := Lib.itoa_length_le p.1.n (Val.wf_n hw).1 (by have := (Val.wf_n hw).2; omega)
        have hl2 : p.1.s.length ≤ big := by have := p.1.bulk_eq; omega
        have g1 : (Lib.itoa p.1.n).length + ([32] : List UInt8).length ≤ 1099511627776 := by simp; omega
        have g2 : (Lib.itoa p.1.n ++ ([32] : List UInt8)).length + p.1.s.length ≤ 1099511627776 := by unfold big at hl2; simp; omega
        have a1 : at_ p.1.row 1 = .int p.1.n := rfl
        have a2 : at_ p.1.row 2 = .str p.1.s := rfl
        have hid : Lib.itoa p.1.n ++ ([32] : List UInt8) ++ p.1.s = idB p.1 := rfl
        have hone : oneE p0.1.k pre p.1 = if pre.any (fun q => p.1.eqv q) = true then 5 else 0 := by unfold oneE; simp only [h0, ne_eq, not_true_eq_false, if_false, hp, hk, Bool.not_true, Bool.false_or, Bool.false_eq_true]
        have hw1 : IntKind.wrap .i64 ((0 : Int) + 1) = 1 := rfl
        rw [hone, ← id_mem hgood hpre]
        simp only [Bool.not_true, Bool.false_eq_true, if_false, Option.bind_some, gR_s, gR_z, gB_s, gB_z, gI_s, gI_z, gC_s, gC_z, gM_s, gM_z, a1, a2, toI_int, toS_str, itoa_spec (Val.wf_n hw), rowsAt_zero, at_zero, if_pos g1, if_pos g2, hid, hm.look, toB_bool, if_true, hw1, (by decide : ¬ (1 : Int) = 0)]
        by_cases hmem : idB p.1 ∈ pre.map idB
        · simp [hmem]
        · simp [hmem]
  · have hne : (chkE p.1 != 0) = true := by simp [h0]
    unfold oneE
    simp [hne, h0]

theorem rpairs_l1_1 (c : C) (len i : Int) (p p0 : Val × Val) (hc : rowsAt c.rows 0 = pairRow p0) (hc0 : 0 < c.rows.length) (m0 m1 : List (Row × Row)) (pre : List Val) (hm : SetM (.bool false) (.bool true) (pre.map idB) m1) (hpre : ∀ q ∈ pre, GoodV p0.2.k q) (hb : p.2.bulk ≤ big) (hw : p.2.wf) :
    clapref3_Pairs_l1 (lim T) c c len i (pairRow p) 1 m0 m1 = if oneE p0.2.k pre p.2 ≠ 0 then some (1, [PV.r [C.int (oneE p0.2.k pre p.2)]]) else clapref3_Pairs_l1 (lim T) c c len i (pairRow p) 2 m0 (setE lS [.str (idB p.2)] [.bool true] m1) := by
  rw [clapref3_Pairs_l1_eq]; unfold clapref3_Pairs_b1
  obtain ⟨hcs, -⟩ := chk_spec _ hb
  have hrow : ([at_ (pairRow p) ((1 : Int).toNat * 4), at_ (pairRow p) ((1 : Int).toNat * 4 + 1), at_ (pairRow p) ((1 : Int).toNat * 4 + 2), at_ (pairRow p) ((1 : Int).toNat * 4 + 3)] : Row) = p.2.row := rfl
  have hkk : (at_ (pairRow p) ((1 : Int).toNat * 4)).toI = p.2.k := rfl
  have hkk0 : (at_ (pairRow p0) ((1 : Int).toNat * 4)).toI = p0.2.k := rfl
  rw [if_pos (show decide ((1 : Int) < 2) = true from rfl), if_pos (show (0 : Int) ≤ 1 ∧ (1 : Int) < 2 by omega)]
  have hlen : (0 : Int) ≤ 0 ∧ (0 : Int) < (c.rows.length : Int) := ⟨by omega, by omega⟩
  have hg2 : (0 : Int) ≤ 1 ∧ (1 : Int) < 2 ∧ (C.dp (pairRow p0)).isDp = true := ⟨by omega, by omega, rfl⟩
  simp only [hrow, hcs, Option.bind_some, rowsAt_zero, at_zero, toI_int, hkk, rplain_spec, toB_bool, if_pos hlen, hc, if_pos hg2, hkk0]
  by_cases h0 : chkE p.2 = 0
  · have hne : ¬ (chkE p.2 != 0) = true := by simp [h0]
    simp only [hne, if_false]
    cases hp : plainB p.2.k with
    | false =>
      unfold oneE
      simp [h0, hp]
    | true =>
      cases hk : (p.2.k != p0.2.k) with
      | true =>
        have hone : oneE p0.2.k pre p.2 = 8 := by unfold oneE; simp only [h0, ne_eq, not_true_eq_false, if_false, hp, hk, Bool.not_true, Bool.false_or, if_true]
        rw [hone]
        rfl
      | false =>
        have hgood : GoodV p0.2.k p.2 := ⟨(chk_spec _ hb).2 h0, hp, by simpa using hk⟩
        have hl1 := Lib.itoa_length_le p.2.n (Val.wf_n hw).1 (by have := (Val.wf_n hw).2; omega)
        have hl2 : p.2.s.length ≤ big := by have := p.2.bulk_eq; omega
        have g1 : (Lib.itoa p.2.n).length + ([32] : List UInt8).length ≤ 1099511627776 := by simp; omega
        have g2 : (Lib.itoa p.2.n ++ ([32] : List UInt8)).length + p.2.s.length ≤ 1099511627776 := by unfold big at hl2; simp; omega
        have a1 : at_ p.2.row 1 = .int p.2.n := rfl
        have a2 : at_ p.2.row 2 = .str p.2.s := rfl
        have hid : Lib.itoa p.2.n ++ ([32] : List UInt8) ++ p.2.s = idB p.2 := rfl
        have hone : oneE p0.2.k pre p.2 = if pre.any (fun q => p.2.eqv q) = true then 5 else 0 := by unfold oneE; simp only [h0, ne_eq, not_true_eq_false, if_false, hp, hk, Bool.not_true, Bool.false_or, Bool.false_eq_true]
        have hw1 : IntKind.wrap .i64 ((1 : Int) + 1) = 2 := rfl
        rw [hone, ← id_mem hgood hpre]
        simp only [Bool.not_true, Bool.false_eq_true, if_false, Option.bind_some, gR_s, gR_z, gB_s, gB_z, gI_s, gI_z, gC_s, gC_z, gM_s, gM_z, a1, a2, toI_int, toS_str, itoa_spec (Val.wf_n hw), rowsAt_zero, at_zero, if_pos g1, if_pos g2, hid, hm.look, toB_bool, if_true, hw1, (by decide : ¬ (1 : Int) = 0)]
        by_cases hmem : idB p.2 ∈ pre.map idB
        · simp [hmem]
        · simp [hmem]
  · have hne : (chkE p.2 != 0) = true := by simp [h0]
    unfold oneE
    simp [hne, h0]

theorem rpairs_l0 (c : C) (p0 : Val × Val) (r0 : List (Val × Val)) (hc : c.rows = (p0 :: r0).map pairRow) (hl : PairsOk (p0 :: r0)) : ∀ (j i : Nat) (m0 m1 : List (Row × Row)), i + j = (p0 :: r0).length →
    SetM (.bool false) (.bool true) (((p0 :: r0).take i).map fun p => idB p.1) m0 → SetM (.bool false) (.bool true) (((p0 :: r0).take i).map fun p => idB p.2) m1 → (∀ p ∈ (p0 :: r0).take i, GoodV p0.1.k p.1 ∧ GoodV p0.2.k p.2) →
    clapref3_Pairs_l0 (lim T) c c ((p0 :: r0).length : Int) (i : Int) m0 m1 = some (if pairsGo p0.1.k p0.2.k ((p0 :: r0).take i) ((p0 :: r0).drop i) = 0 then (0, []) else (1, [.r [.int (pairsGo p0.1.k p0.2.k ((p0 :: r0).take i) ((p0 :: r0).drop i))]]))
  | 0, i, m0, m1, h, _, _, _ => by
    rw [clapref3_Pairs_l0_eq]; unfold clapref3_Pairs_b0
    obtain rfl : i = (p0 :: r0).length := by omega
    rw [List.drop_length]
    simp [pairsGo]
  | j + 1, i, m0, m1, h, hm0, hm1, hg => by
    rw [clapref3_Pairs_l0_eq]; unfold clapref3_Pairs_b0
    have ih := fun m0 m1 => rpairs_l0 c p0 r0 hc hl j (i + 1) m0 m1 (by omega)
    generalize hL : p0 :: r0 = L at hc hl h hm0 hm1 hg ih ⊢
    have hi : i < L.length := by omega
    rw [List.take_add_one, List.getElem?_eq_getElem hi, Option.toList_some] at ih
    have hc0 : rowsAt c.rows 0 = pairRow p0 := by rw [hc, ← hL]; rfl
    have hcl : 0 < c.rows.length := by rw [hc, List.length_map]; omega
    have hmem := List.getElem_mem hi
    have e1 : ((L.take i).map Prod.fst).map idB = (L.take i).map fun p => idB p.1 := by rw [List.map_map]; rfl
    have e2 : ((L.take i).map Prod.snd).map idB = (L.take i).map fun p => idB p.2 := by rw [List.map_map]; rfl
    have l1 := rpairs_l1_0 c (L.length : Int) (i : Int) L[i] p0 hc0 hcl m0 m1 ((L.take i).map Prod.fst) (e1 ▸ hm0) (fun q hq => by obtain ⟨p, hp, rfl⟩ := List.mem_map.1 hq; exact (hg p hp).1) (hl.bulk _ hmem 0) (hl.wf _ hmem 0)
    have l2 := rpairs_l1_1 c (L.length : Int) (i : Int) L[i] p0 hc0 hcl (setE lS [.str (idB L[i].1)] [.bool true] m0) m1 ((L.take i).map Prod.snd) (e2 ▸ hm1) (fun q hq => by obtain ⟨p, hp, rfl⟩ := List.mem_map.1 hq; exact (hg p hp).2) (hl.bulk _ hmem 1) (hl.wf _ hmem 1)
    have l3 : clapref3_Pairs_l1 (lim T) c c (L.length : Int) (i : Int) (pairRow L[i]) 2 (setE lS [.str (idB L[i].1)] [.bool true] m0) (setE lS [.str (idB L[i].2)] [.bool true] m1) = some (0, [.r [c], .r [c], .r [.int (L.length : Int)], .r [.int (i : Int)], .m (setE lS [.str (idB L[i].1)] [.bool true] m0), .m (setE lS [.str (idB L[i].2)] [.bool true] m1)]) := by
      rw [clapref3_Pairs_l1_eq]; unfold clapref3_Pairs_b1; rfl
    refine Tot.eq ?_
    refine .pos (dec_lt hi) (.pos (ix_ok (by rw [hc]; simpa using hi)) ?_)
    rw [show rowsAt c.rows (i : Int).toNat = pairRow L[i] from (by rw [hc, Int.toNat_natCast]; exact rowsAt_map _ _ _ hi), List.drop_eq_getElem_cons hi, pairsGo]
    rw [l1, l2, l3]
    by_cases h1 : oneE p0.1.k ((L.take i).map Prod.fst) L[i].1 = 0
    · by_cases h2 : oneE p0.2.k ((L.take i).map Prod.snd) L[i].2 = 0
      · simp only [h1, h2, ne_eq, not_true_eq_false, if_false, Option.bind_some, gI_s, gI_z, gC_s, gC_z, gM_s, gM_z, wrap_nat (show i ≤ big by have := hl.len; omega)]
        have := ih (setE lS [.str (idB L[i].1)] [.bool true] m0) (setE lS [.str (idB L[i].2)] [.bool true] m1) (by rw [List.map_append, List.map_cons, List.map_nil]; exact hm0.add _) (by rw [List.map_append, List.map_cons, List.map_nil]; exact hm1.add _) (by
          intro p hp
          rcases List.mem_append.1 hp with e | e
          · exact hg p e
          · simp only [List.mem_singleton] at e
            subst e
            exact ⟨one_good (hl.bulk _ hmem 0) h1, one_good (hl.bulk _ hmem 1) h2⟩)
        exact ⟨_, this, rfl⟩
      · simp only [h1, h2, ne_eq, not_true_eq_false, not_false_eq_true, if_false, if_true, Option.bind_some, gI_z]
        exact .some rfl
    · simp only [h1, ne_eq, not_false_eq_true, if_false, if_true, Option.bind_some, gI_z]
      exact .some rfl
theorem rpairs_spec (c : C) (l : List (Val × Val)) (hc : c.rows = l.map pairRow) (hl : PairsOk l) : (lim T).pc n_clapref3_Pairs [[c]] = some [[.int (pairsE l)]] := by
  rw [clapref3_Pairs_pc]; unfold clapref3_Pairs
  rw [hc, List.length_map]
  cases l with
  | nil => rfl
  | cons p r =>
    rw [pairsE]
    have h0 : ¬ (((p :: r).length : Int) == 0) = true := by simp; omega
    rw [if_neg h0]
    by_cases h1 : r.length ≥ 40
    · rw [if_pos (show decide (((p :: r).length : Int) > 40) = true by simp; omega), if_pos h1]
    · rw [if_neg (show ¬ decide (((p :: r).length : Int) > 40) = true by simp; omega), if_neg h1]
      have := rpairs_l0 c p r hc hl (p :: r).length 0 [] [] (by omega) (by simpa using SetM.nil) (by simpa using SetM.nil) (by simp)
      rw [List.take_zero, List.drop_zero, show ((0 : Nat) : Int) = 0 from rfl] at this
      rw [this]
      by_cases h2 : pairsGo p.1.k p.2.k [] (p :: r) = 0 <;> simp [h2]
end Go.Ev.Zzl
