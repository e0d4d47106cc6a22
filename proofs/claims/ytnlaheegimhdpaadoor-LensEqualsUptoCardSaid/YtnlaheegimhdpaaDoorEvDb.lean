/-
  Values and lenses as data, their rows, and the readings that are such rows.
-/
import Derived.Test.YtnlaheegimhdpaaDoorEvDa
set_option linter.all false
namespace Go.Ev
abbrev Bytes := List UInt8

section simps
@[simp] theorem at_zero (c : C) (r : Row) : at_ (c :: r) 0 = c := rfl
@[simp] theorem at_succ (c : C) (r : Row) (i : Nat) : at_ (c :: r) (i + 1) = at_ r i := rfl
@[simp] theorem at_1 (a b : C) (r : Row) : at_ (a :: b :: r) 1 = b := rfl
@[simp] theorem rowsAt_zero (c : Row) (r : List Row) : rowsAt (c :: r) 0 = c := rfl
@[simp] theorem rowsAt_succ (c : Row) (r : List Row) (i : Nat) : rowsAt (c :: r) (i + 1) = rowsAt r i := rfl
@[simp] theorem toI_int (n : Int) : (C.int n).toI = n := rfl
@[simp] theorem toB_bool (b : Bool) : (C.bool b).toB = b := rfl
@[simp] theorem toS_str (s : Bytes) : (C.str s).toS = s := rfl
@[simp] theorem dpRow_dp (r : Row) : (C.dp r).dpRow = r := rfl
@[simp] theorem isDp_dp (r : Row) : (C.dp r).isDp = true := rfl
@[simp] theorem rows_sl (r : List Row) : (C.sl r).rows = r := rfl
@[simp] theorem rows_nils : C.nils.rows = [] := rfl
@[simp] theorem hd_r (r : Row) (x : List PV) : hd (.r r :: x) = r := rfl
end simps

/-- A slice's cell: nil or not, and its rows. -/
def slC : Bool → List Row → C
  | true, [] => .nils
  | _, rows => .sl rows
@[simp] theorem slC_rows (b : Bool) (rows : List Row) : (slC b rows).rows = rows := by
  cases b <;> cases rows <;> rfl
theorem slC_false (rows : List Row) : slC false rows = .sl rows := by cases rows <;> rfl
theorem slC_nil : slC true [] = .nils := rfl
theorem rowsAt_map {α : Type} (f : α → Row) (l : List α) (i : Nat) (h : i < l.length) : rowsAt (l.map f) i = f l[i] := by
  simp [rowsAt, List.getD_eq_getElem?_getD, h]

def inI64 (n : Int) : Prop := -9223372036854775808 ≤ n ∧ n ≤ 9223372036854775807
theorem wrap_i64 {n : Int} (h : inI64 n) : IntKind.wrap .i64 n = n := by
  obtain ⟨h1, h2⟩ := h
  simp [IntKind.wrap, IntKind.signed, IntKind.bits]
  omega
theorem inI64_of_wf {n : Int} (h : (Lit.int .i64 n).wf = true) : inI64 n := by
  simpa [Lit.wf, IntKind.min, IntKind.max, IntKind.signed, IntKind.bits, inI64] using h

/-! ### Values -/
inductive Val where | mk (k n : Int) (s : Bytes) (nil : Bool) (fs : List (Bytes × Val))
def Val.k : Val → Int | .mk k _ _ _ _ => k
def Val.n : Val → Int | .mk _ n _ _ _ => n
def Val.s : Val → Bytes | .mk _ _ s _ _ => s
def Val.nil : Val → Bool | .mk _ _ _ b _ => b
def Val.fs : Val → List (Bytes × Val) | .mk _ _ _ _ fs => fs
mutual
def Val.fc : Val → C
  | .mk _ _ _ b fs => slC b (Val.rowsOf fs)
def Val.rowsOf : List (Bytes × Val) → List Row
  | [] => []
  | (nm, v) :: r => [.str nm, .int v.k, .int v.n, .str v.s, v.fc] :: Val.rowsOf r
end
def Val.row (v : Val) : Row := [.int v.k, .int v.n, .str v.s, v.fc]
def fldRow (p : Bytes × Val) : Row := .str p.1 :: p.2.row
theorem Val.rowsOf_map : ∀ (fs : List (Bytes × Val)), Val.rowsOf fs = fs.map fldRow
  | [] => by simp only [Val.rowsOf, List.map_nil]
  | (nm, v) :: r => by simp only [Val.rowsOf, List.map_cons, Val.rowsOf_map r, fldRow, Val.row]
theorem Val.fc_eq (v : Val) : v.fc = slC v.nil (v.fs.map fldRow) := by
  cases v; simp only [Val.fc, Val.nil, Val.fs, Val.rowsOf_map]
@[simp] theorem Val.fc_rows (v : Val) : v.fc.rows = v.fs.map fldRow := by rw [v.fc_eq, slC_rows]
theorem Val.size_lt {v : Val} {p : Bytes × Val} (h : p ∈ v.fs) : SizeOf.sizeOf p.2 < SizeOf.sizeOf v := by
  cases v with
  | mk k n s b fs =>
    have h1 := List.sizeOf_lt_of_mem (show p ∈ fs from h)
    have h2 : SizeOf.sizeOf p.2 < SizeOf.sizeOf p := by cases p; simp; omega
    simp only [Val.mk.sizeOf_spec]
    omega

mutual
/-- The numbers are numbers of 64 bits. -/
def Val.wf : Val → Prop
  | .mk k n _ _ fs => inI64 k ∧ inI64 n ∧ Val.wfs fs
def Val.wfs : List (Bytes × Val) → Prop
  | [] => True
  | (_, v) :: r => v.wf ∧ Val.wfs r
end
mutual
def Val.bulk : Val → Nat
  | .mk _ _ s _ fs => s.length + Val.bulks fs + 1
def Val.bulks : List (Bytes × Val) → Nat
  | [] => 0
  | (nm, v) :: r => nm.length + v.bulk + 1 + Val.bulks r
end
theorem Val.wfs_mem : ∀ {fs : List (Bytes × Val)} {p : Bytes × Val}, Val.wfs fs → p ∈ fs → p.2.wf
  | (nm, v) :: r, p, h, hp => by
    simp only [Val.wfs] at h
    rcases List.mem_cons.1 hp with rfl | hp
    · exact h.1
    · exact Val.wfs_mem h.2 hp
theorem Val.wf_k {v : Val} (h : v.wf) : inI64 v.k := by cases v; simp only [Val.wf] at h; exact h.1
theorem Val.wf_n {v : Val} (h : v.wf) : inI64 v.n := by cases v; simp only [Val.wf] at h; exact h.2.1
theorem Val.wf_mem {v : Val} (h : v.wf) {p : Bytes × Val} (hp : p ∈ v.fs) : p.2.wf := by
  cases v; simp only [Val.wf] at h; exact Val.wfs_mem h.2.2 hp
theorem Val.bulks_mem : ∀ {fs : List (Bytes × Val)} {p : Bytes × Val}, p ∈ fs → p.1.length + p.2.bulk + 1 ≤ Val.bulks fs
  | (nm, v) :: r, p, hp => by
    simp only [Val.bulks]
    rcases List.mem_cons.1 hp with rfl | hp
    · simp
    · have := Val.bulks_mem hp; omega
theorem Val.bulks_len : ∀ (fs : List (Bytes × Val)), fs.length ≤ Val.bulks fs
  | [] => by simp [Val.bulks]
  | (nm, v) :: r => by have := Val.bulks_len r; simp only [Val.bulks, List.length_cons]; omega
theorem Val.bulk_eq (v : Val) : v.bulk = v.s.length + Val.bulks v.fs + 1 := by cases v; simp only [Val.bulk, Val.s, Val.fs]
theorem Val.bulk_len (v : Val) : v.fs.length ≤ v.bulk := by have := Val.bulks_len v.fs; rw [v.bulk_eq]; omega
theorem Val.bulk_mem {v : Val} {p : Bytes × Val} (hp : p ∈ v.fs) : p.1.length + p.2.bulk < v.bulk := by have := Val.bulks_mem hp; rw [v.bulk_eq]; omega

/-! ### Lenses -/
inductive Lns where | mk (op : Int) (name to : Bytes) (nb : Bool) (names : List Bytes) (n low high sep : Int) (v : Val) (pb : Bool) (pairs : List (Val × Val)) (kb : Bool) (kids : List Lns)
namespace Lns
def op : Lns → Int | .mk x _ _ _ _ _ _ _ _ _ _ _ _ _ => x
def name : Lns → Bytes | .mk _ x _ _ _ _ _ _ _ _ _ _ _ _ => x
def to : Lns → Bytes | .mk _ _ x _ _ _ _ _ _ _ _ _ _ _ => x
def nb : Lns → Bool | .mk _ _ _ x _ _ _ _ _ _ _ _ _ _ => x
def names : Lns → List Bytes | .mk _ _ _ _ x _ _ _ _ _ _ _ _ _ => x
def n : Lns → Int | .mk _ _ _ _ _ x _ _ _ _ _ _ _ _ => x
def low : Lns → Int | .mk _ _ _ _ _ _ x _ _ _ _ _ _ _ => x
def high : Lns → Int | .mk _ _ _ _ _ _ _ x _ _ _ _ _ _ => x
def sep : Lns → Int | .mk _ _ _ _ _ _ _ _ x _ _ _ _ _ => x
def v : Lns → Val | .mk _ _ _ _ _ _ _ _ _ x _ _ _ _ => x
def pb : Lns → Bool | .mk _ _ _ _ _ _ _ _ _ _ x _ _ _ => x
def pairs : Lns → List (Val × Val) | .mk _ _ _ _ _ _ _ _ _ _ _ x _ _ => x
def kb : Lns → Bool | .mk _ _ _ _ _ _ _ _ _ _ _ _ x _ => x
def kids : Lns → List Lns | .mk _ _ _ _ _ _ _ _ _ _ _ _ _ x => x
end Lns
def pairRow (p : Val × Val) : Row := [.int p.1.k, .int p.1.n, .str p.1.s, p.1.fc, .int p.2.k, .int p.2.n, .str p.2.s, p.2.fc]
def strRow (s : Bytes) : Row := [.str s]
mutual
def Lns.kc : Lns → C
  | .mk _ _ _ _ _ _ _ _ _ _ _ _ kb kids => slC kb (Lns.rowsOf kids)
def Lns.rowsOf : List Lns → List Row
  | [] => []
  | l :: r => [.int l.op, .str l.name, .str l.to, slC l.nb (l.names.map strRow), .int l.n, .int l.low, .int l.high, .int l.sep, .int l.v.k, .int l.v.n, .str l.v.s, l.v.fc, slC l.pb (l.pairs.map pairRow), l.kc] :: Lns.rowsOf r
end
def Lns.row (l : Lns) : Row := [.int l.op, .str l.name, .str l.to, slC l.nb (l.names.map strRow), .int l.n, .int l.low, .int l.high, .int l.sep, .int l.v.k, .int l.v.n, .str l.v.s, l.v.fc, slC l.pb (l.pairs.map pairRow), l.kc]
theorem Lns.rowsOf_map : ∀ (ls : List Lns), Lns.rowsOf ls = ls.map Lns.row
  | [] => by simp only [Lns.rowsOf, List.map_nil]
  | l :: r => by simp only [Lns.rowsOf, List.map_cons, Lns.rowsOf_map r, Lns.row]
theorem Lns.kc_eq (l : Lns) : l.kc = slC l.kb (l.kids.map Lns.row) := by
  cases l; simp only [Lns.kc, Lns.kb, Lns.kids, Lns.rowsOf_map]
@[simp] theorem Lns.kc_rows (l : Lns) : l.kc.rows = l.kids.map Lns.row := by rw [l.kc_eq, slC_rows]
theorem Lns.size_lt {l k : Lns} (h : k ∈ l.kids) : SizeOf.sizeOf k < SizeOf.sizeOf l := by
  cases l with
  | mk =>
    have h1 := List.sizeOf_lt_of_mem (show k ∈ _ from h)
    simp only [Lns.kids] at h1
    simp only [Lns.mk.sizeOf_spec]
    omega
mutual
def Lns.wf : Lns → Prop
  | .mk op _ _ _ _ n low high sep v _ pairs _ kids => inI64 op ∧ inI64 n ∧ inI64 low ∧ inI64 high ∧ (0 ≤ sep ∧ sep ≤ 255) ∧ v.wf ∧ (∀ p ∈ pairs, p.1.wf ∧ p.2.wf) ∧ Lns.wfs kids
def Lns.wfs : List Lns → Prop
  | [] => True
  | l :: r => l.wf ∧ Lns.wfs r
end
def strsBulk : List Bytes → Nat
  | [] => 0
  | s :: r => s.length + 1 + strsBulk r
def pairsBulk : List (Val × Val) → Nat
  | [] => 0
  | p :: r => p.1.bulk + p.2.bulk + 1 + pairsBulk r
mutual
def Lns.bulk : Lns → Nat
  | .mk _ name to _ names _ _ _ _ v _ pairs _ kids => name.length + to.length + strsBulk names + v.bulk + pairsBulk pairs + Lns.bulks kids + 1
def Lns.bulks : List Lns → Nat
  | [] => 0
  | l :: r => l.bulk + Lns.bulks r
end
theorem Lns.bulk_eq (l : Lns) : l.bulk = l.name.length + l.to.length + strsBulk l.names + l.v.bulk + pairsBulk l.pairs + Lns.bulks l.kids + 1 := by
  cases l; simp only [Lns.bulk, Lns.name, Lns.to, Lns.names, Lns.v, Lns.pairs, Lns.kids]
theorem Lns.bulk_pos (l : Lns) : 1 ≤ l.bulk := by rw [l.bulk_eq]; omega
theorem strsBulk_len : ∀ (l : List Bytes), l.length ≤ strsBulk l
  | [] => by simp [strsBulk]
  | s :: r => by have := strsBulk_len r; simp only [strsBulk, List.length_cons]; omega
theorem strsBulk_mem : ∀ {l : List Bytes} {s : Bytes}, s ∈ l → s.length < strsBulk l
  | x :: r, s, h => by
    simp only [strsBulk]
    rcases List.mem_cons.1 h with rfl | h
    · omega
    · have := strsBulk_mem h; omega
theorem pairsBulk_len : ∀ (l : List (Val × Val)), l.length ≤ pairsBulk l
  | [] => by simp [pairsBulk]
  | s :: r => by have := pairsBulk_len r; simp only [pairsBulk, List.length_cons]; omega
theorem pairsBulk_mem : ∀ {l : List (Val × Val)} {p : Val × Val}, p ∈ l → p.1.bulk + p.2.bulk < pairsBulk l
  | x :: r, s, h => by
    simp only [pairsBulk]
    rcases List.mem_cons.1 h with rfl | h
    · omega
    · have := pairsBulk_mem h; omega
theorem Lns.bulks_len : ∀ (l : List Lns), l.length ≤ Lns.bulks l
  | [] => by simp [Lns.bulks]
  | s :: r => by have := Lns.bulks_len r; have := s.bulk_pos; simp only [Lns.bulks, List.length_cons]; omega
theorem Lns.bulks_mem : ∀ {l : List Lns} {k : Lns}, k ∈ l → k.bulk ≤ Lns.bulks l
  | x :: r, k, h => by
    simp only [Lns.bulks]
    rcases List.mem_cons.1 h with rfl | h
    · omega
    · have := Lns.bulks_mem h; omega
theorem Lns.bulk_kid {l k : Lns} (h : k ∈ l.kids) : k.bulk < l.bulk := by have := Lns.bulks_mem h; rw [l.bulk_eq]; omega
theorem Lns.wfs_mem : ∀ {ls : List Lns} {k : Lns}, Lns.wfs ls → k ∈ ls → k.wf
  | l :: r, k, h, hk => by
    simp only [Lns.wfs] at h
    rcases List.mem_cons.1 hk with rfl | hk
    · exact h.1
    · exact Lns.wfs_mem h.2 hk
theorem Lns.wf_kid {l k : Lns} (h : l.wf) (hk : k ∈ l.kids) : k.wf := by
  cases l; simp only [Lns.wf] at h; exact Lns.wfs_mem h.2.2.2.2.2.2.2 hk
theorem Lns.wf_v {l : Lns} (h : l.wf) : l.v.wf := by cases l; simp only [Lns.wf] at h; exact h.2.2.2.2.2.1
theorem Lns.wf_pair {l : Lns} (h : l.wf) {p : Val × Val} (hp : p ∈ l.pairs) : p.1.wf ∧ p.2.wf := by cases l; simp only [Lns.wf] at h; exact h.2.2.2.2.2.2.1 p hp

/-! ### The readings that are values and lenses -/
variable {H : Type} {P : Program}
def isStruct (P : Program) (t : TypeId) (us : List TypeId) : Bool := match P.underlying t with
  | some (.struct fs) => decide (fs.toList.map (·.type) = us)
  | _ => false
theorem fit_struct {n : Nat} {t : TypeId} {us : List TypeId} {d : DataW H} (ht : isStruct P t us = true) (h : fitD P (n + 1) t d) :
    ∃ ds, d = .agg ds ∧ ds.length = us.length ∧ ∀ (i : Nat) u x, us[i]? = some u → ds[i]? = some x → fitD P n u x := by
  unfold isStruct at ht
  simp only [fitD] at h
  cases hu : P.underlying t with
  | none => simp [hu] at ht
  | some dd =>
    cases dd <;> simp only [hu] at ht h <;> try (simp at ht; done)
    rename_i fs
    have ht := of_decide_eq_true ht
    cases d <;> (try simp only at h) <;> try (exact h.elim)
    rename_i ds
    subst ht
    refine ⟨ds, rfl, by simp [h.1], fun i u x hi hx => ?_⟩
    simp only [List.getElem?_map, Option.map_eq_some_iff] at hi
    obtain ⟨f, hf, rfl⟩ := hi
    exact h.2 i f x hf hx
theorem fit_int {n : Nat} {t : TypeId} {k : IntKind} {d : DataW H} (ht : P.underlying t = some (.int k)) (h : fitD P n t d) : ∃ m, d = .lit (.int k m) ∧ (Lit.int k m).wf = true := by
  cases n with
  | zero => simp [fitD] at h
  | succ n =>
    simp only [fitD, ht] at h
    cases d <;> (try simp only at h) <;> try (exact h.elim)
    rename_i l
    cases l <;> (try simp only at h) <;> try (exact h.elim)
    obtain ⟨rfl, hw⟩ := h
    exact ⟨_, rfl, hw⟩
theorem fit_bool {n : Nat} {t : TypeId} {d : DataW H} (ht : P.underlying t = some .bool) (h : fitD P n t d) : ∃ b, d = .lit (.bool b) := by
  cases n with
  | zero => simp [fitD] at h
  | succ n =>
    simp only [fitD, ht] at h
    cases d <;> (try simp only at h) <;> try (exact h.elim)
    rename_i l
    cases l <;> (try simp only at h) <;> try (exact h.elim)
    exact ⟨_, rfl⟩
theorem fit_str {n : Nat} {t : TypeId} {d : DataW H} (ht : P.underlying t = some .string) (h : fitD P n t d) : ∃ s, d = .lit (.string s) := by
  cases n with
  | zero => simp [fitD] at h
  | succ n =>
    simp only [fitD, ht] at h
    cases d <;> (try simp only at h) <;> try (exact h.elim)
    rename_i l
    cases l <;> (try simp only at h) <;> try (exact h.elim)
    exact ⟨_, rfl⟩
theorem fit_slice {n : Nat} {t e : TypeId} {d : DataW H} (ht : P.underlying t = some (.slice e)) (h : fitD P n t d) : ∃ (b : Bool) (es : List (DataW H)), (∀ x ∈ es, fitD P (n - 1) e x) ∧ rowD d = [slC b (es.map rowD)] ∧ bulkD d = bulksD es + 1 := by
  cases n with
  | zero => simp [fitD] at h
  | succ n =>
    simp only [fitD, ht] at h
    cases d <;> (try simp only at h) <;> try (exact h.elim)
    · exact ⟨true, [], by simp, rfl, by simp only [bulkD, bulksD]⟩
    · rename_i es sp
      exact ⟨false, es, h, by simp only [rowD, rowsD_map, slC_false], by simp only [bulkD]⟩
theorem fit_array {n m : Nat} {t e : TypeId} {d : DataW H} (ht : P.underlying t = some (.array m e)) (h : fitD P (n + 1) t d) : ∃ ds, d = .agg ds ∧ ds.length = m ∧ ∀ x ∈ ds, fitD P n e x := by
  simp only [fitD, ht] at h
  cases d <;> (try simp only at h) <;> try (exact h.elim)
  exact ⟨_, rfl, h.1, h.2⟩

/-- A slice of things that are all seen as one kind of data. -/
theorem fit_list {α : Type} {n : Nat} {e : TypeId} (row : α → Row) (good : α → Prop) (bulk : α → Nat) (bulks : List α → Nat) (c : Nat) (h0 : bulks [] = 0) (h1 : ∀ a r, bulks (a :: r) ≤ bulk a + c + bulks r)
    (one : ∀ d : DataW H, fitD P n e d → ∃ a, rowD d = row a ∧ good a ∧ bulk a + c ≤ bulkD d) :
    ∀ (es : List (DataW H)), (∀ x ∈ es, fitD P n e x) → ∃ as : List α, es.map rowD = as.map row ∧ (∀ a ∈ as, good a) ∧ bulks as ≤ bulksD es
  | [], _ => ⟨[], rfl, by simp, by rw [h0]; omega⟩
  | d :: r, h => by
    obtain ⟨a, e1, g1, b1⟩ := one d (h d (by simp))
    obtain ⟨as, e2, g2, b2⟩ := fit_list row good bulk bulks c h0 h1 one r (fun x hx => h x (by simp [hx]))
    refine ⟨a :: as, by simp [e1, e2], ?_, ?_⟩
    · intro x hx
      rcases List.mem_cons.1 hx with rfl | hx
      · exact g1
      · exact g2 x hx
    · have := h1 a as
      simp only [bulksD]
      omega

theorem wfs_of : ∀ {fs : List (Bytes × Val)}, (∀ p ∈ fs, p.2.wf) → Val.wfs fs
  | [], _ => by simp only [Val.wfs]
  | (nm, v) :: r, h => by simp only [Val.wfs]; exact ⟨h (nm, v) (by simp), wfs_of (fun p hp => h p (by simp [hp]))⟩
theorem lwfs_of : ∀ {ls : List Lns}, (∀ l ∈ ls, l.wf) → Lns.wfs ls
  | [], _ => by simp only [Lns.wfs]
  | l :: r, h => by simp only [Lns.wfs]; exact ⟨h l (by simp), lwfs_of (fun p hp => h p (by simp [hp]))⟩

/-- The numbers of the types. -/
structure ApiT (P : Program) (tI tU tS tV tFs tF : TypeId) : Prop where
  int : P.underlying tI = some (.int .i64)
  u8 : P.underlying tU = some (.int .u8)
  str : P.underlying tS = some .string
  val : isStruct P tV [tI, tI, tS, tFs] = true
  flds : P.underlying tFs = some (.slice tF)
  fld : isStruct P tF [tS, tV] = true

theorem list4 {α : Type} {l : List α} (h : l.length = 4) : ∃ a b c d, l = [a, b, c, d] := by
  match l, h with
  | [a, b, c, d], _ => exact ⟨a, b, c, d, rfl⟩
theorem list2 {α : Type} {l : List α} (h : l.length = 2) : ∃ a b, l = [a, b] := by
  match l, h with
  | [a, b], _ => exact ⟨a, b, rfl⟩
theorem list11 {α : Type} {l : List α} (h : l.length = 11) : ∃ a b c d e f g i j k m, l = [a, b, c, d, e, f, g, i, j, k, m] := by
  match l, h with
  | [a, b, c, d, e, f, g, i, j, k, m], _ => exact ⟨a, b, c, d, e, f, g, i, j, k, m, rfl⟩

theorem fit_val {tI tU tS tV tFs tF : TypeId} (A : ApiT P tI tU tS tV tFs tF) : ∀ (n : Nat) (d : DataW H), fitD P n tV d → ∃ v : Val, rowD d = v.row ∧ v.wf ∧ v.bulk ≤ bulkD d := by
  intro n
  induction n using Nat.strongRecOn with
  | ind n ih =>
    intro d h
    cases n with
    | zero => simp [fitD] at h
    | succ n =>
      obtain ⟨ds, rfl, hl, hf⟩ := fit_struct A.val h
      obtain ⟨d0, d1, d2, d3, rfl⟩ := list4 hl
      obtain ⟨k, rfl, wk⟩ := fit_int A.int (hf 0 _ _ rfl rfl)
      obtain ⟨m, rfl, wm⟩ := fit_int A.int (hf 1 _ _ rfl rfl)
      obtain ⟨s, rfl⟩ := fit_str A.str (hf 2 _ _ rfl rfl)
      obtain ⟨b, es, hes, hrow, hbulk⟩ := fit_slice A.flds (hf 3 _ _ rfl rfl)
      obtain ⟨fs, e1, e2, e3⟩ := fit_list (α := Bytes × Val) fldRow (fun p => p.2.wf) (fun p => p.1.length + p.2.bulk) Val.bulks 1 (by simp only [Val.bulks]) (fun p r => by obtain ⟨nm, v⟩ := p; simp only [Val.bulks]; omega) (by
        intro d hd
        cases hn : n - 1 with
        | zero => rw [hn] at hd; simp [fitD] at hd
        | succ q =>
          rw [hn] at hd
          obtain ⟨ds, rfl, hl, hf⟩ := fit_struct A.fld hd
          obtain ⟨d0, d1, rfl⟩ := list2 hl
          obtain ⟨nm, rfl⟩ := fit_str A.str (hf 0 _ _ rfl rfl)
          obtain ⟨v, h1, h2, h3⟩ := ih q (by omega) d1 (hf 1 _ _ rfl rfl)
          refine ⟨(nm, v), ?_, h2, ?_⟩
          · simp only [rowD, catD, h1, fldRow, List.append_nil, List.singleton_append]
          · simp only [bulkD, bulksD]; omega) es hes
      refine ⟨.mk k m s b fs, ?_, ?_, ?_⟩
      · simp only [rowD, catD, hrow, Val.row, Val.k, Val.n, Val.s, Val.fc, Val.rowsOf_map, e1, List.append_nil, List.cons_append, List.nil_append]
      · simp only [Val.wf]; exact ⟨inI64_of_wf wk, inI64_of_wf wm, wfs_of e2⟩
      · simp only [Val.bulk, bulkD, bulksD, hbulk]; omega
structure LensT (P : Program) (tI tU tS tV tL tSs tP tPs tLs : TypeId) : Prop where
  lens : isStruct P tL [tI, tS, tS, tSs, tI, tI, tI, tU, tV, tPs, tLs] = true
  strs : P.underlying tSs = some (.slice tS)
  pairs : P.underlying tPs = some (.slice tP)
  pair : P.underlying tP = some (.array 2 tV)
  kids : P.underlying tLs = some (.slice tL)

theorem fit_strs {tS tSs : TypeId} (hs : P.underlying tS = some .string) (hss : P.underlying tSs = some (.slice tS)) {n : Nat} {d : DataW H} (h : fitD P n tSs d) :
    ∃ (b : Bool) (l : List Bytes), rowD d = [slC b (l.map strRow)] ∧ strsBulk l + 1 ≤ bulkD d := by
  obtain ⟨b, es, hes, hrow, hbulk⟩ := fit_slice hss h
  obtain ⟨l, e1, _, e3⟩ := fit_list (α := Bytes) strRow (fun _ => True) (fun s => s.length) strsBulk 1 (by simp only [strsBulk]) (fun p r => by simp only [strsBulk]; omega) (by
    intro d hd
    obtain ⟨s, rfl⟩ := fit_str hs hd
    exact ⟨s, by simp only [rowD, strRow], trivial, by simp only [bulkD]; omega⟩) es hes
  exact ⟨b, l, by rw [hrow, e1], by omega⟩

theorem fit_lens {tI tU tS tV tFs tF tL tSs tP tPs tLs : TypeId} (A : ApiT P tI tU tS tV tFs tF) (B : LensT P tI tU tS tV tL tSs tP tPs tLs) :
    ∀ (n : Nat) (d : DataW H), fitD P n tL d → ∃ l : Lns, rowD d = l.row ∧ l.wf ∧ l.bulk ≤ bulkD d := by
  intro n
  induction n using Nat.strongRecOn with
  | ind n ih =>
    intro d h
    cases n with
    | zero => simp [fitD] at h
    | succ n =>
      obtain ⟨ds, rfl, hl, hf⟩ := fit_struct B.lens h
      obtain ⟨d0, d1, d2, d3, d4, d5, d6, d7, d8, d9, d10, rfl⟩ := list11 hl
      obtain ⟨op, rfl, w0⟩ := fit_int A.int (hf 0 _ _ rfl rfl)
      obtain ⟨nm, rfl⟩ := fit_str A.str (hf 1 _ _ rfl rfl)
      obtain ⟨to, rfl⟩ := fit_str A.str (hf 2 _ _ rfl rfl)
      obtain ⟨nb, names, r3, k3⟩ := fit_strs A.str B.strs (hf 3 _ _ rfl rfl)
      obtain ⟨nn, rfl, w4⟩ := fit_int A.int (hf 4 _ _ rfl rfl)
      obtain ⟨lo, rfl, w5⟩ := fit_int A.int (hf 5 _ _ rfl rfl)
      obtain ⟨hi, rfl, w6⟩ := fit_int A.int (hf 6 _ _ rfl rfl)
      obtain ⟨se, rfl, w7⟩ := fit_int A.u8 (hf 7 _ _ rfl rfl)
      obtain ⟨v, r8, w8, k8⟩ := fit_val A _ _ (hf 8 _ _ rfl rfl)
      obtain ⟨pb, ps, hps, r9, k9⟩ := fit_slice B.pairs (hf 9 _ _ rfl rfl)
      obtain ⟨kb, ks, hks, r10, k10⟩ := fit_slice B.kids (hf 10 _ _ rfl rfl)
      obtain ⟨pairs, e1, e2, e3⟩ := fit_list (α := Val × Val) pairRow (fun p => p.1.wf ∧ p.2.wf) (fun p => p.1.bulk + p.2.bulk) pairsBulk 1 (by simp only [pairsBulk]) (fun p r => by simp only [pairsBulk]; omega) (by
        intro d hd
        cases hn : n - 1 with
        | zero => rw [hn] at hd; simp [fitD] at hd
        | succ q =>
          rw [hn] at hd
          obtain ⟨ds, rfl, hl, hf⟩ := fit_array B.pair hd
          obtain ⟨d0, d1, rfl⟩ := list2 hl
          obtain ⟨v, a1, a2, a3⟩ := fit_val A _ _ (hf d0 (by simp))
          obtain ⟨v', b1, b2, b3⟩ := fit_val A _ _ (hf d1 (by simp))
          refine ⟨(v, v'), ?_, ⟨a2, b2⟩, ?_⟩
          · simp only [rowD, catD, a1, b1, Val.row, pairRow, List.append_nil, List.cons_append, List.nil_append]
          · simp only [bulkD, bulksD]; omega) ps hps
      obtain ⟨kids, f1, f2, f3⟩ := fit_list (α := Lns) Lns.row Lns.wf Lns.bulk Lns.bulks 0 (by simp only [Lns.bulks]) (fun p r => by simp only [Lns.bulks]; omega) (fun d hd => by
        obtain ⟨l, g1, g2, g3⟩ := ih (n - 1) (by omega) d hd
        exact ⟨l, g1, g2, by omega⟩) ks hks
      refine ⟨.mk op nm to nb names nn lo hi se v pb pairs kb kids, ?_, ?_, ?_⟩
      · simp only [rowD, catD, r3, r8, r9, r10, Val.row, Lns.row, Lns.op, Lns.name, Lns.to, Lns.nb, Lns.names, Lns.n, Lns.low, Lns.high, Lns.sep, Lns.v, Lns.pb, Lns.pairs, Lns.kc, Lns.rowsOf_map, e1, f1, List.append_nil, List.cons_append, List.nil_append]
      · simp only [Lns.wf]
        have h7 : 0 ≤ se ∧ se ≤ 255 := by simpa [Lit.wf, IntKind.min, IntKind.max, IntKind.signed, IntKind.bits] using w7
        exact ⟨inI64_of_wf w0, inI64_of_wf w4, inI64_of_wf w5, inI64_of_wf w6, h7, w8, e2, lwfs_of f2⟩
      · simp only [Lns.bulk, bulkD, bulksD, k9, k10]; omega
end Go.Ev
