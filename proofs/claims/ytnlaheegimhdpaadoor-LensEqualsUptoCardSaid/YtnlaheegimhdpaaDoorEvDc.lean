/-
  Laws of plain data: equality and order of values.
-/
import Derived.Test.YtnlaheegimhdpaaDoorEvDb
set_option linter.all false
namespace Go.Ev

@[simp] theorem at_val0 (v : Val) : at_ v.row 0 = .int v.k := rfl
@[simp] theorem at_val1 (v : Val) : at_ v.row 1 = .int v.n := rfl
@[simp] theorem at_val2 (v : Val) : at_ v.row 2 = .str v.s := rfl
@[simp] theorem at_val3 (v : Val) : at_ v.row 3 = v.fc := rfl
@[simp] theorem at_fld0 (p : Bytes × Val) : at_ (fldRow p) 0 = .str p.1 := rfl
@[simp] theorem at_fld1 (p : Bytes × Val) : at_ (fldRow p) 1 = .int p.2.k := rfl
@[simp] theorem at_fld2 (p : Bytes × Val) : at_ (fldRow p) 2 = .int p.2.n := rfl
@[simp] theorem at_fld3 (p : Bytes × Val) : at_ (fldRow p) 3 = .str p.2.s := rfl
@[simp] theorem at_fld4 (p : Bytes × Val) : at_ (fldRow p) 4 = p.2.fc := rfl
@[simp] theorem at_pair0 (p : Val × Val) : at_ (pairRow p) 0 = .int p.1.k := rfl
@[simp] theorem at_pair1 (p : Val × Val) : at_ (pairRow p) 1 = .int p.1.n := rfl
@[simp] theorem at_pair2 (p : Val × Val) : at_ (pairRow p) 2 = .str p.1.s := rfl
@[simp] theorem at_pair3 (p : Val × Val) : at_ (pairRow p) 3 = p.1.fc := rfl
@[simp] theorem at_pair4 (p : Val × Val) : at_ (pairRow p) 4 = .int p.2.k := rfl
@[simp] theorem at_pair5 (p : Val × Val) : at_ (pairRow p) 5 = .int p.2.n := rfl
@[simp] theorem at_pair6 (p : Val × Val) : at_ (pairRow p) 6 = .str p.2.s := rfl
@[simp] theorem at_pair7 (p : Val × Val) : at_ (pairRow p) 7 = p.2.fc := rfl
@[simp] theorem at_str0 (s : Bytes) : at_ (strRow s) 0 = .str s := rfl
@[simp] theorem at_lns0 (l : Lns) : at_ l.row 0 = .int l.op := rfl
@[simp] theorem at_lns1 (l : Lns) : at_ l.row 1 = .str l.name := rfl
@[simp] theorem at_lns2 (l : Lns) : at_ l.row 2 = .str l.to := rfl
@[simp] theorem at_lns3 (l : Lns) : at_ l.row 3 = slC l.nb (l.names.map strRow) := rfl
@[simp] theorem at_lns4 (l : Lns) : at_ l.row 4 = .int l.n := rfl
@[simp] theorem at_lns5 (l : Lns) : at_ l.row 5 = .int l.low := rfl
@[simp] theorem at_lns6 (l : Lns) : at_ l.row 6 = .int l.high := rfl
@[simp] theorem at_lns7 (l : Lns) : at_ l.row 7 = .int l.sep := rfl
@[simp] theorem at_lns8 (l : Lns) : at_ l.row 8 = .int l.v.k := rfl
@[simp] theorem at_lns9 (l : Lns) : at_ l.row 9 = .int l.v.n := rfl
@[simp] theorem at_lns10 (l : Lns) : at_ l.row 10 = .str l.v.s := rfl
@[simp] theorem at_lns11 (l : Lns) : at_ l.row 11 = l.v.fc := rfl
@[simp] theorem at_lns12 (l : Lns) : at_ l.row 12 = slC l.pb (l.pairs.map pairRow) := rfl
@[simp] theorem at_lns13 (l : Lns) : at_ l.row 13 = l.kc := rfl
@[simp] theorem val_fold (v : Val) : ([.int v.k, .int v.n, .str v.s, v.fc] : Row) = v.row := rfl
theorem lns_fold (l : Lns) : ([.int l.op, .str l.name, .str l.to, slC l.nb (l.names.map strRow), .int l.n, .int l.low, .int l.high, .int l.sep, .int l.v.k, .int l.v.n, .str l.v.s, l.v.fc, slC l.pb (l.pairs.map pairRow), l.kc] : Row) = l.row := rfl
theorem pair_fold (p : Val × Val) : ([.int p.1.k, .int p.1.n, .str p.1.s, p.1.fc, .int p.2.k, .int p.2.n, .str p.2.s, p.2.fc] : Row) = pairRow p := rfl
@[simp] theorem appC_rows (c : C) (new : List Row) : (appC c new).rows = c.rows ++ new := by
  unfold appC
  split <;> simp

/-- Two lists, place by place. -/
def all2 {α : Type} (f : α → α → Bool) : List α → List α → Bool
  | [], [] => true
  | a :: r, b :: s => f a b && all2 f r s
  | _, _ => false
theorem all2_len {α : Type} {f : α → α → Bool} : ∀ {l r : List α}, all2 f l r = true → l.length = r.length
  | [], [], _ => rfl
  | a :: l, b :: r, h => by
    simp only [all2, Bool.and_eq_true] at h
    simp [all2_len h.2]
  | [], _ :: _, h => by simp [all2] at h
  | _ :: _, [], h => by simp [all2] at h
theorem all2_congr {α : Type} {f g : α → α → Bool} : ∀ {l r : List α}, (∀ a ∈ l, ∀ b, f a b = g a b) → all2 f l r = all2 g l r
  | [], [], _ => rfl
  | a :: l, b :: r, h => by simp only [all2, h a (by simp), all2_congr (l := l) (r := r) (fun x hx => h x (by simp [hx]))]
  | [], _ :: _, h => rfl
  | _ :: _, [], h => rfl
theorem all2_refl {α : Type} {f : α → α → Bool} : ∀ {l : List α}, (∀ a ∈ l, f a a = true) → all2 f l l = true
  | [], _ => rfl
  | a :: l, h => by simp only [all2, h a (by simp), all2_refl (l := l) (fun x hx => h x (by simp [hx])), Bool.and_self]
theorem all2_beq : ∀ (l r : List Bytes), all2 (fun a b => a == b) l r = decide (l = r)
  | [], [] => rfl
  | a :: l, b :: r => by
    rw [Bool.eq_iff_iff]
    simp [all2, all2_beq l r]
  | [], _ :: _ => rfl
  | _ :: _, [] => rfl

mutual
/-- Equal as data (nil or not is not asked). -/
def Val.eqv : Val → Val → Bool
  | .mk k n s _ fs, .mk k' n' s' _ fs' => k == k' && (n == n' && (s == s' && Val.eqvs fs fs'))
def Val.eqvs : List (Bytes × Val) → List (Bytes × Val) → Bool
  | [], [] => true
  | (a, v) :: r, (b, w) :: r' => a == b && v.eqv w && Val.eqvs r r'
  | _, _ => false
end
def fldEq (p q : Bytes × Val) : Bool := p.1 == q.1 && p.2.eqv q.2
theorem eqvs_all2 : ∀ (a b : List (Bytes × Val)), Val.eqvs a b = all2 fldEq a b
  | [], [] => by simp only [Val.eqvs, all2]
  | (a, v) :: r, (b, w) :: r' => by simp only [Val.eqvs, all2, fldEq, eqvs_all2 r r']
  | [], _ :: _ => by simp only [Val.eqvs, all2]
  | _ :: _, [] => by simp only [Val.eqvs, all2]
theorem Val.eqv_eq (v w : Val) : v.eqv w = (v.k == w.k && (v.n == w.n && (v.s == w.s && all2 fldEq v.fs w.fs))) := by
  cases v; cases w; simp only [Val.eqv, Val.k, Val.n, Val.s, Val.fs, eqvs_all2]
theorem Val.eqv_refl (v : Val) : v.eqv v = true := by
  rw [v.eqv_eq, all2_refl (fun p hp => ?_)]
  · simp
  · have := Val.size_lt hp
    simp only [fldEq, Val.eqv_refl p.2, Bool.and_true, beq_self_eq_true]
  termination_by SizeOf.sizeOf v

def pairEq (p q : Val × Val) : Bool := p.1.eqv q.1 && p.2.eqv q.2
mutual
def Lns.eqv : Lns → Lns → Bool
  | .mk op nm to _ ns n lo hi se v _ ps _ ks, .mk op' nm' to' _ ns' n' lo' hi' se' v' _ ps' _ ks' =>
    op == op' && nm == nm' && to == to' && n == n' && lo == lo' && hi == hi' && se == se' && v.eqv v' && decide (ns = ns') && all2 pairEq ps ps' && Lns.eqvs ks ks'
def Lns.eqvs : List Lns → List Lns → Bool
  | [], [] => true
  | a :: r, b :: r' => a.eqv b && Lns.eqvs r r'
  | _, _ => false
end
theorem leqvs_all2 : ∀ (a b : List Lns), Lns.eqvs a b = all2 Lns.eqv a b
  | [], [] => by simp only [Lns.eqvs, all2]
  | a :: r, b :: r' => by simp only [Lns.eqvs, all2, leqvs_all2 r r']
  | [], _ :: _ => by simp only [Lns.eqvs, all2]
  | _ :: _, [] => by simp only [Lns.eqvs, all2]
theorem Lns.eqv_eq (a b : Lns) : a.eqv b = (a.op == b.op && a.name == b.name && a.to == b.to && a.n == b.n && a.low == b.low && a.high == b.high && a.sep == b.sep && a.v.eqv b.v && decide (a.names = b.names) && all2 pairEq a.pairs b.pairs && all2 Lns.eqv a.kids b.kids) := by
  cases a; cases b; simp only [Lns.eqv, Lns.op, Lns.name, Lns.to, Lns.n, Lns.low, Lns.high, Lns.sep, Lns.v, Lns.names, Lns.pairs, Lns.kids, leqvs_all2]
  try rfl

mutual
/-- A lens copied: nil where empty. -/
def Lns.norm : Lns → Lns
  | .mk op nm to _ ns n lo hi se v _ ps _ ks => .mk op nm to true ns n lo hi se v true ps true (Lns.norms ks)
def Lns.norms : List Lns → List Lns
  | [] => []
  | l :: r => l.norm :: Lns.norms r
end
theorem Lns.norms_map : ∀ (l : List Lns), Lns.norms l = l.map Lns.norm
  | [] => by simp only [Lns.norms, List.map_nil]
  | a :: r => by simp only [Lns.norms, List.map_cons, Lns.norms_map r]
theorem all2_map {α : Type} {f : α → α → Bool} {g : α → α} : ∀ {l : List α}, (∀ a ∈ l, f (g a) a = true) → all2 f (l.map g) l = true
  | [], _ => rfl
  | a :: l, h => by simp only [List.map_cons, all2, h a (by simp), all2_map (l := l) (fun x hx => h x (by simp [hx])), Bool.and_self]
theorem Lns.norm_eqv (l : Lns) : l.norm.eqv l = true := by
  have h : ∀ k ∈ l.kids, k.norm.eqv k = true := fun k hk => Lns.norm_eqv k
  cases l with
  | mk op nm to nb ns n lo hi se v pb ps kb ks =>
    simp only [Lns.norm, Lns.eqv, leqvs_all2, Lns.norms_map, beq_self_eq_true, Val.eqv_refl, Bool.and_self, decide_true]
    simp only [Lns.kids] at h
    rw [all2_map h, all2_refl (fun p _ => by simp only [pairEq, Val.eqv_refl, Bool.and_self])]
    rfl
  termination_by SizeOf.sizeOf l
  decreasing_by exact Lns.size_lt hk

theorem norms_bulks : ∀ (ls : List Lns), (∀ l ∈ ls, l.norm.bulk = l.bulk) → Lns.bulks (ls.map Lns.norm) = Lns.bulks ls
  | [], _ => by simp only [List.map_nil]
  | l :: r, h => by simp only [List.map_cons, Lns.bulks, h l (by simp), norms_bulks r (fun x hx => h x (by simp [hx]))]
theorem norm_bulk (l : Lns) : l.norm.bulk = l.bulk := by
  have h : ∀ k ∈ l.kids, k.norm.bulk = k.bulk := fun k hk => norm_bulk k
  cases l with
  | mk op nm to nb ns n lo hi se v pb ps kb ks =>
    simp only [Lns.norm, Lns.bulk, Lns.norms_map]
    rw [norms_bulks ks h]
  termination_by SizeOf.sizeOf l
  decreasing_by exact Lns.size_lt hk

/-! ### The order of values -/
def cmpI (a b : Int) : Int := if a < b then -1 else if a > b then 1 else 0
def orI : List Int → Int
  | [] => 0
  | a :: r => if a = 0 then orI r else a
def ordI (n : Int) : Int := if n < 0 then -1 - (n + 9223372036854775808) else n
theorem cmpI_zero {a b : Int} : cmpI a b = 0 ↔ a = b := by
  unfold cmpI
  split
  · omega
  · split <;> omega
theorem ordI_inj {a b : Int} (ha : inI64 a) (hb : inI64 b) : ordI a = ordI b ↔ a = b := by
  obtain ⟨_, _⟩ := ha
  obtain ⟨_, _⟩ := hb
  unfold ordI
  split <;> split <;> omega
theorem cmpBytes_zero : ∀ {a b : Bytes}, cmpBytes a b = 0 ↔ a = b
  | [], [] => by simp [cmpBytes]
  | [], _ :: _ => by simp [cmpBytes]
  | _ :: _, [] => by simp [cmpBytes]
  | a :: x, b :: y => by
    simp only [cmpBytes, List.cons.injEq]
    split
    · rename_i h
      constructor
      · intro h'; simp at h'
      · rintro ⟨rfl, _⟩; exact absurd h (UInt8.lt_irrefl _)
    · split
      · rename_i h
        constructor
        · intro h'; simp at h'
        · rintro ⟨rfl, _⟩; exact absurd h (UInt8.lt_irrefl _)
      · rename_i h1 h2
        have : a = b := UInt8.le_antisymm (UInt8.not_lt.1 h2) (UInt8.not_lt.1 h1)
        rw [cmpBytes_zero]
        simp [this]
theorem and_max {n : Int} (h : inI64 n) (hn : n < 0) : bitsOf .and .i64 n 9223372036854775807 = n + 9223372036854775808 := by
  obtain ⟨h1, h2⟩ := h
  have e : ((BitVec.ofInt 64 n) &&& (BitVec.ofInt 64 9223372036854775807)).toNat = (n + 9223372036854775808).toNat := by
    rw [BitVec.toNat_and, BitVec.toNat_ofInt, BitVec.toNat_ofInt]
    have e2 : ((9223372036854775807 : Int) % ((2 ^ 64 : Nat) : Int)).toNat = 2 ^ 63 - 1 := by decide
    rw [e2, Nat.and_two_pow_sub_one_eq_mod]
    omega
  show IntKind.wrap .i64 (((BitVec.ofInt 64 n) &&& (BitVec.ofInt 64 9223372036854775807)).toNat : Int) = _
  rw [e, show (((n + 9223372036854775808).toNat : Nat) : Int) = n + 9223372036854775808 by omega]
  exact wrap_i64 ⟨by omega, by omega⟩

mutual
def Val.cmp : Val → Val → Int
  | .mk k n s _ fs, .mk k' n' s' _ fs' =>
    let c := orI [cmpI k k', cmpI (if k = 3 then ordI n else n) (if k = 3 then ordI n' else n'), cmpBytes s s']
    if c = 0 then Val.cmps fs fs' else c
def Val.cmps : List (Bytes × Val) → List (Bytes × Val) → Int
  | [], [] => 0
  | [], _ :: _ => -1
  | _ :: _, [] => 1
  | (a, v) :: r, (b, w) :: r' => let c := orI [cmpBytes a b, v.cmp w]; if c = 0 then Val.cmps r r' else c
end
def fldCmp (p q : Bytes × Val) : Int := orI [cmpBytes p.1 q.1, p.2.cmp q.2]
def lexI {α : Type} (f : α → α → Int) : List α → List α → Int
  | [], [] => 0
  | [], _ :: _ => -1
  | _ :: _, [] => 1
  | a :: r, b :: s => if f a b = 0 then lexI f r s else f a b
theorem cmps_lex : ∀ (a b : List (Bytes × Val)), Val.cmps a b = lexI fldCmp a b
  | [], [] => by simp only [Val.cmps, lexI]
  | (a, v) :: r, (b, w) :: r' => by simp only [Val.cmps, lexI, fldCmp, cmps_lex r r']; rfl
  | [], _ :: _ => by simp only [Val.cmps, lexI]
  | _ :: _, [] => by simp only [Val.cmps, lexI]
theorem Val.cmp_eq (v w : Val) : v.cmp w = if orI [cmpI v.k w.k, cmpI (if v.k = 3 then ordI v.n else v.n) (if v.k = 3 then ordI w.n else w.n), cmpBytes v.s w.s] = 0 then lexI fldCmp v.fs w.fs else
    orI [cmpI v.k w.k, cmpI (if v.k = 3 then ordI v.n else v.n) (if v.k = 3 then ordI w.n else w.n), cmpBytes v.s w.s] := by
  cases v; cases w; simp only [Val.cmp, Val.k, Val.n, Val.s, Val.fs, cmps_lex]; rfl
theorem orI_zero : ∀ {l : List Int}, orI l = 0 ↔ ∀ a ∈ l, a = 0
  | [] => by simp [orI]
  | a :: r => by
    simp only [orI, List.mem_cons, forall_eq_or_imp]
    split
    · rename_i h; rw [orI_zero]; simp [h]
    · rename_i h; simp [h]
theorem lexI_zero {α : Type} {f : α → α → Int} {g : α → α → Bool} : ∀ {l r : List α}, (∀ a ∈ l, ∀ b ∈ r, f a b = 0 ↔ g a b = true) → (lexI f l r = 0 ↔ all2 g l r = true)
  | [], [], _ => by simp [lexI, all2]
  | a :: l, b :: r, h => by
    have h1 := h a (by simp) b (by simp)
    have h2 := lexI_zero (l := l) (r := r) (fun x hx y hy => h x (by simp [hx]) y (by simp [hy]))
    simp only [lexI, all2, Bool.and_eq_true]
    split
    · rename_i e; rw [h2]; simp [h1.1 e]
    · rename_i e
      constructor
      · intro e'; exact absurd e' e
      · rintro ⟨e', _⟩; exact absurd (h1.2 e') e
  | [], _ :: _, _ => by simp [lexI, all2]
  | _ :: _, [], _ => by simp [lexI, all2]
/-- Values compare equal when they are equal as data. -/
theorem Val.cmp_zero (v w : Val) (hv : v.wf) (hw : w.wf) : v.cmp w = 0 ↔ v.eqv w = true := by
  have hl : lexI fldCmp v.fs w.fs = 0 ↔ all2 fldEq v.fs w.fs = true := lexI_zero fun p hp q hq => by
    have := Val.size_lt hp
    have ih := Val.cmp_zero p.2 q.2 (Val.wf_mem hv hp) (Val.wf_mem hw hq)
    simp only [fldCmp, fldEq, orI_zero, List.mem_cons, List.not_mem_nil, or_false, forall_eq_or_imp, forall_eq, ih, cmpBytes_zero, Bool.and_eq_true, beq_iff_eq]
  have hk := Val.wf_n hv
  have hn := Val.wf_n hw
  have key : orI [cmpI v.k w.k, cmpI (if v.k = 3 then ordI v.n else v.n) (if v.k = 3 then ordI w.n else w.n), cmpBytes v.s w.s] = 0 ↔ v.k = w.k ∧ v.n = w.n ∧ v.s = w.s := by
    simp only [orI_zero, List.mem_cons, List.not_mem_nil, or_false, forall_eq_or_imp, forall_eq, cmpI_zero, cmpBytes_zero]
    by_cases k3 : v.k = 3
    · simp only [k3, if_true, ordI_inj hk hn]
    · simp only [k3, if_false]
  rw [v.cmp_eq, v.eqv_eq]
  simp only [Bool.and_eq_true, beq_iff_eq]
  by_cases e : orI [cmpI v.k w.k, cmpI (if v.k = 3 then ordI v.n else v.n) (if v.k = 3 then ordI w.n else w.n), cmpBytes v.s w.s] = 0
  · rw [if_pos e, hl]
    obtain ⟨e1, e2, e3⟩ := key.1 e
    simp [e1, e2, e3]
  · rw [if_neg e]
    constructor
    · intro e'; exact absurd e' e
    · rintro ⟨e1, e2, e3, _⟩
      exact absurd (key.2 ⟨e1, e2, e3⟩) e
  termination_by SizeOf.sizeOf v
/-- As the loop of slices.CompareFunc finds it: the second list may be longer. -/
def lexL {α : Type} (f : α → α → Int) : List α → List α → Int
  | [], _ => 0
  | _ :: _, [] => 1
  | a :: r, b :: s => if f a b = 0 then lexL f r s else f a b
theorem lexI_lexL {α : Type} {f : α → α → Int} : ∀ (l r : List α), lexI f l r = if lexL f l r = 0 then (if l.length < r.length then -1 else 0) else lexL f l r
  | [], [] => by simp [lexI, lexL]
  | a :: l, b :: r => by
    simp only [lexI, lexL, lexI_lexL l r, List.length_cons, Nat.add_lt_add_iff_right]
    split
    · rfl
    · rename_i h; simp [h]
  | [], _ :: _ => by simp [lexI, lexL]
  | _ :: _, [] => by simp [lexI, lexL]
end Go.Ev
