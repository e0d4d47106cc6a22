/-
  Each operation of the abstract machine does what the model's operation does: constants, operands, and the operations without memory.
-/
import Derived.Test.YtnlaheegimhdpaaDoorEvB
set_option linter.all false
namespace Go.Ev
variable {P : Program} {T : Nat → AFn} {S : Stab} {pl : Pl} {St : St} {F : Fr} {a : Act} {w : World}

/-! ### Constants and operands -/
def constK : K → Value → C → Bool
  | .int k, .int k' n, .int m => Nat.beq (IntKind.tag k) (IntKind.tag k') && n == m
  | .bool, .bool b, .bool c => b == c
  | .str, .string b, .str s => b.data.toList == s
  | .sl _, .slice none 0 0, .nils => true
  | .fn _, .nilFunc, .nilfn => true
  | .ref _, .pointer none, .nilp => true
  | .ifc, .nilIface, .nilI => true
  | _, _, _ => false
def constKs : List K → List Value → Row → Bool
  | [], [], [] => true
  | k :: ks, v :: vs, c :: cs => constK k v c && constKs ks vs cs
  | _, _, _ => false
def constOk : L → Value → Row → Bool
  | .one k, v, [c] => constK k v c
  | .agg ks, .agg vs, row => constKs ks vs.toList row
  | _, _, _ => false

theorem constK_sound {k : K} {v : Value} {c : C} (h : constK k v c = true) : Rep P T S k v c := by
  unfold constK at h
  split at h
  · simp only [Bool.and_eq_true, beq_iff_eq] at h
    rw [tag_inj h.1, h.2]; exact .int
  · simp at h; subst h; exact .bool
  · simp at h; subst h; exact .str
  · exact .nils
  · exact .nilfn
  · exact .nilp
  · exact .nilI
  · simp at h
theorem constKs_sound : ∀ {ks : List K} {vs : List Value} {row : Row}, constKs ks vs row = true → RepR P T S ks vs row
  | [], [], [], _ => ⟨rfl, rfl, fun j k h => by simp at h⟩
  | k :: ks, v :: vs, c :: cs, h => by
    simp only [constKs, Bool.and_eq_true] at h
    have r : RepR P T S ks vs cs := constKs_sound h.2
    refine ⟨by simp [r.clen], by simp [r.rlen], fun j k' hk => ?_⟩
    cases j with
    | zero => simp at hk; subst hk; exact constK_sound h.1
    | succ j => simpa [at_] using r.cell j k' (by simpa using hk)
  | [], [], _ :: _, h => by simp [constKs] at h
  | [], _ :: _, _, h => by simp [constKs] at h
  | _ :: _, [], _, h => by simp [constKs] at h
  | _ :: _, _ :: _, [], h => by simp [constKs] at h
theorem constOk_sound {l : L} {v : Value} {row : Row} (h : constOk l v row = true) : RepL P T S l v row := by
  unfold constOk at h
  split at h
  · exact ⟨_, rfl, constK_sound h⟩
  · exact ⟨_, rfl, constKs_sound h⟩
  · simp at h

def lsBeq : List L → List L → Bool
  | [], [] => true
  | a :: x, b :: y => L.beq a b && lsBeq x y
  | _, _ => false
theorem lsBeq_eq : ∀ {a b : List L}, lsBeq a b = true → a = b
  | [], [], _ => rfl
  | [], _ :: _, h => by simp [lsBeq] at h
  | _ :: _, [], h => by simp [lsBeq] at h
  | a :: x, b :: y, h => by
    simp only [lsBeq, Bool.and_eq_true] at h
    rw [L.beq_eq h.1, lsBeq_eq h.2]

/-- Does function f, with captured cells of kinds ks, have the type t? -/
def sigB (P : Program) (T : Nat → AFn) (t : TypeId) (f : Nat) (ks : List K) : Bool :=
  match P.underlying t with
  | some (.func pt rt _) =>
    match laysOf P pt.toList, laysOf P rt.toList, (T f).sig with
    | some ps, some rs, some (ps', rs') => lsBeq ps' (ps ++ ks.map .one) && lsBeq rs' rs
    | _, _, _ => false
  | _ => false
theorem sigB_sound {t f ks} (h : sigB P T t f ks = true) : FnOk P T t f ks := by
  unfold sigB at h
  split at h
  · rename_i pt rt v hu
    split at h
    · rename_i ps rs ps' rs' h1 h2 h3
      simp only [Bool.and_eq_true] at h
      exact ⟨pt, rt, v, ps, rs, hu, h1, h2, by rw [h3, lsBeq_eq h.1, lsBeq_eq h.2]⟩
    · simp at h
  · simp at h

def cBeq : C → C → Bool
  | .int a, .int b => a == b
  | .bool a, .bool b => a == b
  | .str a, .str b => a == b
  | .nils, .nils => true
  | _, _ => false
theorem cBeq_eq {a b : C} (h : cBeq a b = true) : a = b := by
  unfold cBeq at h; split at h <;> simp_all
def rowBeq : Row → Row → Bool
  | [], [] => true
  | a :: x, b :: y => cBeq a b && rowBeq x y
  | _, _ => false
theorem rowBeq_eq : ∀ {a b : Row}, rowBeq a b = true → a = b
  | [], [], _ => rfl
  | [], _ :: _, h => by simp [rowBeq] at h
  | _ :: _, [], h => by simp [rowBeq] at h
  | a :: x, b :: y, h => by
    simp only [rowBeq, Bool.and_eq_true] at h
    rw [cBeq_eq h.1, rowBeq_eq h.2]
def globB (T : Nat → AFn) (g : Nat) (t : TypeId) (row : Row) : Bool := match T (gbase + g) with | .glob t' _ row' => Nat.beq t t' && rowBeq row row' | _ => false
def opdOk (P : Program) (T : Nat → AFn) : Operand → Opd → Bool
  | .tmp t, .t n => Nat.beq t n
  | .const v, .c l row => constOk l v row
  | .func f, .c (.one (.fn t)) [.fn g []] => Nat.beq f g && sigB P T t f []
  | .global g, .c (.one (.ref t)) [.dp row] => globB T g t row
  | _, _ => false
theorem opd_sound (hs : Sim P T S pl St w) {x : Operand} {y : Opd} (h : opdOk P T x y = true) (hF : RelF P T S pl St F a.tmps) : RelV P T S pl St (y.ev F) (a.eval x) := by
  unfold opdOk at h
  split at h
  · have e := Nat.eq_of_beq_eq_true h; subst e; exact hF _
  · exact .d (constOk_sound h)
  · simp only [Bool.and_eq_true] at h
    have e := Nat.eq_of_beq_eq_true h.1; subst e
    refine .d ⟨_, rfl, ?_⟩
    have r := Rep.fn (P := P) (T := T) (S := S) (ks := []) (cs := []) (fun _ => undef) (sigB_sound h.2) rfl (fun i k hk => by simp at hk)
    simpa [Act.eval] using r
  · unfold globB at h
    split at h
    · rename_i t' l row' e
      simp only [Bool.and_eq_true] at h
      obtain rfl := Nat.eq_of_beq_eq_true h.1
      obtain rfl := rowBeq_eq h.2
      exact .d ⟨_, rfl, hs.glob _ _ _ _ e⟩
    · simp at h
  · simp at h

theorem range_getD (vs : Nat → Value) (n i : Nat) (h : i < n) : ((List.range n).map vs).getD i undef = vs i := by
  simp [List.getD_eq_getElem?_getD, h]
/-- A stable array's slice is data. -/
theorem sw_data (hs : Sim P T S pl St w) {id ver : Nat} {e : TypeId} {l : L} {c : C} {v : Value} (hv : RelV P T S pl St (.sw id ver) v) (ho : St[id]? = some (.sarr ver e l c)) : RepL P T S (.one (.sl e)) v [c] := by
  cases hv with
  | sw h0 h1 h2 h3 h4 h5 =>
    rw [ho] at h1; obtain rfl := Option.some.inj h1
    refine ⟨c, rfl, ?_⟩
    rcases hs.objs _ _ ho with rfl | ⟨rows, cur, e', i, rfl, g1, g2, g3, g4, g5, g6, g7, g8, g9⟩
    · rw [h4 _ _ rfl]; exact .nils
    · rw [h5 _ _ _ rfl]
      have hrow : ∀ i, i < rows.length → RepR P T S l.ks ((cur.toList.drop (i * l.n)).take l.n) (rowsAt rows i) := fun i hi => by
        refine g8 i _ ?_
        simp [rowsAt, List.getD_eq_getElem?_getD, hi]
      refine .sl (fun i j => cur.getD (i * l.n + j) undef) g2 rfl g5 (fun r hr => ?_) (fun _ => rfl) (fun i j hi hj => ?_) (fun i j k hi hk => ?_)
      · obtain ⟨i, hi, rfl⟩ := List.getElem_of_mem hr
        have := (g8 i _ (List.getElem?_eq_getElem hi)).rlen
        exact this
      · have hle := Nat.mul_le_mul_right l.n (show i + 1 ≤ rows.length from hi)
        have hexp : (i + 1) * l.n = i * l.n + l.n := Nat.succ_mul _ _
        rw [Nat.zero_add]; exact g9 _ (by omega)
      · have hj : j < l.n := (List.getElem?_eq_some_iff.1 hk).1
        have := (hrow i hi).cell j k hk
        have e : ((cur.toList.drop (i * l.n)).take l.n).getD j undef = cur.getD (i * l.n + j) undef := by
          simp [List.getD_eq_getElem?_getD, List.getElem?_take, hj]
        rw [e] at this; exact this

theorem dat_d {l : L} {r : Row} : (AV.d l r).dat St = .d l r := by simp [AV.dat]
mutual
theorem dat_sound (hs : Sim P T S pl St w) : ∀ (av : AV) (v : Value), RelV P T S pl St av v → RelV P T S pl St (av.dat St) v
  | .sw id ver, v, h => by
    simp only [AV.dat]
    split
    · rename_i v' e l c ho
      split
      · rename_i hb
        obtain rfl := Nat.eq_of_beq_eq_true hb
        exact .d (sw_data hs h ho)
      · exact h
    · exact h
  | .agg vs, v, h => by
    simp only [AV.dat]
    split
    · rename_i ks row hg
      cases h with
      | agg vals h1 h2 =>
        have := gather_sound hs vs vals ks row hg h2
        exact .d ⟨_, rfl, by simpa using this⟩
    · exact h
  | .undef, v, h => by simpa [AV.dat] using h
  | .und, v, h => by simpa [AV.dat] using h
  | .d _ _, v, h => by simpa [AV.dat] using h
  | .ptr _ _, v, h => by simpa [AV.dat] using h
  | .aptr _ _ _ _, v, h => by simpa [AV.dat] using h
  | .whole _ _, v, h => by simpa [AV.dat] using h
  | .own _ _ _ _, v, h => by simpa [AV.dat] using h
  | .fn _ _, v, h => by simpa [AV.dat] using h
  | .tup _, v, h => by simpa [AV.dat] using h
  | .map _, v, h => by simpa [AV.dat] using h
theorem gather_sound (hs : Sim P T S pl St w) : ∀ (avs : List AV) (vals : Nat → Value) (ks : List K) (row : Row), AV.gather St avs = some (ks, row) → (∀ i av, avs[i]? = some av → RelV P T S pl St av (vals i)) →
    RepR P T S ks ((List.range avs.length).map vals) row
  | [], vals, ks, row, h, _ => by
    simp only [AV.gather, Option.some.injEq, Prod.mk.injEq] at h
    obtain ⟨rfl, rfl⟩ := h
    exact ⟨rfl, rfl, fun j k hk => by simp at hk⟩
  | av :: avs, vals, ks, row, h, hv => by
    simp only [AV.gather] at h
    split at h
    · rename_i k r ks' row' h1 h2
      simp only [Option.some.injEq, Prod.mk.injEq] at h
      obtain ⟨rfl, rfl⟩ := h
      have hd := dat_sound hs av (vals 0) (hv 0 av rfl)
      rw [h1] at hd
      cases hd with
      | d hd =>
        have hr := hd.of_one
        have ih := gather_sound hs avs (fun i => vals (i + 1)) ks' row' h2 (fun i av hi => hv (i + 1) av (by simpa using hi))
        have hl := ih.clen
        simp only [List.length_map, List.length_range] at hl
        refine ⟨by simp [hl], by simp [ih.rlen], fun j k' hk => ?_⟩
        cases j with
        | zero =>
          simp at hk; subst hk
          rw [range_getD _ _ _ (by simp)]; exact hr
        | succ j =>
          have hk : ks'[j]? = some k' := by simpa using hk
          have hj : j < ks'.length := (List.getElem?_eq_some_iff.1 hk).1
          have := ih.cell j k' hk
          rw [range_getD _ _ _ (by omega)] at this
          rw [range_getD _ _ _ (by simp; omega)]
          simpa [at_] using this
    · simp at h
end
theorem tgt_dat {y : Opd} {id : Nat} (h : tgtV (y.evD F St) = some id) : tgtV (y.ev F) = some id := by
  unfold Opd.evD at h
  generalize y.ev F = v at *
  cases v with
  | sw i u =>
    simp only [AV.dat] at h
    split at h
    · split at h
      · simp [tgtV] at h
      · exact h
    · exact h
  | agg vs =>
    simp only [AV.dat] at h
    split at h <;> simp [tgtV] at h
  | _ => simpa [AV.dat] using h
theorem opd_soundD (hs : Sim P T S pl St w) {x : Operand} {y : Opd} (h : opdOk P T x y = true) (hF : RelF P T S pl St F a.tmps) : RelV P T S pl St (y.evD F St) (a.eval x) := dat_sound hs _ _ (opd_sound hs h hF)

/-! ### What an operation comes to -/
/-- Behind an operation whose objects are St': the memory w' and the value v. -/
def OpPost (P : Program) (T : Nat → AFn) (S : Stab) (pl : Pl) (St : Ev.St) (w : World) (St' : Ev.St) (av : AV) (v : Value) (w' : World) : Prop :=
  ∃ S' pl', Sim P T S' pl' St' w' ∧ Grow (Owns pl St) S w S' w' ∧ RelV P T S' pl' St' av v ∧
    (∀ av0 v0, RelV P T S pl St av0 v0 → RelV P T S' pl' St' av0 v0) ∧ (∀ b, Owns pl' St' b → Owns pl St b ∨ w.heap.size ≤ b)
theorem OpPost.same {av : AV} {v : Value} (hs : Sim P T S pl St w) (h : RelV P T S pl St av v) : OpPost P T S pl St w St av v w :=
  ⟨S, pl, hs, .refl _ _ _, h, fun _ _ h => h, fun _ h => .inl h⟩

def Done (P : Program) (o : Oper) (a : Act) (w : World) (R : Value → World → Prop) : Prop :=
  ∀ (next : Act → World → Prop) (Q : Exit → Act → World → Prop), (∀ v w', R v w' → next (a.put o.dst v) w') → o.wp P a w next Q
theorem done_run {o : Oper} {v : Value} {w' : World} {R : Value → World → Prop} (h : (execOp a.eval o).run P w = .ok (.value v) w') (hR : R v w') : Done P o a w R := by
  intro next Q hn
  unfold Oper.wp
  rw [h]
  exact hn v w' hR
theorem done_skip {o : Oper} {w' : World} {R : Value → World → Prop} (h : (execOp a.eval o).run P w = .ok .skip w') (hR : R undef w') : Done P o a w R := by
  intro next Q hn
  unfold Oper.wp
  rw [h]
  exact hn undef w' hR

/-! ### Taking the abstract operation apart -/
section
variable {A : Type}
theorem asI_some {v : AV} {k : IntKind → Int → Option A} {r : A} (h : asI v k = some r) : ∃ kd row, v = .d (.one (.int kd)) row ∧ k kd (at_ row 0).toI = some r := by
  unfold asI at h; split at h <;> first | exact ⟨_, _, rfl, h⟩ | simp at h
theorem asB_some {v : AV} {k : Bool → Option A} {r : A} (h : asB v k = some r) : ∃ row, v = .d (.one .bool) row ∧ k (at_ row 0).toB = some r := by
  unfold asB at h; split at h <;> first | exact ⟨_, rfl, h⟩ | simp at h
theorem asS_some {v : AV} {k : List UInt8 → Option A} {r : A} (h : asS v k = some r) : ∃ row, v = .d (.one .str) row ∧ k (at_ row 0).toS = some r := by
  unfold asS at h; split at h <;> first | exact ⟨_, rfl, h⟩ | simp at h
theorem asSl_some {v : AV} {k : TypeId → C → Option A} {r : A} (h : asSl v k = some r) : ∃ e row, v = .d (.one (.sl e)) row ∧ k e (at_ row 0) = some r := by
  unfold asSl at h; split at h <;> first | exact ⟨_, _, rfl, h⟩ | simp at h
theorem asD_some {v : AV} {k : L → Row → Option A} {r : A} (h : asD v k = some r) : ∃ l row, v = .d l row ∧ k l row = some r := by
  unfold asD at h; split at h <;> first | exact ⟨_, _, rfl, h⟩ | simp at h
theorem check_some {b : Bool} {k : Option A} {r : A} (h : check b k = some r) : b = true ∧ k = some r := by
  unfold check at h; split at h <;> first | exact ⟨rfl, h⟩ | simp at h
theorem ite_some {c : Prop} [Decidable c] {k : Option A} {r : A} (h : (if c then k else none) = some r) : c ∧ k = some r := by
  split at h <;> first | exact ⟨‹_›, h⟩ | simp at h
end

theorem RelV.of_d {l : L} {row : Row} {v : Value} (h : RelV P T S pl St (.d l row) v) : RepL P T S l v row := by cases h; assumption
theorem RelV.of_int {k : IntKind} {row : Row} {v : Value} (h : RelV P T S pl St (.d (.one (.int k)) row) v) : v = .int k (at_ row 0).toI := by
  obtain ⟨c, rfl, hr⟩ := h.of_d; cases hr; rfl
theorem RelV.of_bool {row : Row} {v : Value} (h : RelV P T S pl St (.d (.one .bool) row) v) : v = .bool (at_ row 0).toB := by
  obtain ⟨c, rfl, hr⟩ := h.of_d; cases hr; rfl
theorem RelV.of_str {row : Row} {v : Value} (h : RelV P T S pl St (.d (.one .str) row) v) : ∃ b : ByteArray, v = .string b ∧ b.data.toList = (at_ row 0).toS := by
  obtain ⟨c, rfl, hr⟩ := h.of_d; cases hr; exact ⟨_, rfl, rfl⟩
theorem relI (k : IntKind) (n : Int) : RelV P T S pl St (vI k n) (.int k n) := .d ⟨_, rfl, .int⟩
theorem relB (b : Bool) : RelV P T S pl St (vB b) (.bool b) := .d ⟨_, rfl, .bool⟩
theorem relS (b : ByteArray) : RelV P T S pl St (vS b.data.toList) (.string b) := .d ⟨_, rfl, .str⟩

/-! ### The operations without memory -/
theorem bsize (b : ByteArray) : b.data.toList.length = b.size := Array.length_toList

/-- What the abstract operation gives, as a pair. -/
abbrev ret2 : AV → Option Obj → Option (AV × Option Obj) := fun v o => some (v, o)

section
variable {o : Oper} {x y c : Operand} {ax ay ac : Opd}
variable (hs : Sim P T S pl St w) (hF : RelF P T S pl St F a.tmps)
include hs hF

theorem s_mov (ho : o.op = .move x ∨ o.op = .assign x) (hx : opdOk P T x ax = true) : Done P o a w (OpPost P T S pl St w St (ax.ev F)) := by
  refine done_run (v := a.eval x) (w' := w) ?_ (.same hs (opd_sound hs hx hF))
  rcases ho with h | h <;> simp [execOp, h]

theorem s_pick {x y : Operand} {av : AV} {no : Option Obj} (ho : o.op = .pick c x y) (hc : opdOk P T c ac = true) (hx : opdOk P T x ax = true) (hy : opdOk P T y ay = true)
    (h : (asB (ac.evD F St) fun t => if t = true then ret2 (ax.ev F) none else ret2 (ay.ev F) none) = some (av, no)) : no = none ∧ Done P o a w (OpPost P T S pl St w St av) := by
  obtain ⟨row, e, hA⟩ := asB_some h; clear h; have h := hA; clear hA
  have hv0 := opd_soundD hs hc hF; rw [e] at hv0
  have hv := hv0.of_bool
  split at h <;> rename_i ht <;> simp only [ret2, Option.some.injEq, Prod.mk.injEq] at h <;> obtain ⟨rfl, rfl⟩ := h
  · refine ⟨rfl, done_run (v := a.eval x) (w' := w) ?_ (.same hs (opd_sound hs hx hF))⟩
    simp [execOp, ho, hv, ht, asBool]
  · refine ⟨rfl, done_run (v := a.eval y) (w' := w) ?_ (.same hs (opd_sound hs hy hF))⟩
    simp [execOp, ho, hv, ht, asBool]

theorem s_arith {op : BinOp} {t u : TypeId} {av : AV} {no : Option Obj} (ho : o.op = .binOp op t x y u) (hx : opdOk P T x ax = true) (hy : opdOk P T y ay = true)
    (h : (asI (ax.evD F St) fun kd m => asI (ay.evD F St) fun kd' n => check (Nat.beq (IntKind.tag kd) (IntKind.tag kd')) (arith op kd m n fun n => ret2 (vI kd n) none)) = some (av, no)) :
    no = none ∧ Done P o a w (OpPost P T S pl St w St av) := by
  obtain ⟨k, r1, e1, hA⟩ := asI_some h; clear h
  obtain ⟨k', r2, e2, hB⟩ := asI_some hA; clear hA
  obtain ⟨hk, h⟩ := check_some hB; clear hB
  obtain rfl := tag_inj hk
  have g1 := opd_soundD hs hx hF; rw [e1] at g1; have h1 := g1.of_int
  have g2 := opd_soundD hs hy hF; rw [e2] at g2; have h2 := g2.of_int
  clear g1 g2 e1 e2 hk
  generalize (at_ r1 0).toI = m at *
  generalize (at_ r2 0).toI = n at *
  unfold arith at h
  split at h <;> first
    | (simp at h; done)
    | (simp only [ret2, Option.some.injEq, Prod.mk.injEq] at h
       obtain ⟨rfl, rfl⟩ := h
       refine ⟨rfl, done_run (w' := w) ?_ (.same hs (relI _ _))⟩
       simp [execOp, ho, h1, h2, eqGuard, binOp, Op.intArith, Op.intBits, bitsOf])

theorem s_icmp {op : BinOp} {t u : TypeId} {av : AV} {no : Option Obj} (ho : o.op = .binOp op t x y u) (hx : opdOk P T x ax = true) (hy : opdOk P T y ay = true)
    (h : (asI (ax.evD F St) fun kd m => asI (ay.evD F St) fun kd' n => check (Nat.beq (IntKind.tag kd) (IntKind.tag kd')) (icmpK op m n fun b => ret2 (vB b) none)) = some (av, no)) :
    no = none ∧ Done P o a w (OpPost P T S pl St w St av) := by
  obtain ⟨k, r1, e1, hA⟩ := asI_some h; clear h
  obtain ⟨k', r2, e2, hB⟩ := asI_some hA; clear hA
  obtain ⟨hk, h⟩ := check_some hB; clear hB
  obtain rfl := tag_inj hk
  have g1 := opd_soundD hs hx hF; rw [e1] at g1; have h1 := g1.of_int
  have g2 := opd_soundD hs hy hF; rw [e2] at g2; have h2 := g2.of_int
  clear g1 g2 e1 e2 hk
  generalize (at_ r1 0).toI = m at *
  generalize (at_ r2 0).toI = n at *
  unfold icmpK at h
  split at h <;> first
    | (simp at h; done)
    | (simp only [ret2, Option.some.injEq, Prod.mk.injEq] at h
       obtain ⟨rfl, rfl⟩ := h
       refine ⟨rfl, done_run (w' := w) ?_ (.same hs (relB _))⟩
       simp [execOp, ho, h1, h2, eqGuard, binOp, Op.intCmp])

theorem s_idiv {op : BinOp} {t u : TypeId} {av : AV} {no : Option Obj} (ho : o.op = .binOp op t x y u) (hx : opdOk P T x ax = true) (hy : opdOk P T y ay = true)
    (h : (asI (ax.evD F St) fun kd m => asI (ay.evD F St) fun kd' n => check (Nat.beq (IntKind.tag kd) (IntKind.tag kd')) (if n = 0 then none else match op with
      | .quo => ret2 (vI kd (kd.wrap (m.tdiv n))) none
      | .rem => ret2 (vI kd (m.tmod n)) none
      | _ => none)) = some (av, no)) : no = none ∧ Done P o a w (OpPost P T S pl St w St av) := by
  obtain ⟨k, r1, e1, hA⟩ := asI_some h; clear h
  obtain ⟨k', r2, e2, hB⟩ := asI_some hA; clear hA
  obtain ⟨hk, h⟩ := check_some hB; clear hB
  obtain rfl := tag_inj hk
  have g1 := opd_soundD hs hx hF; rw [e1] at g1; have h1 := g1.of_int
  have g2 := opd_soundD hs hy hF; rw [e2] at g2; have h2 := g2.of_int
  clear g1 g2 e1 e2 hk
  generalize (at_ r1 0).toI = m at *
  generalize (at_ r2 0).toI = n at *
  by_cases hn : n = 0
  · simp [hn] at h
  · rw [if_neg hn] at h
    split at h <;> first
      | (simp at h; done)
      | (simp only [ret2, Option.some.injEq, Prod.mk.injEq] at h
         obtain ⟨rfl, rfl⟩ := h
         refine ⟨rfl, done_run (w' := w) ?_ (.same hs (relI _ _))⟩
         simp [execOp, ho, h1, h2, eqGuard, binOp, Op.intDiv, hn])

theorem s_shf {op : BinOp} {t u : TypeId} {av : AV} {no : Option Obj} (ho : o.op = .binOp op t x y u) (hx : opdOk P T x ax = true) (hy : opdOk P T y ay = true)
    (h : (asI (ax.evD F St) fun kd m => asI (ay.evD F St) fun _ n => if n < 0 then none else match op with
      | .shl => ret2 (vI kd (kd.wrap (m * 2 ^ (min n.toNat kd.bits)))) none
      | .shr => ret2 (vI kd (m.fdiv (2 ^ (min n.toNat kd.bits)))) none
      | _ => none) = some (av, no)) : no = none ∧ Done P o a w (OpPost P T S pl St w St av) := by
  obtain ⟨k, r1, e1, hA⟩ := asI_some h; clear h
  obtain ⟨k', r2, e2, h⟩ := asI_some hA; clear hA
  have g1 := opd_soundD hs hx hF; rw [e1] at g1; have h1 := g1.of_int
  have g2 := opd_soundD hs hy hF; rw [e2] at g2; have h2 := g2.of_int
  clear g1 g2 e1 e2
  generalize (at_ r1 0).toI = m at *
  generalize (at_ r2 0).toI = n at *
  by_cases hn : n < 0
  · simp [hn] at h
  · rw [if_neg hn] at h
    split at h <;> first
      | (simp at h; done)
      | (simp only [ret2, Option.some.injEq, Prod.mk.injEq] at h
         obtain ⟨rfl, rfl⟩ := h
         refine ⟨rfl, done_run (w' := w) ?_ (.same hs (relI _ _))⟩
         simp [execOp, ho, h1, h2, eqGuard, binOp, Op.shift, hn])

theorem s_scat {t u : TypeId} {av : AV} {no : Option Obj} (ho : o.op = .binOp .add t x y u) (hx : opdOk P T x ax = true) (hy : opdOk P T y ay = true)
    (h : (asS (ax.evD F St) fun m => asS (ay.evD F St) fun n => if m.length + n.length ≤ 1099511627776 then ret2 (vS (m ++ n)) none else none) = some (av, no)) :
    no = none ∧ Done P o a w (OpPost P T S pl St w St av) := by
  obtain ⟨r1, e1, hA⟩ := asS_some h; clear h
  obtain ⟨r2, e2, hB⟩ := asS_some hA; clear hA
  obtain ⟨hl, h⟩ := ite_some hB; clear hB
  have g1 := opd_soundD hs hx hF; rw [e1] at g1; obtain ⟨b1, h1, q1⟩ := g1.of_str
  have g2 := opd_soundD hs hy hF; rw [e2] at g2; obtain ⟨b2, h2, q2⟩ := g2.of_str
  rw [← q1, ← q2] at h hl
  simp only [ret2, Option.some.injEq, Prod.mk.injEq] at h
  obtain ⟨rfl, rfl⟩ := h
  have hsz : b1.size + b2.size ≤ 1099511627776 := by
    rw [bsize, bsize] at hl; exact hl
  refine ⟨rfl, done_run (v := .string (b1 ++ b2)) (w' := w) ?_ (.same hs ?_)⟩
  · have hn : ¬ (((b1.size + b2.size : Nat) : Int) > IntKind.i64.max) := by simp [IntKind.max, IntKind.signed, IntKind.bits]; omega
    simp only [execOp, ho, h1, h2, eqGuard, binOp, Op.stringOp]
    rw [if_neg hn]
    simp
  · have : (b1 ++ b2).data.toList = b1.data.toList ++ b2.data.toList := by simp
    rw [← this]; exact relS _

theorem s_scmp {op : BinOp} {t u : TypeId} {av : AV} {no : Option Obj} (ho : o.op = .binOp op t x y u) (hx : opdOk P T x ax = true) (hy : opdOk P T y ay = true)
    (h : (asS (ax.evD F St) fun m => asS (ay.evD F St) fun n => scmpK op m n fun b => ret2 (vB b) none) = some (av, no)) :
    no = none ∧ Done P o a w (OpPost P T S pl St w St av) := by
  obtain ⟨r1, e1, hA⟩ := asS_some h; clear h
  obtain ⟨r2, e2, h⟩ := asS_some hA; clear hA
  have g1 := opd_soundD hs hx hF; rw [e1] at g1; obtain ⟨b1, h1, q1⟩ := g1.of_str
  have g2 := opd_soundD hs hy hF; rw [e2] at g2; obtain ⟨b2, h2, q2⟩ := g2.of_str
  rw [← q1, ← q2] at h
  unfold scmpK at h
  split at h <;> first
    | (simp at h; done)
    | (simp only [ret2, Option.some.injEq, Prod.mk.injEq] at h
       obtain ⟨rfl, rfl⟩ := h
       refine ⟨rfl, done_run (w' := w) ?_ (.same hs (relB _))⟩
       simp [execOp, ho, h1, h2, eqGuard, binOp, Op.stringOp, ByteArray.toList_eq])

theorem s_bcmp {neg : Bool} {op : BinOp} {t u : TypeId} {av : AV} {no : Option Obj} (ho : o.op = .binOp op t x y u) (hop : op = (if neg then .neq else .eql)) (ht : P.underlying t = some .bool)
    (hx : opdOk P T x ax = true) (hy : opdOk P T y ay = true)
    (h : (asB (ax.evD F St) fun m => asB (ay.evD F St) fun n => ret2 (vB (xorB neg (m == n))) none) = some (av, no)) :
    no = none ∧ Done P o a w (OpPost P T S pl St w St av) := by
  obtain ⟨r1, e1, hA⟩ := asB_some h; clear h
  obtain ⟨r2, e2, h⟩ := asB_some hA; clear hA
  have g1 := opd_soundD hs hx hF; rw [e1] at g1; have h1 := g1.of_bool
  have g2 := opd_soundD hs hy hF; rw [e2] at g2; have h2 := g2.of_bool
  simp only [ret2, Option.some.injEq, Prod.mk.injEq] at h
  obtain ⟨rfl, rfl⟩ := h
  refine ⟨rfl, done_run (w' := w) ?_ (.same hs (relB _))⟩
  cases neg
  · simp at hop; subst hop
    simp [execOp, ho, h1, h2, eqGuard, run_eql_bool _ _ _ _ ht, xorB]
  · simp at hop; subst hop
    simp [execOp, ho, h1, h2, eqGuard, run_neq_bool _ _ _ _ ht, xorB]

theorem s_not {t : TypeId} {av : AV} {no : Option Obj} (ho : o.op = .unOp .not t x) (hx : opdOk P T x ax = true)
    (h : (asB (ax.evD F St) fun m => ret2 (vB (!m)) none) = some (av, no)) : no = none ∧ Done P o a w (OpPost P T S pl St w St av) := by
  obtain ⟨r1, e1, hA⟩ := asB_some h; clear h
  have g1 := opd_soundD hs hx hF; rw [e1] at g1; have h1 := g1.of_bool
  simp only [ret2, Option.some.injEq, Prod.mk.injEq] at hA
  obtain ⟨rfl, rfl⟩ := hA
  refine ⟨rfl, done_run (w' := w) ?_ (.same hs (relB _))⟩
  simp [execOp, ho, h1, Op.unary]

theorem s_ineg {t : TypeId} {av : AV} {no : Option Obj} (ho : o.op = .unOp .neg t x) (hx : opdOk P T x ax = true)
    (h : (asI (ax.evD F St) fun kd m => ret2 (vI kd (kd.wrap (0 - m))) none) = some (av, no)) : no = none ∧ Done P o a w (OpPost P T S pl St w St av) := by
  obtain ⟨k, r1, e1, hA⟩ := asI_some h; clear h
  have g1 := opd_soundD hs hx hF; rw [e1] at g1; have h1 := g1.of_int
  simp only [ret2, Option.some.injEq, Prod.mk.injEq] at hA
  obtain ⟨rfl, rfl⟩ := hA
  refine ⟨rfl, done_run (w' := w) ?_ (.same hs (relI _ _))⟩
  simp [execOp, ho, h1, Op.unary, Op.intArith]

theorem s_icpl {t : TypeId} {av : AV} {no : Option Obj} (ho : o.op = .unOp .xor t x) (hx : opdOk P T x ax = true)
    (h : (asI (ax.evD F St) fun kd m => ret2 (vI kd (bitsOf .xor kd (if kd.signed then -1 else kd.max) m)) none) = some (av, no)) : no = none ∧ Done P o a w (OpPost P T S pl St w St av) := by
  obtain ⟨k, r1, e1, hA⟩ := asI_some h; clear h
  have g1 := opd_soundD hs hx hF; rw [e1] at g1; have h1 := g1.of_int
  simp only [ret2, Option.some.injEq, Prod.mk.injEq] at hA
  obtain ⟨rfl, rfl⟩ := hA
  refine ⟨rfl, done_run (w' := w) ?_ (.same hs (relI _ _))⟩
  simp [execOp, ho, h1, Op.unary, Op.intBits, bitsOf]

theorem s_i2i {s t : TypeId} {k : IntKind} {av : AV} {no : Option Obj} (ho : o.op = .convert s t x) (ht : P.underlying t = some (.int k)) (hsu : (P.underlying s).isSome = true) (hx : opdOk P T x ax = true)
    (h : (asI (ax.evD F St) fun _ m => ret2 (vI k (k.wrap m)) none) = some (av, no)) : no = none ∧ Done P o a w (OpPost P T S pl St w St av) := by
  obtain ⟨k', r1, e1, hA⟩ := asI_some h; clear h
  have g1 := opd_soundD hs hx hF; rw [e1] at g1; have h1 := g1.of_int
  simp only [ret2, Option.some.injEq, Prod.mk.injEq] at hA
  obtain ⟨rfl, rfl⟩ := hA
  refine ⟨rfl, done_run (w' := w) ?_ (.same hs (relI _ _))⟩
  obtain ⟨d, hd⟩ := Option.isSome_iff_exists.1 hsu
  simp [execOp, ho, h1, convert, run_underlying ht, run_underlying hd, Conv.intToInt]

theorem s_lenS {t ty : TypeId} {av : AV} {no : Option Obj} (ho : o.op = .call { callee := .builtin .len, args := #[x], argTypes := #[t] }) (ht : P.underlying t = some .string) (hx : opdOk P T x ax = true)
    (h : (asS (ax.evD F St) fun s => ret2 (vI .i64 s.length) none) = some (av, no)) : no = none ∧ Done P o a w (OpPost P T S pl St w St av) := by
  obtain ⟨r1, e1, hA⟩ := asS_some h; clear h
  have g1 := opd_soundD hs hx hF; rw [e1] at g1; obtain ⟨b1, h1, q1⟩ := g1.of_str
  rw [← q1, bsize] at hA
  simp only [ret2, Option.some.injEq, Prod.mk.injEq] at hA
  obtain ⟨rfl, rfl⟩ := hA
  refine ⟨rfl, done_run (w' := w) ?_ (.same hs (relI _ _))⟩
  simp [execOp, ho, h1, resolve, invoke, builtin, Builtin.len_, run_underlying ht, goInt]
end
end Go.Ev
