/-
  The evaluator in continuation-passing form: what goes on behind an operation is nothing but what goes on with its result.
-/
import Derived.Test.YtnlaheegimhdpaaDoorEvP
set_option linter.all false
namespace Go.Ev
variable {A B : Type} {E : Env} {F : Fr} {S : St}

theorem asI_nat (v : AV) (k : IntKind → Int → Option A) (f : A → Option B) : (asI v k).bind f = asI v fun a b => (k a b).bind f := by unfold asI; split <;> rfl
theorem asB_nat (v : AV) (k : Bool → Option A) (f : A → Option B) : (asB v k).bind f = asB v fun a => (k a).bind f := by unfold asB; split <;> rfl
theorem asS_nat (v : AV) (k : List UInt8 → Option A) (f : A → Option B) : (asS v k).bind f = asS v fun a => (k a).bind f := by unfold asS; split <;> rfl
theorem asSl_nat (v : AV) (k : TypeId → C → Option A) (f : A → Option B) : (asSl v k).bind f = asSl v fun a b => (k a b).bind f := by unfold asSl; split <;> rfl
theorem asD_nat (v : AV) (k : L → Row → Option A) (f : A → Option B) : (asD v k).bind f = asD v fun a b => (k a b).bind f := by unfold asD; split <;> rfl
theorem check_nat (b : Bool) (k : Option A) (f : A → Option B) : (check b k).bind f = check b (k.bind f) := by unfold check; split <;> rfl
theorem ite_nat (c : Prop) [Decidable c] (k : Option A) (f : A → Option B) : (if c then k else none).bind f = if c then k.bind f else none := by split <;> rfl
theorem ite2_nat (c : Prop) [Decidable c] (k k' : Option A) (f : A → Option B) : (if c then k else k').bind f = if c then k.bind f else k'.bind f := by split <;> rfl
theorem iteN_nat (c : Prop) [Decidable c] (k' : Option A) (f : A → Option B) : (if c then none else k').bind f = if c then none else k'.bind f := by split <;> rfl
theorem asArr_nat (o : Obj) (v : Nat) (k : L → C → Option A) (f : A → Option B) : (asArr o v k).bind f = asArr o v fun a b => (k a b).bind f := by unfold asArr; split <;> first | exact check_nat _ _ _ | rfl
theorem asFresh_nat (o : Obj) (k : Option A) (f : A → Option B) : (asFresh o k).bind f = asFresh o (k.bind f) := by unfold asFresh; split <;> rfl
theorem asMap_nat (o : Obj) (k : L → L → List (Row × Row) → Option A) (f : A → Option B) : (asMap o k).bind f = asMap o fun a b c => (k a b c).bind f := by unfold asMap; split <;> rfl
theorem part_nat (l l' : L) (off : Nat) (r : Row) (k : Row → Option A) (f : A → Option B) : (part l l' off r k).bind f = part l l' off r fun a => (k a).bind f := by
  unfold part; split <;> first | exact check_nat _ _ _ | rfl
theorem turn_nat (l l' : L) (off : Nat) (r row : Row) (k : Row → Option A) (f : A → Option B) : (turn l l' off r row k).bind f = turn l l' off r row fun a => (k a).bind f := by
  unfold turn; split <;> first | exact check_nat _ _ _ | rfl
theorem arith_nat (op : BinOp) (kd : IntKind) (a b : Int) (k : Int → Option A) (f : A → Option B) : (arith op kd a b k).bind f = arith op kd a b fun n => (k n).bind f := by unfold arith; split <;> rfl
theorem icmpK_nat (op : BinOp) (a b : Int) (k : Bool → Option A) (f : A → Option B) : (icmpK op a b k).bind f = icmpK op a b fun n => (k n).bind f := by unfold icmpK; split <;> rfl
theorem scmpK_nat (op : BinOp) (a b : List UInt8) (k : Bool → Option A) (f : A → Option B) : (scmpK op a b k).bind f = scmpK op a b fun n => (k n).bind f := by unfold scmpK; split <;> rfl
theorem bnd_nat (x : Option Opd) (d : Int) (k : Int → Option A) (f : A → Option B) : (bnd F S x d k).bind f = bnd F S x d fun n => (k n).bind f := by unfold bnd; split <;> first | exact asI_nat _ _ _ | rfl
theorem asHas_nat (o : Obj) (k : Option A) (f : A → Option B) : (asHas o k).bind f = asHas o (k.bind f) := by unfold asHas; split <;> rfl
theorem asSarr_nat (o : Obj) (v : Nat) (k : TypeId → L → C → Option A) (f : A → Option B) : (asSarr o v k).bind f = asSarr o v fun a b c => (k a b c).bind f := by unfold asSarr; split <;> first | exact check_nat _ _ _ | rfl
theorem splitI_nat (n : Int) (f : A → Option B) : ∀ (i m : Nat) (k : Nat → Option A), (splitI n i m k).bind f = splitI n i m fun j => (k j).bind f
  | _, 0, _ => rfl
  | i, m + 1, k => by simp only [splitI, ite2_nat, splitI_nat n f (i + 1) m]
theorem fillA_nat (f : A → Option B) : ∀ (ps : List (Nat × Nat × Opd)) (z : List AV) (k : List AV → Option A), (fillA F ps z k).bind f = fillA F ps z fun n => (k n).bind f
  | [], _, _ => rfl
  | (off, m, x) :: r, z, k => by
    simp only [fillA]
    split
    · rw [check_nat, fillA_nat f r]
    · rfl
theorem minAll_nat (mx : Bool) (kd : IntKind) (f : A → Option B) : ∀ (xs : List Opd) (m : Int) (k : Int → Option A), (minAll F S mx kd xs m k).bind f = minAll F S mx kd xs m fun n => (k n).bind f
  | [], _, _ => rfl
  | x :: xs, m, k => by simp only [minAll, asI_nat, check_nat, minAll_nat mx kd f xs]
theorem rowsOf_nat (f : A → Option B) : ∀ (ls : List L) (xs : List Opd) (k : List Row → Option A), (rowsOf F S ls xs k).bind f = rowsOf F S ls xs fun n => (k n).bind f
  | [], [], _ => rfl
  | [], _ :: _, _ => rfl
  | _ :: _, [], _ => rfl
  | l :: ls, x :: xs, k => by simp only [rowsOf, asD_nat, check_nat, rowsOf_nat f ls xs]
theorem fillParts_nat (ks : List K) (f : A → Option B) : ∀ (ps : List (Nat × Nat × Opd)) (z : Row) (k : Row → Option A), (fillParts F S ks ps z k).bind f = fillParts F S ks ps z fun n => (k n).bind f
  | [], _, _ => rfl
  | (off, m, x) :: r, z, k => by simp only [fillParts, asD_nat, check_nat, fillParts_nat ks f r]
theorem fillRows_nat (l : L) (f : A → Option B) : ∀ (ps : List (Nat × Opd)) (z : List Row) (k : List Row → Option A), (fillRows F S l ps z k).bind f = fillRows F S l ps z fun n => (k n).bind f
  | [], _, _ => rfl
  | (i, x) :: r, z, k => by simp only [fillRows, asD_nat, check_nat, fillRows_nat l f r]
theorem capRows_nat (f : A → Option B) : ∀ (ks : List K) (xs : List Opd) (k : Row → Option A), (capRows F S ks xs k).bind f = capRows F S ks xs fun n => (k n).bind f
  | [], [], _ => rfl
  | [], _ :: _, _ => rfl
  | _ :: _, [], _ => rfl
  | l :: ls, x :: xs, k => by simp only [capRows, asD_nat, check_nat, capRows_nat f ls xs]

theorem quo_nat (op : BinOp) (x y : Option A) (f : A → Option B) : (match op with | .quo => x | .rem => y | _ => none).bind f = match op with | .quo => x.bind f | .rem => y.bind f | _ => none := by cases op <;> rfl
theorem shl_nat (op : BinOp) (x y : Option A) (f : A → Option B) : (match op with | .shl => x | .shr => y | _ => none).bind f = match op with | .shl => x.bind f | .shr => y.bind f | _ => none := by cases op <;> rfl

theorem opO_nat (o : Obj) (op : AOp) (base : Nat) (k : AV → Option Obj → Option A) : opO E F S o op base k = (opO E F S o op base ret2).bind fun x => k x.1 x.2 := by
  cases op <;> simp only [opO]
  case mov => rfl
  all_goals simp only [asI_nat, asB_nat, asS_nat, asSl_nat, asD_nat, check_nat, ite_nat, iteN_nat, asArr_nat, asHas_nat, asSarr_nat, splitI_nat, fillA_nat, asFresh_nat, asMap_nat, part_nat, turn_nat, arith_nat, icmpK_nat, scmpK_nat, bnd_nat, minAll_nat, rowsOf_nat, fillParts_nat, fillRows_nat, capRows_nat, Option.bind_assoc, ret2, Option.bind_some, Option.bind_none, ite2_nat]
  all_goals try rfl
  case idiv bo x y => cases bo <;> rfl
  case shf bo x y => cases bo <;> rfl
  all_goals first
    | (split <;> simp only [asI_nat, asB_nat, asS_nat, asSl_nat, asD_nat, check_nat, ite_nat, iteN_nat, asArr_nat, asHas_nat, asSarr_nat, splitI_nat, fillA_nat, asFresh_nat, asMap_nat, part_nat, turn_nat, arith_nat, icmpK_nat, scmpK_nat, bnd_nat, minAll_nat, rowsOf_nat, fillParts_nat, fillRows_nat, capRows_nat, Option.bind_assoc, ret2, Option.bind_some, Option.bind_none, ite2_nat] <;> done)
    | (split <;> simp only [asI_nat, asB_nat, asS_nat, asSl_nat, asD_nat, check_nat, ite_nat, iteN_nat, asArr_nat, asHas_nat, asSarr_nat, splitI_nat, fillA_nat, asFresh_nat, asMap_nat, part_nat, turn_nat, arith_nat, icmpK_nat, scmpK_nat, bnd_nat, minAll_nat, rowsOf_nat, fillParts_nat, fillRows_nat, capRows_nat, Option.bind_assoc, ret2, Option.bind_some, Option.bind_none, ite2_nat] <;> rfl)
    | (split <;> first | rfl | (simp only [asI_nat, asB_nat, asS_nat, asSl_nat, asD_nat, check_nat, ite_nat, iteN_nat, asArr_nat, asHas_nat, asSarr_nat, splitI_nat, fillA_nat, asFresh_nat, asMap_nat, part_nat, turn_nat, arith_nat, icmpK_nat, scmpK_nat, bnd_nat, minAll_nat, rowsOf_nat, fillParts_nat, fillRows_nat, capRows_nat, Option.bind_assoc, ret2, Option.bind_some, Option.bind_none, ite2_nat] <;> done) | (simp only [asI_nat, asB_nat, asS_nat, asSl_nat, asD_nat, check_nat, ite_nat, iteN_nat, asArr_nat, asHas_nat, asSarr_nat, splitI_nat, fillA_nat, asFresh_nat, asMap_nat, part_nat, turn_nat, arith_nat, icmpK_nat, scmpK_nat, bnd_nat, minAll_nat, rowsOf_nat, fillParts_nat, fillRows_nat, capRows_nat, Option.bind_assoc, ret2, Option.bind_some, Option.bind_none, ite2_nat]; rfl) | (split <;> first | rfl | (simp only [asI_nat, asB_nat, asS_nat, asSl_nat, asD_nat, check_nat, ite_nat, iteN_nat, asArr_nat, asHas_nat, asSarr_nat, splitI_nat, fillA_nat, asFresh_nat, asMap_nat, part_nat, turn_nat, arith_nat, icmpK_nat, scmpK_nat, bnd_nat, minAll_nat, rowsOf_nat, fillParts_nat, fillRows_nat, capRows_nat, Option.bind_assoc, ret2, Option.bind_some, Option.bind_none, ite2_nat] <;> done) | (simp only [asI_nat, asB_nat, asS_nat, asSl_nat, asD_nat, check_nat, ite_nat, iteN_nat, asArr_nat, asHas_nat, asSarr_nat, splitI_nat, fillA_nat, asFresh_nat, asMap_nat, part_nat, turn_nat, arith_nat, icmpK_nat, scmpK_nat, bnd_nat, minAll_nat, rowsOf_nat, fillParts_nat, fillRows_nat, capRows_nat, Option.bind_assoc, ret2, Option.bind_some, Option.bind_none, ite2_nat]; rfl) | (split <;> first | rfl | (simp only [asI_nat, asB_nat, asS_nat, asSl_nat, asD_nat, check_nat, ite_nat, iteN_nat, asArr_nat, asHas_nat, asSarr_nat, splitI_nat, fillA_nat, asFresh_nat, asMap_nat, part_nat, turn_nat, arith_nat, icmpK_nat, scmpK_nat, bnd_nat, minAll_nat, rowsOf_nat, fillParts_nat, fillRows_nat, capRows_nat, Option.bind_assoc, ret2, Option.bind_some, Option.bind_none, ite2_nat] <;> done))))
    | skip
  case slc e l x lo hi =>
    split
    · simp only [asI_nat, asB_nat, asS_nat, asSl_nat, asD_nat, check_nat, ite_nat, iteN_nat, asArr_nat, asHas_nat, asSarr_nat, splitI_nat, fillA_nat, asFresh_nat, asMap_nat, part_nat, turn_nat, arith_nat, icmpK_nat, scmpK_nat, bnd_nat, minAll_nat, rowsOf_nat, fillParts_nat, fillRows_nat, capRows_nat, Option.bind_assoc, ret2, Option.bind_some, Option.bind_none, ite2_nat]
    · simp only [asI_nat, asB_nat, asS_nat, asSl_nat, asD_nat, check_nat, ite_nat, iteN_nat, asArr_nat, asHas_nat, asSarr_nat, splitI_nat, fillA_nat, asFresh_nat, asMap_nat, part_nat, turn_nat, arith_nat, icmpK_nat, scmpK_nat, bnd_nat, minAll_nat, rowsOf_nat, fillParts_nat, fillRows_nat, capRows_nat, Option.bind_assoc, ret2, Option.bind_some, Option.bind_none, ite2_nat]
      unfold asArr check
      split
      · split
        · dsimp only
          split
          · split
            · simp only [asI_nat, asB_nat, asS_nat, asSl_nat, asD_nat, check_nat, ite_nat, iteN_nat, asArr_nat, asHas_nat, asSarr_nat, splitI_nat, fillA_nat, asFresh_nat, asMap_nat, part_nat, turn_nat, arith_nat, icmpK_nat, scmpK_nat, bnd_nat, minAll_nat, rowsOf_nat, fillParts_nat, fillRows_nat, capRows_nat, Option.bind_assoc, ret2, Option.bind_some, Option.bind_none, ite2_nat]
            · rfl
          · rfl
        · rfl
      · rfl
    · simp only [asI_nat, asB_nat, asS_nat, asSl_nat, asD_nat, check_nat, ite_nat, iteN_nat, asArr_nat, asHas_nat, asSarr_nat, splitI_nat, fillA_nat, asFresh_nat, asMap_nat, part_nat, turn_nat, arith_nat, icmpK_nat, scmpK_nat, bnd_nat, minAll_nat, rowsOf_nat, fillParts_nat, fillRows_nat, capRows_nat, Option.bind_assoc, ret2, Option.bind_some, Option.bind_none, ite2_nat]
    · rfl
end Go.Ev
