/-
  An operation looks at the frame through its operands alone, and at memory through what it lists as read.
-/
import Derived.Test.YtnlaheegimhdpaaDoorEvR
set_option linter.all false
namespace Go.Ev
variable {A : Type} {E : Env} {F F' : Fr}

variable {S S' : St}
theorem minAll_congr (mx : Bool) (kd : IntKind) : ∀ (xs : List Opd) (m : Int) (k : Int → Option A), (∀ x ∈ xs, x.evD F S = x.evD F' S') → minAll F S mx kd xs m k = minAll F' S' mx kd xs m k
  | [], _, _, _ => rfl
  | x :: xs, m, k, h => by
    simp only [minAll, h x (by simp)]
    congr 1; funext k' n; congr 1
    exact minAll_congr mx kd xs _ k (fun y hy => h y (by simp [hy]))
theorem rowsOf_congr : ∀ (ls : List L) (xs : List Opd) (k : List Row → Option A), (∀ x ∈ xs, x.evD F S = x.evD F' S') → rowsOf F S ls xs k = rowsOf F' S' ls xs k
  | [], [], _, _ => rfl
  | [], _ :: _, _, _ => rfl
  | _ :: _, [], _, _ => rfl
  | l :: ls, x :: xs, k, h => by
    simp only [rowsOf, h x (by simp)]
    congr 1; funext k' n; congr 1
    exact rowsOf_congr ls xs _ (fun y hy => h y (by simp [hy]))
theorem fillParts_congr (ks : List K) : ∀ (ps : List (Nat × Nat × Opd)) (z : Row) (k : Row → Option A), (∀ x ∈ ps.map (fun p => p.2.2), x.evD F S = x.evD F' S') → fillParts F S ks ps z k = fillParts F' S' ks ps z k
  | [], _, _, _ => rfl
  | (off, m, x) :: r, z, k, h => by
    simp only [fillParts, h x (by simp)]
    congr 1; funext k' n; congr 1
    exact fillParts_congr ks r _ k (fun y hy => h y (by simp only [List.map_cons, List.mem_cons]; exact .inr hy))
theorem fillRows_congr (l : L) : ∀ (ps : List (Nat × Opd)) (z : List Row) (k : List Row → Option A), (∀ x ∈ ps.map (fun p => p.2), x.evD F S = x.evD F' S') → fillRows F S l ps z k = fillRows F' S' l ps z k
  | [], _, _, _ => rfl
  | (i, x) :: r, z, k, h => by
    simp only [fillRows, h x (by simp)]
    congr 1; funext k' n; congr 1
    exact fillRows_congr l r _ k (fun y hy => h y (by simp only [List.map_cons, List.mem_cons]; exact .inr hy))
theorem capRows_congr : ∀ (ks : List K) (xs : List Opd) (k : Row → Option A), (∀ x ∈ xs, x.evD F S = x.evD F' S') → capRows F S ks xs k = capRows F' S' ks xs k
  | [], [], _, _ => rfl
  | [], _ :: _, _, _ => rfl
  | _ :: _, [], _, _ => rfl
  | l :: ls, x :: xs, k, h => by
    simp only [capRows, h x (by simp)]
    congr 1; funext k' n; congr 1
    exact capRows_congr ls xs _ (fun y hy => h y (by simp [hy]))
theorem bnd_congr (x : Option Opd) (d : Int) (k : Int → Option A) (h : ∀ y ∈ optO x, y.evD F S = y.evD F' S') : bnd F S x d k = bnd F' S' x d k := by
  cases x with
  | none => rfl
  | some x => simp only [bnd, h x (by simp [optO])]
/-- An operand that is the same to both. -/
def Same (F F' : Fr) (S S' : St) (x : Opd) : Prop := x.ev F = x.ev F' ∧ x.evD F S = x.evD F' S'
theorem fillA_congr : ∀ (ps : List (Nat × Nat × Opd)) (z : List AV) (k : List AV → Option A), (∀ x ∈ ps.map (fun p => p.2.2), x.ev F = x.ev F') → fillA F ps z k = fillA F' ps z k
  | [], _, _, _ => rfl
  | (off, m, x) :: r, z, k, h => by
    simp only [fillA, h x (by simp)]
    split
    · congr 1
      exact fillA_congr r _ k (fun y hy => h y (by simp only [List.map_cons, List.mem_cons]; exact .inr hy))
    · rfl
theorem map_congr (xs : List Opd) (h : ∀ x ∈ xs, x.ev F = x.ev F') : xs.map (·.ev F) = xs.map (·.ev F') := List.map_congr_left h

theorem opO_congr (o : Obj) (op : AOp) (base : Nat) (k : AV → Option Obj → Option A) (h : ∀ x ∈ opds op, Same F F' S S' x) : opO E F S o op base k = opO E F' S' o op base k := by
  have h1 : ∀ x ∈ opds op, x.ev F = x.ev F' := fun x hx => (h x hx).1
  have h2 : ∀ x ∈ opds op, x.evD F S = x.evD F' S' := fun x hx => (h x hx).2
  clear h
  cases op
  case imin mx xs =>
    cases xs with
    | nil => rfl
    | cons x xs =>
      simp only [opO, h2 x (by simp [opds])]
      congr 1; funext a b
      exact minAll_congr mx a xs _ _ (fun y hy => h2 y (by simp [opds, hy]))
  case bld l z ps => exact fillParts_congr _ ps _ _ h2
  case bsl e l n z ps => exact fillRows_congr _ ps _ _ h2
  case bslS id e l n z ps =>
    simp only [opO]
    congr 1
    exact fillRows_congr _ ps _ _ h2
  case bslO id e l n z ps =>
    simp only [opO]
    congr 1
    exact fillRows_congr _ ps _ _ h2
  case bldA zs ps => exact fillA_congr ps _ _ h1
  case call f ps rs xs => exact rowsOf_congr ps xs _ h2
  case callv t ps rs x xs =>
    simp only [opO, h1 x (by simp [opds])]
    split
    · congr 1; exact rowsOf_congr ps xs _ (fun y hy => h2 y (by simp [opds, hy]))
    · rfl
  case mkf f t ks cs => exact capRows_congr ks cs _ h2
  case mkfO f cs => simp only [opO, map_congr cs h1]
  case slc e l x lo hi =>
    have hlo : ∀ {B : Type} (d : Int) (k : Int → Option B), bnd F S lo d k = bnd F' S' lo d k := fun d k => bnd_congr lo d k (fun y hy => h2 y (by simp [opds, hy]))
    have hhi : ∀ {B : Type} (d : Int) (k : Int → Option B), bnd F S hi d k = bnd F' S' hi d k := fun d k => bnd_congr hi d k (fun y hy => h2 y (by simp [opds, hy]))
    simp only [opO, h2 x (by simp [opds]), hlo, hhi]
  case slcS x lo hi =>
    have hlo : ∀ {B : Type} (d : Int) (k : Int → Option B), bnd F S lo d k = bnd F' S' lo d k := fun d k => bnd_congr lo d k (fun y hy => h2 y (by simp [opds, hy]))
    have hhi : ∀ {B : Type} (d : Int) (k : Int → Option B), bnd F S hi d k = bnd F' S' hi d k := fun d k => bnd_congr hi d k (fun y hy => h2 y (by simp [opds, hy]))
    simp only [opO, h2 x (by simp [opds]), hlo, hhi]
  all_goals simp only [opds, List.mem_cons, List.mem_singleton, List.not_mem_nil, or_false, forall_eq_or_imp, forall_eq] at h1 h2
  all_goals first
    | rfl
    | simp only [opO, h1, h2]
    | simp only [opO, h1.1, h1.2, h2.1, h2.2]
    | simp only [opO, h1.1, h1.2.1, h1.2.2, h2.1, h2.2.1, h2.2.2]
    | simp only [opO, h1]
    | simp only [opO, h2]

theorem tgt_congr (op : AOp) (base : Nat) (h : ∀ x ∈ opds op, x.ev F = x.ev F') : tgt F op base = tgt F' op base := by
  cases op <;> first
    | rfl
    | (simp only [tgt]; first | rw [h _ (by simp [opds])])

theorem calleeOf_congr (f : Nat) (x : Option Opd) (args : List Opd) (k : List AV → Option A) (h : ∀ y ∈ optO x ++ args, y.ev F = y.ev F') : calleeOf F f x args k = calleeOf F' f x args k := by
  have hm := map_congr args (fun y hy => h y (List.mem_append_right _ hy))
  unfold calleeOf
  cases x with
  | none => simp only [hm]
  | some y =>
    have := h y (by simp [optO])
    simp only [this, hm]

theorem cidsO_congr (op : AOp) (h : ∀ x ∈ opds op, x.ev F = x.ev F') : cidsO F op = cidsO F' op := by
  unfold cidsO
  generalize opds op = l at h
  induction l with
  | nil => rfl
  | cons x l ih => simp only [List.flatMap_cons, h x (by simp), ih (fun y hy => h y (by simp [hy]))]
theorem same_ev {x : Opd} (h : x.ev F = x.ev F') : Same F F' S S x := ⟨h, by simp only [Opd.evD, h]⟩
theorem op1_congr (S : St) (op : AOp) (base : Nat) (h : ∀ x ∈ opds op, x.ev F = x.ev F') : op1 E F S op base = op1 E F' S op base := by
  unfold op1
  have hcid := cidsO_congr op h
  by_cases hc : ∃ i f en ex ids new x args, op = .icall i f en ex ids new x args
  · obtain ⟨i, f, en, ex, ids, new, x, args, rfl⟩ := hc
    simp only [opK, hcid]
    exact calleeOf_congr f x args _ h
  · have h1 : ∀ i f en ex ids new x args, op ≠ .icall i f en ex ids new x args := fun i f en ex ids new x args e => hc ⟨i, f, en, ex, ids, new, x, args, e⟩
    rw [opK_plain h1, opK_plain h1, tgt_congr op base h, hcid]
    split
    · exact opO_congr _ _ _ _ (fun x hx => same_ev (h x hx))
    · congr 1; funext o
      exact opO_congr _ _ _ _ (fun x hx => same_ev (h x hx))

/-! ### What a call with objects finds of memory -/
theorem getD_mem {ids : List Nat} {i : Nat} (h : i < ids.length) : ids.getD i 0 ∈ ids := by
  rw [List.getD_eq_getElem?_getD, List.getElem?_eq_getElem h]; exact List.getElem_mem h

mutual
theorem dat_loc {S S' : St} : ∀ (v : AV), (∀ id ∈ v.cids, S'[id]? = S[id]?) → v.dat S' = v.dat S
  | .sw i u, h => by simp only [AV.dat, h i (by simp [AV.cids])]
  | .agg vs, h => by simp only [AV.dat, gather_loc vs (by simpa [AV.cids] using h)]
  | .undef, _ => by simp [AV.dat]
  | .und, _ => by simp [AV.dat]
  | .d _ _, _ => by simp [AV.dat]
  | .ptr _ _, _ => by simp [AV.dat]
  | .aptr _ _ _ _, _ => by simp [AV.dat]
  | .whole _ _, _ => by simp [AV.dat]
  | .own _ _ _ _, _ => by simp [AV.dat]
  | .fn _ _, _ => by simp [AV.dat]
  | .tup _, _ => by simp [AV.dat]
  | .map _, _ => by simp [AV.dat]
theorem gather_loc {S S' : St} : ∀ (vs : List AV), (∀ id ∈ AV.cidsL vs, S'[id]? = S[id]?) → AV.gather S' vs = AV.gather S vs
  | [], _ => by simp [AV.gather]
  | v :: vs, h => by
    simp only [AV.cidsL, List.mem_append] at h
    simp only [AV.gather, dat_loc v (fun id hi => h id (.inl hi)), gather_loc vs (fun id hi => h id (.inr hi))]
end
theorem same_mem {x : Opd} (h : ∀ id ∈ (x.ev F).cids, S'[id]? = S[id]?) : Same F F S' S x := ⟨rfl, by simp only [Opd.evD, dat_loc _ h]⟩

section
variable {S S' : St} {ids : List Nat}
theorem cidsL_cellsOf : ∀ (ks : List K) (r : Row) (i : Nat), AV.cidsL (cellsOf ks r i) = []
  | [], _, _ => rfl
  | k :: ks, r, i => by simp [cellsOf, AV.cidsL, AV.cids, cidsL_cellsOf ks r (i + 1)]
def CoOk (S S' : St) (co : Bool) (v : AV) : Prop := co = true → ∀ id ∈ v.cids, S'[id]? = S[id]?
def CoOks (S S' : St) (co : Bool) (vs : List AV) : Prop := co = true → ∀ id ∈ AV.cidsL vs, S'[id]? = S[id]?
mutual
theorem packV_loc (hl : ∀ id ∈ ids, S'[id]? = S[id]?) (m : Nat) (co : Bool) : ∀ (s : Sh) (v : AV), CoOk S S' co v → Sh.under ids.length s = true → packV S' m co (Sh.ren ids s) v = packV S m co (Sh.ren ids s) v
  | .d l, v, hc, _ => by
    cases v with
    | sw i u =>
      simp only [Sh.ren, packV]
      cases co with
      | false => rfl
      | true => rw [dat_loc _ (hc rfl)]
    | agg vs =>
      simp only [Sh.ren, packV]
      cases co with
      | false => rfl
      | true => rw [dat_loc _ (hc rfl)]
    | _ => simp [Sh.ren, packV]
  | .ptr i o, v, _, _ => by cases v <;> simp [Sh.ren, packV]
  | .whole i, v, _, h => by
    cases v with
    | whole i' ver =>
      simp only [Sh.ren, packV]
      have hi : i < ids.length := by simpa [Sh.under] using h
      by_cases e : i' = ids.getD i 0
      · rw [e, hl _ (getD_mem hi)]
      · have hb : Nat.beq (ids.getD i 0) i' = false := by
          cases hq : Nat.beq (ids.getD i 0) i' with
          | false => rfl
          | true => exact absurd (Nat.eq_of_beq_eq_true hq).symm e
        simp only [hb, Bool.false_and]
        split <;> split <;> rfl
    | _ => simp [Sh.ren, packV]
  | .sw i, v, _, h => by
    cases v with
    | sw i' ver =>
      simp only [Sh.ren, packV]
      have hi : i < ids.length := by simpa [Sh.under] using h
      by_cases e : i' = ids.getD i 0
      · rw [e, hl _ (getD_mem hi)]
      · have hb : Nat.beq (ids.getD i 0) i' = false := by
          cases hq : Nat.beq (ids.getD i 0) i' with
          | false => rfl
          | true => exact absurd (Nat.eq_of_beq_eq_true hq).symm e
        simp only [hb, Bool.false_and]
        split <;> split <;> rfl
    | _ => simp [Sh.ren, packV]
  | .fn f cs, v, hc, h => by
    cases v with
    | fn f' vs =>
      simp only [Sh.ren, packV]
      rw [packVs_loc hl m co cs vs (fun hq id hi => hc hq id (by simpa [AV.cids] using hi)) (by simpa [Sh.under] using h)]
    | _ => simp [Sh.ren, packV]
  | .agg cs, v, hc, h => by
    cases v with
    | agg vs =>
      simp only [Sh.ren, packV]
      rw [packVs_loc hl m co cs vs (fun hq id hi => hc hq id (by simpa [AV.cids] using hi)) (by simpa [Sh.under] using h)]
    | d l row =>
      simp only [Sh.ren, packV]
      rw [packVs_loc hl m co cs (cellsOf l.ks row 0) (fun hq id hi => by rw [cidsL_cellsOf] at hi; cases hi) (by simpa [Sh.under] using h)]
    | _ => simp [Sh.ren, packV]
  | .map i, v, _, _ => by cases v <;> simp [Sh.ren, packV]
theorem packVs_loc (hl : ∀ id ∈ ids, S'[id]? = S[id]?) (m : Nat) (co : Bool) : ∀ (ss : List Sh) (vs : List AV), CoOks S S' co vs → Sh.unders ids.length ss = true → packVs S' m co (Sh.rens ids ss) vs = packVs S m co (Sh.rens ids ss) vs
  | [], [], _, _ => rfl
  | [], _ :: _, _, _ => rfl
  | _ :: _, [], _, _ => rfl
  | s :: ss, v :: vs, hc, h => by
    simp only [Sh.unders, Bool.and_eq_true] at h
    simp only [Sh.rens, packVs]
    rw [packV_loc hl m co s v (fun hq id hi => hc hq id (by simp only [AV.cidsL, List.mem_append]; exact .inl hi)) h.1, packVs_loc hl m co ss vs (fun hq id hi => hc hq id (by simp only [AV.cidsL, List.mem_append]; exact .inr hi)) h.2]
end
theorem packO_loc (hl : ∀ id ∈ ids, S'[id]? = S[id]?) (m : Nat) (s : OSh) (o : Obj) (h : OSh.under ids.length s = true) : packO S' m (s.ren ids) o = packO S m (s.ren ids) o := by
  cases s with
  | cells c vs =>
    have := fun avs => packVs_loc hl m false vs avs (fun hq => by cases hq) (by simpa [OSh.under] using h)
    cases o <;> simp only [OSh.ren, packO, this]
    all_goals cases vs <;> simp [Sh.rens, packO]
  | _ => cases o <;> simp [OSh.ren, packO]
theorem packAt_loc (hl : ∀ id ∈ ids, S'[id]? = S[id]?) (hlen : S'.length = S.length) : ∀ (is : List Nat) (ss : List OSh), (∀ i ∈ is, i ∈ ids) → ss.all (OSh.under ids.length) = true → packAt S' ids is ss = packAt S ids is ss
  | [], [], _, _ => rfl
  | [], _ :: _, _, _ => rfl
  | _ :: _, [], _, _ => rfl
  | i :: is, s :: ss, hi, h => by
    simp only [List.all_cons, Bool.and_eq_true] at h
    simp only [packAt]
    rw [hl i (hi i (by simp)), packAt_loc hl hlen is ss (fun j hj => hi j (by simp [hj])) h.2, hlen]
    split
    · rw [packO_loc hl S.length s _ h.1]
    · rfl
theorem unders_all {n : Nat} : ∀ (ss : List (Nat × Sh)), (ss.all fun p => Sh.under n p.2) = true → Sh.unders n (ss.map (·.2)) = true
  | [], _ => rfl
  | p :: ss, h => by
    simp only [List.all_cons, Bool.and_eq_true] at h
    simp only [List.map_cons, Sh.unders, h.1, unders_all ss h.2, Bool.and_self]
theorem packI_loc (hl : ∀ id ∈ ids, S'[id]? = S[id]?) (hlen : S'.length = S.length) (en : Shape) (vs : List AV) (hc : ∀ id ∈ AV.cidsL vs, S'[id]? = S[id]?) (h : Shape.under ids.length en = true) : packI S' ids en vs = packI S ids en vs := by
  simp only [Shape.under, Bool.and_eq_true] at h
  unfold packI
  rw [hlen, packVs_loc hl S.length true _ vs (fun _ => hc) (unders_all _ h.1), packAt_loc hl hlen ids en.objs (fun i hi => hi) h.2]
theorem freshAt_loc : ∀ (is : List Nat), (∀ i ∈ is, S'[i]? = S[i]?) → freshAt S' is = freshAt S is
  | [], _ => rfl
  | i :: is, h => by simp only [freshAt]; rw [h i (by simp), freshAt_loc is (fun j hj => h j (by simp [hj]))]
end

theorem cidsL_append : ∀ (a b : List AV), AV.cidsL (a ++ b) = AV.cidsL a ++ AV.cidsL b
  | [], _ => rfl
  | v :: a, b => by simp [AV.cidsL, cidsL_append a b]
theorem cidsL_map (F : Fr) : ∀ (xs : List Opd), AV.cidsL (xs.map (·.ev F)) = xs.flatMap fun x => (x.ev F).cids
  | [] => rfl
  | x :: xs => by simp [AV.cidsL, cidsL_map F xs]
theorem calleeOf_some {F : Fr} {f : Nat} {x : Option Opd} {args : List Opd} {k : List AV → Option A} {r : A} (h : calleeOf F f x args k = some r) : ∃ vs, k vs = some r ∧ (∀ id ∈ AV.cidsL vs, id ∈ (optO x ++ args).flatMap fun x => (x.ev F).cids) ∧ ∀ {B : Type} (k' : List AV → Option B), calleeOf F f x args k' = k' vs := by
  unfold calleeOf at h
  split at h
  · exact ⟨_, h, fun id hi => by rw [cidsL_map] at hi; simpa [optO] using hi, fun k' => rfl⟩
  · split at h
    · rename_i e
      obtain ⟨hb, h⟩ := check_some h
      refine ⟨_, h, fun id hi => ?_, fun k' => by simp [calleeOf, e, hb, check]⟩
      rw [cidsL_append, cidsL_map] at hi
      simp only [optO, List.singleton_append, List.flatMap_cons, List.mem_append, e, AV.cids]
      rcases List.mem_append.1 hi with hi | hi
      · exact .inr hi
      · exact .inl hi
    · simp at h

/-- What an operation finds of memory. -/
theorem op1_mem {S S' : St} {op : AOp} {base : Nat} {v : AV} {us : List (Nat × Obj)} {rd : List Nat} (h : op1 E F S op base = some (v, us, rd)) (hl : S'.length = S.length) (hr : ∀ id ∈ rd, S'[id]? = S[id]?) : op1 E F S' op base = some (v, us, rd) := by
  unfold op1 at h ⊢
  by_cases hc : ∃ i f en ex ids new x args, op = .icall i f en ex ids new x args
  · obtain ⟨i, f, en, ex, ids, new, x, args, rfl⟩ := hc
    simp only [opK] at h ⊢
    obtain ⟨vs, h1, hcid, h2⟩ := calleeOf_some h
    rw [h2]
    obtain ⟨hck, h3⟩ := check_some h1
    obtain ⟨ps, e1, h4⟩ := Option.bind_eq_some_iff.1 h3
    obtain ⟨ps', e2, h5⟩ := Option.bind_eq_some_iff.1 h4
    simp only [Option.some.injEq, Prod.mk.injEq] at h5
    have hall : ∀ id ∈ ids ++ numsFrom (base + new) (ex.objs.length - ids.length), S'[id]? = S[id]? := fun id hid => hr id (by rw [← h5.2.2]; exact List.mem_append_left _ hid)
    have hcids : ∀ id ∈ AV.cidsL vs, S'[id]? = S[id]? := fun id hid => hr id (by rw [← h5.2.2]; exact List.mem_append_right _ (hcid id hid))
    simp only [Bool.and_eq_true] at hck
    rw [packI_loc (fun id hid => hall id (List.mem_append_left _ hid)) hl en vs hcids hck.1.1.1.1.1, freshAt_loc _ (fun id hid => hall id (List.mem_append_right _ hid))]
    have hv : (ids ++ numsFrom (base + new) (ex.objs.length - ids.length)).map (verOf S') = (ids ++ numsFrom (base + new) (ex.objs.length - ids.length)).map (verOf S) :=
      List.map_congr_left fun id hid => by simp only [verOf, hall id hid]
    rw [hv]
    exact h1
  · have h1 : ∀ i f en ex ids new x args, op ≠ .icall i f en ex ids new x args := fun i f en ex ids new x args e => hc ⟨i, f, en, ex, ids, new, x, args, e⟩
    rw [opK_plain h1] at h ⊢
    have hsame : (∀ id ∈ cidsO F op, S'[id]? = S[id]?) → ∀ (ob : Obj) {B : Type} (k : AV → Option Obj → Option B), opO E F S' ob op base k = opO E F S ob op base k := fun hq ob B k =>
      opO_congr ob op base k (fun x hx => same_mem fun id hid => hq id (by simp only [cidsO, List.mem_flatMap]; exact ⟨x, hx, hid⟩))
    split at h
    · have : rd = cidsO F op := by
        rw [opO_nat] at h
        obtain ⟨q, e1, e2⟩ := Option.bind_eq_some_iff.1 h
        simp only [Option.some.injEq, Prod.mk.injEq] at e2
        exact e2.2.2.symm
      rw [hsame (fun id hid => hr id (by rw [this]; exact hid))]; exact h
    · rename_i id ht
      have : rd = id :: cidsO F op := by
        unfold getO at h
        split at h
        · dsimp only at h
          rw [opO_nat] at h
          obtain ⟨q, e1, e2⟩ := Option.bind_eq_some_iff.1 h
          simp only [Option.some.injEq, Prod.mk.injEq] at e2
          exact e2.2.2.symm
        · simp at h
      unfold getO at h ⊢
      rw [hr id (by rw [this]; simp)]
      have hq := hsame (fun i hi => hr i (by rw [this]; exact List.mem_cons_of_mem _ hi))
      simp only [hq]; exact h
end Go.Ev
