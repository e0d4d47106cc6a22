/-
  Calls to which objects are handed.
-/
import Derived.Test.YtnlaheegimhdpaaDoorEvOc
set_option linter.all false
namespace Go.Ev
variable {E : Env} {P : Program} {T : Nat → AFn} {S S' S2 : Stab} {pl pl' pl2 : Pl} {St St' St2 : Ev.St} {F F' : Fr} {a : Act} {w w' : World}

/-! ### Shapes that are alike -/
mutual
theorem Sh.beq_eq : ∀ (a b : Sh), Sh.beq a b = true → a = b
  | .d a, b, h => by cases b <;> simp [Sh.beq] at h; rw [L.beq_eq h]
  | .ptr i o, b, h => by cases b <;> simp [Sh.beq] at h; rw [h.1, h.2]
  | .whole i, b, h => by cases b <;> simp [Sh.beq] at h; rw [h]
  | .fn f cs, b, h => by
    cases b <;> simp [Sh.beq] at h
    rw [h.1, Sh.beqs_eq _ _ h.2]
  | .map i, b, h => by cases b <;> simp [Sh.beq] at h; rw [h]
  | .sw i, b, h => by cases b <;> simp [Sh.beq] at h; rw [h]
  | .agg cs, b, h => by
    cases b <;> simp [Sh.beq] at h
    rw [Sh.beqs_eq _ _ h]
theorem Sh.beqs_eq : ∀ (a b : List Sh), Sh.beqs a b = true → a = b
  | [], b, h => by cases b <;> simp [Sh.beqs] at h; rfl
  | a :: r, b, h => by
    cases b with
    | nil => simp [Sh.beqs] at h
    | cons b r' =>
      simp only [Sh.beqs, Bool.and_eq_true] at h
      rw [Sh.beq_eq _ _ h.1, Sh.beqs_eq _ _ h.2]
end
theorem OSh.beq_eq {a b : OSh} (h : OSh.beq a b = true) : a = b := by
  cases a <;> cases b <;> simp [OSh.beq] at h
  · rw [L.beq_eq h]
  · rename_i c vs c' vs'
    rw [Sh.beqs_eq _ _ h.2]
    cases c <;> cases c' <;> simp_all
  · rw [L.beq_eq h]
  · rw [L.beq_eq h.1, L.beq_eq h.2]
  · rw [h.1, L.beq_eq h.2]
theorem OSh.beqs_eq : ∀ {a b : List OSh}, OSh.beqs a b = true → a = b
  | [], [], _ => rfl
  | [], _ :: _, h => by simp [OSh.beqs] at h
  | _ :: _, [], h => by simp [OSh.beqs] at h
  | a :: r, b :: r', h => by
    simp only [OSh.beqs, Bool.and_eq_true] at h
    rw [OSh.beq_eq h.1, OSh.beqs_eq h.2]
theorem slotsBeq_eq : ∀ {a b : List (Nat × Sh)}, slotsBeq a b = true → a = b
  | [], [], _ => rfl
  | [], _ :: _, h => by simp [slotsBeq] at h
  | _ :: _, [], h => by simp [slotsBeq] at h
  | (n, a) :: r, (m, b) :: r', h => by
    simp only [slotsBeq, Bool.and_eq_true] at h
    rw [Nat.eq_of_beq_eq_true h.1.1, Sh.beq_eq _ _ h.1.2, slotsBeq_eq h.2]
theorem Shape.beq_eq {a b : Shape} (h : Shape.beq a b = true) : a = b := by
  simp only [Shape.beq, Bool.and_eq_true] at h
  cases a; cases b
  simp at h
  rw [slotsBeq_eq h.1.1, OSh.beqs_eq h.1.2, h.2]

/-! ### What is known of such calls -/
def IcOk (P : Program) (T : Nat → AFn) (ic : Nat → List PV → Option (List PV)) : Prop :=
  ∀ i af, T i = .imp af → ∀ ps ps', ic i ps = some ps' → ∀ (S : Stab) (pl : Pl) (St : Ev.St) (w : World) (avs : List AV) (r : List PV) (vals : Nat → Value),
    unVs (af.entry.slots.map (·.2)) ps = (avs, r) → St = unOs af.entry.objs r → Sim P T S pl St w → (∀ i av, avs[i]? = some av → RelV P T S pl St av (vals i)) →
    (callFunc af.fn ((List.range avs.length).map vals).toArray).run P w = .ok (.enter af.fn ((List.range avs.length).map vals).toArray) w ∧
    Calls P af.fn ((List.range avs.length).map vals).toArray w fun e w' => ∃ (S2 : Stab) (pl2 : Pl) (St2 : Ev.St) (avs2 : List AV) (r2 : List PV) (out : List Value),
      unVs (af.exit.slots.map (·.2)) ps' = (avs2, r2) ∧ St2 = unOs af.exit.objs r2 ∧ e = .returned (retV out) ∧ out.length = avs2.length ∧
      Sim P T S2 pl2 St2 w' ∧ Grow (Owns pl St) S w S2 w' ∧ (∀ i av, avs2[i]? = some av → RelV P T S2 pl2 St2 av (out.getD i undef)) ∧
      (∀ b, Owns pl2 St2 b → Owns pl St b ∨ w.heap.size ≤ b) ∧
      (∀ (j : Nat) (o o' : Obj), St[j]? = some o → St2[j]? = some o' → ((∃ l row, o' = .var l row) ∨ (∃ c vs, o' = .cells c vs) ∨ ∃ kl vl es, o' = .map kl vl es) → pl2.blk j = pl.blk j)
structure EnvOk (P : Program) (T : Nat → AFn) (E : Env) : Prop where
  pc : PcOk P T E.pc
  ic : IcOk P T E.ic

/-! ### Objects, by their shapes -/
def OfSh : OSh → Obj → Prop
  | .var l, o => ∃ row, o = .var l row
  | .cells _ [], o => o = .dead
  | .cells c (_ :: _), o => ∃ vs, o = .cells c vs
  | .arr l, o => ∃ c, o = .arr 0 l c
  | .map kl vl, o => ∃ es, o = .map kl vl es
  | .sarr e l, o => ∃ c, o = .sarr 0 e l c
theorem unO_sh (s : OSh) (ps : List PV) : OfSh s (unO s ps).1 := by
  cases s with
  | var l => exact ⟨_, rfl⟩
  | cells c vs => cases vs with
    | nil => rfl
    | cons v vs => exact ⟨_, rfl⟩
  | arr l => exact ⟨_, rfl⟩
  | map kl vl => exact ⟨_, rfl⟩
  | sarr e l => exact ⟨_, rfl⟩
theorem unOs_length : ∀ (ss : List OSh) (ps : List PV), (unOs ss ps).length = ss.length
  | [], _ => rfl
  | s :: ss, ps => by simp [unOs, unOs_length ss]
theorem unOs_sh : ∀ (ss : List OSh) (ps : List PV) (j : Nat) (o : Obj), (unOs ss ps)[j]? = some o → ∃ s, ss[j]? = some s ∧ OfSh s o
  | [], _, _, _, h => by simp [unOs] at h
  | s :: ss, ps, 0, o, h => by
    simp only [unOs, List.getElem?_cons_zero, Option.some.injEq] at h
    subst h
    exact ⟨s, rfl, unO_sh s ps⟩
  | s :: ss, ps, j + 1, o, h => by
    simp only [unOs, List.getElem?_cons_succ] at h
    obtain ⟨s', h1, h2⟩ := unOs_sh ss _ j o h
    exact ⟨s', by simpa using h1, h2⟩
theorem kindB_get : ∀ {a b : List OSh} {j : Nat} {s s' : OSh}, kindB a b = true → a[j]? = some s → b[j]? = some s' →
    (∀ c, s' = .cells c [] → True) ∧ (∀ l, s' = .var l → ∃ l0, s = .var l0) ∧ (∀ c v vs, s' = .cells c (v :: vs) → ∃ c0 v0 vs0, s = .cells c0 (v0 :: vs0)) ∧ (∀ l, s' = .arr l → s = .arr l) ∧
    (∀ kl vl, s' = .map kl vl → ∃ kl0 vl0, s = .map kl0 vl0) ∧ (∀ e l, s' = .sarr e l → s = .sarr e l)
  | [], _, _, _, _, _, h, _ => by simp at h
  | _ :: _, [], _, _, _, h, _, _ => by simp [kindB] at h
  | a :: r, b :: r', 0, s, s', h, h1, h2 => by
    simp only [List.getElem?_cons_zero, Option.some.injEq] at h1 h2
    subst h1; subst h2
    simp only [kindB, Bool.and_eq_true] at h
    obtain ⟨h, _⟩ := h
    refine ⟨fun _ _ => trivial, fun l e => ?_, fun c v vs e => ?_, fun l e => ?_, fun kl vl e => ?_, fun e l q => ?_⟩
    · subst e; cases a <;> simp at h; exact ⟨_, rfl⟩
    · subst e
      cases a with
      | cells c0 vs0 => cases vs0 with
        | nil => simp at h
        | cons v0 vs0 => exact ⟨_, _, _, rfl⟩
      | _ => simp at h
    · subst e; cases a <;> simp at h; rw [L.beq_eq h]
    · subst e; cases a <;> simp at h; exact ⟨_, _, rfl⟩
    · subst q; cases a <;> simp at h; rw [h.1, L.beq_eq h.2]
  | a :: r, b :: r', j + 1, s, s', h, h1, h2 => by
    simp only [kindB, Bool.and_eq_true] at h
    exact kindB_get h.2 (by simpa using h1) (by simpa using h2)

/-! ### Places -/
theorem numsFrom_length : ∀ (i n : Nat), (numsFrom i n).length = n
  | _, 0 => rfl
  | i, n + 1 => by simp [numsFrom, numsFrom_length (i + 1) n]
theorem numsFrom_get : ∀ (i n j : Nat), j < n → (numsFrom i n)[j]? = some (i + j)
  | _, 0, _, h => by omega
  | i, n + 1, 0, _ => by simp [numsFrom]
  | i, n + 1, j + 1, h => by simp only [numsFrom, List.getElem?_cons_succ]; rw [numsFrom_get (i + 1) n j (by omega)]; congr 1; omega
theorem nodupB_sound : ∀ {l : List Nat}, nodupB l = true → l.Nodup
  | [], _ => List.nodup_nil
  | a :: r, h => by
    simp only [nodupB, Bool.and_eq_true, Bool.not_eq_true', List.any_eq_false] at h
    refine List.nodup_cons.2 ⟨fun hm => ?_, nodupB_sound h.2⟩
    exact h.1 a hm (by simp)
theorem freshAt_sound : ∀ {is : List Nat}, freshAt St is = true → ∀ i ∈ is, St[i]? = some .fresh
  | [], _, i, h => by cases h
  | a :: r, h, i, hi => by
    simp only [freshAt, Bool.and_eq_true] at h
    rcases List.mem_cons.1 hi with rfl | hi
    · have := h.1
      split at this
      · assumption
      · simp at this
    · exact freshAt_sound h.2 i hi
theorem renObjs_keys (ids vers : List Nat) : ∀ (is vs : List Nat) (os : List Obj), is.length = vs.length → is.length = os.length → (renObjs ids vers is vs os).map (·.1) = is
  | [], _, _, _, _ => by simp [renObjs]
  | i :: is, [], _, h, _ => by simp at h
  | i :: is, v :: vs, [], _, h => by simp at h
  | i :: is, v :: vs, o :: os, h1, h2 => by simp only [renObjs, List.map_cons]; rw [renObjs_keys ids vers is vs os (by simpa using h1) (by simpa using h2)]
theorem updAll_len : ∀ (us : List (Nat × Obj)) (S : Ev.St), (updAll us S).length = S.length
  | [], _ => rfl
  | (i, o) :: r, S => by simp only [updAll]; rw [updAll_len r]; simp
theorem updAll_other : ∀ (us : List (Nat × Obj)) (S : Ev.St) (j : Nat), j ∉ us.map (·.1) → (updAll us S)[j]? = S[j]?
  | [], _, _, _ => rfl
  | (i, o) :: r, S, j, h => by
    simp only [List.map_cons, List.mem_cons, not_or] at h
    simp only [updAll]
    rw [updAll_other r _ j h.2, List.getElem?_set_ne (Ne.symm h.1)]
theorem updAll_ren (ids vers : List Nat) : ∀ (is vs : List Nat) (os : List Obj) (S : Ev.St) (j : Nat) (o : Obj), is.length = vs.length → is.length = os.length → is.Nodup → (∀ i ∈ is, i < S.length) → os[j]? = some o →
    (updAll (renObjs ids vers is vs os) S)[is.getD j 0]? = some (Obj.ren ids vers (vs.getD j 0) o)
  | [], _, os, _, _, _, _, h, _, _, ho => by
    have : os = [] := List.eq_nil_of_length_eq_zero (by simpa using h.symm)
    subst this; simp at ho
  | i :: is, [], _, _, _, _, h, _, _, _, _ => by simp at h
  | i :: is, v :: vs, [], _, _, _, _, h, _, _, _ => by simp at h
  | i :: is, v :: vs, o0 :: os, S, 0, o, h1, h2, hnd, hlt, ho => by
    simp only [List.getElem?_cons_zero, Option.some.injEq] at ho
    subst ho
    simp only [renObjs, updAll, List.getD_cons_zero]
    obtain ⟨hni, hnd⟩ := List.nodup_cons.1 hnd
    rw [updAll_other _ _ _ (by rw [renObjs_keys _ _ _ _ _ (by simpa using h1) (by simpa using h2)]; exact hni)]
    exact List.getElem?_set_self (hlt i (by simp))
  | i :: is, v :: vs, o0 :: os, S, j + 1, o, h1, h2, hnd, hlt, ho => by
    simp only [renObjs, updAll, List.getD_cons_succ]
    obtain ⟨hni, hnd⟩ := List.nodup_cons.1 hnd
    exact updAll_ren ids vers is vs os _ j o (by simpa using h1) (by simpa using h2) hnd (fun k hk => by simpa using hlt k (by simp [hk])) (by simpa using ho)

theorem getD_get {l : List Nat} {j i : Nat} (h : l[j]? = some i) : l.getD j 0 = i := by simp [List.getD_eq_getElem?_getD, h]

theorem ObjIs.back {all vers : List Nat} (hb : Back all vers pl' St' pl2 St2) {j id v : Nat} {o : Obj} (hid : pl2.blk id = pl'.blk j) (hc : pl2.cap id = pl'.cap j) (h : ObjIs P T S pl' St' w j o) : ObjIs P T S pl2 St2 w id (Obj.ren all vers v o) := by
  cases o with
  | fresh => trivial
  | dead => trivial
  | var l row =>
    obtain ⟨cur, e, h1, h2⟩ := h
    exact ⟨cur, e, by rw [hid]; exact h1, h2⟩
  | cells c vs =>
    obtain ⟨cur, e, h1, h2, h3, h4⟩ := h
    refine ⟨cur, e, by rw [hid]; exact h1, by rw [rens_length]; exact h2, fun i av hi => ?_, h4⟩
    rw [rens_get] at hi
    obtain ⟨u, hu, rfl⟩ := Option.map_eq_some_iff.1 hi
    exact (h3 i u hu).back hb
  | arr u l c =>
    cases u with
    | succ u => trivial
    | zero =>
      rcases h with h | ⟨rows, cur, e, i, q0, q1, q2, q3, q4, q5, q6, q7, q8⟩
      · exact .inl h
      · exact .inr ⟨rows, cur, e, i, q0, by rw [hid]; exact q1, q2, q3, q4, by rw [hc]; exact q5, by rw [hc]; exact q6, by rw [hc]; exact q7, q8⟩
  | sarr u e l c =>
    cases u with
    | succ u => trivial
    | zero =>
      rcases h with h | ⟨rows, cur, e, i, q0, q1, q2, q3, q4, q5, q6, q7, q8, q9⟩
      · exact .inl h
      · exact .inr ⟨rows, cur, e, i, q0, by rw [hid]; exact q1, q2, q3, q4, by rw [hc]; exact q5, by rw [hc]; exact q6, by rw [hc]; exact q7, q8, by rw [hid]; exact q9⟩
  | map kl vl es =>
    obtain ⟨ens, clock, h1, h2, h3⟩ := h
    exact ⟨ens, clock, by rw [hid]; exact h1, h2, h3⟩
theorem ren_has {all vers : List Nat} {v : Nat} {o : Obj} (h : (Obj.ren all vers v o).has = true) : o.has = true ∧ (Obj.ren all vers v o).sn = o.sn := by
  cases o with
  | arr u l c => cases u <;> simp [Obj.ren, Obj.has] at h ⊢; cases c <;> simp_all [Obj.has, Obj.sn]
  | sarr u e l c => cases u <;> simp [Obj.ren, Obj.has] at h ⊢; cases c <;> simp_all [Obj.has, Obj.sn]
  | fresh => simp [Obj.ren, Obj.has] at h
  | dead => simp [Obj.ren, Obj.has] at h
  | _ => simp [Obj.ren, Obj.has, Obj.sn]

/-- Where the objects lie behind the call. -/
noncomputable def Pl.back (pl pl2 : Pl) (all : List Nat) : Pl :=
  ⟨fun id => if id ∈ all then pl2.blk (all.idxOf id) else pl.blk id, fun id => if id ∈ all then pl2.cap (all.idxOf id) else pl.cap id⟩
theorem Pl.back_in {pl pl2 : Pl} {all : List Nat} (hnd : all.Nodup) {j : Nat} (hj : j < all.length) : (pl.back pl2 all).blk (all.getD j 0) = pl2.blk j ∧ (pl.back pl2 all).cap (all.getD j 0) = pl2.cap j := by
  have hm : all.getD j 0 ∈ all := by rw [List.getD_eq_getElem?_getD, List.getElem?_eq_getElem hj]; exact List.getElem_mem hj
  have hi : all.idxOf (all.getD j 0) = j := by
    rw [List.getD_eq_getElem?_getD, List.getElem?_eq_getElem hj]
    exact hnd.idxOf_getElem j hj
  simp only [Pl.back, if_pos hm, hi, and_self]
theorem Pl.back_out {pl pl2 : Pl} {all : List Nat} {id : Nat} (h : id ∉ all) : (pl.back pl2 all).blk id = pl.blk id ∧ (pl.back pl2 all).cap id = pl.cap id := by
  simp only [Pl.back, if_neg h, and_self]
end Go.Ev
