/-
  Calls to which objects are handed: the way back.
-/
import Derived.Test.YtnlaheegimhdpaaDoorEvOb
set_option linter.all false
namespace Go.Ev
variable {E : Env} {P : Program} {T : Nat → AFn} {S S' : Stab} {pl pl' pl2 : Pl} {St St' St2 : Ev.St} {F F' : Fr} {a : Act} {w w' : World}

theorem rens_get (ids vers : List Nat) : ∀ (cs : List AV) (i : Nat), (AV.rens ids vers cs)[i]? = (cs[i]?).map (AV.ren ids vers)
  | [], _ => by simp [AV.rens]
  | c :: cs, 0 => by simp [AV.rens]
  | c :: cs, i + 1 => by simp [AV.rens, rens_get ids vers cs i]
theorem rens_length (ids vers : List Nat) : ∀ (cs : List AV), (AV.rens ids vers cs).length = cs.length
  | [] => rfl
  | c :: cs => by simp [AV.rens, rens_length ids vers cs]

/-- The callee's objects St', back at the places all of the caller's St2. -/
def Back (all vers : List Nat) (pl' : Pl) (St' : Ev.St) (pl2 : Pl) (St2 : Ev.St) : Prop :=
  ∀ (j : Nat) (o' : Obj), St'[j]? = some o' → St2[all.getD j 0]? = some (Obj.ren all vers (vers.getD j 0) o') ∧ pl2.blk (all.getD j 0) = pl'.blk j ∧ pl2.cap (all.getD j 0) = pl'.cap j

theorem ren_ne_fresh (all vers : List Nat) (v : Nat) (o : Obj) : Obj.ren all vers v o ≠ .fresh := by
  cases o with
  | arr u l c => cases u <;> simp [Obj.ren]
  | sarr u e l c => cases u <;> simp [Obj.ren]
  | _ => simp [Obj.ren]
theorem ren_var {all vers : List Nat} {v : Nat} {o : Obj} {l : L} {row : Row} (h : Obj.ren all vers v o = .var l row) : o = .var l row := by
  cases o with
  | arr u l c => cases u <;> simp [Obj.ren] at h
  | sarr u e l c => cases u <;> simp [Obj.ren] at h
  | var l r => simpa [Obj.ren] using h
  | _ => simp [Obj.ren] at h
theorem ren_cells {all vers : List Nat} {v : Nat} {o : Obj} {c : Bool} {vs : List AV} (h : Obj.ren all vers v o = .cells c vs) : ∃ vs0, o = .cells c vs0 ∧ vs = AV.rens all vers vs0 := by
  cases o with
  | arr u l c => cases u <;> simp [Obj.ren] at h
  | sarr u e l c => cases u <;> simp [Obj.ren] at h
  | cells c' vs0 => simp [Obj.ren] at h; obtain ⟨rfl, rfl⟩ := h; exact ⟨vs0, rfl, rfl⟩
  | _ => simp [Obj.ren] at h
theorem ren_arr {all vers : List Nat} {v u : Nat} {o : Obj} {l : L} {c : C} (h : Obj.ren all vers v o = .arr u l c) : o = .arr 0 l c ∧ u = v := by
  cases o with
  | arr u' l' c' =>
    cases u' with
    | zero => simp [Obj.ren] at h; obtain ⟨rfl, rfl, rfl⟩ := h; exact ⟨rfl, rfl⟩
    | succ u' => simp [Obj.ren] at h
  | sarr u' e' l' c' => cases u' <;> simp [Obj.ren] at h
  | _ => simp [Obj.ren] at h
theorem ren_sarr {all vers : List Nat} {v u : Nat} {o : Obj} {e : TypeId} {l : L} {c : C} (h : Obj.ren all vers v o = .sarr u e l c) : o = .sarr 0 e l c ∧ u = v := by
  cases o with
  | arr u' l' c' => cases u' <;> simp [Obj.ren] at h
  | sarr u' e' l' c' =>
    cases u' with
    | zero => simp [Obj.ren] at h; obtain ⟨rfl, rfl, rfl, rfl⟩ := h; exact ⟨rfl, rfl⟩
    | succ u' => simp [Obj.ren] at h
  | _ => simp [Obj.ren] at h
theorem ren_map {all vers : List Nat} {v : Nat} {o : Obj} {kl vl : L} {es : List (Row × Row)} (h : Obj.ren all vers v o = .map kl vl es) : o = .map kl vl es := by
  cases o with
  | arr u l c => cases u <;> simp [Obj.ren] at h
  | sarr u e l c => cases u <;> simp [Obj.ren] at h
  | map a b c => simpa [Obj.ren] using h
  | _ => simp [Obj.ren] at h

theorem RelV.back {all vers : List Nat} (hb : Back all vers pl' St' pl2 St2) {av : AV} {v : Value} (h : RelV P T S pl' St' av v) : RelV P T S pl2 St2 (AV.ren all vers av) v := by
  induction h with
  | undef => simp [AV.ren]; exact .undef
  | und => simp [AV.ren]; exact .undef
  | d h => simp only [AV.ren]; exact .d h
  | @ptr id off o v h0 h1 h2 h3 h4 =>
    obtain ⟨g1, g2, g3⟩ := hb id o h1
    simp only [AV.ren]
    refine .ptr h0 g1 (ren_ne_fresh _ _ _ _) (fun l row e => ?_) (fun c vs e => ?_)
    · rw [g2]; exact h3 _ _ (ren_var e)
    · obtain ⟨vs0, q, _⟩ := ren_cells e
      rw [g2]; exact h4 _ _ q
  | aptr => simp [AV.ren]; exact .undef
  | @whole id ver o v h0 h1 h2 hv h3 h4 =>
    obtain ⟨g1, g2, g3⟩ := hb id o h1
    cases ver with
    | succ ver => simp [AV.ren]; exact .undef
    | zero =>
      simp only [AV.ren]
      refine .whole h0 g1 (ren_ne_fresh _ _ _ _) (fun v1 l c e => ?_) (fun l e => ?_) (fun l rows e => ?_)
      · rw [(ren_arr e).2]; exact Nat.le_refl _
      · exact h3 _ (ren_arr e).1
      · rw [g2, g3]; exact h4 _ _ (ren_arr e).1
  | own => simp [AV.ren]; exact .undef
  | @sw id ver o v h0 h1 h2 hv h3 h4 =>
    obtain ⟨g1, g2, g3⟩ := hb id o h1
    cases ver with
    | succ ver => simp [AV.ren]; exact .undef
    | zero =>
      simp only [AV.ren]
      refine .sw h0 g1 (ren_ne_fresh _ _ _ _) (fun v1 e l c q => ?_) (fun e l q => ?_) (fun e l rows q => ?_)
      · rw [(ren_sarr q).2]; exact Nat.le_refl _
      · exact h3 _ _ (ren_sarr q).1
      · rw [g2, g3]; exact h4 _ _ _ (ren_sarr q).1
  | @agg avs vs h0 h ih =>
    simp only [AV.ren]
    have := RelV.agg (P := P) (T := T) (S := S) (pl := pl2) (St := St2) (avs := AV.rens all vers avs) vs (fun i hi => h0 i (by rw [rens_length] at hi; exact hi)) (fun i av hi => by
      rw [rens_get] at hi
      obtain ⟨c, hc, rfl⟩ := Option.map_eq_some_iff.1 hi
      exact ih i c hc)
    rw [rens_length] at this; exact this
  | @fn f caps vs h ih =>
    simp only [AV.ren]
    have := RelV.fn (P := P) (T := T) (S := S) (pl := pl2) (St := St2) (f := f) (caps := AV.rens all vers caps) vs (fun i av hi => by
      rw [rens_get] at hi
      obtain ⟨c, hc, rfl⟩ := Option.map_eq_some_iff.1 hi
      exact ih i c hc)
    rw [rens_length] at this; exact this
  | tup => simp [AV.ren]; exact .undef
  | @map id o v h0 h1 h2 h3 =>
    obtain ⟨g1, g2, g3⟩ := hb id o h1
    simp only [AV.ren]
    refine .map h0 g1 (ren_ne_fresh _ _ _ _) (fun kl vl es e => ?_)
    rw [g2]; exact h3 _ _ _ (ren_map e)
end Go.Ev
