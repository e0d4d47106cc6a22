/-
  What is carried over a place where ways meet.
-/
import Derived.Test.YtnlaheegimhdpaaDoorEvU
set_option linter.all false
namespace Go.Ev
variable {E : Env} {P : Program} {T : Nat → AFn} {S S' : Stab} {pl pl' : Pl} {St St' : Ev.St} {F F' : Fr} {a : Act} {w w' w0 : World}
variable {Γ : Ctx} {n : Nat}

theorem prefB_get : ∀ {m : Nat} {ids : List Nat} {i j : Nat}, packX.prefB m ids i = true → j < m → j < ids.length ∧ ids.getD j 0 = i + j
  | 0, _, _, _, _, h => by omega
  | m + 1, [], _, _, h, _ => by simp [packX.prefB] at h
  | m + 1, x :: r, i, 0, h, _ => by
    simp only [packX.prefB, Bool.and_eq_true] at h
    exact ⟨by simp, by simpa using Nat.eq_of_beq_eq_true h.1⟩
  | m + 1, x :: r, i, j + 1, h, hj => by
    simp only [packX.prefB, Bool.and_eq_true] at h
    obtain ⟨h1, h2⟩ := prefB_get h.2 (show j < m by omega)
    exact ⟨by simpa using h1, by rw [List.getD_cons_succ, h2]; omega⟩

/-- What is handed over is what was there. -/
theorem packX_sound {sh : Shape} {vs : List AV} {ps : List PV} {vals : Nat → Value} (hs : Sim P T S pl St w) (hv : ∀ i av, vs[i]? = some av → RelV P T S pl St av (vals i)) (h : packX sh vs St = some ps) :
    ∃ (ids : List Nat) (avs : List AV) (r : List PV) (St' : Ev.St), unVs (sh.slots.map (·.2)) ps = (avs, r) ∧ St' = unOs sh.objs r ∧ avs.length = vs.length ∧ St'.length = ids.length ∧ Ren ids pl St (pl.sub ids) St' ∧ Sim P T S (pl.sub ids) St' w ∧
      (∀ i av, avs[i]? = some av → RelV P T S (pl.sub ids) St' av (vals i)) ∧ (∀ b, Owns (pl.sub ids) St' b → Owns pl St b) ∧ (∀ j, j < sh.m → j < ids.length ∧ ids.getD j 0 = j) ∧
      ∀ (j : Nat) (o' : Obj), St'[j]? = some o' → ∃ o : Obj, St[ids.getD j 0]? = some o ∧ DownR o o' := by
  unfold packX at h
  simp only at h
  split at h
  · rename_i hc
    simp only [Bool.and_eq_true] at hc
    obtain ⟨⟨c1, c2⟩, c3⟩ := hc
    obtain ⟨avs, r, St', g1, g2, g3, g4, g5, g6, g7, g8, g9, g10⟩ := packI_in hs (nodupB_sound c1) c2 hv h
    refine ⟨_, avs, r, St', g1, g2, g3, g4, g6, g7, g8, fun b hb => ?_, fun j hj => ?_, fun j o' ho' => ?_⟩
    · obtain ⟨i, _, o, h1, h2, h3⟩ := g9 b hb
      exact ⟨i, o, h1, h2, h3⟩
    · have := prefB_get c3 hj
      rw [Nat.zero_add] at this; exact this
    · obtain ⟨o, h1, h2, _⟩ := g10 j o' ho'
      exact ⟨o, h1, h2⟩
  · simp at h

theorem unSlots_get : ∀ (ss : List (Nat × Sh)) (ps : List PV), ∃ avs r, unVs (ss.map (·.2)) ps = (avs, r) ∧ (unSlots ss ps).2 = r ∧ avs.length = ss.length ∧
    ∀ t, (unSlots ss ps).1.get t = .undef ∨ ∃ (i : Nat) (p : Nat × Sh) (av : AV), ss[i]? = some p ∧ p.1 = t ∧ avs[i]? = some av ∧ (unSlots ss ps).1.get t = av
  | [], ps => ⟨[], ps, rfl, rfl, rfl, fun t => .inl rfl⟩
  | (n, s) :: ss, ps => by
    obtain ⟨avs, r, h1, h2, h3, h4⟩ := unSlots_get ss (unV s ps).2
    refine ⟨(unV s ps).1 :: avs, r, ?_, ?_, by simp [h3], fun t => ?_⟩
    · simp only [List.map_cons, unVs, h1]
    · simp only [unSlots, h2]
    · simp only [unSlots, Fr.get_cons]
      by_cases e : n = t
      · rw [if_pos e]
        exact .inr ⟨0, (n, s), _, rfl, e, rfl, rfl⟩
      · rw [if_neg e]
        rcases h4 t with h | ⟨i, p, av, q1, q2, q3, q4⟩
        · exact .inl h
        · exact .inr ⟨i + 1, p, av, by simpa using q1, q2, by simpa using q3, q4⟩

/-- What is carried over is what was there. -/
theorem pack_sound {sh : Shape} {ps : List PV} (hsh : Γ.m ≤ sh.m) (hI : Inv P T Γ S pl St F a w) (h : pack sh F St = some ps) :
    ∃ F' St' pl', (∀ {A : Type} (k : Fr → Ev.St → Option A), unpack sh ps k = k F' St') ∧ Inv P T Γ S pl' St' F' a w := by
  unfold pack at h
  obtain ⟨ids, avs, r, St', g1, g2, g3, g4, g5, g6, g7, g8, g9, g10⟩ := packX_sound (vals := fun i => a.tmps.getD (sh.slots.getD i (0, .d (.one .bool))).1 undef) hI.sim (fun i av hi => by
    rw [List.getElem?_map] at hi
    obtain ⟨p, hp, rfl⟩ := Option.map_eq_some_iff.1 hi
    have := hI.frame p.1
    simpa [List.getD_eq_getElem?_getD, hp] using this) h
  obtain ⟨avs', r', u1, u2, u3, u4⟩ := unSlots_get sh.slots ps
  rw [g1] at u1
  simp only [Prod.mk.injEq] at u1
  obtain ⟨rfl, rfl⟩ := u1
  refine ⟨(unSlots sh.slots ps).1, St', pl.sub ids, fun k => ?_, ⟨g6, fun t => ?_, hI.size, hI.defers, hI.grow, fun b hb => hI.young b (g8 b hb), fun av v hr => ?_⟩⟩
  · unfold unpack
    have hsplit : unSlots sh.slots ps = ((unSlots sh.slots ps).1, (unSlots sh.slots ps).2) := rfl
    rw [hsplit]
    simp only [u2, ← g2]
  · rcases u4 t with h | ⟨i, p, av, q1, q2, q3, q4⟩
    · rw [h]; exact .undef
    · rw [q4]
      have := g7 i av q3
      simp only [List.getD_eq_getElem?_getD, q1, Option.getD_some, q2] at this
      exact this
  · obtain ⟨id, hid, hav⟩ := Γ.hR0 av v hr
    obtain ⟨hj, hjj⟩ := g9 id (by omega)
    have hv := hI.kept av v hr
    rcases hav with rfl | ⟨off, rfl⟩
    · cases hv with
      | map h0 h1 h2 h3 =>
        obtain ⟨o', g1, ⟨g2, g3, g4, g5, g6, g7⟩, b1, b2⟩ := g5.get hj (by rw [hjj]; exact h1)
        rw [hjj] at b1
        refine .map h0 g1 g2 (fun kl vl es e => ?_)
        obtain ⟨a, b, c, q⟩ := g6 _ _ _ e; rw [b1]; exact h3 _ _ _ q
    · cases hv with
      | ptr h0 h1 h2 h3 h4 =>
        obtain ⟨o', g1, ⟨g2, g3, g4, g5, g6, g7⟩, b1, b2⟩ := g5.get hj (by rw [hjj]; exact h1)
        rw [hjj] at b1
        refine .ptr h0 g1 g2 (fun l row e => ?_) (fun c vs e => ?_)
        · obtain ⟨l0, r0, q⟩ := g3 l row e; rw [b1]; exact h3 _ _ q
        · obtain ⟨l0, r0, q⟩ := g4 c vs e; rw [b1]; exact h4 _ _ q
end Go.Ev
