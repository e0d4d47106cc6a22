/-
  Memory that is not written again becomes data; regions.
-/
import Derived.Test.YtnlaheegimhdpaaDoorEvT
set_option linter.all false
namespace Go.Ev
variable {E : Env} {P : Program} {T : Nat → AFn} {S S' : Stab} {pl pl' : Pl} {St St' : Ev.St} {F F' : Fr} {a : Act} {w w' : World}
variable {Γ : Ctx} {n : Nat}

theorem Keeps.set_dead {i : Nat} {o : Obj} (hi : St[i]? = some o) (hf : o ≠ .fresh) : Keeps pl St pl (St.set i .dead) := by
  have hlt : i < St.length := (List.getElem?_eq_some_iff.1 hi).1
  intro id o1 h hf1
  by_cases hne : id = i
  · subst hne
    exact ⟨.dead, List.getElem?_set_self hlt, by simp, fun l row e => (by cases e), fun c vs e => (by cases e), fun v l' c e => (by cases e), fun _ _ _ _ e => (by cases e), fun _ _ _ e => (by cases e)⟩
  · exact ⟨o1, by rw [List.getElem?_set_ne (Ne.symm hne)]; exact h, hf1, Keeps.same rfl rfl⟩

/-- A block becomes data. -/
theorem Inv.frozen {i : Nat} {o : Obj} {cs : Array Value} {e : TypeId} {m : Nat} (hI : Inv P T Γ S pl St F a w) (hi : St[i]? = some o) (ho : o.has = true) (hz : o.sn = 0) (hb : w.heap[pl.blk i]? = some (.cells cs e (0, 0))) :
    Inv P T Γ (S.more (pl.blk i) (cs.toList.take m)) pl (St.set i .dead) F a w ∧ S.le (S.more (pl.blk i) (cs.toList.take m)) := by
  have hlt : i < St.length := (List.getElem?_eq_some_iff.1 hi).1
  have hnone : ∀ off, S (pl.blk i) off = none := fun off => hI.sim.apart i o hi ho off (by omega)
  have hle : S.le (S.more (pl.blk i) (cs.toList.take m)) := Stab.le_more hnone
  have hf : o ≠ .fresh := fun e => by subst e; simp [Obj.has] at ho
  have hk : Keeps pl St pl (St.set i .dead) := Keeps.set_dead hi hf
  refine ⟨⟨?_, fun t => (hI.frame t).keep hk hle, hI.size, hI.defers, ?_, fun b hb' => ?_, fun av v hr => (hI.kept av v hr).keep hk hle⟩, hle⟩
  · refine hI.sim.upd hlt hk hle (fun _ _ => ⟨rfl, rfl⟩) (fun _ _ _ _ _ => rfl) (fun b off v h => ?_) trivial (fun h => by simp [Obj.has] at h) (fun j o1 hj h1 h2 off hoff => ?_) (fun h => by simp [Obj.has] at h)
    · simp only [Stab.more] at h
      split at h
      · rename_i hbb; subst hbb
        rw [cell_of_row w _ _ _ _ _ hb]
        rw [List.getElem?_take] at h
        split at h
        · simpa using h
        · cases h
      · exact hI.sim.stab _ _ _ h
    · simp only [Stab.more]
      rw [if_neg (fun e => hj (hI.sim.inj j i _ _ h1 hi h2 ho e))]
      exact hI.sim.apart j o1 h1 h2 off hoff
  · refine ⟨hI.grow.os, hI.grow.tape, hI.grow.output, hI.grow.size, hI.grow.block, Stab.le_trans hI.grow.mono hle, fun b off hb' hn => ?_⟩
    simp only [Stab.more]
    rw [if_neg, hI.grow.new b off hb' hn]
    intro e; subst e
    rcases hI.young _ ⟨i, o, hi, ho, rfl⟩ with h | h
    · exact hn h
    · omega
  · obtain ⟨id, o1, h1, h2, h3⟩ := hb'
    by_cases hid : id = i
    · subst hid
      rw [List.getElem?_set_self hlt] at h1
      obtain rfl := Option.some.inj h1
      simp [Obj.has] at h2
    · rw [List.getElem?_set_ne (Ne.symm hid)] at h1
      exact hI.young b ⟨id, o1, h1, h2, h3⟩

theorem Inv.slot {t : Nat} {av : AV} (hI : Inv P T Γ S pl St F a w) (hv : RelV P T S pl St av (a.tmps.getD t undef)) : Inv P T Γ S pl St ((t, av) :: F) a w := by
  refine ⟨hI.sim, fun t' => ?_, hI.size, hI.defers, hI.grow, hI.young, hI.kept⟩
  rw [Fr.get_cons]
  by_cases e : t = t'
  · subst e; rw [if_pos rfl]; exact hv
  · rw [if_neg e]; exact hI.frame t'

/-- The array under a slice becomes data. -/
theorem Inv.freeze_arr {i v : Nat} {e : TypeId} {l : L} {d : C} (hL : Lay P e l) (hI : Inv P T Γ S pl St F a w) (ho : St[i]? = some (.arr v l d)) :
    ∃ S', Inv P T Γ S' pl (St.set i .dead) F a w ∧ S.le S' ∧ ∀ val, RelV P T S pl St (.whole i v) val → RelV P T S' pl (St.set i .dead) (.d (.one (.sl e)) [d]) val := by
  rcases hI.sim.objs _ _ ho with rfl | ⟨rows, cur, e2, i2, rfl, hh, q1, q2, q3, q4, q5, q6, q7⟩
  · have hk' : Keeps pl St pl (St.set i .dead) := Keeps.set_dead ho (by simp)
    have hlt : i < St.length := (List.getElem?_eq_some_iff.1 ho).1
    refine ⟨S, ⟨?_, fun t => (hI.frame t).keep hk' S.le_refl, hI.size, hI.defers, hI.grow, fun b hb' => ?_, fun av v hr => (hI.kept av v hr).keep hk' S.le_refl⟩, S.le_refl, fun val hv => ?_⟩
    · exact hI.sim.upd hlt hk' S.le_refl (fun _ _ => ⟨rfl, rfl⟩) (fun _ _ _ _ _ => rfl) hI.sim.stab trivial (fun h => by simp [Obj.has] at h) (fun j o1 _ h1 h2 => hI.sim.apart j o1 h1 h2) (fun h => by simp [Obj.has] at h)
    · obtain ⟨j, o1, h1, h2, h3⟩ := hb'
      by_cases hid : j = i
      · subst hid
        rw [List.getElem?_set_self hlt] at h1
        obtain rfl := Option.some.inj h1
        simp [Obj.has] at h2
      · rw [List.getElem?_set_ne (Ne.symm hid)] at h1
        exact hI.young b ⟨j, o1, h1, h2, h3⟩
    · rw [(hv.of_whole ho).1 rfl]; exact .d ⟨_, rfl, .nils⟩
  · obtain ⟨hI', hle⟩ := hI.frozen (m := rows.length * l.n) ho rfl rfl hh
    refine ⟨_, hI', hle, fun val hv => ?_⟩
    rw [(hv.of_whole ho).2 rows rfl]
    have hrr : RepRows P T S l cur.toList rows := ⟨by rw [show cur.toList.length = cur.size from Array.length_toList, q6]; exact Nat.mul_le_mul_right _ q4, q7⟩
    have hrep := (hrr.mono hle).rep (b := pl.blk i) (o := 0) (cap := pl.cap i) hL q4 (fun p hp => by
      simp only [Stab.more, if_true, Nat.zero_add]
      rw [List.getElem?_take, if_pos hp]
      have : p < cur.toList.length := Nat.lt_of_lt_of_le hp hrr.len
      simp [List.getD_eq_getElem?_getD, List.getElem?_eq_getElem this])
    exact .d ⟨_, rfl, hrep⟩

def frzB (P : Program) (t : TypeId) : Option L → Bool | none => true | some l => layB P t l && Nat.blt 0 l.n

theorem getO_some {A : Type} {S : Ev.St} {id : Nat} {k : Obj → Option A} {r : A} (h : getO S id k = some r) : ∃ o, S[id]? = some o ∧ k o = some r := by
  unfold getO at h; split at h
  · exact ⟨_, by assumption, h⟩
  · simp at h

theorem freeze1_sound {A : Type} {t : Nat} {ty : TypeId} {ol : Option L} {k : Fr → Ev.St → Option A} {r : A} (hb : frzB P ty ol = true) (hI : Inv P T Γ S pl St F a w) (h : freeze1 t ty ol F St k = some r) :
    ∃ F' St' S', Inv P T Γ S' pl St' F' a w ∧ k F' St' = some r ∧ St'.length = St.length := by
  unfold freeze1 at h
  have hv := hI.frame t
  split at h
  · rename_i l
    simp only [frzB, Bool.and_eq_true] at hb
    have hL := layB_sound hb.1
    split at h
    · rename_i id v hg
      rw [hg] at hv
      obtain ⟨o, ho, hA⟩ := getO_some h
      obtain ⟨l', c, rfl, hB⟩ := asArr_some hA
      obtain ⟨hlb, hk⟩ := check_some hB
      obtain rfl := L.beq_eq hlb
      obtain ⟨S', hI', hle, hr⟩ := hI.freeze_arr (e := ty) hL ho
      exact ⟨_, _, S', hI'.slot (hr _ hv), hk, by simp⟩
    · rename_i id hg
      rw [hg] at hv
      obtain ⟨o, ho, hA⟩ := getO_some h
      split at hA
      · rename_i l' row
        obtain ⟨hlb, hk⟩ := check_some hA
        obtain rfl := L.beq_eq hlb
        obtain ⟨cur, e, hh, hr⟩ := hI.sim.objs _ _ ho
        obtain ⟨hI', hle⟩ := hI.frozen (m := l.n) ho rfl rfl hh
        refine ⟨_, _, _, hI'.slot ?_, hk, by simp⟩
        cases hv with
        | ptr h0 h1 h2 h3 h4 =>
          rw [ho] at h1; obtain rfl := Option.some.inj h1
          rw [h3 _ _ rfl]
          refine .d ⟨_, rfl, .ref (fun j => cur.toList.getD j undef) hL hr.rlen rfl (fun j hj => ?_) (fun j k hk => (hr.mono hle).cell j k hk)⟩
          have hjl : j < cur.toList.length := by rw [hr.clen]; exact hj
          simp only [Stab.more, if_true, Nat.zero_add]
          rw [List.getElem?_take, if_pos hj, List.getElem?_eq_getElem hjl, List.getD_eq_getElem?_getD, List.getElem?_eq_getElem hjl]; rfl
      · simp at hA
    · simp at h
  · split at h
    · rename_i id hg
      obtain ⟨o, ho, hA⟩ := getO_some h
      split at hA
      · rename_i c vs
        have hlt : id < St.length := (List.getElem?_eq_some_iff.1 ho).1
        have hk' : Keeps pl St pl (St.set id (.cells true vs)) := by
          intro j o1 h1 hf1
          by_cases hne : j = id
          · subst hne
            rw [ho] at h1; obtain rfl := Option.some.inj h1
            exact ⟨_, List.getElem?_set_self hlt, by simp, fun l row e => (by cases e), fun c vs e => ⟨⟨_, _, rfl⟩, rfl⟩, fun v l' c e => (by cases e), fun _ _ _ _ e => (by cases e), fun _ _ _ e => (by cases e)⟩
          · exact ⟨o1, by rw [List.getElem?_set_ne (Ne.symm hne)]; exact h1, hf1, Keeps.same rfl rfl⟩
        refine ⟨_, _, S, ⟨?_, fun t => (hI.frame t).keep hk' S.le_refl, hI.size, hI.defers, hI.grow, fun b hb' => ?_, fun av v hr => (hI.kept av v hr).keep hk' S.le_refl⟩, hA, by simp⟩
        · refine hI.sim.upd hlt hk' S.le_refl (fun _ _ => ⟨rfl, rfl⟩) (fun _ _ _ _ _ => rfl) hI.sim.stab ?_ (fun _ off _ => hI.sim.apart id _ ho rfl off (Nat.zero_le _)) (fun j o1 _ h1 h2 => hI.sim.apart j o1 h1 h2) (fun _ j o1 hj h1 h2 e => hj (hI.sim.inj j id _ _ h1 ho h2 rfl e))
          obtain ⟨cur, e, q1, q2, q3, q4⟩ := hI.sim.objs _ _ ho
          exact ⟨cur, e, q1, q2, fun i av hi => (q3 i av hi).keep hk' S.le_refl, q4⟩
        · obtain ⟨j, o1, h1, h2, h3⟩ := hb'
          by_cases hid : j = id
          · subst hid
            exact hI.young b ⟨j, _, ho, rfl, h3⟩
          · rw [List.getElem?_set_ne (Ne.symm hid)] at h1
            exact hI.young b ⟨j, o1, h1, h2, h3⟩
      · simp at hA
    · simp at h

def frzAllB (P : Program) : List (Nat × TypeId × Option L) → Bool
  | [] => true
  | (_, t, ol) :: r => frzB P t ol && frzAllB P r

theorem freezeAll_sound {A : Type} {k : Fr → Ev.St → Option A} {r : A} : ∀ (fz : List (Nat × TypeId × Option L)) {F : Fr} {St : Ev.St} {S : Stab}, frzAllB P fz = true → Inv P T Γ S pl St F a w → freezeAll fz F St k = some r →
    ∃ F' St' S', Inv P T Γ S' pl St' F' a w ∧ k F' St' = some r
  | [], F, St, S, _, hI, h => ⟨F, St, S, hI, h⟩
  | (t, ty, ol) :: fz, F, St, S, hb, hI, h => by
    simp only [frzAllB, Bool.and_eq_true] at hb
    obtain ⟨F', St', S', hI', h', _⟩ := freeze1_sound hb.1 hI h
    exact freezeAll_sound fz hb.2 hI' h'

/-- Places for new objects. -/
theorem Inv.room (m : Nat) (hI : Inv P T Γ S pl St F a w) : Inv P T Γ S pl (St ++ List.replicate m .fresh) F a w := by
  have get : ∀ (id : Nat) (o : Obj), (St ++ List.replicate m Obj.fresh)[id]? = some o → St[id]? = some o ∨ o = Obj.fresh := by
    intro id o h
    by_cases hid : id < St.length
    · rw [List.getElem?_append_left hid] at h; exact .inl h
    · rw [List.getElem?_append_right (by omega)] at h
      have := List.mem_of_getElem? h
      exact .inr (List.mem_replicate.1 this).2
  have hk : Keeps pl St pl (St ++ List.replicate m .fresh) := by
    intro id o h hf
    have hid : id < St.length := (List.getElem?_eq_some_iff.1 h).1
    exact ⟨o, by rw [List.getElem?_append_left hid]; exact h, hf, Keeps.same rfl rfl⟩
  have nofresh : ∀ o : Obj, o.has = true → o ≠ .fresh := fun o h e => by subst e; simp [Obj.has] at h
  refine ⟨⟨hI.sim.stab, fun id o h => ?_, fun id o h ho => ?_, fun i j o o' h1 h2 h3 h4 h5 => ?_, hI.sim.glob⟩, fun t => (hI.frame t).keep hk S.le_refl, hI.size, hI.defers, hI.grow, fun b hb => ?_, fun av v hr => (hI.kept av v hr).keep hk S.le_refl⟩
  · rcases get id o h with h | rfl
    · exact (hI.sim.objs id o h).keep hk S.le_refl rfl rfl (fun _ => rfl)
    · trivial
  · exact hI.sim.apart id o ((get id o h).resolve_right (nofresh o ho)) ho
  · exact hI.sim.inj i j o o' ((get i o h1).resolve_right (nofresh o h3)) ((get j o' h2).resolve_right (nofresh o' h4)) h3 h4 h5
  · obtain ⟨id, o, h1, h2, h3⟩ := hb
    exact hI.young b ⟨id, o, (get id o h1).resolve_right (nofresh o h2), h2, h3⟩

/-! ### What turns in our knowledge alone -/
/-- One more object, of which nothing is in memory. -/
theorem Inv.more (hI : Inv P T Γ S pl St F a w) (e : TypeId) (l : L) : Inv P T Γ S pl (St ++ [.sarr 0 e l .nils]) F a w := by
  have get : ∀ (id : Nat) (o : Obj), (St ++ [Obj.sarr 0 e l .nils])[id]? = some o → St[id]? = some o ∨ o = Obj.sarr 0 e l .nils := by
    intro id o h
    by_cases hid : id < St.length
    · rw [List.getElem?_append_left hid] at h; exact .inl h
    · rw [List.getElem?_append_right (by omega)] at h
      have := List.mem_of_getElem? h
      exact .inr (by simpa using this)
  have hk : Keeps pl St pl (St ++ [.sarr 0 e l .nils]) := by
    intro id o h hf
    have hid : id < St.length := (List.getElem?_eq_some_iff.1 h).1
    exact ⟨o, by rw [List.getElem?_append_left hid]; exact h, hf, Keeps.same rfl rfl⟩
  have nohas : ∀ o : Obj, o.has = true → o ≠ Obj.sarr 0 e l .nils := fun o h q => by subst q; simp [Obj.has] at h
  refine ⟨⟨hI.sim.stab, fun id o h => ?_, fun id o h ho => ?_, fun i j o o' h1 h2 h3 h4 h5 => ?_, hI.sim.glob⟩, fun t => (hI.frame t).keep hk S.le_refl, hI.size, hI.defers, hI.grow, fun b hb => ?_, fun av v hr => (hI.kept av v hr).keep hk S.le_refl⟩
  · rcases get id o h with h | rfl
    · exact (hI.sim.objs id o h).keep hk S.le_refl rfl rfl (fun _ => rfl)
    · exact .inl rfl
  · exact hI.sim.apart id o ((get id o h).resolve_right (nohas o ho)) ho
  · exact hI.sim.inj i j o o' ((get i o h1).resolve_right (nohas o h3)) ((get j o' h2).resolve_right (nohas o' h4)) h3 h4 h5
  · obtain ⟨id, o, h1, h2, h3⟩ := hb
    exact hI.young b ⟨id, o, (get id o h1).resolve_right (nohas o h2), h2, h3⟩
/-- A cell of a variable whose cells are known each for itself is known otherwise. -/
theorem Inv.recell {id p : Nat} {c : Bool} {vs : List AV} {av : AV} (hI : Inv P T Γ S pl St F a w) (ho : St[id]? = some (.cells c vs)) (hv : ∀ (cur : Array Value) (e : TypeId), w.heap[pl.blk id]? = some (.cells cur e (0, 0)) → p < vs.length → RelV P T S pl St av (cur.getD p undef)) :
    Inv P T Γ S pl (St.set id (.cells c (vs.set p av))) F a w := by
  have hlt : id < St.length := (List.getElem?_eq_some_iff.1 ho).1
  have hk : Keeps pl St pl (St.set id (.cells c (vs.set p av))) := Keeps.set ho (fun _ => ⟨by simp, fun _ _ h => by simp at h, fun _ _ _ => ⟨_, _, rfl⟩, fun _ _ _ h => by simp at h, fun _ _ _ _ h => by simp at h, fun _ _ _ h => by simp at h⟩)
  refine ⟨?_, fun t => (hI.frame t).keep hk S.le_refl, hI.size, hI.defers, hI.grow, fun b hb' => ?_, fun av v hr => (hI.kept av v hr).keep hk S.le_refl⟩
  · refine hI.sim.upd hlt hk S.le_refl (fun _ _ => ⟨rfl, rfl⟩) (fun _ _ _ _ _ => rfl) hI.sim.stab ?_ (fun _ off _ => hI.sim.apart id _ ho rfl off (Nat.zero_le _)) (fun j o1 _ h1 h2 => hI.sim.apart j o1 h1 h2) (fun _ j o1 hj h1 h2 e => hj (hI.sim.inj j id _ _ h1 ho h2 rfl e))
    obtain ⟨cur, e, q1, q2, q3, q4⟩ := hI.sim.objs _ _ ho
    refine ⟨cur, e, q1, by simp [q2], fun i u hi => ?_, q4⟩
    by_cases hip : i = p
    · subst hip
      have hil : i < vs.length := by have := (List.getElem?_eq_some_iff.1 hi).1; simpa using this
      rw [List.getElem?_set_self hil] at hi
      obtain rfl := Option.some.inj hi
      exact (hv cur e q1 hil).keep hk S.le_refl
    · rw [List.getElem?_set_ne (Ne.symm hip)] at hi
      exact (q3 i u hi).keep hk S.le_refl
  · obtain ⟨j, o1, h1, h2, h3⟩ := hb'
    by_cases hid : j = id
    · subst hid
      exact hI.young b ⟨j, _, ho, rfl, h3⟩
    · rw [List.getElem?_set_ne (Ne.symm hid)] at h1
      exact hI.young b ⟨j, o1, h1, h2, h3⟩

def ghostB (P : Program) : Ghost → Bool
  | .lft _ _ _ _ => true
  | .frz _ _ e l => layB P e l && Nat.blt 0 l.n
  | .frzS _ e l => layB P e l && Nat.blt 0 l.n

theorem nil_of_d {e : TypeId} {v : Value} (h : RelV P T S pl St (.d (.one (.sl e)) [.nils]) v) : v = .slice none 0 0 := by
  obtain ⟨c, hc, hr⟩ := h.of_d
  simp only [List.cons.injEq, and_true] at hc
  subst hc
  cases hr; rfl

theorem ghost_sound {A : Type} {g : Ghost} {k : Fr → Ev.St → Option A} {r : A} (hb : ghostB P g = true) (hI : Inv P T Γ S pl St F a w) (h : ghostK g F St k = some r) :
    ∃ F' St' S', Inv P T Γ S' pl St' F' a w ∧ k F' St' = some r := by
  cases g with
  | lft n off e l =>
    simp only [ghostK] at h
    have hnew : (St ++ [Obj.sarr 0 e l .nils])[St.length]? = some (Obj.sarr 0 e l .nils) := by simp
    have hnewR : RelV P T S pl (St ++ [Obj.sarr 0 e l .nils]) (.sw St.length 0) (.slice none 0 0) := .sw_nil hnew
    cases off with
    | none =>
      simp only at h
      split at h
      · rename_i e' hg
        obtain ⟨_, hk⟩ := check_some h
        have hv := hI.frame n
        rw [hg] at hv
        refine ⟨_, _, S, (hI.more e l).slot ?_, hk⟩
        rw [nil_of_d hv]; exact hnewR
      · simp at h
    | some off =>
      simp only at h
      split at h
      · rename_i id p hg
        obtain ⟨o, ho, hA⟩ := getO_some h
        split at hA
        · rename_i c vs
          split at hA
          · rename_i e' hc
            obtain ⟨_, hk⟩ := check_some hA
            have hlt : id < St.length := (List.getElem?_eq_some_iff.1 ho).1
            have hI2 := hI.more e l
            have ho2 : (St ++ [Obj.sarr 0 e l .nils])[id]? = some (.cells c vs) := by rw [List.getElem?_append_left hlt]; exact ho
            have hI3 := hI2.recell (p := p + off) (av := .sw St.length 0) ho2 (fun cur e q1 _ => by
              obtain ⟨cur0, e0, z1, z2, z3, z4⟩ := hI.sim.objs _ _ ho
              rw [q1] at z1
              simp only [Option.some.injEq, Go.Obj.cells.injEq] at z1
              have := nil_of_d (z3 _ _ hc)
              rw [← z1.1] at this
              rw [this]; exact hnewR)
            refine ⟨F, _, S, hI3, ?_⟩
            rw [List.set_append_left _ _ hlt]; exact hk
          · simp at hA
        · simp at hA
      · simp at h
  | frzS n e l =>
    simp only [ghostK] at h
    obtain ⟨F', St', S', h1, h2, _⟩ := freeze1_sound (ol := some l) hb hI h
    exact ⟨F', St', S', h1, h2⟩
  | frz n off e l =>
    simp only [ghostB, Bool.and_eq_true] at hb
    have hL := layB_sound hb.1
    simp only [ghostK] at h
    split at h
    · rename_i id p hg
      obtain ⟨o, ho, hA⟩ := getO_some h
      split at hA
      · rename_i c vs
        split at hA
        · rename_i i v hc
          obtain ⟨o', ho', hB⟩ := getO_some hA
          obtain ⟨l', d, rfl, hC⟩ := asArr_some hB
          obtain ⟨hlb, hk⟩ := check_some hC
          simp only [Bool.and_eq_true] at hlb
          obtain rfl := L.beq_eq hlb.1
          have hne : i ≠ id := by
            intro q; subst q
            have := hlb.2
            simp at this
          obtain ⟨cur0, e0, z1, z2, z3, z4⟩ := hI.sim.objs _ _ ho
          have hcell := z3 _ _ hc
          have ho2 : (St.set i Obj.dead)[id]? = some (.cells c vs) := by rw [List.getElem?_set_ne hne]; exact ho
          obtain ⟨S', hI2, hle, hr⟩ := hI.freeze_arr (e := e) hL ho'
          refine ⟨F, _, S', hI2.recell (p := p + off) (av := .d (.one (.sl e)) [d]) ho2 (fun cur e q1 _ => ?_), hk⟩
          rw [q1] at z1
          simp only [Option.some.injEq, Go.Obj.cells.injEq] at z1
          rw [z1.1]; exact hr _ hcell
        · simp at hA
      · simp at hA
    · simp at h

def okRegion (P : Program) (T : Nat → AFn) (n : Nat) (ops : Array Oper) (draw : Bool) (fz : List (Nat × TypeId × Option L)) (aos : List AOper) (adraw : Bool) : Bool :=
  frzAllB P fz && okOps P T n ops ops.toList aos && (match draw with | true => adraw && drawB aos ops.toList aos [] 0 | false => !adraw)

theorem region_sound {A : Type} {id m : Nat} {ops : Array Oper} {draw adraw : Bool} {fz : List (Nat × TypeId × Option L)} {aos : List AOper} {Q : Exit → Act → World → Prop} {k : Fr → Ev.St → Option A} {r : A} (hm : P.follows .mixedOrders = true) (hpc : EnvOk P T E)
    (hok : okRegion P T Γ.n ops draw fz aos adraw = true) (hI : Inv P T Γ S pl St F a w) (h : (freezeAll fz F St fun F S => opsK E adraw S.length aos [] F (S ++ List.replicate m .fresh) k) = some r)
    (hQ : ∀ F St S pl a w, Inv P T Γ S pl St F a w → k F St = some r → Q .normal a w) : (Code.region id ops draw).wp P Q a w := by
  simp only [okRegion, Bool.and_eq_true] at hok
  obtain ⟨⟨h1, h2⟩, h3⟩ := hok
  obtain ⟨F', St', S', hI', h'⟩ := freezeAll_sound fz h1 hI h
  have hI'' := hI'.room m
  cases draw with
  | false =>
    have : adraw = false := by simpa using h3
    subst this
    have := ops_sound (ops := ops) (Q := Q) hpc hQ ops.toList aos 0 _ _ _ _ _ _ (by simp) h2 hI'' h'
    refine wp_region ?_
    rw [List.range_eq_range']
    simpa using this
  | true =>
    simp only [Bool.and_eq_true] at h3
    obtain ⟨rfl, h4⟩ := h3
    exact draw_sound hm hpc h2 h4 hQ hI'' h'
end Go.Ev
