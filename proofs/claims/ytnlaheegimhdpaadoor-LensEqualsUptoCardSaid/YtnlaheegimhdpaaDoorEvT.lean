/-
  Regions whose operations may come in any order that their edges allow.
-/
import Derived.Test.YtnlaheegimhdpaaDoorEvS
set_option linter.all false
namespace Go.Ev
variable {E : Env} {P : Program} {T : Nat → AFn} {S S' : Stab} {pl pl' : Pl} {St St' : Ev.St} {F F' : Fr} {a : Act} {w w' : World}
variable {Γ : Ctx} {n : Nat}

/-- One operation of a region as it went: its place, whether it was carried out, what it gave, turned and looked at. -/
structure Rec where
  i : Nat
  o : AOper
  ran : Bool
  v : AV
  us : List (Nat × Obj)
  rd : List Nat
def Rec.foot (x : Rec) : Foot := (x.us.map (·.1), x.rd)

def Wants (F : Fr) (o : AOper) (b : Bool) : Prop := match o.guard with
  | none => b = true
  | some (t, w) => (∃ e, F.get t = .d (.one .bool) [.bool e] ∧ b = (e == w)) ∨ (F.get t = .und ∧ b = false)

def Rec.did (E : Env) (base : Nat) (x : Rec) (F : Fr) (S : Ev.St) : Prop :=
  Wants F x.o x.ran ∧ (x.ran = true → op1 E F S x.o.op base = some (x.v, x.us, x.rd)) ∧ (x.ran = false → x.v = .und ∧ x.us = [] ∧ x.rd = [])

def Run (E : Env) (base : Nat) : List Rec → Fr → Ev.St → Fr → Ev.St → Prop
  | [], F, S, Fn, Sn => (∀ t, F.get t = Fn.get t) ∧ S = Sn
  | x :: rest, F, S, Fn, Sn => x.did E base F S ∧ Run E base rest (F.put x.o.dst x.v) (updAll x.us S) Fn Sn

theorem ev_congr {F F' : Fr} (h : ∀ t, F.get t = F'.get t) (x : Opd) : x.ev F = x.ev F' := by cases x <;> simp [Opd.ev, h]
theorem Fr.put_get (F : Fr) (d : Option Nat) (v : AV) (t : Nat) : (F.put d v).get t = if d = some t then v else F.get t := by
  cases d with
  | none => simp [Fr.put]
  | some d => simp only [Fr.put, Fr.get_cons, Option.some.injEq]

theorem Rec.did_congr {base : Nat} {x : Rec} (h : ∀ t, F.get t = F'.get t) (hd : x.did E base F St) : x.did E base F' St := by
  refine ⟨?_, fun hr => ?_, hd.2.2⟩
  · have := hd.1
    unfold Wants at this ⊢
    split <;> simp_all
  · rw [← op1_congr St x.o.op base (fun y _ => ev_congr h y)]; exact hd.2.1 hr
theorem Run.congr {base : Nat} {Fn : Fr} {Sn : Ev.St} : ∀ (l : List Rec) {F F' : Fr} {St : Ev.St}, (∀ t, F.get t = F'.get t) → Run E base l F St Fn Sn → Run E base l F' St Fn Sn
  | [], F, F', St, h, hr => ⟨fun t => (h t).symm.trans (hr.1 t), hr.2⟩
  | x :: rest, F, F', St, h, hr => ⟨Rec.did_congr h hr.1, Run.congr rest (fun t => by rw [Fr.put_get, Fr.put_get, h t]) hr.2⟩

def guardSlot (o : AOper) : List Nat := match o.guard with | some (t, _) => [t] | none => []
def opdSlot : Opd → List Nat | .t n => [n] | .c _ _ => []
/-- The slots that an operation looks at. -/
def slots (o : AOper) : List Nat := guardSlot o ++ (opds o.op).flatMap opdSlot

def noMem (d : Option Nat) (l : List Nat) : Bool := match d with | none => true | some t => !l.any (Nat.beq t)
/-- Neither looks at what the other gives. -/
def apartB (x y : AOper) : Bool := noMem x.dst (slots y) && noMem y.dst (slots x) && (match x.dst, y.dst with | some a, some b => !Nat.beq a b | _, _ => true)

theorem noMem_sound {d : Option Nat} {l : List Nat} (h : noMem d l = true) : ∀ t ∈ l, d ≠ some t := by
  intro t ht e; subst e
  simp only [noMem, Bool.not_eq_true', List.any_eq_false] at h
  exact h t ht (by simp)

theorem did_put {base : Nat} {x : Rec} {d : Option Nat} {v : AV} (h : noMem d (slots x.o) = true) : x.did E base (F.put d v) St ↔ x.did E base F St := by
  have hn := noMem_sound h
  have hg : ∀ t, t ∈ slots x.o → (F.put d v).get t = F.get t := fun t ht => by rw [Fr.put_get, if_neg (hn t ht)]
  have hev : ∀ y ∈ opds x.o.op, y.ev (F.put d v) = y.ev F := by
    intro y hy
    cases y with
    | c => rfl
    | t n => exact hg n (by simp only [slots, List.mem_append, List.mem_flatMap]; exact .inr ⟨_, hy, by simp [opdSlot]⟩)
  unfold Rec.did
  rw [op1_congr St x.o.op base hev]
  have : Wants (F.put d v) x.o x.ran ↔ Wants F x.o x.ran := by
    unfold Wants
    cases hgd : x.o.guard with
    | none => rfl
    | some p =>
      obtain ⟨t, b⟩ := p
      have := hg t (by simp [slots, guardSlot, hgd])
      simp only [this]
  rw [this]

theorem updAll_length : ∀ (us : List (Nat × Obj)) (S : Ev.St), (updAll us S).length = S.length
  | [], _ => rfl
  | (i, o) :: r, S => by simp only [updAll]; rw [updAll_length r]; simp
theorem updAll_ne : ∀ (us : List (Nat × Obj)) (S : Ev.St) (j : Nat), j ∉ us.map (·.1) → (updAll us S)[j]? = S[j]?
  | [], _, _, _ => rfl
  | (i, o) :: r, S, j, h => by
    simp only [List.map_cons, List.mem_cons, not_or] at h
    simp only [updAll]
    rw [updAll_ne r _ j h.2, List.getElem?_set_ne (Ne.symm h.1)]
theorem updAll_set (us : List (Nat × Obj)) (S : Ev.St) (i : Nat) (o : Obj) (h : i ∉ us.map (·.1)) : updAll us (S.set i o) = (updAll us S).set i o := by
  induction us generalizing S with
  | nil => rfl
  | cons p r ih =>
    obtain ⟨j, q⟩ := p
    simp only [List.map_cons, List.mem_cons, not_or] at h
    simp only [updAll]
    rw [← ih (S := S.set j q) h.2, List.set_comm _ _ (h.1)]
theorem updAll_comm : ∀ (us vs : List (Nat × Obj)) (S : Ev.St), (∀ i ∈ us.map (·.1), i ∉ vs.map (·.1)) → updAll us (updAll vs S) = updAll vs (updAll us S)
  | [], _, _, _ => rfl
  | (i, o) :: r, vs, S, h => by
    simp only [updAll]
    rw [← updAll_set vs S i o (h i (by simp)), updAll_comm r vs _ (fun j hj => h j (by simp only [List.map_cons, List.mem_cons]; exact .inr hj))]

theorem meets_false {a l : List Nat} (h : meets a l = false) : ∀ i ∈ a, i ∉ l := by
  induction a with
  | nil => intro i hi; cases hi
  | cons b r ih =>
    simp only [meets, Bool.or_eq_false_iff] at h
    intro i hi
    cases hi with
    | head => intro hl; have := List.any_eq_false.1 h.1 _ hl; simp at this
    | tail _ hi => exact ih h.2 i hi

theorem did_upd {base : Nat} {x : Rec} {us : List (Nat × Obj)} (h : ∀ i ∈ us.map (·.1), i ∉ x.rd) (hd : x.did E base F St) : x.did E base F (updAll us St) :=
  ⟨hd.1, fun hr => op1_mem (hd.2.1 hr) (updAll_length us St) (fun id hid => updAll_ne us St id (fun hm => h id hm hid)), hd.2.2⟩
theorem did_upd' {base : Nat} {x : Rec} {us : List (Nat × Obj)} (h : ∀ i ∈ us.map (·.1), i ∉ x.rd) (hd : x.did E base F (updAll us St)) : x.did E base F St :=
  ⟨hd.1, fun hr => op1_mem (hd.2.1 hr) (updAll_length us St).symm (fun id hid => (updAll_ne us St id (fun hm => h id hm hid)).symm), hd.2.2⟩

theorem put_comm {d d' : Option Nat} (h : (match d, d' with | some a, some b => !Nat.beq a b | _, _ => true) = true) (v v' : AV) (t : Nat) :
    ((F.put d v).put d' v').get t = ((F.put d' v').put d v).get t := by
  rw [Fr.put_get, Fr.put_get, Fr.put_get, Fr.put_get]
  by_cases h1 : d = some t
  · by_cases h2 : d' = some t
    · subst h1; subst h2; simp at h
    · rw [if_neg h2, if_pos h1, if_pos h1]
  · rw [if_neg h1, if_neg h1]

/-- Two operations that do not meet may change places. -/
theorem Run.swap {base : Nat} {x y : Rec} {rest : List Rec} {Fn : Fr} {Sn : Ev.St} (h : Run E base (x :: y :: rest) F St Fn Sn) (hc : conflict y.foot x.foot = false) (ha : apartB x.o y.o = true) :
    Run E base (y :: x :: rest) F St Fn Sn := by
  obtain ⟨hx, hy, hr⟩ := h
  simp only [conflict, Bool.or_eq_false_iff] at hc
  obtain ⟨⟨c1, c2⟩, c3⟩ := hc
  have c1 := meets_false c1
  have c2 := meets_false c2
  have c3 := meets_false c3
  have c3' : ∀ i ∈ x.us.map (·.1), i ∉ y.rd := fun i hi hj => c3 i hj hi
  simp only [apartB, Bool.and_eq_true] at ha
  obtain ⟨⟨a1, a2⟩, a3⟩ := ha
  refine ⟨did_upd' c3' ((did_put a1).1 hy), did_upd c2 ((did_put a2).2 hx), ?_⟩
  rw [updAll_comm x.us y.us St (fun i hi hj => c1 i hj hi)]
  exact Run.congr rest (put_comm a3 x.v y.v) hr

theorem Run.front {base : Nat} {y : Rec} {post : List Rec} {Fn : Fr} {Sn : Ev.St} : ∀ (pre : List Rec) {F : Fr} {St : Ev.St}, Run E base (pre ++ y :: post) F St Fn Sn → (∀ x ∈ pre, conflict y.foot x.foot = false ∧ apartB x.o y.o = true) →
    Run E base (y :: (pre ++ post)) F St Fn Sn
  | [], F, St, h, _ => h
  | x :: pre, F, St, h, ha => by
    have h2 : Run E base (x :: y :: (pre ++ post)) F St Fn Sn := ⟨h.1, Run.front pre h.2 (fun z hz => ha z (by simp [hz]))⟩
    exact h2.swap (ha x (by simp)).1 (ha x (by simp)).2

/-! ### The run of the text's order -/
theorem orderOk_get {f : Foot} {bef : List Nat} : ∀ {seen : List Foot} {i : Nat}, orderOk f bef seen i = true → ∀ j g, seen[j]? = some g → conflict f g = false ∨ i + j ∈ bef
  | [], _, _, j, g, h => by simp at h
  | q :: r, i, h, j, g, hj => by
    simp only [orderOk, Bool.and_eq_true, Bool.or_eq_true, Bool.not_eq_true'] at h
    cases j with
    | zero =>
      simp at hj; subst hj
      rcases h.1 with h1 | h1
      · exact .inl h1
      · rw [List.any_eq_true] at h1
        obtain ⟨b, hb, e⟩ := h1
        have := Nat.eq_of_beq_eq_true e
        subst this; exact .inr hb
    | succ j =>
      have := orderOk_get h.2 j g (by simpa using hj)
      rw [Nat.add_assoc, Nat.add_comm 1 j] at this
      exact this

theorem trace {A : Type} {base : Nat} {k : Fr → Ev.St → Option A} {res : A} : ∀ (aos : List AOper) (seen : List Foot) (F : Fr) (St : Ev.St), opsK E true base aos seen F St k = some res →
    ∃ (recs : List Rec) (Fn : Fr) (Sn : Ev.St), Run E base recs F St Fn Sn ∧ k Fn Sn = some res ∧ recs.map (·.o) = aos ∧ (∀ j x, recs[j]? = some x → x.i = seen.length + j) ∧
      (∀ (j : Nat) (x : Rec), recs[j]? = some x → ∀ (m : Nat) (g : Foot), (seen ++ recs.map Rec.foot)[m]? = some g → m < seen.length + j → conflict x.foot g = false ∨ m ∈ x.o.bef)
  | [], seen, F, St, h => ⟨[], F, St, ⟨fun _ => rfl, rfl⟩, h, rfl, fun j x h => by simp at h, fun j x h => by simp at h⟩
  | ao :: aos, seen, F, St, h => by
    have next : ∀ (F1 : Fr) (b : Bool) (v : AV) (us : List (Nat × Obj)) (rd : List Nat), (∀ t, F1.get t = F.get t) → ({ i := seen.length, o := ao, ran := b, v := v, us := us, rd := rd } : Rec).did E base F St →
        (orderOk (us.map (·.1), rd) ao.bef seen 0 = true ∨ b = false) →
        opsK E true base aos (seen ++ [(us.map (·.1), rd)]) (F1.put ao.dst v) (updAll us St) k = some res →
        ∃ (recs : List Rec) (Fn : Fr) (Sn : Ev.St), Run E base recs F St Fn Sn ∧ k Fn Sn = some res ∧ recs.map (·.o) = ao :: aos ∧ (∀ j x, recs[j]? = some x → x.i = seen.length + j) ∧
          (∀ (j : Nat) (x : Rec), recs[j]? = some x → ∀ (m : Nat) (g : Foot), (seen ++ recs.map Rec.foot)[m]? = some g → m < seen.length + j → conflict x.foot g = false ∨ m ∈ x.o.bef) := by
      intro F1 b v us rd hF1 hdid hord h
      obtain ⟨recs, Fn, Sn, h1, h2, h3, h4, h5⟩ := trace aos _ _ _ h
      refine ⟨{ i := seen.length, o := ao, ran := b, v := v, us := us, rd := rd } :: recs, Fn, Sn, ⟨hdid, Run.congr recs (fun t => by rw [Fr.put_get, Fr.put_get, hF1 t]) h1⟩, h2, by simp [h3], fun j x hj => ?_, fun j x hj m g hg hm => ?_⟩
      · cases j with
        | zero => simp at hj; subst hj; rfl
        | succ j =>
          have := h4 j x (by simpa using hj)
          rw [this]; simp; omega
      · cases j with
        | zero =>
          simp at hj; subst hj
          rcases hord with ho | hb
          · have hms : m < seen.length := by omega
            rw [List.getElem?_append_left hms] at hg
            have := orderOk_get ho m g hg
            simpa [Rec.foot] using this
          · left
            have := hdid.2.2 hb
            simp only at this
            obtain ⟨_, rfl, rfl⟩ := this
            rfl
        | succ j =>
          refine h5 j x (by simpa using hj) m g ?_ (by simp; omega)
          simpa [Rec.foot] using hg
    simp only [opsK] at h
    have run : ∀ F1 : Fr, (∀ t, F1.get t = F.get t) → Wants F ao true → opK E F1 St ao.op base (fun v us rd => check (!true || orderOk (us.map (·.1), rd) ao.bef seen 0) (opsK E true base aos (seen ++ [(us.map (·.1), rd)]) (F1.put ao.dst v) (updAll us St) k)) = some res →
        ∃ (recs : List Rec) (Fn : Fr) (Sn : Ev.St), Run E base recs F St Fn Sn ∧ k Fn Sn = some res ∧ recs.map (·.o) = ao :: aos ∧ (∀ j x, recs[j]? = some x → x.i = seen.length + j) ∧
          (∀ (j : Nat) (x : Rec), recs[j]? = some x → ∀ (m : Nat) (g : Foot), (seen ++ recs.map Rec.foot)[m]? = some g → m < seen.length + j → conflict x.foot g = false ∨ m ∈ x.o.bef) := by
      intro F1 hF1 hw h
      rw [opK_nat] at h
      obtain ⟨⟨av, us, rd⟩, e1, e2⟩ := Option.bind_eq_some_iff.1 h
      obtain ⟨ho, e2⟩ := check_some e2
      rw [op1_congr St ao.op base (fun y _ => ev_congr hF1 y)] at e1
      exact next F1 true av us rd hF1 ⟨hw, fun _ => e1, fun h => by simp at h⟩ (.inl (by simpa using ho)) e2
    have skip : ∀ F1 : Fr, (∀ t, F1.get t = F.get t) → Wants F ao false → opsK E true base aos (seen ++ [([], [])]) (F1.put ao.dst .und) St k = some res →
        ∃ (recs : List Rec) (Fn : Fr) (Sn : Ev.St), Run E base recs F St Fn Sn ∧ k Fn Sn = some res ∧ recs.map (·.o) = ao :: aos ∧ (∀ j x, recs[j]? = some x → x.i = seen.length + j) ∧
          (∀ (j : Nat) (x : Rec), recs[j]? = some x → ∀ (m : Nat) (g : Foot), (seen ++ recs.map Rec.foot)[m]? = some g → m < seen.length + j → conflict x.foot g = false ∨ m ∈ x.o.bef) :=
      fun F1 hF1 hw h => next F1 false .und [] [] hF1 ⟨hw, fun h => by simp at h, fun _ => ⟨rfl, rfl, rfl⟩⟩ (.inr rfl) h
    split at h
    · rename_i hg
      exact run F (fun _ => rfl) (by simp [Wants, hg]) h
    · rename_i t b hg
      split at h
      · rename_i e hr
        have nar : ∀ c, e = c → ∀ t', Fr.get ((t, vB c) :: F) t' = F.get t' := by
          intro c hc t'
          rw [Fr.get_cons]
          split
          · rename_i q; subst q; rw [hr, hc]
          · rfl
        split at h
        · split at h
          · rename_i hb
            exact run _ (nar _ hb) (by simp only [Wants, hg]; exact .inl ⟨e, hr, by simp [hb]⟩) h
          · rename_i hb
            have hb : e = false := by simpa using hb
            exact skip _ (nar _ hb) (by simp only [Wants, hg]; exact .inl ⟨e, hr, by simp [hb]⟩) h
        · split at h
          · rename_i hb
            exact skip _ (nar _ hb) (by simp only [Wants, hg]; exact .inl ⟨e, hr, by simp [hb]⟩) h
          · rename_i hb
            have hb : e = false := by simpa using hb
            exact run _ (nar _ hb) (by simp only [Wants, hg]; exact .inl ⟨e, hr, by simp [hb]⟩) h
      · rename_i hu
        exact skip F (fun _ => rfl) (by simp only [Wants, hg]; exact (.inr ⟨hu, by trivial⟩)) h
      · simp at h

/-! ### What such a region must be -/
def befOk (all : List AOper) (o : Oper) (ao : AOper) : Bool :=
  ao.bef.all fun b => o.after.toList.any fun e => Region.binds .any e && (Nat.beq e.on b || (match all[e.on]? with | some ao' => ao'.bef.any (Nat.beq b) | none => false))
def edgesOk (i : Nat) (o : Oper) : Bool := o.after.toList.all fun e => !Region.binds .any e || Nat.blt e.on i
def apartAll (ao : AOper) : List AOper → Nat → Bool
  | [], _ => true
  | p :: r, m => (ao.bef.any (Nat.beq m) || apartB p ao) && apartAll ao r (m + 1)
def drawB (all : List AOper) : List Oper → List AOper → List AOper → Nat → Bool
  | [], [], _, _ => true
  | o :: os, ao :: aos, prev, i => befOk all o ao && edgesOk i o && apartAll ao prev 0 && drawB all os aos (prev ++ [ao]) (i + 1)
  | _, _, _, _ => false

theorem apartAll_get {ao : AOper} : ∀ {prev : List AOper} {m : Nat}, apartAll ao prev m = true → ∀ j p, prev[j]? = some p → m + j ∈ ao.bef ∨ apartB p ao = true
  | [], _, _, j, p, h => by simp at h
  | q :: r, m, h, j, p, hj => by
    simp only [apartAll, Bool.and_eq_true, Bool.or_eq_true] at h
    cases j with
    | zero =>
      simp at hj; subst hj
      rcases h.1 with h1 | h1
      · rw [List.any_eq_true] at h1
        obtain ⟨b, hb, e⟩ := h1
        have := Nat.eq_of_beq_eq_true e
        subst this; exact .inl hb
      · exact .inr h1
    | succ j =>
      have := apartAll_get h.2 j p (by simpa using hj)
      rw [Nat.add_assoc, Nat.add_comm 1 j] at this
      exact this

theorem drawB_get {all : List AOper} : ∀ {os : List Oper} {aos prev : List AOper} {i : Nat}, drawB all os aos prev i = true → prev.length = i → ∀ j o ao, os[j]? = some o → aos[j]? = some ao →
    befOk all o ao = true ∧ edgesOk (i + j) o = true ∧ apartAll ao (prev ++ aos.take j) 0 = true
  | [], [], _, _, _, _, j, o, ao, h, _ => by simp at h
  | [], _ :: _, _, _, _, _, j, o, ao, h, _ => by simp at h
  | _ :: _, [], _, _, _, _, j, o, ao, _, h => by simp at h
  | o :: os, ao :: aos, prev, i, h, hl, j, o', ao', ho, hao => by
    simp only [drawB, Bool.and_eq_true] at h
    cases j with
    | zero => simp at ho hao; subst ho; subst hao; exact ⟨h.1.1.1, h.1.1.2, by simpa using h.1.2⟩
    | succ j =>
      have := drawB_get h.2 (by simp [hl]) j o' ao' (by simpa using ho) (by simpa using hao)
      refine ⟨this.1, by rw [Nat.add_assoc, Nat.add_comm 1 j] at this; exact this.2.1, by simpa using this.2.2⟩

theorem okOps_get {ops : Array Oper} : ∀ {os : List Oper} {aos : List AOper}, okOps P T n ops os aos = true → ∀ (j : Nat) (o : Oper) (ao : AOper), os[j]? = some o → aos[j]? = some ao → okOper P T n ops o ao = true
  | [], _, _, j, o, ao, h, _ => by simp at h
  | _ :: _, [], h, _, _, _, _, _ => by simp [okOps] at h
  | o :: os, ao :: aos, h, j, o', ao', ho, hao => by
    simp only [okOps, Bool.and_eq_true] at h
    cases j with
    | zero => simp at ho hao; subst ho; subst hao; exact h.1
    | succ j => exact okOps_get h.2 j o' ao' (by simpa using ho) (by simpa using hao)
theorem okOps_len {ops : Array Oper} : ∀ {os : List Oper} {aos : List AOper}, okOps P T n ops os aos = true → os.length = aos.length
  | [], [], _ => rfl
  | [], _ :: _, h => by simp [okOps] at h
  | _ :: _, [], h => by simp [okOps] at h
  | _ :: os, _ :: aos, h => by simp only [okOps, Bool.and_eq_true] at h; simp [okOps_len h.2]

theorem Inv.reframe (h : Inv P T Γ S pl St F a w) (hF : ∀ t, F.get t = F'.get t) : Inv P T Γ S pl St F' a w :=
  ⟨h.sim, fun t => by rw [← hF t]; exact h.frame t, h.size, h.defers, h.grow, h.young, h.kept⟩

theorem any_sound {ops : Array Oper} {aos : List AOper} {Q : Exit → Act → World → Prop} {base : Nat} {Fn : Fr} {Sn : Ev.St} (hpc : EnvOk P T E) (hok : okOps P T Γ.n ops ops.toList aos = true) (hdr : drawB aos ops.toList aos [] 0 = true)
    (hQ : ∀ S pl a w, Inv P T Γ S pl Sn Fn a w → Q .normal a w) :
    ∀ (fuel : Nat) (rem : List Rec) (listed : Array Bool) (F : Fr) (St : Ev.St) (S : Stab) (pl : Pl) (a : Act) (w : World), fuel = rem.length → listed.size = ops.size →
      (∀ x ∈ rem, listed[x.i]? = some false ∧ aos[x.i]? = some x.o) → (∀ i, listed.getD i true = false → ∃ x ∈ rem, x.i = i) →
      rem.Pairwise (fun x y => x.i < y.i ∧ (conflict y.foot x.foot = false ∨ x.i ∈ y.o.bef)) →
      (∀ j ao, listed.getD j false = true → aos[j]? = some ao → ∀ b ∈ ao.bef, listed.getD b false = true) →
      Inv P T Γ S pl St F a w → Run E base rem F St Fn Sn → wpAny P .any ops Q fuel listed a w := by
  have hlen : ops.size = aos.length := by have := okOps_len hok; simpa using this
  have hopsget : ∀ i ao, aos[i]? = some ao → ∃ o, ops[i]? = some o := fun i ao h => by
    have : i < ops.size := by have := (List.getElem?_eq_some_iff.1 h).1; omega
    exact ⟨_, Array.getElem?_eq_getElem this⟩
  have hstat : ∀ i o ao, ops[i]? = some o → aos[i]? = some ao → okOper P T Γ.n ops o ao = true ∧ befOk aos o ao = true ∧ edgesOk i o = true ∧ apartAll ao (aos.take i) 0 = true := by
    intro i o ao ho hao
    have ho' : ops.toList[i]? = some o := by simpa using ho
    have := drawB_get hdr rfl i o ao ho' hao
    exact ⟨okOps_get hok i o ao ho' hao, this.1, by simpa using this.2.1, by simpa using this.2.2⟩
  intro fuel
  induction fuel with
  | zero =>
    intro rem listed F St S pl a w hf hsz hrem hcov hpw hdown hI hr
    have : rem = [] := List.eq_nil_of_length_eq_zero hf.symm
    subst this
    obtain ⟨h1, rfl⟩ := hr
    refine ⟨?_, hQ S pl a w (hI.reframe h1)⟩
    apply List.eq_nil_iff_forall_not_mem.2
    intro i hi
    obtain ⟨x, hx, _⟩ := hcov i (mem_ready.1 hi).1
    cases hx
  | succ fuel ih =>
    intro rem listed F St S pl a w hf hsz hrem hcov hpw hdown hI hr
    have unl : ∀ i, i < ops.size → listed.getD i false ≠ true → ∃ x ∈ rem, x.i = i := by
      intro i hi hn
      refine hcov i ?_
      have hil : i < listed.size := by omega
      simp [hil] at hn ⊢
      exact hn
    refine ⟨fun hnil => ?_, fun i hi => ?_⟩
    · exfalso
      match rem, hf with
      | x :: rest, _ =>
        obtain ⟨hx1, hx2⟩ := hrem x (by simp)
        obtain ⟨o, ho⟩ := hopsget _ _ hx2
        have hmem : x.i ∈ Region.ready .any ops listed := by
          refine mem_ready.2 ⟨by simp [hx1], o, ho, fun e he hb => ?_⟩
          obtain ⟨_, _, hed, _⟩ := hstat _ _ _ ho hx2
          have := List.all_eq_true.1 hed e (by simpa using he)
          rw [hb] at this
          have hlt : e.on < x.i := by simpa using this
          have hxlt : x.i < ops.size := (Array.getElem?_eq_some_iff.1 ho).1
          by_cases hl : listed.getD e.on false = true
          · exact hl
          · obtain ⟨y, hy, hyi⟩ := unl e.on (by omega) hl
            rcases List.mem_cons.1 hy with rfl | hy
            · omega
            · have := (List.pairwise_cons.1 hpw).1 y hy; omega
        rw [hnil] at hmem; cases hmem
    · obtain ⟨h1, o, ho, hon⟩ := mem_ready.1 hi
      obtain ⟨x, hx, rfl⟩ := hcov i h1
      obtain ⟨hx1, hx2⟩ := hrem x hx
      obtain ⟨hoo, hbef, hed, hap⟩ := hstat _ _ _ ho hx2
      obtain ⟨pre, post, rfl⟩ := List.append_of_mem hx
      have hbefl : ∀ b ∈ x.o.bef, listed.getD b false = true := by
        intro b hb
        have := List.all_eq_true.1 hbef b hb
        obtain ⟨e, he, h2⟩ := List.any_eq_true.1 this
        simp only [Bool.and_eq_true, Bool.or_eq_true] at h2
        have hel := hon e (by simpa using he) h2.1
        rcases h2.2 with h3 | h3
        · rw [← Nat.eq_of_beq_eq_true h3]; exact hel
        · split at h3
          · rename_i ao' hao'
            obtain ⟨q, hq, hqe⟩ := List.any_eq_true.1 h3
            have := Nat.eq_of_beq_eq_true hqe
            subst this
            exact hdown e.on ao' hel hao' b hq
          · simp at h3
      have hpre : ∀ p ∈ pre, conflict x.foot p.foot = false ∧ apartB p.o x.o = true := by
        intro p hp
        have hpi := hrem p (by simp [hp])
        have hR := (List.pairwise_append.1 hpw).2.2 p hp x (by simp)
        have hnb : p.i ∉ x.o.bef := fun hb => by
          have := hbefl _ hb
          simp [hpi.1] at this
        refine ⟨hR.2.resolve_right hnb, ?_⟩
        have := apartAll_get hap p.i p.o (by rw [List.getElem?_take, if_pos hR.1]; exact hpi.2)
        rw [Nat.zero_add] at this
        exact this.resolve_left hnb
      have hfront := Run.front pre hr hpre
      obtain ⟨hdid, hrest⟩ := hfront
      have hxsz : x.i < listed.size := (Array.getElem?_eq_some_iff.1 hx1).1
      have hsub : (pre ++ post).Sublist (pre ++ x :: post) := List.Sublist.append (List.Sublist.refl _) (List.sublist_cons_self _ _)
      have hneq : ∀ y ∈ pre ++ post, y.i ≠ x.i := by
        intro y hy
        rcases List.mem_append.1 hy with hy | hy
        · have := (List.pairwise_append.1 hpw).2.2 y hy x (by simp); omega
        · have := (List.pairwise_cons.1 (List.pairwise_append.1 hpw).2.1).1 y hy; omega
      have next : ∀ S' pl' a' w', Inv P T Γ S' pl' (updAll x.us St) (F.put x.o.dst x.v) a' w' → wpAny P .any ops Q fuel (listed.setIfInBounds x.i true) a' w' := by
        intro S' pl' a' w' hI'
        refine ih (pre ++ post) _ _ _ _ _ _ _ (by simp at hf ⊢; omega) (by simp [hsz]) (fun y hy => ?_) (fun j hj => ?_) (hpw.sublist hsub) (fun j ao hj hao b hb => ?_) hI' hrest
        · obtain ⟨h1, h2⟩ := hrem y (hsub.subset hy)
          refine ⟨?_, h2⟩
          rw [Array.getElem?_setIfInBounds, if_neg (Ne.symm (hneq y hy))]; exact h1
        · by_cases hji : x.i = j
          · subst hji
            simp [hxsz] at hj
          · have : listed.getD j true = false := by
              rw [Array.getD_eq_getD_getElem?, Array.getElem?_setIfInBounds, if_neg hji] at hj
              rw [Array.getD_eq_getD_getElem?]; exact hj
            obtain ⟨y, hy, hyj⟩ := hcov j this
            refine ⟨y, ?_, hyj⟩
            rcases List.mem_append.1 hy with hy | hy
            · exact List.mem_append_left _ hy
            · rcases List.mem_cons.1 hy with rfl | hy
              · exact absurd hyj hji
              · exact List.mem_append_right _ hy
        · have keep : ∀ m, listed.getD m false = true → (listed.setIfInBounds x.i true).getD m false = true := by
            intro m hm
            rw [Array.getD_eq_getD_getElem?, Array.getElem?_setIfInBounds]
            split
            · simp [hxsz]
            · rw [Array.getD_eq_getD_getElem?] at hm; exact hm
          by_cases hji : x.i = j
          · subst hji
            rw [hx2] at hao; obtain rfl := Option.some.inj hao
            exact keep b (hbefl b hb)
          · have : listed.getD j false = true := by
              rw [Array.getD_eq_getD_getElem?, Array.getElem?_setIfInBounds, if_neg hji] at hj
              rw [Array.getD_eq_getD_getElem?]; exact hj
            exact keep b (hdown j ao this hao b hb)
      simp only [okOper, Bool.and_eq_true] at hoo
      obtain ⟨⟨⟨hop, hdst⟩, hdok⟩, hgd⟩ := hoo
      have hdst := optB_eq hdst
      obtain ⟨g1, g2, g3⟩ := guard_wanted (ops := ops) (o := o) (ao := x.o) hgd hI.frame
      have hwant : Region.wanted o (yielded ops a.tmps) = x.ran := by
        have hw := hdid.1
        unfold Wants at hw
        split at hw
        · rename_i hg; rw [hw]; exact g1 hg
        · rename_i t b hg
          rcases hw with ⟨e, he, hb⟩ | ⟨hu, hb⟩
          · rw [g2 t b hg _ he, hb]; rfl
          · rw [g3 t b hg hu, hb]
      unfold wpOp
      rw [ho]
      dsimp only
      rw [hwant]
      cases hran : x.ran with
      | true =>
        rw [if_pos rfl]
        refine .inl (ups_one hI hpc hop (hdid.2.1 hran) _ _ fun v w' hp => ?_)
        rw [hdst]
        obtain ⟨S', pl', hI'⟩ := hI.step hdok hp
        exact next S' pl' _ w' hI'
      | false =>
        rw [if_neg (by simp)]
        obtain ⟨hv, hu, _⟩ := hdid.2.2 hran
        rw [hdst]
        refine next S pl _ w ?_
        rw [hv, hu]
        exact hI.skip hdok

/-- A region whose order is drawn. -/
theorem draw_sound {A : Type} {ops : Array Oper} {aos : List AOper} {Q : Exit → Act → World → Prop} {base : Nat} {k : Fr → Ev.St → Option A} {res : A} {id : Nat} (hm : P.follows .mixedOrders = true) (hpc : EnvOk P T E)
    (hok : okOps P T Γ.n ops ops.toList aos = true) (hdr : drawB aos ops.toList aos [] 0 = true)
    (hQ : ∀ F St S pl a w, Inv P T Γ S pl St F a w → k F St = some res → Q .normal a w)
    (hI : Inv P T Γ S pl St F a w) (h : opsK E true base aos [] F St k = some res) : (Code.region id ops true).wp P Q a w := by
  obtain ⟨recs, Fn, Sn, h1, h2, h3, h4, h5⟩ := trace aos [] F St h
  have hlen : ops.size = aos.length := by have := okOps_len hok; simpa using this
  have hrl : recs.length = aos.length := by rw [← h3]; simp
  have hI' : Inv P T Γ S pl St F a { w with drawn := w.drawn + 1 } := by
    refine ⟨hI.sim.frame S.le_refl (fun _ _ _ _ => rfl) hI.sim.stab hI.sim.apart, hI.frame, hI.size, hI.defers, ⟨hI.grow.os, hI.grow.tape, hI.grow.output, hI.grow.size, hI.grow.block, hI.grow.mono, hI.grow.new⟩, hI.young, hI.kept⟩
  refine wp_region_any hm (any_sound (E := E) (base := base) hpc hok hdr (fun S pl a w hI => hQ Fn Sn S pl a w hI h2) ops.size recs _ F St S pl a _ (by omega) (by simp) (fun x hx => ?_) (fun i hi => ?_) ?_ (fun j ao hj => ?_) hI' h1)
  · obtain ⟨j, hj, rfl⟩ := List.getElem_of_mem hx
    have hxi := h4 j _ (List.getElem?_eq_getElem hj)
    simp only [List.length_nil, Nat.zero_add] at hxi
    refine ⟨?_, ?_⟩
    · rw [hxi, Array.getElem?_replicate, if_pos (by omega)]
    · rw [hxi, ← h3]; simp [hj]
  · have hlt : i < ops.size := by
      rcases Nat.lt_or_ge i ops.size with h | h
      · exact h
      · simp [h] at hi
    have hil : i < recs.length := by omega
    exact ⟨recs[i], List.getElem_mem hil, by have := h4 i _ (List.getElem?_eq_getElem hil); simpa using this⟩
  · rw [List.pairwise_iff_getElem]
    intro i j hi hj hij
    have hxi := h4 i _ (List.getElem?_eq_getElem hi)
    have hxj := h4 j _ (List.getElem?_eq_getElem hj)
    simp only [List.length_nil, Nat.zero_add] at hxi hxj
    refine ⟨by omega, ?_⟩
    rw [hxi]
    exact h5 j _ (List.getElem?_eq_getElem hj) i recs[i].foot (by simp [hi]) (by simpa using hij)
  · rw [Array.getD_eq_getD_getElem?, Array.getElem?_replicate] at hj
    split at hj <;> simp at hj
end Go.Ev
