/-
  Regions whose operations are carried out in the order of the text.
-/
import Derived.Test.YtnlaheegimhdpaaDoorEvQ
import Derived.Test.YtnlaheegimhdpaaDoorEvOe
set_option linter.all false
namespace Go.Ev
variable {E : Env} {P : Program} {T : Nat → AFn} {S S' : Stab} {pl pl' : Pl} {St St' : Ev.St} {F : Fr} {a : Act} {w w' : World}

/-! ### One operation, without what goes on behind it -/
def op1 (E : Env) (F : Fr) (S : Ev.St) (op : AOp) (base : Nat) : Option (AV × List (Nat × Obj) × List Nat) := opK E F S op base fun v us rd => some (v, us, rd)

theorem getO_nat {A B : Type} (S : Ev.St) (id : Nat) (k : Obj → Option A) (f : A → Option B) : (getO S id k).bind f = getO S id fun o => (k o).bind f := by unfold getO; split <;> rfl

def objUps (id : Nat) (no : Option Obj) : List (Nat × Obj) := match no with | some o' => [(id, o')] | none => []

theorem opK_plain {A : Type} {F : Fr} {S : Ev.St} {op : AOp} {base : Nat} {k : AV → List (Nat × Obj) → List Nat → Option A} (h1 : ∀ i f en ex ids new x args, op ≠ .icall i f en ex ids new x args) :
    opK E F S op base k = match tgt F op base with
      | none => opO E F S .dead op base fun v _ => k v [] (cidsO F op)
      | some id => getO S id fun o => opO E F S o op base fun v no => k v (objUps id no) (id :: cidsO F op) := by
  unfold opK
  split
  · exact absurd rfl (h1 _ _ _ _ _ _ _ _)
  · cases tgt F op base <;> rfl

theorem calleeOf_nat {A B : Type} (F : Fr) (f : Nat) (x : Option Opd) (args : List Opd) (k : List AV → Option A) (g : A → Option B) : (calleeOf F f x args k).bind g = calleeOf F f x args fun vs => (k vs).bind g := by
  unfold calleeOf
  split
  · rfl
  · split
    · exact check_nat _ _ _
    · rfl

theorem opK_nat {A : Type} (F : Fr) (S : Ev.St) (op : AOp) (base : Nat) (k : AV → List (Nat × Obj) → List Nat → Option A) : opK E F S op base k = (op1 E F S op base).bind fun x => k x.1 x.2.1 x.2.2 := by
  unfold op1
  by_cases h : ∃ i f en ex ids new x args, op = .icall i f en ex ids new x args
  · obtain ⟨i, f, en, ex, ids, new, x, args, rfl⟩ := h
    simp only [opK, calleeOf_nat, check_nat, Option.bind_assoc]
    congr 1
  · have h1 : ∀ i f en ex ids new x args, op ≠ .icall i f en ex ids new x args := fun i f en ex ids new x args e => h ⟨i, f, en, ex, ids, new, x, args, e⟩
    rw [opK_plain h1, opK_plain h1]
    split
    · rw [opO_nat]
      conv => rhs; rw [opO_nat, Option.bind_assoc]
      rfl
    · rw [getO_nat]
      congr 1; funext o
      rw [opO_nat]
      conv => rhs; rw [opO_nat, Option.bind_assoc]
      rfl

/-- What is fixed while a function's body runs: what was there when it began, the number of slots, and of the first m objects (handed in): what references to them meant. -/
structure Ctx where
  own0 : Nat → Prop
  S0 : Stab
  w0 : World
  n : Nat
  m : Nat
  R0 : AV → Value → Prop
  hR0 : ∀ av v, R0 av v → ∃ id, id < m ∧ (av = .map id ∨ ∃ off, av = .ptr id off)

/-- What a memory of one's own is, at a place of the code. -/
structure Inv (P : Program) (T : Nat → AFn) (Γ : Ctx) (S : Stab) (pl : Pl) (St : Ev.St) (F : Fr) (a : Act) (w : World) : Prop where
  sim : Sim P T S pl St w
  frame : RelF P T S pl St F a.tmps
  size : a.tmps.size = Γ.n
  defers : a.defers = []
  grow : Grow Γ.own0 Γ.S0 Γ.w0 S w
  young : ∀ b, Owns pl St b → Γ.own0 b ∨ Γ.w0.heap.size ≤ b
  kept : ∀ av v, Γ.R0 av v → RelV P T S pl St av v

def dstOk (n : Nat) : Option Nat → Bool | none => true | some d => Nat.blt d n

variable {Γ : Ctx} {n : Nat}

theorem Fr.get_cons (F : Fr) (d : Nat) (v : AV) (t : Nat) : Fr.get ((d, v) :: F) t = if d = t then v else Fr.get F t := by
  simp only [Fr.get]
  split
  · rename_i h; rw [if_pos (Nat.eq_of_beq_eq_true h)]
  · rename_i h
    rw [if_neg]
    intro e; subst e; simp at h

theorem RelF.put {d : Option Nat} {av : AV} {v : Value} (hF : RelF P T S pl St F a.tmps) (hd : dstOk a.tmps.size d = true) (hv : RelV P T S pl St av v) : RelF P T S pl St (F.put d av) (a.put d v).tmps := by
  cases d with
  | none => exact hF
  | some d =>
    have hlt : d < a.tmps.size := by simpa [dstOk] using hd
    intro t
    show RelV P T S pl St (Fr.get ((d, av) :: F) t) ((a.tmps.setIfInBounds d v).getD t undef)
    rw [Fr.get_cons]
    by_cases h : d = t
    · subst h
      rw [if_pos rfl]
      have : (a.tmps.setIfInBounds d v).getD d undef = v := by simp [hlt]
      rw [this]; exact hv
    · rw [if_neg h]
      have : (a.tmps.setIfInBounds d v).getD t undef = a.tmps.getD t undef := by
        simp [Array.getElem?_setIfInBounds, h]
      rw [this]; exact hF t

theorem Act.put_size (a : Act) (d : Option Nat) (v : Value) : (a.put d v).tmps.size = a.tmps.size := by cases d <;> simp [Act.put]
theorem Act.put_defers (a : Act) (d : Option Nat) (v : Value) : (a.put d v).defers = a.defers := by cases d <;> rfl

theorem Inv.step {d : Option Nat} {av : AV} {v : Value} (h : Inv P T Γ S pl St F a w) (hd : dstOk Γ.n d = true) (hp : OpPost P T S pl St w St' av v w') :
    ∃ S' pl', Inv P T Γ S' pl' St' (F.put d av) (a.put d v) w' := by
  obtain ⟨S', pl', hs, hg, hv, hk, ho⟩ := hp
  have hF' : RelF P T S' pl' St' F a.tmps := fun t => hk _ _ (h.frame t)
  refine ⟨S', pl', hs, hF'.put (by rw [h.size]; exact hd) hv, by rw [Act.put_size]; exact h.size, by rw [Act.put_defers]; exact h.defers, h.grow.trans hg (fun b hb hb' => (h.young b hb').resolve_right (by omega)), fun b hb => ?_, fun av v hr => hk _ _ (h.kept av v hr)⟩
  rcases ho b hb with hb | hb
  · exact h.young b hb
  · exact .inr (Nat.le_trans h.grow.size hb)

theorem Inv.skip {d : Option Nat} (h : Inv P T Γ S pl St F a w) (hd : dstOk Γ.n d = true) : Inv P T Γ S pl St (F.put d .und) (a.put d undef) w :=
  ⟨h.sim, h.frame.put (by rw [h.size]; exact hd) .und, by rw [Act.put_size]; exact h.size, by rw [Act.put_defers]; exact h.defers, h.grow, h.young, h.kept⟩

theorem Inv.narrow {t : Nat} {r : Row} {b : Bool} (h : Inv P T Γ S pl St F a w) (hr : F.get t = .d (.one .bool) r) (hb : (at_ r 0).toB = b) : Inv P T Γ S pl St ((t, vB b) :: F) a w := by
  refine ⟨h.sim, fun t' => ?_, h.size, h.defers, h.grow, h.young, h.kept⟩
  rw [Fr.get_cons]
  by_cases e : t = t'
  · subst e
    rw [if_pos rfl]
    have := h.frame t
    rw [hr] at this
    rw [this.of_bool, hb]; exact relB b
  · rw [if_neg e]; exact h.frame t'

theorem ups_one {ao : AOp} {base : Nat} {av : AV} {us : List (Nat × Obj)} {rd : List Nat} {o : Oper} (hI : Inv P T Γ S pl St F a w) (hpc : EnvOk P T E) (hok : okOp P T o.op ao = true)
    (h : op1 E F St ao base = some (av, us, rd)) : Done P o a w (OpPost P T S pl St w (updAll us St) av) := by
  by_cases hic : ∃ i f en ex ids new x args, ao = .icall i f en ex ids new x args
  · obtain ⟨i, f, en, ex, ids, new, x, args, rfl⟩ := hic
    exact s_icall hI.sim hI.frame hpc.ic hok h
  have h1 : ∀ i f en ex ids new x args, ao ≠ .icall i f en ex ids new x args := fun i f en ex ids new x args e => hic ⟨i, f, en, ex, ids, new, x, args, e⟩
  unfold op1 at h
  rw [opK_plain h1] at h
  split at h
  · rename_i ht
    rw [opO_nat] at h
    obtain ⟨⟨av', no⟩, e1, e2⟩ := Option.bind_eq_some_iff.1 h
    simp only [Option.some.injEq, Prod.mk.injEq] at e2
    obtain ⟨rfl, rfl, rfl⟩ := e2
    have := op_sound hI.sim hI.frame hpc.pc hok (fun j hj => by rw [ht] at hj; cases hj) e1
    rw [ht] at this
    cases no <;> exact this
  · rename_i id ht
    unfold getO at h
    split at h
    · rename_i ob hob
      dsimp only at h
      rw [opO_nat] at h
      obtain ⟨⟨av', no⟩, e1, e2⟩ := Option.bind_eq_some_iff.1 h
      simp only [Option.some.injEq, Prod.mk.injEq] at e2
      obtain ⟨rfl, rfl, rfl⟩ := e2
      have := op_sound hI.sim hI.frame hpc.pc hok (fun j hj => by rw [ht] at hj; cases hj; exact hob) e1
      rw [ht] at this
      cases no <;> exact this
    · simp at h

/-! ### What a region must be -/
def optB : Option Nat → Option Nat → Bool | none, none => true | some a, some b => Nat.beq a b | _, _ => false
theorem optB_eq {a b : Option Nat} (h : optB a b = true) : a = b := by
  cases a <;> cases b <;> simp [optB] at h
  · rfl
  · rw [h]
def guardB (ops : Array Oper) : Option (Nat × Bool) → Option (Nat × Bool) → Bool
  | none, none => true
  | some (g, b), some (t, b') => (match b with | true => b' | false => !b') && (match ops[g]? with | some o => optB o.dst (some t) | none => false)
  | _, _ => false
def okOper (P : Program) (T : Nat → AFn) (n : Nat) (ops : Array Oper) (o : Oper) (ao : AOper) : Bool :=
  okOp P T o.op ao.op && optB o.dst ao.dst && dstOk n ao.dst && guardB ops o.guard ao.guard
def okOps (P : Program) (T : Nat → AFn) (n : Nat) (ops : Array Oper) : List Oper → List AOper → Bool
  | [], [] => true
  | o :: os, ao :: aos => okOper P T n ops o ao && okOps P T n ops os aos
  | _, _ => false

theorem guard_wanted {ops : Array Oper} {o : Oper} {ao : AOper} {S : Stab} {pl : Pl} {St : Ev.St} (hg : guardB ops o.guard ao.guard = true) (hF : RelF P T S pl St F a.tmps) :
    (ao.guard = none → Region.wanted o (yielded ops a.tmps) = true) ∧
    (∀ t b, ao.guard = some (t, b) → ∀ r, F.get t = .d (.one .bool) r → Region.wanted o (yielded ops a.tmps) = ((at_ r 0).toB == b)) ∧
    (∀ t b, ao.guard = some (t, b) → F.get t = .und → Region.wanted o (yielded ops a.tmps) = false) := by
  unfold guardB at hg
  split at hg
  · rename_i h1 h2
    refine ⟨fun _ => by simp [Region.wanted, h1], fun t b h => (by rw [h2] at h; cases h), fun t b h => (by rw [h2] at h; cases h)⟩
  · rename_i g b t b' h1 h2
    simp only [Bool.and_eq_true] at hg
    obtain ⟨hb, hd⟩ := hg
    have hbb : b = b' := by cases b <;> simp_all
    subst hbb
    split at hd
    · rename_i o2 ho2
      have hdst := optB_eq hd
      refine ⟨fun h => (by rw [h2] at h; cases h), fun t' b' h r hr => ?_, fun t' b' h hu => ?_⟩
      · rw [h2] at h; cases h
        have hv := hF t
        rw [hr] at hv
        have hv := hv.of_bool
        have hlt : t < a.tmps.size := by
          rcases Nat.lt_or_ge t a.tmps.size with h | h
          · exact h
          · simp [h, undef] at hv
        have hget : a.tmps[t]? = some (.bool (at_ r 0).toB) := by
          rw [Array.getElem?_eq_getElem hlt]
          simp [hlt] at hv; rw [hv]
        simp [Region.wanted, h1, yielded, ho2, hdst, hget]
      · rw [h2] at h; cases h
        have hv := hF t
        rw [hu] at hv
        generalize hq : a.tmps.getD t undef = q at hv
        cases hv
        have : ∀ b, a.tmps[t]? ≠ some (.bool b) := fun b e => by
          rw [Array.getD_eq_getD_getElem?, e] at hq
          simp [undef] at hq
        have hy : yielded ops a.tmps g = none := by
          simp only [yielded, ho2, Option.bind_some, hdst]
        simp [Region.wanted, h1, hy]
    · simp at hd
  · simp at hg

theorem ops_sound {A : Type} {ops : Array Oper} {Q : Exit → Act → World → Prop} {base : Nat} {k : Fr → Ev.St → Option A} {res : A} (hpc : EnvOk P T E)
    (hQ : ∀ F St S pl a w, Inv P T Γ S pl St F a w → k F St = some res → Q .normal a w) :
    ∀ (os : List Oper) (aos : List AOper) (i : Nat) (F : Fr) (St : Ev.St) (S : Stab) (pl : Pl) (a : Act) (w : World), os = ops.toList.drop i → okOps P T Γ.n ops os aos = true →
      Inv P T Γ S pl St F a w → opsK E false base aos [] F St k = some res → wpOps P ops Q (List.range' i os.length) a w
  | [], [], i, F, St, S, pl, a, w, _, _, hI, h => hQ _ _ _ _ _ _ hI h
  | [], _ :: _, _, _, _, _, _, _, _, _, h, _, _ => by simp [okOps] at h
  | _ :: _, [], _, _, _, _, _, _, _, _, h, _, _ => by simp [okOps] at h
  | o :: os, ao :: aos, i, F, St, S, pl, a, w, hos, hok, hI, h => by
    simp only [okOps, okOper, Bool.and_eq_true] at hok
    obtain ⟨⟨⟨⟨hop, hdst⟩, hdok⟩, hgd⟩, hrest⟩ := hok
    have hdst := optB_eq hdst
    have hoi : ops[i]? = some o := by
      have : (ops.toList.drop i)[0]? = some o := by rw [← hos]; rfl
      simpa using this
    have hos' : os = ops.toList.drop (i + 1) := by
      have := congrArg List.tail hos
      simpa using this
    simp only [List.length_cons, List.range'_succ, wpOps, hoi]
    obtain ⟨g1, g2, g3⟩ := guard_wanted (ops := ops) (o := o) (ao := ao) hgd hI.frame
    have hrun : ∀ F, Inv P T Γ S pl St F a w → opK E F St ao.op base (fun v us rd => check (!false || orderOk (us.map (·.1), rd) ao.bef [] 0) (opsK E false base aos [] (F.put ao.dst v) (updAll us St) k)) = some res →
        o.wp P a w (wpOps P ops Q (List.range' (i + 1) os.length)) Q := by
      intro F hI h
      rw [opK_nat] at h
      obtain ⟨⟨av, us, rd⟩, e1, e2⟩ := Option.bind_eq_some_iff.1 h
      obtain ⟨_, e2⟩ := check_some e2
      refine ups_one hI hpc hop e1 _ _ fun v w' hp => ?_
      rw [hdst]
      obtain ⟨S', pl', hI'⟩ := hI.step hdok hp
      exact ops_sound hpc hQ os aos (i + 1) _ _ _ _ _ _ hos' hrest hI' e2
    have hskip : ∀ F, Inv P T Γ S pl St F a w → opsK E false base aos [] (F.put ao.dst .und) St k = some res → wpOps P ops Q (List.range' (i + 1) os.length) (a.put o.dst undef) w := by
      intro F hI h
      rw [hdst]
      exact ops_sound hpc hQ os aos (i + 1) _ _ _ _ _ _ hos' hrest (hI.skip hdok) h
    simp only [opsK] at h
    split at h
    · rename_i hg
      rw [if_pos (g1 hg)]
      exact .inl (hrun F hI h)
    · rename_i t b hg
      split at h
      · rename_i e hr
        rw [g2 t b hg _ hr]
        have hat : (at_ [C.bool e] 0).toB = e := rfl
        rw [hat]
        split at h
        · split at h
          · rename_i hb
            rw [if_pos (by simp [hb])]
            exact .inl (hrun _ (hI.narrow hr hb) h)
          · rename_i hb
            have hb : e = false := by simpa using hb
            rw [if_neg (by simp [hb])]
            exact hskip _ (hI.narrow hr hb) h
        · split at h
          · rename_i hb
            rw [if_neg (by simp [hb])]
            exact hskip _ (hI.narrow hr hb) h
          · rename_i hb
            have hb : e = false := by simpa using hb
            rw [if_pos (by simp [hb])]
            exact .inl (hrun _ (hI.narrow hr hb) h)
      · rename_i hu
        rw [if_neg (by simp [g3 t b hg hu])]
        exact hskip _ hI h
      · simp at h
end Go.Ev
