/-
  The evaluator without fuel: the limit of the evaluators with more and more of it.
-/
import Derived.Test.YtnlaheegimhdpaaDoorEvX
set_option linter.all false
namespace Go.Ev

/-! ### What goes on behind a step is nothing but what goes on with its result -/
section
variable {A B : Type}
theorem rowsOf_bind {F : Fr} {S : St} (ls : List L) (xs : List Opd) (k : List Row → Option A) : rowsOf F S ls xs k = (rowsOf F S ls xs some).bind k := by
  rw [rowsOf_nat]; rfl
theorem getO_bind (S : St) (id : Nat) (k : Obj → Option A) : getO S id k = (S[id]?).bind k := by unfold getO; split <;> rename_i e <;> rw [e] <;> rfl
theorem check_bind (b : Bool) (k : Option A) : check b k = (if b then some () else none).bind fun _ => k := by cases b <;> rfl
theorem freeze1_bind (n : Nat) (t : TypeId) (ol : Option L) (F : Fr) (S : St) (k : Fr → St → Option A) : freeze1 n t ol F S k = (freeze1 n t ol F S fun F S => some (F, S)).bind fun p => k p.1 p.2 := by
  unfold freeze1
  cases ol with
  | some l =>
    simp only
    split
    · simp only [getO_bind, Option.bind_assoc]
      congr 1; funext o
      rw [asArr_nat]
      congr 1; funext l' c
      rw [check_nat]; rfl
    · simp only [getO_bind, Option.bind_assoc]
      congr 1; funext o
      cases o <;> simp only [check_nat] <;> rfl
    · rfl
  | none =>
    simp only
    split
    · simp only [getO_bind, Option.bind_assoc]
      congr 1; funext o
      cases o <;> rfl
    · rfl
theorem freezeAll_bind : ∀ (fz : List (Nat × TypeId × Option L)) (F : Fr) (S : St) (k : Fr → St → Option A), freezeAll fz F S k = (freezeAll fz F S fun F S => some (F, S)).bind fun p => k p.1 p.2
  | [], F, S, k => rfl
  | (n, t, ol) :: r, F, S, k => by
    simp only [freezeAll]
    rw [freeze1_bind]
    conv => rhs; rw [freeze1_bind, Option.bind_assoc]
    congr 1; funext p
    rw [freezeAll_bind r]
theorem ghostK_bind (g : Ghost) (F : Fr) (S : St) (k : Fr → St → Option A) : ghostK g F S k = (ghostK g F S fun F S => some (F, S)).bind fun p => k p.1 p.2 := by
  cases g with
  | lft n off e l =>
    cases off with
    | none =>
      simp only [ghostK]
      split
      · simp only [check_nat]; rfl
      · rfl
    | some off =>
      simp only [ghostK]
      split
      · simp only [getO_bind, Option.bind_assoc]
        congr 1; funext o
        cases o <;> simp only
        case cells c vs =>
          split
          · simp only [check_nat]; rfl
          · rfl
        all_goals rfl
      · rfl
  | frzS n e l => simp only [ghostK]; exact freeze1_bind _ _ _ _ _ _
  | frz n off e l =>
    simp only [ghostK]
    split
    · simp only [getO_bind, Option.bind_assoc]
      congr 1; funext o
      cases o <;> simp only
      case cells c vs =>
        split
        · simp only [Option.bind_assoc, asArr_nat, check_nat]; rfl
        · rfl
      all_goals rfl
    · rfl
end

/-- A way to compare answers: closed under constants and what goes on. -/
structure Logic (I : Type) where
  R : ∀ {A : Type}, (I → Option A) → Prop
  const : ∀ {A : Type} (a : Option A), R (fun _ => a)
  bind : ∀ {A B : Type} (a : I → Option A) (f : I → A → Option B), R a → (∀ x, R (fun i => f i x)) → R (fun i => (a i).bind (f i))

def stepOf (E : Env) (c : ACode) (sh : Shape) (outs : List (Exit' × Shape)) : (List PV → Option (Nat × List PV)) → List PV → Option (Nat × List PV) := loopStep (fun F S k => codeK E c F S k) sh outs
structure EnvRel {I : Type} (Λ : Logic I) (E : I → Env) : Prop where
  pc : ∀ f r, Λ.R (fun i => (E i).pc f r)
  ic : ∀ f r, Λ.R (fun i => (E i).ic f r)
  fix : ∀ c sh outs, (∀ X : I → List PV → Option (Nat × List PV), (∀ ps, Λ.R (fun i => X i ps)) → ∀ ps, Λ.R (fun i => stepOf (E i) c sh outs (X i) ps)) → ∀ ps, Λ.R (fun i => (E i).fix (stepOf (E i) c sh outs) ps)

section
variable {I : Type} {Λ : Logic I} {E : I → Env}

theorem opO_env {E E' : Env} {F : Fr} {S : St} (o : Obj) (op : AOp) (base : Nat) (h1 : ∀ f ps rs xs, op ≠ .call f ps rs xs) (h2 : ∀ t ps rs x xs, op ≠ .callv t ps rs x xs) : opO E F S o op base ret2 = opO E' F S o op base ret2 := by
  cases op <;> first
    | rfl
    | exact absurd rfl (h1 _ _ _ _)
    | exact absurd rfl (h2 _ _ _ _ _)

theorem opO_rel (hE : EnvRel Λ E) (F : Fr) (S : St) (o : Obj) (op : AOp) (base : Nat) : Λ.R (fun i => opO (E i) F S o op base ret2) := by
  by_cases h1 : ∃ f ps rs xs, op = .call f ps rs xs
  · obtain ⟨f, ps, rs, xs, rfl⟩ := h1
    have : (fun i => opO (E i) F S o (.call f ps rs xs) base ret2) = fun i => (rowsOf F S ps xs some).bind fun rows => ((E i).pc f rows).bind fun out => ret2 (resV rs out) none := by
      funext i; simp only [opO]; rw [rowsOf_bind]
    rw [this]
    exact Λ.bind _ _ (Λ.const _) fun rows => Λ.bind _ _ (hE.pc f rows) fun _ => Λ.const _
  · by_cases h2 : ∃ t ps rs x xs, op = .callv t ps rs x xs
    · obtain ⟨t, ps, rs, x, xs, rfl⟩ := h2
      simp only [opO]
      split
      · rename_i t' r e
        cases hb : Nat.beq t t' with
        | false => simp only [check]; exact Λ.const _
        | true =>
          simp only [check]
          have : (fun i => rowsOf F S ps xs fun rows => (callC (E i) (at_ r 0) rows).bind fun out => ret2 (resV rs out) none) = fun i => (rowsOf F S ps xs some).bind fun rows => (callC (E i) (at_ r 0) rows).bind fun out => ret2 (resV rs out) none := by
            funext i; rw [rowsOf_bind]
          rw [this]
          refine Λ.bind _ _ (Λ.const _) fun rows => Λ.bind _ _ ?_ fun _ => Λ.const _
          unfold callC
          split
          · exact hE.pc _ _
          · exact Λ.const _
      · exact Λ.const _
    · have : (fun i => opO (E i) F S o op base ret2) = fun _ => opO ⟨fun _ _ => none, fun _ _ => none, fun _ _ => none⟩ F S o op base ret2 := by
        funext i
        exact opO_env o op base (fun f ps rs xs e => h1 ⟨f, ps, rs, xs, e⟩) (fun t ps rs x xs e => h2 ⟨t, ps, rs, x, xs, e⟩)
      rw [this]; exact Λ.const _

theorem op1_rel (hE : EnvRel Λ E) (F : Fr) (S : St) (op : AOp) (base : Nat) : Λ.R (fun i => op1 (E i) F S op base) := by
  by_cases hc : ∃ i f en ex ids new x args, op = .icall i f en ex ids new x args
  · obtain ⟨j, f, en, ex, ids, new, x, args, rfl⟩ := hc
    simp only [op1, opK]
    have hcal : ∀ {A : Type} (k : I → List AV → Option A), (∀ vs, Λ.R (fun i => k i vs)) → Λ.R (fun i => calleeOf F f x args (k i)) := by
      intro A k hk
      unfold calleeOf
      cases x with
      | none => exact hk _
      | some y =>
        simp only
        split
        · rename_i f' caps e
          cases hb : Nat.beq f f' with
          | false => simp only [check]; exact Λ.const _
          | true => simp only [check]; exact hk _
        · exact Λ.const _
    refine hcal _ fun vs => ?_
    generalize (Shape.under ids.length en && Shape.under (ids ++ numsFrom (base + new) (ex.objs.length - ids.length)).length ex && freshAt S (numsFrom (base + new) (ex.objs.length - ids.length)) && nodupB (ids ++ numsFrom (base + new) (ex.objs.length - ids.length)) && Nat.ble ids.length ex.objs.length && kindB en.objs ex.objs) = b
    cases b with
    | false => simp only [check]; exact Λ.const _
    | true =>
      simp only [check]
      exact Λ.bind _ _ (Λ.const _) fun ps => Λ.bind _ _ (hE.ic j ps) fun ps' => Λ.const _
  · have h1 : ∀ i f en ex ids new x args, op ≠ .icall i f en ex ids new x args := fun i f en ex ids new x args e => hc ⟨i, f, en, ex, ids, new, x, args, e⟩
    have : (fun i => op1 (E i) F S op base) = fun i => match tgt F op base with
      | none => (opO (E i) F S .dead op base ret2).bind fun x => some (x.1, [], cidsO F op)
      | some id => (S[id]?).bind fun o => (opO (E i) F S o op base ret2).bind fun x => some (x.1, objUps id x.2, id :: cidsO F op) := by
      funext i
      unfold op1
      rw [opK_plain h1]
      cases tgt F op base with
      | none => simp only; rw [opO_nat]
      | some id =>
        simp only
        rw [getO_bind]
        congr 1; funext o
        rw [opO_nat]
    rw [this]
    cases tgt F op base with
    | none => exact Λ.bind _ _ (opO_rel hE _ _ _ _ _) fun _ => Λ.const _
    | some id => exact Λ.bind _ _ (Λ.const _) fun o => Λ.bind _ _ (opO_rel hE _ _ _ _ _) fun _ => Λ.const _

theorem opsK_rel {A : Type} (hE : EnvRel Λ E) (draw : Bool) (base : Nat) (k : I → Fr → St → Option A) (hk : ∀ F S, Λ.R (fun i => k i F S)) : ∀ (ops : List AOper) (seen : List Foot) (F : Fr) (S : St), Λ.R (fun i => opsK (E i) draw base ops seen F S (k i))
  | [], seen, F, S => hk F S
  | o :: rest, seen, F, S => by
    have skip : ∀ F : Fr, Λ.R (fun i => opsK (E i) draw base rest (match (generalizing := false) draw with | true => seen ++ [([], [])] | false => []) (F.put o.dst .und) S (k i)) := fun F => opsK_rel hE draw base k hk rest _ _ _
    have run : ∀ F : Fr, Λ.R (fun i => opK (E i) F S o.op base fun v us rd => check (!draw || orderOk (us.map (·.1), rd) o.bef seen 0) (opsK (E i) draw base rest (match (generalizing := false) draw with | true => seen ++ [(us.map (·.1), rd)] | false => []) (F.put o.dst v) (updAll us S) (k i))) := by
      intro F
      have : (fun i => opK (E i) F S o.op base fun v us rd => check (!draw || orderOk (us.map (·.1), rd) o.bef seen 0) (opsK (E i) draw base rest (match (generalizing := false) draw with | true => seen ++ [(us.map (·.1), rd)] | false => []) (F.put o.dst v) (updAll us S) (k i))) =
        fun i => (op1 (E i) F S o.op base).bind fun x => check (!draw || orderOk (x.2.1.map (·.1), x.2.2) o.bef seen 0) (opsK (E i) draw base rest (match (generalizing := false) draw with | true => seen ++ [(x.2.1.map (·.1), x.2.2)] | false => []) (F.put o.dst x.1) (updAll x.2.1 S) (k i)) := by
        funext i; rw [opK_nat]
      rw [this]
      refine Λ.bind _ _ (op1_rel hE _ _ _ _) fun x => ?_
      generalize (!draw || orderOk (x.2.1.map (·.1), x.2.2) o.bef seen 0) = b
      cases b with
      | false => simp only [check]; exact Λ.const _
      | true => simp only [check]; exact opsK_rel hE draw base k hk rest _ _ _
    simp only [opsK]
    split
    · exact run F
    · split
      · split
        · split
          · exact run _
          · exact skip _
        · split
          · exact skip _
          · exact run _
      · exact skip _
      · exact Λ.const _

theorem goOn_rel {A : Type} (k : I → Exit' → Fr → St → Option A) (hk : ∀ e F S, Λ.R (fun i => k i e F S)) : ∀ (outs : List (Exit' × Shape)) (i0 : Nat) (ps : List PV), Λ.R (fun i => goOn (k i) outs i0 ps)
  | [], _, _ => Λ.const _
  | [(e, sh)], _, ps => by simp only [goOn, unpack]; exact hk _ _ _
  | (e, sh) :: b :: r, 0, ps => by simp only [goOn, unpack]; exact hk _ _ _
  | (e, sh) :: b :: r, j + 1, ps => by simp only [goOn]; exact goOn_rel k hk (b :: r) j ps

theorem codeK_rel (hE : EnvRel Λ E) : ∀ (c : ACode) {A : Type} (F : Fr) (S : St) (k : I → Exit' → Fr → St → Option A), (∀ e F S, Λ.R (fun i => k i e F S)) → Λ.R (fun i => codeK (E i) c F S (k i)) := by
  intro c
  induction c with
  | skip => intro A F S k hk; exact hk _ _ _
  | ghost g c ih =>
    intro A F S k hk
    have : (fun i => codeK (E i) (.ghost g c) F S (k i)) = fun i => (ghostK g F S fun F S => some (F, S)).bind fun p => codeK (E i) c p.1 p.2 (k i) := by
      funext i; simp only [codeK]; rw [ghostK_bind]
    rw [this]
    exact Λ.bind _ _ (Λ.const _) fun p => ih _ _ _ hk
  | post g c ih =>
    intro A F S k hk
    simp only [codeK]
    refine ih F S _ fun e F S => ?_
    cases e with
    | normal =>
      have : (fun i => ghostK g F S (k i .normal)) = fun i => (ghostK g F S fun F S => some (F, S)).bind fun p => k i .normal p.1 p.2 := by
        funext i; rw [ghostK_bind]
      simp only [this]
      exact Λ.bind _ _ (Λ.const _) fun p => hk _ _ _
    | exit id => exact hk _ _ _
    | ret => exact hk _ _ _
  | region fz ops draw n =>
    intro A F S k hk
    have : (fun i => codeK (E i) (.region fz ops draw n) F S (k i)) = fun i => (freezeAll fz F S fun F S => some (F, S)).bind fun p => opsK (E i) draw p.2.length ops [] p.1 (p.2 ++ List.replicate n .fresh) (k i .normal) := by
      funext i; simp only [codeK]; rw [freezeAll_bind]
    rw [this]
    exact Λ.bind _ _ (Λ.const _) fun p => opsK_rel hE _ _ _ (fun F S => hk _ _ _) _ _ _ _
  | seq a b iha ihb =>
    intro A F S k hk
    simp only [codeK]
    refine iha F S _ fun e F S => ?_
    cases e with
    | normal => exact ihb F S k hk
    | exit id => exact hk _ _ _
    | ret => exact hk _ _ _
  | cond c a b iha ihb =>
    intro A F S k hk
    simp only [codeK]
    split
    · split
      · exact iha F S k hk
      · exact ihb F S k hk
    · exact Λ.const _
  | block id c ih =>
    intro A F S k hk
    simp only [codeK]
    refine ih F S _ fun e F S => ?_
    cases e with
    | normal => exact hk _ _ _
    | exit id' =>
      simp only
      split
      · exact hk _ _ _
      · exact hk _ _ _
    | ret => exact hk _ _ _
  | loop sh outs c ih =>
    intro A F S k hk
    simp only [codeK]
    split
    · rename_i ps hp
      refine Λ.bind _ _ (hE.fix c sh outs (fun X hX ps => ?_) ps) fun x => goOn_rel k hk outs _ _
      simp only [stepOf, loopStep, unpack]
      refine ih _ _ _ fun e F S => ?_
      cases e with
      | normal =>
        simp only
        split
        · exact hX _
        · exact Λ.const _
      | exit id => exact Λ.const _
      | ret => exact Λ.const _
    · exact Λ.const _
  | join outs c ih =>
    intro A F S k hk
    simp only [codeK]
    exact Λ.bind _ _ (ih F S _ fun e F S => Λ.const _) fun x => goOn_rel k hk outs _ _
  | exit id => intro A F S k hk; exact hk _ _ _
  | ret => intro A F S k hk; exact hk _ _ _
  | bad => intro A F S k hk; exact Λ.const _

theorem runP_rel (hE : EnvRel Λ E) (f : AFun) (rows : List Row) : Λ.R (fun i => runP (E i) f rows) := by
  unfold runP
  split
  · refine codeK_rel hE _ _ _ _ fun e F S => ?_
    cases e <;> exact Λ.const _
  · exact Λ.const _
theorem runI_rel (hE : EnvRel Λ E) (f : AImp) (ps : List PV) : Λ.R (fun i => runI (E i) f ps) := by
  unfold runI unpack
  refine codeK_rel hE _ _ _ _ fun e F S => ?_
  cases e <;> exact Λ.const _
end

/-! ### More fuel, the same answers -/
def OLe {A : Type} (a b : Option A) : Prop := ∀ x, a = some x → b = some x
def monoL : Logic Bool where
  R a := OLe (a false) (a true)
  const _ := fun _ h => h
  bind a f ha hf := fun y h => by
    obtain ⟨x, h1, h2⟩ := Option.bind_eq_some_iff.1 h
    exact Option.bind_eq_some_iff.2 ⟨x, ha x h1, hf x y h2⟩

theorem iterN_mono {step step' : (List PV → Option (Nat × List PV)) → List PV → Option (Nat × List PV)} (h : ∀ X X', (∀ ps, OLe (X ps) (X' ps)) → ∀ ps, OLe (step X ps) (step' X' ps)) : ∀ (n m : Nat), n ≤ m → ∀ ps, OLe (iterN step n ps) (iterN step' m ps)
  | 0, _, _, _ => fun _ h => by simp [iterN] at h
  | n + 1, 0, hnm, _ => by omega
  | n + 1, m + 1, hnm, ps => h _ _ (iterN_mono h n m (by omega)) ps

theorem step_mono (E : Env) (c : ACode) (sh : Shape) (outs : List (Exit' × Shape)) (X X' : List PV → Option (Nat × List PV)) (hX : ∀ ps, OLe (X ps) (X' ps)) (ps : List PV) : OLe (stepOf E c sh outs X ps) (stepOf E c sh outs X' ps) := by
  have hR : EnvRel monoL (fun _ : Bool => E) := ⟨fun f r => monoL.const _, fun f r => monoL.const _, fun c sh outs h ps => monoL.const _⟩
  simp only [stepOf, loopStep, unpack]
  refine codeK_rel hR c _ _ (fun b e F S => match e with
    | .normal => (match pack sh F S with | some ps' => (match b with | false => X ps' | true => X' ps') | none => none)
    | e => packOut e F S outs 0) fun e F S => ?_
  cases e with
  | normal =>
    simp only [monoL]
    split
    · exact hX _
    · exact fun _ h => h
  | exit id => exact fun _ h => h
  | ret => exact fun _ h => h

section
variable (T : Nat → AFn)
theorem env_mono : ∀ n, EnvRel monoL (fun b : Bool => match b with | false => envOf T n | true => envOf T (n + 1))
  | 0 => ⟨fun f r => fun x h => by simp [envOf] at h, fun f r => fun x h => by simp [envOf] at h, fun c sh outs h ps => fun x hx => by simp [envOf] at hx⟩
  | n + 1 => by
    have ih := env_mono n
    refine ⟨fun f r => ?_, fun f r => ?_, fun c sh outs h ps => ?_⟩
    · show OLe ((envOf T (n + 1)).pc f r) ((envOf T (n + 1 + 1)).pc f r)
      simp only [envOf]
      cases T f with
      | code af => exact runP_rel ih af r
      | given ps rs g => exact fun _ h => h
      | _ => exact fun _ h => h
    · show OLe ((envOf T (n + 1)).ic f r) ((envOf T (n + 1 + 1)).ic f r)
      simp only [envOf]
      cases T f with
      | imp af => exact runI_rel ih af r
      | _ => exact fun _ h => h
    · show OLe ((envOf T (n + 1)).fix (stepOf (envOf T (n + 1)) c sh outs) ps) ((envOf T (n + 1 + 1)).fix (stepOf (envOf T (n + 1 + 1)) c sh outs) ps)
      exact iterN_mono (fun X X' hX ps => h (fun b => match b with | false => X | true => X') hX ps) (n + 1) (n + 2) (by omega) ps

theorem pc_mono {n m : Nat} (h : n ≤ m) (f : Nat) (r : List Row) : OLe ((envOf T n).pc f r) ((envOf T m).pc f r) := by
  induction h with
  | refl => exact fun _ h => h
  | step _ ih => exact fun x hx => (env_mono T _).pc f r x (ih x hx)
theorem ic_mono {n m : Nat} (h : n ≤ m) (f : Nat) (r : List PV) : OLe ((envOf T n).ic f r) ((envOf T m).ic f r) := by
  induction h with
  | refl => exact fun _ h => h
  | step _ ih => exact fun x hx => (env_mono T _).ic f r x (ih x hx)
end

/-! ### The limit -/
/-- Answers of more and more fuel (some n), and the limit (none). -/
def limL : Logic (Option Nat) where
  R a := (∀ x, a none = some x → ∃ n0, ∀ n, n0 ≤ n → a (some n) = some x) ∧ ∀ n x, a (some n) = some x → a none = some x
  const a := ⟨fun x h => ⟨0, fun _ _ => h⟩, fun _ _ h => h⟩
  bind a f ha hf := by
    refine ⟨fun y h => ?_, fun n y h => ?_⟩
    · obtain ⟨x, h1, h2⟩ := Option.bind_eq_some_iff.1 h
      obtain ⟨n1, g1⟩ := ha.1 x h1
      obtain ⟨n2, g2⟩ := (hf x).1 y h2
      exact ⟨n1 + n2, fun n hn => Option.bind_eq_some_iff.2 ⟨x, g1 n (by omega), g2 n (by omega)⟩⟩
    · obtain ⟨x, h1, h2⟩ := Option.bind_eq_some_iff.1 h
      exact Option.bind_eq_some_iff.2 ⟨x, ha.2 n x h1, (hf x).2 n y h2⟩

open Classical in
noncomputable def limO {A : Type} (a : Nat → Option A) : Option A := if h : ∃ n x, a n = some x then a (Classical.choose h) else none
theorem limO_some {A : Type} {a : Nat → Option A} (hm : ∀ n m, n ≤ m → OLe (a n) (a m)) {x : A} : limO a = some x ↔ ∃ n, a n = some x := by
  unfold limO
  constructor
  · intro h
    split at h
    · exact ⟨_, h⟩
    · cases h
  · rintro ⟨n, hn⟩
    have hex : ∃ n x, a n = some x := ⟨n, x, hn⟩
    rw [dif_pos hex]
    obtain ⟨y, hy⟩ := Classical.choose_spec hex
    have h1 := hm _ (Classical.choose hex + n) (Nat.le_add_right _ _) y hy
    have h2 := hm n (Classical.choose hex + n) (Nat.le_add_left _ _) x hn
    rw [h1] at h2
    rw [hy, h2]

noncomputable def lim (T : Nat → AFn) : Env := ⟨fun f r => limO fun n => (envOf T n).pc f r, fun f r => limO fun n => (envOf T n).ic f r, fun step ps => limO fun n => iterN step n ps⟩

section
variable (T : Nat → AFn)
theorem lim_pc {f : Nat} {r out : List Row} : (lim T).pc f r = some out ↔ ∃ n, (envOf T n).pc f r = some out := limO_some (fun n m h => pc_mono T h f r)
theorem lim_ic {f : Nat} {r out : List PV} : (lim T).ic f r = some out ↔ ∃ n, (envOf T n).ic f r = some out := limO_some (fun n m h => ic_mono T h f r)

theorem env_fix (n : Nat) (step : (List PV → Option (Nat × List PV)) → List PV → Option (Nat × List PV)) (ps : List PV) : (envOf T n).fix step ps = iterN step n ps := by cases n <;> rfl

theorem lim_rel : EnvRel limL (fun o : Option Nat => match o with | some n => envOf T n | none => lim T) := by
  refine ⟨fun f r => ⟨fun x h => ?_, fun n x h => (lim_pc T).2 ⟨n, h⟩⟩, fun f r => ⟨fun x h => ?_, fun n x h => (lim_ic T).2 ⟨n, h⟩⟩, fun c sh outs h ps => ?_⟩
  · obtain ⟨n, hn⟩ := (lim_pc T).1 h
    exact ⟨n, fun m hm => pc_mono T hm f r x hn⟩
  · obtain ⟨n, hn⟩ := (lim_ic T).1 h
    exact ⟨n, fun m hm => ic_mono T hm f r x hn⟩
  · have hj : ∀ j ps, limL.R (fun i => iterN (stepOf (match i with | some n => envOf T n | none => lim T) c sh outs) j ps) := by
      intro j
      induction j with
      | zero => exact fun ps => limL.const none
      | succ j ih => exact fun ps => h (fun i => iterN (stepOf (match i with | some n => envOf T n | none => lim T) c sh outs) j) ih ps
    refine ⟨fun x hx => ?_, fun n x hx => ?_⟩
    · have hx : limO (fun n => iterN (stepOf (lim T) c sh outs) n ps) = some x := hx
      obtain ⟨j, hx⟩ := (limO_some (fun n m h => iterN_mono (step_mono (lim T) c sh outs) n m h ps)).1 hx
      obtain ⟨n0, h0⟩ := (hj j ps).1 x hx
      refine ⟨n0 + j, fun n hn => ?_⟩
      show (envOf T n).fix (stepOf (envOf T n) c sh outs) ps = some x
      rw [env_fix]
      exact iterN_mono (step_mono _ c sh outs) j n (by omega) ps x (h0 n (by omega))
    · have hx : (envOf T n).fix (stepOf (envOf T n) c sh outs) ps = some x := hx
      rw [env_fix] at hx
      have := (hj n ps).2 n x hx
      exact (limO_some (fun n m h => iterN_mono (step_mono (lim T) c sh outs) n m h ps)).2 ⟨n, this⟩

theorem opt_ext {A : Type} {a b : Option A} (h : ∀ x, a = some x ↔ b = some x) : a = b := by
  cases a with
  | none => cases b with
    | none => rfl
    | some y => exact ((h y).2 rfl)
  | some x => exact ((h x).1 rfl).symm

/-- A call's answer is that of the function's code. -/
theorem lim_code {f : Nat} {af : AFun} (hf : T f = .code af) (r : List Row) : (lim T).pc f r = runP (lim T) af r := by
  have hR := runP_rel (lim_rel T) af r
  refine opt_ext fun x => ⟨fun h => ?_, fun h => ?_⟩
  · obtain ⟨n, hn⟩ := (lim_pc T).1 h
    cases n with
    | zero => simp [envOf] at hn
    | succ n =>
      simp only [envOf, hf] at hn
      exact hR.2 n x hn
  · obtain ⟨n0, h0⟩ := hR.1 x h
    refine (lim_pc T).2 ⟨n0 + 1, ?_⟩
    simp only [envOf, hf]
    exact h0 n0 (Nat.le_refl _)
theorem lim_imp {f : Nat} {af : AImp} (hf : T f = .imp af) (r : List PV) : (lim T).ic f r = runI (lim T) af r := by
  have hR := runI_rel (lim_rel T) af r
  refine opt_ext fun x => ⟨fun h => ?_, fun h => ?_⟩
  · obtain ⟨n, hn⟩ := (lim_ic T).1 h
    cases n with
    | zero => simp [envOf] at hn
    | succ n =>
      simp only [envOf, hf] at hn
      exact hR.2 n x hn
  · obtain ⟨n0, h0⟩ := hR.1 x h
    refine (lim_ic T).2 ⟨n0 + 1, ?_⟩
    simp only [envOf, hf]
    exact h0 n0 (Nat.le_refl _)
theorem lim_given {f : Nat} {ps rs : List L} {g : List Row → Option (List Row)} (hf : T f = .given ps rs g) (r : List Row) : (lim T).pc f r = g r := by
  refine opt_ext fun x => ⟨fun h => ?_, fun h => ?_⟩
  · obtain ⟨n, hn⟩ := (lim_pc T).1 h
    cases n with
    | zero => simp [envOf] at hn
    | succ n => simpa only [envOf, hf] using hn
  · exact (lim_pc T).2 ⟨1, by simpa only [envOf, hf] using h⟩
/-- A loop is one round, and the loop again. -/
theorem lim_loop (c : ACode) (sh : Shape) (outs : List (Exit' × Shape)) (ps : List PV) :
    (lim T).fix (stepOf (lim T) c sh outs) ps = stepOf (lim T) c sh outs ((lim T).fix (stepOf (lim T) c sh outs)) ps := by
  have hm := fun ps n m h => iterN_mono (step_mono (lim T) c sh outs) n m h ps
  refine opt_ext fun x => ⟨fun h => ?_, fun h => ?_⟩
  · obtain ⟨n, hn⟩ := (limO_some (hm ps)).1 h
    cases n with
    | zero => simp [iterN] at hn
    | succ n => exact step_mono (lim T) c sh outs _ _ (fun ps y hy => (limO_some (hm ps)).2 ⟨n, hy⟩) ps x hn
  · -- the round asks finitely many times: a chain of loops with more and more rounds
    have hR : EnvRel limL (fun _ : Option Nat => lim T) := ⟨fun f r => limL.const _, fun f r => limL.const _, fun c sh outs h ps => limL.const _⟩
    have hX : ∀ ps, limL.R (fun i : Option Nat => match i with | some n => iterN (stepOf (lim T) c sh outs) n ps | none => (lim T).fix (stepOf (lim T) c sh outs) ps) := by
      intro ps
      refine ⟨fun x hx => ?_, fun n x hx => (limO_some (hm ps)).2 ⟨n, hx⟩⟩
      obtain ⟨n, hn⟩ := (limO_some (hm ps)).1 hx
      exact ⟨n, fun m hmn => hm ps n m hmn x hn⟩
    have key : limL.R (fun i : Option Nat => stepOf (lim T) c sh outs (fun ps => match i with | some n => iterN (stepOf (lim T) c sh outs) n ps | none => (lim T).fix (stepOf (lim T) c sh outs) ps) ps) := by
      simp only [stepOf, loopStep, unpack]
      refine codeK_rel hR c _ _ (fun i e F S => match e with
        | .normal => (match pack sh F S with | some ps' => (match i with | some n => iterN (stepOf (lim T) c sh outs) n ps' | none => (lim T).fix (stepOf (lim T) c sh outs) ps') | none => none)
        | e => packOut e F S outs 0) fun e F S => ?_
      cases e with
      | normal =>
        simp only
        split
        · exact hX _
        · exact limL.const _
      | exit id => exact limL.const _
      | ret => exact limL.const _
    obtain ⟨n0, h0⟩ := key.1 x h
    exact (limO_some (hm ps)).2 ⟨n0 + 1, h0 n0 (Nat.le_refl _)⟩
end
end Go.Ev
