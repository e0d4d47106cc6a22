/-
  The abstract code does what the model's code does.
-/
import Derived.Test.YtnlaheegimhdpaaDoorEvV
set_option linter.all false
namespace Go.Ev
variable {E : Env} {P : Program} {T : Nat → AFn} {S S' : Stab} {pl pl' : Pl} {St St' : Ev.St} {F F' : Fr} {a : Act} {w w' : World}
variable {Γ : Ctx} {n : Nat}

def toExit : Exit' → Exit | .normal => .normal | .exit id => .exit id | .ret => .ret

def shOk (m : Nat) (sh : Shape) : Bool := Nat.ble m sh.m
def outsOk (m : Nat) : List (Exit' × Shape) → Bool
  | [] => true
  | (_, sh) :: r => shOk m sh && outsOk m r

def okCode (P : Program) (T : Nat → AFn) (n m : Nat) : ACode → Code → Bool
  | .join outs ac, c => outsOk m outs && okCode P T n m ac c
  | .ghost g ac, c => ghostB P g && okCode P T n m ac c
  | .post g ac, c => ghostB P g && okCode P T n m ac c
  | .bad, _ => true
  | .skip, .skip => true
  | .skip, .label _ => true
  | .region fz aos adraw _, .region _ ops draw => okRegion P T n ops draw fz aos adraw
  | .seq a b, .seq x y => okCode P T n m a x && okCode P T n m b y
  | .cond ac a b, .cond c x y => opdOk P T c ac && okCode P T n m a x && okCode P T n m b y
  | .block id a, .block id' x => Nat.beq id id' && okCode P T n m a x
  | .loop sh outs a, .loop x => shOk m sh && outsOk m outs && okCode P T n m a x
  | .exit id, .exit id' => Nat.beq id id'
  | .ret, .ret => true
  | _, _ => false

theorem Exit'.beq_eq {a b : Exit'} (h : Exit'.beq a b = true) : a = b := by
  cases a <;> cases b <;> simp [Exit'.beq] at h <;> first | rfl | (subst h; rfl)

theorem wp_loop_nat {c : Code} {Q : Exit → Act → World → Prop} (G : Nat → Act → World → Prop) {m : Nat} {a : Act} {w : World} (h₀ : G m a w)
    (round : ∀ m a w, G m a w → c.wp P (Exit.then (fun a' w' => ∃ m', m' < m ∧ G m' a' w') Q) a w) : (Code.loop c).wp P Q a w := by
  intro b k cs
  have key : ∀ m a w, G m a w →
      ∃ e a' w', Q e a' w' ∧ Arrives P (lone (b.at a (.code c :: .inLoop c :: k)) cs w) b k cs e a' w' := by
    intro m
    induction m using Nat.strongRecOn with
    | _ m ih =>
      intro a w hI
      obtain ⟨e, a₁, w₁, hq, harr⟩ := round m a w hI b (.inLoop c :: k) cs
      cases e with
      | normal =>
        obtain ⟨m', hlt, hI₁⟩ := hq
        obtain ⟨e₂, a₂, w₂, hq₂, harr₂⟩ := ih m' hlt a₁ w₁ hI₁
        exact ⟨e₂, a₂, w₂, hq₂, .of_steps (Steps.trans harr (.one step_inLoop)) harr₂⟩
      | exit id => exact ⟨_, a₁, w₁, hq, .pass (x := .inLoop c) rfl (fun _ _ => .inl (by simp)) harr⟩
      | goto l => exact ⟨_, a₁, w₁, hq, .pass (x := .inLoop c) rfl (fun _ _ => .inl (by simp)) harr⟩
      | ret => exact ⟨_, a₁, w₁, hq, .pass (x := .inLoop c) rfl (fun _ _ => .inl (by simp)) harr⟩
      | panic ch => exact ⟨_, a₁, w₁, hq, .pass (x := .inLoop c) rfl (fun _ _ => .inl (by simp)) harr⟩
      | outgrown => exact ⟨_, a₁, w₁, hq, .pass (x := .inLoop c) rfl (fun _ _ => .inl (by simp)) harr⟩
  obtain ⟨e, a', w', hq, harr⟩ := key m a w h₀
  exact ⟨e, a', w', hq, .of_steps (.one step_loop) harr⟩

/-- A way out. -/
theorem out_sound {A : Type} {K : Exit' → Fr → Ev.St → Option A} {res : A} {e : Exit'} (hI : Inv P T Γ S pl St F a w) : ∀ (outs : List (Exit' × Shape)) (i0 i : Nat) (ps : List PV), outsOk Γ.m outs = true → packOut e F St outs i0 = some (i, ps) →
    ∃ j, i = i0 + j ∧ (goOn K outs j ps = some res → ∃ F' St' pl', Inv P T Γ S pl' St' F' a w ∧ K e F' St' = some res)
  | [], _, _, _, _, h => by simp [packOut] at h
  | (e', sh) :: r, i0, i, ps, hok, h => by
    simp only [outsOk, Bool.and_eq_true] at hok
    simp only [packOut] at h
    split at h
    · rename_i hb
      obtain rfl := Exit'.beq_eq hb
      split at h
      · rename_i ps' hp
        simp only [Option.some.injEq, Prod.mk.injEq] at h
        obtain ⟨rfl, rfl⟩ := h
        obtain ⟨F', St', pl', hu, hI'⟩ := pack_sound (by simpa [shOk] using hok.1) hI hp
        refine ⟨0, rfl, fun hg => ⟨F', St', pl', hI', ?_⟩⟩
        rw [← hu (K e)]
        cases r with
        | nil => exact hg
        | cons x xs => exact hg
      · simp at h
    · obtain ⟨j, rfl, hj⟩ := out_sound hI r (i0 + 1) i ps hok.2 h
      refine ⟨j + 1, by omega, fun hg => hj ?_⟩
      cases r with
      | nil => simp [packOut] at h
      | cons x xs => exact hg

/-- A loop's answer comes of finitely many rounds. -/
def FixOk (fix : ((List PV → Option (Nat × List PV)) → List PV → Option (Nat × List PV)) → List PV → Option (Nat × List PV)) : Prop := ∀ step ps x, fix step ps = some x → ∃ n, iterN step n ps = some x
theorem code_sound (hm : P.follows .mixedOrders = true) (hpc : EnvOk P T E) (hfix : FixOk E.fix) : ∀ (ac : ACode) (c : Code), okCode P T Γ.n Γ.m ac c = true → ∀ {A : Type} {F : Fr} {St : Ev.St} {S : Stab} {pl : Pl} {a : Act} {w : World} {K : Exit' → Fr → Ev.St → Option A} {res : A} {Q : Exit → Act → World → Prop},
    Inv P T Γ S pl St F a w → codeK E ac F St K = some res → (∀ e F St S pl a w, Inv P T Γ S pl St F a w → K e F St = some res → Q (toExit e) a w) → c.wp P Q a w := by
  intro ac
  induction ac with
  | skip =>
    intro c hok A F St S pl a w K res Q hI h hQ
    cases c with
    | skip => exact wp_skip (hQ .normal _ _ _ _ _ _ hI h)
    | label l => exact wp_label (hQ .normal _ _ _ _ _ _ hI h)
    | _ => simp [okCode] at hok
  | region fz aos adraw m =>
    intro c hok A F St S pl a w K res Q hI h hQ
    cases c with
    | region id ops draw => exact region_sound hm hpc hok hI h (fun F St S pl a w hI h => hQ .normal _ _ _ _ _ _ hI h)
    | _ => simp [okCode] at hok
  | seq x y ihx ihy =>
    intro c hok A F St S pl a w K res Q hI h hQ
    cases c with
    | seq cx cy =>
      simp only [okCode, Bool.and_eq_true] at hok
      refine wp_seq (ihx cx hok.1 hI h (fun e F St S pl a w hI h => ?_))
      cases e with
      | normal => exact ihy cy hok.2 hI h hQ
      | exit id => exact hQ (.exit id) _ _ _ _ _ _ hI h
      | ret => exact hQ .ret _ _ _ _ _ _ hI h
    | _ => simp [okCode] at hok
  | cond oc x y ihx ihy =>
    intro c hok A F St S pl a w K res Q hI h hQ
    cases c with
    | cond cc cx cy =>
      simp only [okCode, Bool.and_eq_true] at hok
      have hv := opd_sound hI.sim hok.1.1 hI.frame
      simp only [codeK] at h
      split at h
      · rename_i r e
        rw [e] at hv
        refine wp_cond hv.of_bool ?_
        split at h
        · rename_i hb; rw [if_pos hb]; exact ihx cx hok.1.2 hI h hQ
        · rename_i hb; rw [if_neg hb]; exact ihy cy hok.2 hI h hQ
      · simp at h
    | _ => simp [okCode] at hok
  | block id x ih =>
    intro c hok A F St S pl a w K res Q hI h hQ
    cases c with
    | block id' cx =>
      simp only [okCode, Bool.and_eq_true] at hok
      obtain rfl := Nat.eq_of_beq_eq_true hok.1
      refine wp_block (ih cx hok.2 hI h (fun e F St S pl a w hI h => ?_))
      cases e with
      | normal => exact hQ .normal _ _ _ _ _ _ hI h
      | exit i =>
        simp only at h
        show (if i = id then Q .normal a w else Q (.exit i) a w)
        split at h
        · rename_i hb; rw [if_pos (Nat.eq_of_beq_eq_true hb)]; exact hQ .normal _ _ _ _ _ _ hI h
        · rename_i hb
          rw [if_neg (fun e => by subst e; simp at hb)]; exact hQ (.exit i) _ _ _ _ _ _ hI h
      | ret => exact hQ .ret _ _ _ _ _ _ hI h
    | _ => simp [okCode] at hok
  | loop sh outs x ih =>
    intro c hok A F St S pl a w K res Q hI h hQ
    cases c with
    | loop cx =>
      simp only [okCode, Bool.and_eq_true] at hok
      obtain ⟨⟨hsh, houts⟩, hok⟩ := hok
      have hsh : Γ.m ≤ sh.m := by simpa [shOk] using hsh
      simp only [codeK] at h
      split at h
      · rename_i ps hp
        obtain ⟨⟨i, qs⟩, h1, h2⟩ := Option.bind_eq_some_iff.1 h
        obtain ⟨F1, St1, pl1, hu, hI1⟩ := pack_sound hsh hI hp
        obtain ⟨m0, h1⟩ := hfix _ _ _ h1
        let G : Nat → Act → World → Prop := fun m a w => ∃ ps F St S pl, Inv P T Γ S pl St F a w ∧ (∀ {B : Type} (k : Fr → Ev.St → Option B), unpack sh ps k = k F St) ∧ iterN (loopStep (fun F S k => codeK E x F S k) sh outs) m ps = some (i, qs)
        refine wp_loop_nat G (m := m0) ⟨ps, F1, St1, S, pl1, hI1, hu, h1⟩ (fun m a w hG => ?_)
        obtain ⟨ps, F, St, S, pl, hI, hu, hit⟩ := hG
        cases m with
        | zero => simp [iterN] at hit
        | succ m =>
          simp only [iterN, loopStep] at hit
          rw [hu] at hit
          refine ih cx hok hI hit (fun e F St S pl a w hI h => ?_)
          have out : packOut e F St outs 0 = some (i, qs) → Q (toExit e) a w := by
            intro ho
            obtain ⟨j, hj, hg⟩ := out_sound (K := K) (res := res) hI outs 0 i qs houts ho
            rw [Nat.zero_add] at hj; subst hj
            obtain ⟨F', St', pl', hI', h'⟩ := hg h2
            exact hQ e _ _ _ _ _ _ hI' h'
          cases e with
          | normal =>
            simp only at h
            split at h
            · rename_i ps' hp'
              obtain ⟨F', St', pl', hu', hI'⟩ := pack_sound hsh hI hp'
              exact ⟨m, Nat.lt_succ_self m, ps', F', St', S, pl', hI', hu', h⟩
            · simp at h
          | exit id => exact out h
          | ret => exact out h
      · simp at h
    | _ => simp [okCode] at hok
  | ghost g x ih =>
    intro c hok A F St S pl a w K res Q hI h hQ
    have hok : ghostB P g = true ∧ okCode P T Γ.n Γ.m x c = true := by
      have : (ghostB P g && okCode P T Γ.n Γ.m x c) = true := by cases c <;> exact hok
      simpa using this
    simp only [codeK] at h
    obtain ⟨F', St', S', hI', h'⟩ := ghost_sound hok.1 hI h
    exact ih c hok.2 hI' h' hQ
  | post g x ih =>
    intro c hok A F St S pl a w K res Q hI h hQ
    have hok : ghostB P g = true ∧ okCode P T Γ.n Γ.m x c = true := by
      have : (ghostB P g && okCode P T Γ.n Γ.m x c) = true := by cases c <;> exact hok
      simpa using this
    simp only [codeK] at h
    refine ih c hok.2 hI h (fun e F St S pl a w hI h => ?_)
    cases e with
    | normal =>
      obtain ⟨F', St', S', hI', h'⟩ := ghost_sound hok.1 hI h
      exact hQ .normal _ _ _ _ _ _ hI' h'
    | exit id => exact hQ (.exit id) _ _ _ _ _ _ hI h
    | ret => exact hQ .ret _ _ _ _ _ _ hI h
  | join outs x ih =>
    intro c hok A F St S pl a w K res Q hI h hQ
    have hok : outsOk Γ.m outs = true ∧ okCode P T Γ.n Γ.m x c = true := by
      have : (outsOk Γ.m outs && okCode P T Γ.n Γ.m x c) = true := by cases c <;> exact hok
      simpa using this
    simp only [codeK] at h
    obtain ⟨⟨i, qs⟩, h1, h2⟩ := Option.bind_eq_some_iff.1 h
    refine ih c hok.2 hI h1 (fun e F St S pl a w hI h => ?_)
    obtain ⟨j, hj, hg⟩ := out_sound (K := K) (res := res) hI outs 0 i qs hok.1 h
    rw [Nat.zero_add] at hj; subst hj
    obtain ⟨F', St', pl', hI', h'⟩ := hg h2
    exact hQ e _ _ _ _ _ _ hI' h'
  | exit id =>
    intro c hok A F St S pl a w K res Q hI h hQ
    cases c with
    | exit id' =>
      simp only [okCode] at hok
      obtain rfl := Nat.eq_of_beq_eq_true hok
      exact wp_exit (hQ (.exit id) _ _ _ _ _ _ hI h)
    | _ => simp [okCode] at hok
  | bad =>
    intro c hok A F St S pl a w K res Q hI h hQ
    simp [codeK] at h
  | ret =>
    intro c hok A F St S pl a w K res Q hI h hQ
    cases c with
    | ret => exact wp_ret (hQ .ret _ _ _ _ _ _ hI h)
    | _ => simp [okCode] at hok
end Go.Ev
