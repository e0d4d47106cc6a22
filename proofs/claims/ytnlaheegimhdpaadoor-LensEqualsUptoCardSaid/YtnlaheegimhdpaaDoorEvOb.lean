/-
  Calls to which objects are handed: what comes in, renumbered.
-/
import Derived.Test.YtnlaheegimhdpaaDoorEvP
set_option linter.all false
namespace Go.Ev
variable {E : Env} {P : Program} {T : Nat → AFn} {S S' : Stab} {pl pl' : Pl} {St St' : Ev.St} {F F' : Fr} {a : Act} {w w' w0 : World}

/-- An object behind a place where ways meet, or in a callee's hands. -/
def DownR (o o' : Obj) : Prop :=
  o' ≠ .fresh ∧ (∀ l row, o' = .var l row → ∃ l0 row0, o = .var l0 row0) ∧ (∀ c vs, o' = .cells c vs → ∃ c0 vs0, o = .cells c0 vs0) ∧
  (∀ v l c, o' = .arr v l c → v = 0 ∧ ∃ v0, o = .arr v0 l c) ∧ (∀ kl vl es, o' = .map kl vl es → ∃ kl0 vl0 es0, o = .map kl0 vl0 es0) ∧
  (∀ v e l c, o' = .sarr v e l c → v = 0 ∧ ∃ v0, o = .sarr v0 e l c)
theorem DownR.sn {o o' : Obj} (h : DownR o o') (hh : o'.has = true) : o.sn = o'.sn := by
  obtain ⟨h0, h1, h2, h3, h4, h5⟩ := h
  cases o' with
  | fresh => simp [Obj.has] at hh
  | dead => simp [Obj.has] at hh
  | var l row => obtain ⟨_, _, rfl⟩ := h1 _ _ rfl; rfl
  | cells c vs => obtain ⟨_, _, rfl⟩ := h2 _ _ rfl; rfl
  | arr v l c => obtain ⟨_, _, rfl⟩ := h3 _ _ _ rfl; rfl
  | map a b c => obtain ⟨_, _, _, rfl⟩ := h4 _ _ _ rfl; rfl
  | sarr v e l c => obtain ⟨_, _, rfl⟩ := h5 _ _ _ _ rfl; rfl
/-- The callee's objects St' are the caller's objects St at the places ids. -/
def Ren (ids : List Nat) (pl : Pl) (St : Ev.St) (pl' : Pl) (St' : Ev.St) : Prop :=
  (∀ j : Nat, j < ids.length → ∃ o' : Obj, St'[j]? = some o') ∧
  (∀ (j : Nat) (o' : Obj), St'[j]? = some o' → ∃ o : Obj, St[ids.getD j 0]? = some o ∧ DownR o o' ∧ pl'.blk j = pl.blk (ids.getD j 0) ∧ pl'.cap j = pl.cap (ids.getD j 0))
theorem Ren.get {ids : List Nat} {j : Nat} {o : Obj} (hd : Ren ids pl St pl' St') (hlt : j < ids.length) (ho : St[ids.getD j 0]? = some o) : ∃ o', St'[j]? = some o' ∧ DownR o o' ∧ pl'.blk j = pl.blk (ids.getD j 0) ∧ pl'.cap j = pl.cap (ids.getD j 0) := by
  obtain ⟨o', h⟩ := hd.1 j hlt
  obtain ⟨o2, h2, h3⟩ := hd.2 j o' h
  rw [ho] at h2; obtain rfl := Option.some.inj h2
  exact ⟨o', h, h3⟩

def InV (P : Program) (T : Nat → AFn) (S : Stab) (ids : List Nat) (pl : Pl) (St : Ev.St) (s : Sh) (v : AV) (ps : List PV) : Prop :=
  ∃ v', (∀ rest, unV s (ps ++ rest) = (v', rest)) ∧ ∀ pl' St' val, Ren ids pl St pl' St' → RelV P T S pl St v val → RelV P T S pl' St' v' val
def InVs (P : Program) (T : Nat → AFn) (S : Stab) (ids : List Nat) (pl : Pl) (St : Ev.St) (ss : List Sh) (vs : List AV) (ps : List PV) : Prop :=
  ∃ vs', vs'.length = vs.length ∧ (∀ rest, unVs ss (ps ++ rest) = (vs', rest)) ∧ ∀ pl' St' (vals : Nat → Value), Ren ids pl St pl' St' → (∀ i av, vs[i]? = some av → RelV P T S pl St av (vals i)) → ∀ i av, vs'[i]? = some av → RelV P T S pl' St' av (vals i)

mutual
theorem packV_in (hs : Sim P T S pl St w) {ids : List Nat} {m : Nat} {co : Bool} : ∀ (s : Sh) (v : AV) (ps : List PV), Sh.under ids.length s = true → packV St m co (Sh.ren ids s) v = some ps → InV P T S ids pl St s v ps
  | .d l, v, ps, hu, h => by
    have key : ∀ row, (∀ val, RelV P T S pl St v val → RelV P T S pl St (.d l row) val) → InV P T S ids pl St (.d l) v [.r (nrm l row)] := by
      intro row hr
      refine ⟨.d l (nrm l (nrm l row)), fun rest => rfl, fun pl' St' val _ hv => ?_⟩
      have := (hr val hv).of_d
      rw [this.nrm, this.nrm]; exact .d this
    cases v with
    | d l' row =>
      simp only [Sh.ren, packV] at h
      split at h
      · rename_i hb
        obtain rfl := L.beq_eq hb
        simp only [Option.some.injEq] at h
        subst h
        exact key row fun val hv => hv
      · simp at h
    | sw i' u =>
      simp only [Sh.ren, packV] at h
      split at h
      · rename_i l' row e
        split at h
        · rename_i hb
          obtain rfl := L.beq_eq hb
          simp only [Option.some.injEq] at h
          subst h
          exact key row fun val hv => by rw [← e]; exact dat_sound hs _ _ hv
        · simp at h
      · simp at h
    | agg vs =>
      simp only [Sh.ren, packV] at h
      split at h
      · rename_i l' row e
        split at h
        · rename_i hb
          obtain rfl := L.beq_eq hb
          simp only [Option.some.injEq] at h
          subst h
          exact key row fun val hv => by rw [← e]; exact dat_sound hs _ _ hv
        · simp at h
      · simp at h
    | _ => simp [Sh.ren, packV] at h
  | .sw i, v, ps, hu, h => by
    have hlt : i < ids.length := by simpa [Sh.under] using hu
    cases v with
    | sw i' v =>
      simp only [Sh.ren, packV] at h
      split at h
      · rename_i v' e0 l0 c0 hob
        split at h
        · rename_i hb
          simp only [Bool.and_eq_true] at hb
          obtain rfl := Nat.eq_of_beq_eq_true hb.1.1
          obtain rfl := Nat.eq_of_beq_eq_true hb.1.2
          simp only [Option.some.injEq] at h
          subst h
          refine ⟨.sw i 0, fun rest => rfl, fun pl' St' val hd hv => ?_⟩
          cases hv with
          | sw h0 h1 h2 hver h3 h4 =>
            rw [hob] at h1; obtain rfl := Option.some.inj h1
            obtain ⟨o', g1, ⟨g2, g3, g4, g5, g6, g7⟩, b1, b2⟩ := hd.get hlt hob
            refine .sw h0 g1 g2 (fun v1 e l c q => Nat.zero_le _) (fun e l q => ?_) (fun e l rows q => ?_)
            · obtain ⟨_, v1, q⟩ := g7 _ _ _ _ q; cases q; exact h3 _ _ rfl
            · obtain ⟨_, v1, q⟩ := g7 _ _ _ _ q; cases q; rw [b1, b2]; exact h4 _ _ _ rfl
        · simp at h
      · simp at h
    | _ => simp [Sh.ren, packV] at h
  | .agg ss, v, ps, hu, h => by
    cases v with
    | agg vs =>
      simp only [Sh.ren, packV] at h
      obtain ⟨vs', h1, h2, h3⟩ := packVs_in hs ss vs ps (by simpa [Sh.under] using hu) h
      refine ⟨.agg vs', fun rest => by simp [unV, h2 rest], fun pl' St' val hd hv => ?_⟩
      cases hv with
      | agg vals h0 hvals =>
        have := RelV.agg (P := P) (T := T) (S := S) (pl := pl') (St := St') vals (fun i hi => h0 i (by omega)) (h3 pl' St' vals hd hvals)
        rw [h1] at this; exact this
    | d l row =>
      simp only [Sh.ren, packV] at h
      cases hp : packVs St m co (Sh.rens ids ss) (cellsOf l.ks row 0) with
      | none => rw [hp] at h; simp at h
      | some ps' =>
      rw [hp] at h
      cases l with
      | one k => simp at h
      | agg ks =>
        simp only [Option.some.injEq] at h
        subst h
        obtain ⟨vs', h1, h2, h3⟩ := packVs_in hs ss (cellsOf (L.agg ks).ks row 0) ps' (by simpa [Sh.under] using hu) hp
        refine ⟨.agg vs', fun rest => by simp [unV, h2 rest], fun pl' St' val hd hv => ?_⟩
        obtain ⟨c1, c2, c3⟩ := hv.cellsV (vs := cellsOf (L.agg ks).ks row 0) rfl
        obtain ⟨cs, rfl, _⟩ := hv.of_d
        exact .agg_mk (by rw [h1]; exact c1) c3 (h3 pl' St' _ hd c2)
    | _ => simp [Sh.ren, packV] at h
  | .ptr i off, v, ps, hu, h => by
    have hlt : i < ids.length := by simpa [Sh.under] using hu
    cases v with
    | ptr i' o' =>
      simp only [Sh.ren, packV] at h
      split at h
      · rename_i hb
        simp only [Bool.and_eq_true] at hb
        obtain rfl := Nat.eq_of_beq_eq_true hb.1.1
        obtain rfl := Nat.eq_of_beq_eq_true hb.1.2
        simp only [Option.some.injEq] at h
        subst h
        refine ⟨.ptr i off, fun rest => rfl, fun pl' St' val hd hv => ?_⟩
        cases hv with
        | ptr h0 h1 h2 h3 h4 =>
          obtain ⟨o', g1, ⟨g2, g3, g4, g5, g6, g7⟩, b1, b2⟩ := hd.get hlt h1
          refine .ptr h0 g1 g2 (fun l row e => ?_) (fun c vs e => ?_)
          · obtain ⟨l0, r0, q⟩ := g3 l row e; rw [b1]; exact h3 _ _ q
          · obtain ⟨l0, r0, q⟩ := g4 c vs e; rw [b1]; exact h4 _ _ q
      · simp at h
    | _ => simp [Sh.ren, packV] at h
  | .whole i, v, ps, hu, h => by
    have hlt : i < ids.length := by simpa [Sh.under] using hu
    cases v with
    | whole i' v =>
      simp only [Sh.ren, packV] at h
      split at h
      · rename_i v' l0 c0 hob
        split at h
        · rename_i hb
          simp only [Bool.and_eq_true] at hb
          obtain rfl := Nat.eq_of_beq_eq_true hb.1.1
          obtain rfl := Nat.eq_of_beq_eq_true hb.1.2
          simp only [Option.some.injEq] at h
          subst h
          refine ⟨.whole i 0, fun rest => rfl, fun pl' St' val hd hv => ?_⟩
          cases hv with
          | whole h0 h1 h2 hver h3 h4 =>
            rw [hob] at h1; obtain rfl := Option.some.inj h1
            obtain ⟨o', g1, ⟨g2, g3, g4, g5, g6, g7⟩, b1, b2⟩ := hd.get hlt hob
            refine .whole h0 g1 g2 (fun v1 l c e => Nat.zero_le _) (fun l e => ?_) (fun l rows e => ?_)
            · obtain ⟨_, v1, q⟩ := g5 _ _ _ e; cases q; exact h3 _ rfl
            · obtain ⟨_, v1, q⟩ := g5 _ _ _ e; cases q; rw [b1, b2]; exact h4 _ _ rfl
        · simp at h
      · simp at h
    | _ => simp [Sh.ren, packV] at h
  | .fn f cs, v, ps, hu, h => by
    cases v with
    | fn f' vs =>
      simp only [Sh.ren, packV] at h
      split at h
      · rename_i hb
        obtain rfl := Nat.eq_of_beq_eq_true hb
        obtain ⟨vs', h1, h2, h3⟩ := packVs_in hs cs vs ps (by simpa [Sh.under] using hu) h
        refine ⟨.fn f vs', fun rest => by simp [unV, h2 rest], fun pl' St' val hd hv => ?_⟩
        cases hv with
        | fn vals hvals =>
          have := RelV.fn (P := P) (T := T) (S := S) (pl := pl') (St := St') (f := f) vals (h3 pl' St' vals hd hvals)
          rw [h1] at this; exact this
      · simp at h
    | _ => simp [Sh.ren, packV] at h
  | .map i, v, ps, hu, h => by
    have hlt : i < ids.length := by simpa [Sh.under] using hu
    cases v with
    | map i' =>
      simp only [Sh.ren, packV] at h
      split at h
      · rename_i hb
        simp only [Bool.and_eq_true] at hb
        obtain rfl := Nat.eq_of_beq_eq_true hb.1
        simp only [Option.some.injEq] at h
        subst h
        refine ⟨.map i, fun rest => rfl, fun pl' St' val hd hv => ?_⟩
        cases hv with
        | map h0 h1 h2 h3 =>
          obtain ⟨o', g1, ⟨g2, g3, g4, g5, g6, g7⟩, b1, b2⟩ := hd.get hlt h1
          refine .map h0 g1 g2 (fun kl vl es e => ?_)
          obtain ⟨a, b, c, q⟩ := g6 _ _ _ e; rw [b1]; exact h3 _ _ _ q
      · simp at h
    | _ => simp [Sh.ren, packV] at h
theorem packVs_in (hs : Sim P T S pl St w) {ids : List Nat} {m : Nat} {co : Bool} : ∀ (ss : List Sh) (vs : List AV) (ps : List PV), Sh.unders ids.length ss = true → packVs St m co (Sh.rens ids ss) vs = some ps → InVs P T S ids pl St ss vs ps
  | [], [], ps, _, h => by
    simp only [Sh.rens, packVs, Option.some.injEq] at h
    subst h
    exact ⟨[], rfl, fun rest => rfl, fun _ _ _ _ _ i av h => by simp at h⟩
  | [], _ :: _, ps, _, h => by simp [Sh.rens, packVs] at h
  | _ :: _, [], ps, _, h => by simp [Sh.rens, packVs] at h
  | s :: ss, v :: vs, ps, hu, h => by
    simp only [Sh.unders, Bool.and_eq_true] at hu
    simp only [Sh.rens, packVs] at h
    split at h
    · rename_i pa pb ha hb
      simp only [Option.some.injEq] at h
      subst h
      obtain ⟨v', h1, h2⟩ := packV_in hs s v pa hu.1 ha
      obtain ⟨vs', g1, g2, g3⟩ := packVs_in hs ss vs pb hu.2 hb
      refine ⟨v' :: vs', by simp [g1], fun rest => by simp [unVs, List.append_assoc, h1, g2], fun pl' St' vals hd hv i av hi => ?_⟩
      cases i with
      | zero => simp at hi; subst hi; exact h2 pl' St' _ hd (hv 0 v rfl)
      | succ i => exact g3 pl' St' (fun j => vals (j + 1)) hd (fun j av hj => hv (j + 1) av (by simpa using hj)) i av (by simpa using hi)
    · simp at h
end
theorem RepR.nrm_row {l : L} {cs : List Value} {row : Row} (h : RepR P T S l.ks cs row) : Ev.nrm l row = row := by
  cases l with
  | agg ks => rfl
  | one k =>
    have h1 := h.rlen
    have h0 := h.cell 0 k rfl
    match row, h1 with
    | [c], _ =>
      have : at_ [c] 0 = c := rfl
      rw [this] at h0
      exact nrm_of_rep h0

/-- An object in the callee's hands. -/
def InO (P : Program) (T : Nat → AFn) (S : Stab) (ids : List Nat) (pl : Pl) (St : Ev.St) (o o' : Obj) : Prop :=
  DownR o o' ∧ (o'.has = true → o.has = true) ∧ ∀ pl' St' w id j, Ren ids pl St pl' St' → pl'.blk j = pl.blk id → pl'.cap j = pl.cap id → ObjIs P T S pl St w id o → ObjIs P T S pl' St' w j o'

theorem in_dead {ids : List Nat} (o : Obj) : InO P T S ids pl St o .dead :=
  ⟨⟨by simp, fun l row e => (by cases e), fun c vs e => (by cases e), fun v l c e => (by cases e), fun a b c e => (by cases e), fun v e l c q => (by cases q)⟩, fun h => by simp [Obj.has] at h, fun _ _ _ _ _ _ _ _ _ => trivial⟩

theorem packO_in (hs : Sim P T S pl St w0) {ids : List Nat} {m : Nat} (s : OSh) (o : Obj) (ps : List PV) (hu : OSh.under ids.length s = true) (h : packO St m (s.ren ids) o = some ps) :
    ∃ o', (∀ rest, unO s (ps ++ rest) = (o', rest)) ∧ ((∃ (w : World) (id : Nat), ObjIs P T S pl St w id o) → InO P T S ids pl St o o') := by
  cases s with
  | var l =>
    cases o with
    | var l' row =>
      simp only [OSh.ren, packO] at h
      split at h
      · rename_i hb
        obtain rfl := L.beq_eq hb
        simp only [Option.some.injEq] at h
        subst h
        refine ⟨.var l (nrm l (nrm l row)), fun rest => rfl, fun ⟨w, id, cur, e, h1, h2⟩ => ?_⟩
        rw [h2.nrm_row, h2.nrm_row]
        refine ⟨⟨by simp, fun l row e => ⟨_, _, rfl⟩, fun c vs e => (by cases e), fun v l c e => (by cases e), fun a b c e => (by cases e), fun v e l c q => (by cases q)⟩, fun h => h, fun pl' St' w id j _ b1 b2 ho => ?_⟩
        obtain ⟨cur, e, q1, q2⟩ := ho
        exact ⟨cur, e, by rw [b1]; exact q1, q2⟩
      · simp at h
    | _ => simp [OSh.ren, packO] at h
  | arr l =>
    cases o with
    | arr v l' c =>
      simp only [OSh.ren, packO] at h
      split at h
      · rename_i hb
        obtain rfl := L.beq_eq hb
        simp only [Option.some.injEq] at h
        subst h
        refine ⟨.arr 0 l c, fun rest => rfl, fun _ => ?_⟩
        refine ⟨⟨by simp, fun l row e => (by cases e), fun c vs e => (by cases e), fun v l c e => ?_, fun a b c e => (by cases e), fun v e l c q => (by cases q)⟩, fun h => ?_, fun pl' St' w id j hd b1 b2 ho => ?_⟩
        · cases e; exact ⟨rfl, _, rfl⟩
        · cases c <;> exact h
        · rcases ho with ho | ⟨rows, cur, e, i, q0, q1, q2, q3, q4, q5, q6, q7, q8⟩
          · exact .inl ho
          · exact .inr ⟨rows, cur, e, i, q0, by rw [b1]; exact q1, q2, q3, q4, by rw [b2]; exact q5, by rw [b2]; exact q6, by rw [b2]; exact q7, q8⟩
      · simp at h
    | _ => simp [OSh.ren, packO] at h
  | sarr e l =>
    cases o with
    | sarr v e' l' c =>
      simp only [OSh.ren, packO] at h
      split at h
      · rename_i hb
        simp only [Bool.and_eq_true] at hb
        obtain rfl := Nat.eq_of_beq_eq_true hb.1
        obtain rfl := L.beq_eq hb.2
        simp only [Option.some.injEq] at h
        subst h
        refine ⟨.sarr 0 e l c, fun rest => rfl, fun _ => ?_⟩
        refine ⟨⟨by simp, fun l row e => (by cases e), fun c vs e => (by cases e), fun v l c e => (by cases e), fun a b c e => (by cases e), fun v e l c q => ?_⟩, fun h => ?_, fun pl' St' w id j hd b1 b2 ho => ?_⟩
        · cases q; exact ⟨rfl, _, rfl⟩
        · cases c <;> exact h
        · rcases ho with ho | ⟨rows, cur, e, i, q0, q1, q2, q3, q4, q5, q6, q7, q8, q9⟩
          · exact .inl ho
          · exact .inr ⟨rows, cur, e, i, q0, by rw [b1]; exact q1, q2, q3, q4, by rw [b2]; exact q5, by rw [b2]; exact q6, by rw [b2]; exact q7, q8, by rw [b1]; exact q9⟩
      · simp at h
    | _ => simp [OSh.ren, packO] at h
  | map kl vl =>
    cases o with
    | map kl' vl' es =>
      simp only [OSh.ren, packO] at h
      split at h
      · rename_i hb
        simp only [Bool.and_eq_true] at hb
        obtain rfl := L.beq_eq hb.1
        obtain rfl := L.beq_eq hb.2
        simp only [Option.some.injEq] at h
        subst h
        refine ⟨.map kl vl es, fun rest => rfl, fun _ => ?_⟩
        refine ⟨⟨by simp, fun l row e => (by cases e), fun c vs e => (by cases e), fun v l c e => (by cases e), fun a b c e => ⟨_, _, _, rfl⟩, fun v e l c q => (by cases q)⟩, fun h => h, fun pl' St' w id j hd b1 b2 ho => ?_⟩
        obtain ⟨ens, clock, q1, q2, q3⟩ := ho
        exact ⟨ens, clock, by rw [b1]; exact q1, q2, q3⟩
      · simp at h
    | _ => simp [OSh.ren, packO] at h
  | cells c vs =>
    cases vs with
    | nil =>
      cases o with
      | cells c' avs =>
        simp only [OSh.ren, Sh.rens, packO] at h
        split at h
        · cases avs with
          | nil =>
            simp only [packVs, Option.some.injEq] at h; subst h
            exact ⟨.dead, fun rest => rfl, fun _ => in_dead _⟩
          | cons _ _ => simp [packVs] at h
        · simp at h
      | _ =>
        simp only [OSh.ren, Sh.rens, packO, Option.some.injEq] at h; subst h
        exact ⟨.dead, fun rest => rfl, fun _ => in_dead _⟩
    | cons s ss =>
      cases o with
      | cells c' avs =>
        simp only [OSh.ren, packO] at h
        split at h
        · rename_i hb
          have hcc : c = c' := by simpa using hb
          subst hcc
          obtain ⟨vs', h1, h2, h3⟩ := packVs_in hs (s :: ss) avs ps (by simpa [OSh.under] using hu) h
          refine ⟨.cells c vs', fun rest => by simp [unO, h2 rest], fun _ => ?_⟩
          refine ⟨⟨by simp, fun l row e => (by cases e), fun c vs e => ⟨_, _, rfl⟩, fun v l c e => (by cases e), fun a b c e => (by cases e), fun v e l c q => (by cases q)⟩, fun h => rfl, fun pl' St' w id j hd b1 b2 ho => ?_⟩
          obtain ⟨cur, e, q1, q2, q3, q4⟩ := ho
          exact ⟨cur, e, by rw [b1]; exact q1, by rw [q2, h1], fun i av hi => h3 pl' St' (fun i => cur.getD i undef) hd q3 i av hi, q4⟩
        · simp at h
      | _ => simp [OSh.ren, Sh.rens, packO] at h

theorem packAt_in (hs : Sim P T S pl St w0) {ids : List Nat} (hos : ∀ (id : Nat) (o : Obj), St[id]? = some o → ∃ (w : World) (j : Nat), ObjIs P T S pl St w j o) : ∀ (is : List Nat) (ss : List OSh) (ps : List PV), ss.all (OSh.under ids.length) = true → packAt St ids is ss = some ps →
    ∃ St' : Ev.St, (∀ rest, unOs ss (ps ++ rest) = St') ∧ St'.length = is.length ∧ ss.length = is.length ∧ ∀ (j : Nat) (o' : Obj), St'[j]? = some o' → ∃ o : Obj, St[is.getD j 0]? = some o ∧ InO P T S ids pl St o o'
  | [], [], ps, _, h => by
    simp only [packAt, Option.some.injEq] at h
    subst h
    exact ⟨[], fun rest => rfl, rfl, rfl, fun j o' h => by simp at h⟩
  | [], _ :: _, ps, _, h => by simp [packAt] at h
  | _ :: _, [], ps, _, h => by simp [packAt] at h
  | i :: is, s :: ss, ps, hu, h => by
    simp only [List.all_cons, Bool.and_eq_true] at hu
    simp only [packAt] at h
    split at h
    · rename_i o ho
      split at h
      · rename_i pa pb ha hb
        simp only [Option.some.injEq] at h
        subst h
        obtain ⟨o', h1, h2⟩ := packO_in hs s o pa hu.1 ha
        obtain ⟨St', g1, g2, g2', g3⟩ := packAt_in hs hos is ss pb hu.2 hb
        refine ⟨o' :: St', fun rest => by simp [unOs, List.append_assoc, h1, g1], by simp [g2], by simp [g2'], fun j o1 hi => ?_⟩
        cases j with
        | zero => simp at hi; subst hi; exact ⟨o, by simpa using ho, h2 (hos i o ho)⟩
        | succ j =>
          obtain ⟨o2, q1, q2⟩ := g3 j o1 (by simpa using hi)
          exact ⟨o2, by simpa using q1, q2⟩
      · simp at h
    · simp at h
/-- The callee's view of where its objects lie. -/
def Pl.sub (pl : Pl) (ids : List Nat) : Pl := ⟨fun j => pl.blk (ids.getD j 0), fun j => pl.cap (ids.getD j 0)⟩

theorem packI_in {ids : List Nat} {en : Shape} {avs : List AV} {ps : List PV} {vals : Nat → Value} (hs : Sim P T S pl St w) (hnd : ids.Nodup) (hu : Shape.under ids.length en = true) (hv : ∀ i av, avs[i]? = some av → RelV P T S pl St av (vals i))
    (h : packI St ids en avs = some ps) :
    ∃ (vs : List AV) (r : List PV) (St' : Ev.St), unVs (en.slots.map (·.2)) ps = (vs, r) ∧ St' = unOs en.objs r ∧ vs.length = avs.length ∧ St'.length = ids.length ∧ en.objs.length = ids.length ∧ Ren ids pl St (pl.sub ids) St' ∧ Sim P T S (pl.sub ids) St' w ∧
      (∀ i av, vs[i]? = some av → RelV P T S (pl.sub ids) St' av (vals i)) ∧ (∀ b, Owns (pl.sub ids) St' b → ∃ i ∈ ids, ∃ o, St[i]? = some o ∧ o.has = true ∧ pl.blk i = b) ∧
      ∀ (j : Nat) (o' : Obj), St'[j]? = some o' → ∃ o : Obj, St[ids.getD j 0]? = some o ∧ DownR o o' ∧ (o'.has = true → o.has = true) := by
  simp only [Shape.under, Bool.and_eq_true] at hu
  unfold packI at h
  split at h
  · rename_i pa pb ha hb
    simp only [Option.some.injEq] at h
    subst h
    have hun : Sh.unders ids.length (en.slots.map (·.2)) = true := by
      have := hu.1
      clear ha
      generalize en.slots = ss at this ⊢
      induction ss with
      | nil => rfl
      | cons p ss ih =>
        simp only [List.all_cons, Bool.and_eq_true] at this
        simp only [List.map_cons, Sh.unders, this.1, ih this.2, Bool.and_self]
    obtain ⟨vs, v1, v2, v3⟩ := packVs_in hs (ids := ids) _ avs pa hun ha
    obtain ⟨St', g1, g2, g2', g3⟩ := packAt_in hs (ids := ids) (fun id o ho => ⟨w, id, hs.objs id o ho⟩) ids en.objs pb hu.2 hb
    have hren : Ren ids pl St (pl.sub ids) St' := by
      refine ⟨fun j hj => ⟨_, List.getElem?_eq_getElem (by rw [g2]; exact hj)⟩, fun j o' ho' => ?_⟩
      obtain ⟨o, q1, q2⟩ := g3 j o' ho'
      exact ⟨o, q1, q2.1, rfl, rfl⟩
    have hinj : ∀ i j, i < ids.length → j < ids.length → ids.getD i 0 = ids.getD j 0 → i = j := by
      intro i j hi hj e
      rw [List.getD_eq_getElem?_getD, List.getD_eq_getElem?_getD, List.getElem?_eq_getElem hi, List.getElem?_eq_getElem hj] at e
      exact (List.getElem_inj hnd).1 e
    have hlt : ∀ (j : Nat) (o' : Obj), St'[j]? = some o' → j < ids.length := fun j o' h => by rw [← g2]; exact (List.getElem?_eq_some_iff.1 h).1
    refine ⟨vs, pb, St', v2 pb, by have := g1 []; rw [List.append_nil] at this; exact this.symm, v1, g2, g2', hren, ?_, v3 _ _ vals hren hv, fun b hb => ?_, fun j o' ho' => ?_⟩
    · refine ⟨hs.stab, fun j o' ho' => ?_, fun j o' ho' hh off hoff => ?_, fun i j o o' hi hj h1 h2 hbb => ?_, hs.glob⟩
      · obtain ⟨o, q1, q2⟩ := g3 j o' ho'
        exact q2.2.2 _ St' w _ j hren rfl rfl (hs.objs _ o q1)
      · obtain ⟨o, q1, q2⟩ := g3 j o' ho'
        exact hs.apart _ o q1 (q2.2.1 hh) off (by rw [q2.1.sn hh]; exact hoff)
      · obtain ⟨o1, q1, q2⟩ := g3 i o hi
        obtain ⟨o2, q3, q4⟩ := g3 j o' hj
        exact hinj i j (hlt i o hi) (hlt j o' hj) (hs.inj _ _ o1 o2 q1 q3 (q2.2.1 h1) (q4.2.1 h2) hbb)
    · obtain ⟨j, o', ho', hh, hbb⟩ := hb
      obtain ⟨o, q1, q2⟩ := g3 j o' ho'
      have hj := hlt j o' ho'
      refine ⟨ids.getD j 0, ?_, o, q1, q2.2.1 hh, hbb⟩
      rw [List.getD_eq_getElem?_getD, List.getElem?_eq_getElem hj]; exact List.getElem_mem hj
    · obtain ⟨o, q1, q2⟩ := g3 j o' ho'
      exact ⟨o, q1, q2.1, q2.2.1⟩
  · simp at h
end Go.Ev
