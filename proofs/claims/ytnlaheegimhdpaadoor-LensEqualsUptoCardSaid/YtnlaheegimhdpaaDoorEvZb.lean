/-
  From what a law's rows answer to the law's contract.
-/
import Derived.Test.YtnlaheegimhdpaaDoorEvZa
import Derived.OpenShut
import Derived.WalkKit
import Derived.ProofKit
import Derived.ChangeSame
set_option linter.all false
namespace Go.Ev
open Go.ChangeShapes Go.WideShapes Go.ChangeAt Go.RowKit
variable {H : Type} {enc : TypeId × Value → H} {P : Program} {T : Nat → AFn} {S : Stab} {w : World}

theorem trod_arg {base b0 : Nat} {sp : Nat → Bool} {held : Bool} {ts : List TypeId} (K : Kids P (· < P.types.size)) (hp : plainT P ts = true) {t : TypeId} {v : Value} {d : DataW H} {p : List MemPlace} {l : L}
    (ht : t ∈ ts) (hv : Value.okWide P w .any b0 t v) (h : DataW.Trod enc P w base sp held t v d p) (hl : layOf P t = some l) : RepL P T (Stab.full w) l v (rowD d) := by
  obtain ⟨fuel, h⟩ := h
  have R := trod_rep (T := T) K hp fuel 30 t _ _ l.ks ht h (layOf_kinds hl)
  have hpt := List.all_eq_true.1 hp t ht
  simp only [Bool.and_eq_true] at hpt
  have hpt := hpt.2
  have one : ∀ k, l = .one k → v.cells = #[v] → RepL P T (Stab.full w) l v (rowD d) := by
    intro k hk hc
    subst hk
    rw [hc] at R
    have h2 := R.2
    simp only [L.ks, List.length_singleton] at h2
    obtain ⟨c, hc'⟩ := List.length_eq_one_iff.1 h2
    refine ⟨c, hc', ?_⟩
    have := R.3 0 k rfl
    rw [hc'] at this
    simpa [at_] using this
  have agg : ∀ ks, l = .agg ks → (∃ cs, v = .agg cs) → RepL P T (Stab.full w) l v (rowD d) := by
    rintro ks rfl ⟨cs, rfl⟩
    exact ⟨cs, rfl, R⟩
  unfold layOf at hl
  unfold Value.okWide at hv
  cases hu : P.underlying t with
  | none => simp [hu] at hpt
  | some dd =>
    cases dd <;> simp only [hu] at hpt hl hv <;> try (simp at hpt; done)
    case struct fs =>
      simp only [Option.map_eq_some_iff] at hl
      obtain ⟨ks, _, rfl⟩ := hl
      obtain ⟨cs, rfl, _⟩ := hv
      exact agg ks rfl ⟨cs, rfl⟩
    case array m e =>
      simp only [Option.map_eq_some_iff] at hl
      obtain ⟨ks, _, rfl⟩ := hl
      obtain ⟨cs, rfl, _⟩ := hv
      exact agg ks rfl ⟨cs, rfl⟩
    all_goals
      have hlk : ∃ k, l = .one k := by
        split at hl
        · rename_i k _; exact ⟨k, by simpa using hl.symm⟩
        · simp at hl
      obtain ⟨k, hk⟩ := hlk
      refine one k hk ?_
      cases v <;> first
        | rfl
        | (simp [Cell.okWide, Cell.ok, hu] at hv; done)

theorem trodAll_args {base b0 : Nat} {sp : Nat → Bool} {held : Bool} {ts : List TypeId} (K : Kids P (· < P.types.size)) (hp : plainT P ts = true) :
    ∀ {us : List TypeId} {vs : List Value} {ds : List (DataW H)} {p : List MemPlace} {ls : List L}, (∀ t ∈ us, t ∈ ts) → (∀ (j : Nat) t v, us[j]? = some t → vs[j]? = some v → Value.okWide P w .any b0 t v) →
      DataW.TrodAll enc P w base sp held us vs ds p → laysOf P us = some ls → ArgsOk P T (Stab.full w) ls vs (ds.map rowD)
  | [], [], [], p, ls, _, _, _, hl => by
    simp only [laysOf, Option.some.injEq] at hl
    subst hl
    exact .nil
  | t :: us, v :: vs, d :: ds, p, ls, ht, hv, ⟨p1, q1, h1, h2, _⟩, hl => by
    simp only [laysOf] at hl
    cases e1 : layOf P t with
    | none => simp [e1] at hl
    | some l =>
      cases e2 : laysOf P us with
      | none => simp [e1, e2] at hl
      | some ls' =>
        simp only [e1, e2, Option.some.injEq] at hl
        subst hl
        exact .cons (trod_arg K hp (ht t (by simp)) (hv 0 t v rfl rfl) h1 e1) (trodAll_args K hp (fun t' h => ht t' (by simp [h])) (fun j t' v' a b => hv (j + 1) t' v' (by simpa using a) (by simpa using b)) h2 e2)
  | [], _ :: _, _, _, _, _, _, h, _ => by simp [DataW.TrodAll] at h
  | [], [], _ :: _, _, _, _, _, h, _ => by simp [DataW.TrodAll] at h
  | _ :: _, [], _, _, _, _, _, h, _ => by simp [DataW.TrodAll] at h
  | _ :: _, _ :: _, [], _, _, _, _, h, _ => by simp [DataW.TrodAll] at h

theorem trodAll_carry {w' : World} {base : Nat} {sp : Nat → Bool} {held : Bool} : ∀ {us : List TypeId} {vs : List Value} {ds : List (DataW H)} {p : List MemPlace},
    DataW.TrodAll enc P w base sp held us vs ds p → (∀ x ∈ p, w.sameAt w' x) → DataW.TrodAll enc P w' base sp held us vs ds p
  | [], [], [], p, h, _ => h
  | t :: us, v :: vs, d :: ds, p, ⟨p1, q1, ⟨n, h1⟩, h2, e⟩, hs =>
    ⟨p1, q1, ⟨n, DataW.trod_carry n t _ _ h1 (fun x hx => hs x (by rw [e]; exact List.mem_append_left _ hx))⟩, trodAll_carry h2 (fun x hx => hs x (by rw [e]; exact List.mem_append_right _ hx)), e⟩
  | [], _ :: _, _, _, h, _ => by simp [DataW.TrodAll] at h
  | [], [], _ :: _, _, h, _ => by simp [DataW.TrodAll] at h
  | _ :: _, [], _, _, h, _ => by simp [DataW.TrodAll] at h
  | _ :: _, _ :: _, [], _, h, _ => by simp [DataW.TrodAll] at h

theorem post_same {f : Func} {s : ChangeSpec} {apart fresh handsOn again : Bool} {W W' : World} {args : Array Value} {v : Value} {ds gs : List (DataW H)} {before pa pv : List MemPlace}
    (hW : DataW.Whole enc P f.params.toList s.vars apart W args.toList ds gs before)
    (hres : ∀ (b : Nat) (sp : Nat → Bool) (hd : Bool), DataW.TrodAll enc P W' b sp hd f.resultTypes.toList (v.resultList f.resultTypes.size) (s.fn H (ds ++ gs)).results [])
    (hargs : ∀ sp : Nat → Bool, (∀ p ∈ before, sp p.block = true) → DataW.TrodAll enc P W' 0 sp true f.params.toList args.toList (s.fn H (ds ++ gs)).args pa)
    (hvars : ∀ sp : Nat → Bool, (∀ p ∈ before, sp p.block = true) → DataW.TrodVars enc P W' sp s.vars (s.fn H (ds ++ gs)).vars pv)
    (hps : before = pa ++ pv) (hk : W.keptBut W' (· ∈ before)) (hfz : ∀ a : Addr, a.block < W.heap.size → W'.frozen? a = W.frozen? a)
    (hok : ∀ (j : Nat) (t : TypeId) (r : Value), f.resultTypes[j]? = some t → (v.resultList f.resultTypes.size)[j]? = some r → Value.okWide P W' .any 0 t r) :
    s.post enc P f apart fresh handsOn again W args v W' := by
  have hlt : ∀ p ∈ before, p.block < W.heap.size := fun p hp => hW.lt p hp
  have hold : ∀ p ∈ before, (fun b => decide (b < W.heap.size)) p.block = true := fun p hp => by simpa using hW.lt p hp
  refine ⟨ds, gs, before, [], pa, pv, hW, hres _ _ _, hargs _ hold, hvars _ hold, World.keptBut_mono (fun p hp => ⟨hp, ?_⟩) hk, fun _ => ?_⟩
  · rw [hps, List.mem_append] at hp
    exact Or.inr hp
  · obtain ⟨_, _, _, _, _, hz, hn⟩ := hW
    refine ⟨hok, _, _, ([] ++ pa) ++ pv, ⟨[] ++ pa, pv, trodAll_append (hargs _ (fun _ _ => rfl)) (hres _ _ _), hvars _ (fun _ _ => rfl), rfl, ?_, ?_⟩, ?_⟩
    · intro b off hp
      have hp' : MemPlace.cell b off ∈ before := by rw [hps]; simpa using hp
      rw [hfz _ (hlt _ hp')]
      exact hz b off hp'
    · intro ha
      have := hn ha
      rw [hps] at this
      simpa using this
    · intro p hp _
      rw [hps]
      simpa using hp

theorem grow_kept {W W' : World} {S S' : Stab} (h : Grow (fun _ => False) S W S' W') (ps : List MemPlace) : W.keptBut W' (· ∈ ps) := by
  refine ⟨h.os, h.output, fun i hi => ?_⟩
  rw [h.block i hi (fun x => x)]
  cases W.heap[i]? with
  | none => trivial
  | some o => cases o <;> first | rfl | exact ⟨rfl, rfl, rfl, fun _ _ => rfl⟩ | exact .inr ⟨rfl, rfl⟩
theorem grow_same {W W' : World} {S S' : Stab} (h : Grow (fun _ => False) S W S' W') {p : MemPlace} (hp : p.block < W.heap.size) : W.sameAt W' p := by
  cases p with
  | cell b off => simp only [World.sameAt, World.cell?]; rw [h.block b hp (fun x => x)]
  | map b => simp only [World.sameAt]; rw [h.block b hp (fun x => x)]

/-- THE CONTRACT of a law that answers one bool, out of what its rows answer. -/
theorem contract_of {f : Nat} {fn : Func} {s : ChangeSpec} {ls : List L} {tb : TypeId} {ts : List TypeId} {apart fresh handsOn again : Bool}
    (hm : P.follows .mixedOrders = true) (hT : TabOk P T) (hg : ∀ g t l row, T (gbase + g) ≠ .glob t l row) (K : Kids P (· < P.types.size))
    (hz : ∀ t e, t < P.types.size → P.underlying t = some (.slice e) → 0 < P.cellsOf e) (hp : plainT P ts = true) (hts : ∀ t ∈ fn.params.toList, t ∈ ts)
    (hls : laysOf P fn.params.toList = some ls) (hsig : (T f).sig = some (ls, [.one .bool])) (hrt : fn.resultTypes = #[tb]) (htb : P.underlying tb = some .bool) (hvars : s.vars = [])
    {W : World} {base : Nat} {args : Array Value} {ds gs : List (DataW H)} {before : List MemPlace}
    (hval : ∀ (j : Nat) t v, fn.params[j]? = some t → args[j]? = some v → Value.okWide P W .any base t v)
    (hW : DataW.Whole enc P fn.params.toList s.vars apart W args.toList ds gs before)
    (hs : ds.length = fn.params.size → s.fn H ds = { results := [.lit (.bool true)], args := ds, vars := [] })
    (hrun : (lim T).pc f (ds.map rowD) = some [[.bool true]]) :
    Calls P f args W fun e W' => ∃ v, e = .returned v ∧ s.post enc P fn apart fresh handsOn again W args v W' := by
  have hW' := hW
  obtain ⟨p, q, hA, hV, hb, hfz, hnd⟩ := hW
  rw [hvars] at hV
  obtain ⟨rfl, rfl⟩ := trodVars_none hV
  have hlen : ∀ {us : List TypeId} {vs : List Value} {ds : List (DataW H)} {p : List MemPlace}, DataW.TrodAll enc P W 0 (fun _ => true) true us vs ds p → ds.length = us.length := by
    intro us
    induction us with
    | nil => intro vs ds p h; cases vs <;> cases ds <;> simp [DataW.TrodAll] at h ⊢
    | cons t us ih =>
      intro vs ds p h
      cases vs with
      | nil => simp [DataW.TrodAll] at h
      | cons v vs =>
        cases ds with
        | nil => simp [DataW.TrodAll] at h
        | cons d ds =>
          obtain ⟨_, _, _, h2, _⟩ := h
          simp [ih h2]
  have hdl := hlen hA
  have hs' := hs (by simpa using hdl)
  have hargs := trodAll_args (T := T) K hp hts (b0 := base) (fun j t v h1 h2 => hval j t v (by simpa using h1) (by simpa using h2)) hA hls
  obtain ⟨n, hn⟩ := (lim_pc T).1 hrun
  have hE := (env_sound hm hT n).1
  obtain ⟨_, hc⟩ := hE.2 f _ _ _ _ hn hsig (Stab.full W) W args.toList (Stab.full_in W) (fun g t l row h => absurd h (hg g t l row)) hargs
  rw [Array.toArray_toList] at hc
  refine hc.mono fun e W' ⟨out', S', he, hgr, _, hout⟩ => ?_
  have hv : out' = [.bool true] := by
    have h1 := hout.vlen
    obtain ⟨v, rfl⟩ := List.length_eq_one_iff.1 h1
    have := hout.arg 0 _ rfl
    obtain ⟨c, hc1, hc2⟩ := this
    simp only [rowsAt, List.getD_cons_zero, List.cons.injEq, and_true] at hc1
    subst hc1
    simp only [List.getD_cons_zero] at hc2
    cases hc2
    rfl
  subst hv
  refine ⟨.bool true, he, ?_⟩
  have hlt : ∀ p ∈ before, p.block < W.heap.size := fun p hp => hW'.lt p hp
  refine post_same (pa := p) (pv := []) hW' ?_ ?_ ?_ hb (grow_kept hgr _) ?_ ?_
  · intro b sp hd
    rw [List.append_nil, hs', hrt]
    exact trodAll_cons_mk (shut_bool htb _) trodAll_mk0
  · intro sp hsp
    rw [List.append_nil, hs']
    refine trodAll_carry (w := W) (DataW.TrodAll.respare K hz (fun t ht => ?_) hA (fun x hx => hsp x (by rw [hb]; exact List.mem_append_left _ hx))) (fun x hx => grow_same hgr (hlt x (by rw [hb]; exact List.mem_append_left _ hx)))
    have := List.all_eq_true.1 hp t (hts t ht)
    simp only [Bool.and_eq_true] at this
    simpa using this.1
  · intro sp hsp
    rw [List.append_nil, hs', hvars]
    rfl
  · intro a ha
    simp only [World.frozen?]
    rw [hgr.block a.block ha (fun x => x)]
  · rw [hrt]
    intro j t r h1 h2
    cases j with
    | zero =>
      simp at h1
      subst h1
      simp [Value.resultList] at h2
      subst h2
      exact okWide_bool_mk htb _
    | succ j => simp at h1
end Go.Ev
