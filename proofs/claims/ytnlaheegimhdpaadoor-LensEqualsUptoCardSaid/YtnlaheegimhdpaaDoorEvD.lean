/-
  How memory, objects and what is known of them turn together.
-/
import Derived.Test.YtnlaheegimhdpaaDoorEvC
set_option linter.all false
namespace Go.Ev
variable {P : Program} {T : Nat → AFn} {S S' : Stab} {pl pl' : Pl} {St St' : Ev.St} {F : Fr} {a : Act} {w w' : World}

/-- What was said of references stays true. -/
def Keeps (pl : Pl) (St : Ev.St) (pl' : Pl) (St' : Ev.St) : Prop :=
  ∀ id o, St[id]? = some o → o ≠ .fresh → ∃ o', St'[id]? = some o' ∧ o' ≠ .fresh ∧
    (∀ l row, o' = .var l row → (∃ l0 r0, o = .var l0 r0) ∧ pl'.blk id = pl.blk id) ∧
    (∀ c vs, o' = .cells c vs → (∃ c0 v0, o = .cells c0 v0) ∧ pl'.blk id = pl.blk id) ∧
    (∀ v l c, o' = .arr v l c → ∃ v0 c0, o = .arr v0 l c0 ∧ v0 ≤ v ∧ (v0 = v → pl'.blk id = pl.blk id ∧ pl'.cap id = pl.cap id ∧ (c = .nils → c0 = .nils) ∧
      ∀ rows, c = .sl rows → ∃ rows0, c0 = .sl rows0 ∧ rows0.length = rows.length)) ∧
    (∀ v e l c, o' = .sarr v e l c → ∃ v0 c0, o = .sarr v0 e l c0 ∧ v0 ≤ v ∧ (v0 = v → pl'.blk id = pl.blk id ∧ pl'.cap id = pl.cap id ∧ (c = .nils → c0 = .nils) ∧
      ∀ rows, c = .sl rows → ∃ rows0, c0 = .sl rows0 ∧ rows0.length = rows.length)) ∧
    (∀ kl vl es, o' = .map kl vl es → (∃ kl0 vl0 es0, o = .map kl0 vl0 es0) ∧ pl'.blk id = pl.blk id)

theorem Keeps.same {id : Nat} {o : Obj} (hb : pl'.blk id = pl.blk id) (hc : pl'.cap id = pl.cap id) :
    (∀ l row, o = .var l row → (∃ l0 r0, o = .var l0 r0) ∧ pl'.blk id = pl.blk id) ∧
    (∀ c vs, o = .cells c vs → (∃ c0 v0, o = .cells c0 v0) ∧ pl'.blk id = pl.blk id) ∧
    (∀ v l c, o = .arr v l c → ∃ v0 c0, o = .arr v0 l c0 ∧ v0 ≤ v ∧ (v0 = v → pl'.blk id = pl.blk id ∧ pl'.cap id = pl.cap id ∧ (c = .nils → c0 = .nils) ∧
      ∀ rows, c = .sl rows → ∃ rows0, c0 = .sl rows0 ∧ rows0.length = rows.length)) ∧
    (∀ v e l c, o = .sarr v e l c → ∃ v0 c0, o = .sarr v0 e l c0 ∧ v0 ≤ v ∧ (v0 = v → pl'.blk id = pl.blk id ∧ pl'.cap id = pl.cap id ∧ (c = .nils → c0 = .nils) ∧
      ∀ rows, c = .sl rows → ∃ rows0, c0 = .sl rows0 ∧ rows0.length = rows.length)) ∧
    (∀ kl vl es, o = .map kl vl es → (∃ kl0 vl0 es0, o = .map kl0 vl0 es0) ∧ pl'.blk id = pl.blk id) :=
  ⟨fun l r h => ⟨⟨l, r, h⟩, hb⟩, fun c vs h => ⟨⟨c, vs, h⟩, hb⟩,
   fun v l c h => ⟨v, c, h, Nat.le_refl _, fun _ => ⟨hb, hc, fun h => h, fun rows h => ⟨rows, h, rfl⟩⟩⟩,
   fun v e l c h => ⟨v, c, h, Nat.le_refl _, fun _ => ⟨hb, hc, fun h => h, fun rows h => ⟨rows, h, rfl⟩⟩⟩, fun a b c h => ⟨⟨a, b, c, h⟩, hb⟩⟩

theorem Keeps.refl (pl : Pl) (St : Ev.St) : Keeps pl St pl St := fun id o h hf => ⟨o, h, hf, Keeps.same rfl rfl⟩

theorem RelV.keep (hk : Keeps pl St pl' St') (hS : S.le S') {av : AV} {v : Value} (h : RelV P T S pl St av v) : RelV P T S' pl' St' av v := by
  induction h with
  | undef => exact .undef
  | und => exact .und
  | d h => exact .d (h.mono hS)
  | ptr h0 h1 h2 h3 h4 =>
    obtain ⟨o', g1, g2, k1, k2, k3, k5, k4⟩ := hk _ _ h1 h2
    refine .ptr h0 g1 g2 (fun l row e => ?_) (fun c vs e => ?_)
    · obtain ⟨⟨l0, r0, e0⟩, hb⟩ := k1 l row e; rw [hb]; exact h3 _ _ e0
    · obtain ⟨⟨l0, r0, e0⟩, hb⟩ := k2 c vs e; rw [hb]; exact h4 _ _ e0
  | aptr h0 h1 h2 hv h3 =>
    obtain ⟨o', g1, g2, k1, k2, k3, k5, k4⟩ := hk _ _ h1 h2
    refine .aptr h0 g1 g2 (fun v l c e => ?_) (fun l c e => ?_)
    · obtain ⟨v0, c0, e0, hle, _⟩ := k3 v l c e; exact Nat.le_trans (hv _ _ _ e0) hle
    · obtain ⟨v0, c0, e0, hle, hr⟩ := k3 _ l c e
      have := hv _ _ _ e0
      obtain rfl : v0 = _ := Nat.le_antisymm hle this
      rw [(hr rfl).1]; exact h3 _ _ e0
  | whole h0 h1 h2 hv h3 h4 =>
    obtain ⟨o', g1, g2, k1, k2, k3, k5, k4⟩ := hk _ _ h1 h2
    refine .whole h0 g1 g2 (fun v l c e => ?_) (fun l e => ?_) (fun l rows e => ?_)
    · obtain ⟨v0, c0, e0, hle, _⟩ := k3 v l c e; exact Nat.le_trans (hv _ _ _ e0) hle
    · obtain ⟨v0, c0, e0, hle, hr⟩ := k3 _ l _ e
      have := hv _ _ _ e0
      obtain rfl : v0 = _ := Nat.le_antisymm hle this
      obtain ⟨_, _, q, _⟩ := hr rfl
      exact h3 l (by rw [e0, q rfl])
    · obtain ⟨v0, c0, e0, hle, hr⟩ := k3 _ l _ e
      have := hv _ _ _ e0
      obtain rfl : v0 = _ := Nat.le_antisymm hle this
      obtain ⟨q1, q2, _, q⟩ := hr rfl
      obtain ⟨rows0, e1, e2⟩ := q rows rfl
      rw [q1, q2, ← e2]; exact h4 l rows0 (by rw [e0, e1])
  | own h0 h1 h2 hv h3 h4 =>
    obtain ⟨o', g1, g2, k1, k2, k3, k5, k4⟩ := hk _ _ h1 h2
    refine .own h0 g1 g2 (fun v l c e => ?_) (fun l rows e => ?_) (fun l e => ?_)
    · obtain ⟨v0, c0, e0, hle, _⟩ := k3 v l c e; exact Nat.le_trans (hv _ _ _ e0) hle
    · obtain ⟨v0, c0, e0, hle, hr⟩ := k3 _ l _ e
      have := hv _ _ _ e0
      obtain rfl : v0 = _ := Nat.le_antisymm hle this
      obtain ⟨q1, q2, _, q⟩ := hr rfl
      obtain ⟨rows0, e1, e2⟩ := q rows rfl
      rw [q1, ← e2]; exact h3 l rows0 (by rw [e0, e1])
    · obtain ⟨v0, c0, e0, hle, hr⟩ := k3 _ l _ e
      have := hv _ _ _ e0
      obtain rfl : v0 = _ := Nat.le_antisymm hle this
      obtain ⟨_, _, q, _⟩ := hr rfl
      exact h4 l (by rw [e0, q rfl])
  | fn vs _ ih => exact .fn vs ih
  | tup vs _ ih => exact .tup vs ih
  | map h0 h1 h2 h3 =>
    obtain ⟨o', g1, g2, k1, k2, k3, k5, k4⟩ := hk _ _ h1 h2
    refine .map h0 g1 g2 (fun kl vl es e => ?_)
    obtain ⟨⟨a, b, c, e0⟩, hb⟩ := k4 kl vl es e; rw [hb]; exact h3 _ _ _ e0
  | agg vs h0 _ ih => exact .agg vs h0 ih
  | sw h0 h1 h2 hv h3 h4 =>
    obtain ⟨o', g1, g2, k1, k2, k3, k5, k4⟩ := hk _ _ h1 h2
    refine .sw h0 g1 g2 (fun v e l c e1 => ?_) (fun e l e1 => ?_) (fun e l rows e1 => ?_)
    · obtain ⟨v0, c0, e0, hle, _⟩ := k5 v e l c e1; exact Nat.le_trans (hv _ _ _ _ e0) hle
    · obtain ⟨v0, c0, e0, hle, hr⟩ := k5 _ e l _ e1
      have := hv _ _ _ _ e0
      obtain rfl : v0 = _ := Nat.le_antisymm hle this
      obtain ⟨_, _, q, _⟩ := hr rfl
      exact h3 e l (by rw [e0, q rfl])
    · obtain ⟨v0, c0, e0, hle, hr⟩ := k5 _ e l _ e1
      have := hv _ _ _ _ e0
      obtain rfl : v0 = _ := Nat.le_antisymm hle this
      obtain ⟨q1, q2, _, q⟩ := hr rfl
      obtain ⟨rows0, e3, e2⟩ := q rows rfl
      rw [q1, q2, ← e2]; exact h4 e l rows0 (by rw [e0, e3])

theorem ObjIs.keep_sarr (hk : Keeps pl St pl' St') (hS : S.le S') {id v : Nat} {e : TypeId} {l : L} {c : C} (hb : pl'.blk id = pl.blk id) (hc : pl'.cap id = pl.cap id)
    (hw : (Obj.sarr v e l c).has = true → w'.heap[pl.blk id]? = w.heap[pl.blk id]?) (h : ObjIs P T S pl St w id (.sarr v e l c)) : ObjIs P T S' pl' St' w' id (.sarr v e l c) := by
  rcases h with h | ⟨rows, cur, e', i, hcr, h1, h2, h3, h4, h5, h6, h7, h8, h9⟩
  · exact .inl h
  · subst hcr
    exact .inr ⟨rows, cur, e', i, rfl, by rw [hb, hw rfl]; exact h1, h2, h3, h4, by rw [hc]; exact h5, by rw [hc]; exact h6, by rw [hc]; exact h7, fun i r hr => (h8 i r hr).mono hS, fun p hp => by rw [hb]; exact hS _ _ _ (h9 p hp)⟩
theorem ObjIs.keep (hk : Keeps pl St pl' St') (hS : S.le S') {id : Nat} {o : Obj} (hb : pl'.blk id = pl.blk id) (hc : pl'.cap id = pl.cap id)
    (hw : o.has = true → w'.heap[pl.blk id]? = w.heap[pl.blk id]?) (h : ObjIs P T S pl St w id o) : ObjIs P T S' pl' St' w' id o := by
  cases o with
  | fresh => trivial
  | dead => trivial
  | var l row =>
    obtain ⟨cur, e, h1, h2⟩ := h
    exact ⟨cur, e, by rw [hb, hw rfl]; exact h1, h2.mono hS⟩
  | cells c vs =>
    obtain ⟨cur, e, h1, h2, h3, h4⟩ := h
    exact ⟨cur, e, by rw [hb, hw rfl]; exact h1, h2, fun i av hi => (h3 i av hi).keep hk hS, h4⟩
  | arr v l c =>
    rcases h with h | ⟨rows, cur, e, i, hcr, h1, h2, h3, h4, h5, h6, h7, h8⟩
    · exact .inl h
    · subst hcr
      exact .inr ⟨rows, cur, e, i, rfl, by rw [hb, hw rfl]; exact h1, h2, h3, h4, by rw [hc]; exact h5, by rw [hc]; exact h6, by rw [hc]; exact h7, fun i r hr => (h8 i r hr).mono hS⟩
  | sarr v e l c => exact h.keep_sarr hk hS hb hc hw
  | map kl vl es =>
    obtain ⟨ens, clock, h1, h2, h3⟩ := h
    exact ⟨ens, clock, by rw [hb, hw rfl]; exact h1, h2, fun i k v hi => let ⟨en, a, b, c⟩ := h3 i k v hi; ⟨en, a, b.mono hS, c.mono hS⟩⟩

/-- One object turns. -/
theorem Sim.upd {i : Nat} {o' : Obj} (hs : Sim P T S pl St w) (hi : i < St.length) (hk : Keeps pl St pl' (St.set i o')) (hS : S.le S')
    (hpl : ∀ j, j ≠ i → pl'.blk j = pl.blk j ∧ pl'.cap j = pl.cap j)
    (hblk : ∀ j o, j ≠ i → St[j]? = some o → o.has = true → w'.heap[pl.blk j]? = w.heap[pl.blk j]?)
    (hstab : ∀ b o v, S' b o = some v → w'.cell? ⟨b, o, none⟩ = some v)
    (hobj : ObjIs P T S' pl' (St.set i o') w' i o')
    (hap : o'.has = true → ∀ off, o'.sn ≤ off → S' (pl'.blk i) off = none)
    (hap' : ∀ j o, j ≠ i → St[j]? = some o → o.has = true → ∀ off, o.sn ≤ off → S' (pl.blk j) off = none)
    (hinj : o'.has = true → ∀ j o, j ≠ i → St[j]? = some o → o.has = true → pl.blk j ≠ pl'.blk i) : Sim P T S' pl' (St.set i o') w' := by
  have get : ∀ j o, (St.set i o')[j]? = some o → (j = i ∧ o = o') ∨ (j ≠ i ∧ St[j]? = some o) := by
    intro j o h
    by_cases hj : j = i
    · subst hj; simp [hi] at h; exact .inl ⟨rfl, h.symm⟩
    · rw [List.getElem?_set_ne (Ne.symm hj)] at h; exact .inr ⟨hj, h⟩
  refine ⟨hstab, fun j o h => ?_, fun j o h ho => ?_, fun j k o o2 h1 h2 ho ho2 hb => ?_, ?_⟩
  · rcases get j o h with ⟨rfl, rfl⟩ | ⟨hj, h⟩
    · exact hobj
    · exact (hs.objs j o h).keep hk hS (hpl j hj).1 (hpl j hj).2 (hblk j o hj h)
  · rcases get j o h with ⟨rfl, rfl⟩ | ⟨hj, h⟩
    · exact hap ho
    · rw [(hpl j hj).1]; exact hap' j o hj h ho
  · rcases get j o h1 with ⟨rfl, rfl⟩ | ⟨hj, h1⟩
    · rcases get k o2 h2 with ⟨rfl, rfl⟩ | ⟨hk2, h2⟩
      · rfl
      · rw [(hpl k hk2).1] at hb; exact absurd hb.symm (hinj ho k o2 hk2 h2 ho2)
    · rcases get k o2 h2 with ⟨rfl, rfl⟩ | ⟨hk2, h2⟩
      · rw [(hpl j hj).1] at hb; exact absurd hb (hinj ho2 j o hj (by assumption) ho)
      · rw [(hpl j hj).1, (hpl k hk2).1] at hb; exact hs.inj j k o o2 h1 h2 ho ho2 hb
  · exact hs.glob.mono hS

/-- Nothing of the objects turns. -/
theorem Sim.frame (hs : Sim P T S pl St w) (hS : S.le S')
    (hblk : ∀ j o, St[j]? = some o → o.has = true → w'.heap[pl.blk j]? = w.heap[pl.blk j]?)
    (hstab : ∀ b o v, S' b o = some v → w'.cell? ⟨b, o, none⟩ = some v)
    (hap : ∀ j o, St[j]? = some o → o.has = true → ∀ off, o.sn ≤ off → S' (pl.blk j) off = none) : Sim P T S' pl St w' :=
  ⟨hstab, fun j o h => (hs.objs j o h).keep (.refl _ _) hS rfl rfl (hblk j o h), hap, hs.inj, hs.glob.mono hS⟩

/-! ### A fresh place is filled -/
theorem Keeps.fresh {i : Nat} {o' : Obj} (hi : St[i]? = some .fresh) (hpl : ∀ j, j ≠ i → pl'.blk j = pl.blk j ∧ pl'.cap j = pl.cap j) : Keeps pl St pl' (St.set i o') := by
  intro id o h hf
  have hne : id ≠ i := fun e => by subst e; rw [hi] at h; exact hf (Option.some.inj h).symm
  exact ⟨o, by rw [List.getElem?_set_ne (Ne.symm hne)]; exact h, hf, Keeps.same (hpl id hne).1 (hpl id hne).2⟩

def Pl.at (pl : Pl) (i b c : Nat) : Pl := ⟨fun j => if j = i then b else pl.blk j, fun j => if j = i then c else pl.cap j⟩
theorem Pl.at_ne (pl : Pl) (i b c j : Nat) (h : j ≠ i) : (pl.at i b c).blk j = pl.blk j ∧ (pl.at i b c).cap j = pl.cap j := by simp [Pl.at, h]
theorem Pl.at_blk (pl : Pl) (i b c : Nat) : (pl.at i b c).blk i = b := by simp [Pl.at]
theorem Pl.at_cap (pl : Pl) (i b c : Nat) : (pl.at i b c).cap i = c := by simp [Pl.at]

theorem Sim.blk_lt (hs : Sim P T S pl St w) {j : Nat} {o : Obj} (h : St[j]? = some o) (ho : o.has = true) : pl.blk j < w.heap.size := by
  have := hs.objs j o h
  cases o with
  | fresh => simp [Obj.has] at ho
  | dead => simp [Obj.has] at ho
  | var l row => obtain ⟨cur, e, h1, _⟩ := this; exact (Array.getElem?_eq_some_iff.1 h1).1
  | cells c vs => obtain ⟨cur, e, h1, _⟩ := this; exact (Array.getElem?_eq_some_iff.1 h1).1
  | arr v l c =>
    rcases this with rfl | ⟨rows, cur, e, i, hcr, h1, _⟩
    · simp [Obj.has] at ho
    · exact (Array.getElem?_eq_some_iff.1 h1).1
  | sarr v e l c =>
    rcases this with rfl | ⟨rows, cur, e', i, hcr, h1, _⟩
    · simp [Obj.has] at ho
    · exact (Array.getElem?_eq_some_iff.1 h1).1
  | map kl vl es => obtain ⟨ens, clock, h1, _⟩ := this; exact (Array.getElem?_eq_some_iff.1 h1).1
theorem Sim.stab_lt (hs : Sim P T S pl St w) {b o : Nat} {v : Value} (h : S b o = some v) : b < w.heap.size :=
  World.block_lt_of_cell? w ⟨b, o, none⟩ (hs.stab b o v h)

/-- A new object in a new block. -/
theorem new_post {i : Nat} {o' : Obj} {ob : Go.Obj} {cap : Nat} {av : AV} {v : Value} (hs : Sim P T S pl St w) (hi : St[i]? = some .fresh)
    (hobj : ObjIs P T S (pl.at i w.heap.size cap) (St.set i o') (w.alloc ob) i o')
    (hv : RelV P T S (pl.at i w.heap.size cap) (St.set i o') av v) : OpPost P T S pl St w (St.set i o') av v (w.alloc ob) := by
  have hlt : i < St.length := (List.getElem?_eq_some_iff.1 hi).1
  have hk : Keeps pl St (pl.at i w.heap.size cap) (St.set i o') := .fresh hi (pl.at_ne i _ _)
  refine ⟨S, pl.at i w.heap.size cap, ?_, ⟨rfl, rfl, rfl, by simp, fun b hb _ => Go.RowKit.Below.heap_alloc w ob b hb, S.le_refl, fun _ _ _ _ => rfl⟩, hv, fun _ _ h => h.keep hk S.le_refl, ?_⟩
  · refine hs.upd hlt hk S.le_refl (pl.at_ne i _ _) (fun j o _ h ho => Go.RowKit.Below.heap_alloc w ob _ (hs.blk_lt h ho)) (fun b o v h => ?_) hobj (fun _ off _ => ?_) (fun j o _ h ho => hs.apart j o h ho) (fun _ j o _ h ho => ?_)
    · rw [World.cell?_alloc_lt w ob ⟨b, o, none⟩ (show (⟨b, o, none⟩ : Addr).block < w.heap.size from hs.stab_lt h)]; exact hs.stab _ _ _ h
    · rw [Pl.at_blk]
      cases hS : S w.heap.size off with
      | none => rfl
      | some v => exact absurd (hs.stab_lt hS) (by omega)
    · rw [Pl.at_blk]; have := hs.blk_lt h ho; omega
  · rintro b ⟨id, o, h, ho, hb⟩
    by_cases hid : id = i
    · subst hid; rw [Pl.at_blk] at hb; exact .inr (by omega)
    · rw [List.getElem?_set_ne (Ne.symm hid)] at h
      rw [(pl.at_ne i _ _ id hid).1] at hb
      exact .inl ⟨id, o, h, ho, hb⟩

/-- Cells that are never written again. -/
def Stab.more (S : Stab) (b : Nat) (cs : List Value) : Stab := fun b' o => if b' = b then cs[o]? else S b' o
theorem Stab.le_more {b : Nat} {cs : List Value} (h : ∀ o, S b o = none) : S.le (S.more b cs) := by
  intro x o v hv
  simp only [Stab.more]
  by_cases hx : x = b
  · subst hx; rw [h o] at hv; cases hv
  · rw [if_neg hx]; exact hv
theorem persist_post {cs : Array Value} {e : TypeId} {fr : Nat × Nat} {av : AV} {v : Value} {w' : World} (hs : Sim P T S pl St w)
    (hw : w'.os = w.os ∧ w'.tape = w.tape ∧ w'.output = w.output) (hold : ∀ k, k < w.heap.size → w'.heap[k]? = w.heap[k]?) (hsz : w'.heap.size = w.heap.size + 1)
    (hnew : w'.heap[w.heap.size]? = some (.cells cs e fr)) (n : Nat) 
    (hv : RelV P T (S.more w.heap.size (cs.toList.take n)) pl St av v) : OpPost P T S pl St w St av v w' := by
  have hnone : ∀ o, S w.heap.size o = none := fun o => by
    cases hS : S w.heap.size o with
    | none => rfl
    | some v => exact absurd (hs.stab_lt hS) (by omega)
  have hle := Stab.le_more (cs := cs.toList.take n) hnone
  refine ⟨_, pl, ?_, ⟨hw.1, hw.2.1, hw.2.2, by omega, fun b hb _ => hold b hb, hle, fun b o hb _ => ?_⟩, hv, fun _ _ h => h.keep (.refl _ _) hle, fun _ h => .inl h⟩
  · refine hs.frame hle (fun j o h ho => hold _ (hs.blk_lt h ho)) (fun b o v h => ?_) (fun j o h ho off hoff => ?_)
    · simp only [Stab.more] at h
      split at h
      · rename_i hb; subst hb
        rw [cell_of_row w' _ _ _ _ _ hnew]
        rw [List.getElem?_take] at h
        split at h
        · simpa using h
        · cases h
      · have hlt := hs.stab_lt h
        have := hs.stab _ _ _ h
        rw [World.cell?_of_block (w := w) (w' := w') (hold b hlt)]; exact this
    · simp only [Stab.more]
      rw [if_neg (by have := hs.blk_lt h ho; omega)]
      exact hs.apart j o h ho off hoff
  · simp only [Stab.more]; rw [if_neg (by omega)]
end Go.Ev
