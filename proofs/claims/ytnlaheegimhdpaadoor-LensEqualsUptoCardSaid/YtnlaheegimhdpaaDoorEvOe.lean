/-
  Calls to which objects are handed: the operation.
-/
import Derived.Test.YtnlaheegimhdpaaDoorEvOd
set_option linter.all false
namespace Go.Ev
variable {E : Env} {P : Program} {T : Nat → AFn} {S S' S2 : Stab} {pl pl' pl2 : Pl} {St St' St2 : Ev.St} {F F' : Fr} {a : Act} {w w' : World}

/-- The memory behind the call. -/
theorem icall_post {ids new all vers : List Nat} {en ex : List OSh} {r r2 : List PV} {St3 : Ev.St} (hs : Sim P T S pl St w) (hsub : Sim P T S (pl.sub ids) St' w) (hSt' : St' = unOs en r) (hSt2 : St2 = unOs ex r2) (hs2 : Sim P T S2 pl2 St2 w')
    (hall : all = ids ++ new) (hfresh : ∀ i ∈ new, St[i]? = some .fresh) (hnd : all.Nodup) (hlen : St2.length = all.length) (hlen' : St'.length = ids.length) (hkind : kindB en ex = true) (hvers : vers = all.map (verOf St))
    (hdown : ∀ (j : Nat) (o' : Obj), St'[j]? = some o' → ∃ o : Obj, St[ids.getD j 0]? = some o ∧ DownR o o' ∧ (o'.has = true → o.has = true))
    (hg : Grow (Owns (pl.sub ids) St') S w S2 w') (hown : ∀ b, Owns (pl.sub ids) St' b → ∃ i ∈ ids, ∃ o, St[i]? = some o ∧ o.has = true ∧ pl.blk i = b)
    (hy : ∀ b, Owns pl2 St2 b → Owns (pl.sub ids) St' b ∨ w.heap.size ≤ b)
    (hblk : ∀ (j : Nat) (o o' : Obj), St'[j]? = some o → St2[j]? = some o' → ((∃ l row, o' = .var l row) ∨ (∃ c vs, o' = .cells c vs) ∨ ∃ kl vl es, o' = .map kl vl es) → pl2.blk j = (pl.sub ids).blk j)
    (hSt3 : St3 = updAll (renObjs all vers all vers St2) St) :
    Sim P T S2 (pl.back pl2 all) St3 w' ∧ Grow (Owns pl St) S w S2 w' ∧ Back all vers pl2 St2 (pl.back pl2 all) St3 ∧ Keeps pl St (pl.back pl2 all) St3 ∧ (∀ b, Owns (pl.back pl2 all) St3 b → Owns pl St b ∨ w.heap.size ≤ b) := by
  have hvl : all.length = vers.length := by rw [hvers]; simp
  have hol : all.length = St2.length := hlen.symm
  have hall_lt : ∀ i ∈ all, i < St.length := by
    intro i hi
    rw [hall] at hi
    rcases List.mem_append.1 hi with h | h
    · obtain ⟨j, hj, rfl⟩ := List.getElem_of_mem h
      have hj' : j < St'.length := by omega
      obtain ⟨o, h1, _⟩ := hdown j _ (List.getElem?_eq_getElem hj')
      rw [getD_get (List.getElem?_eq_getElem hj)] at h1
      exact (List.getElem?_eq_some_iff.1 h1).1
    · exact (List.getElem?_eq_some_iff.1 (hfresh i h)).1
  -- what lies where
  have get_in : ∀ (j : Nat) (o' : Obj), St2[j]? = some o' → St3[all.getD j 0]? = some (Obj.ren all vers (vers.getD j 0) o') := fun j o' h => by
    rw [hSt3]; exact updAll_ren all vers all vers St2 St j o' hvl hol hnd hall_lt h
  have get_out : ∀ id, id ∉ all → St3[id]? = St[id]? := fun id h => by
    rw [hSt3]; exact updAll_other _ _ _ (by rw [renObjs_keys _ _ _ _ _ hvl hol]; exact h)
  have split : ∀ (id : Nat) (o : Obj), St3[id]? = some o → (∃ j o', j < all.length ∧ id = all.getD j 0 ∧ St2[j]? = some o' ∧ o = Obj.ren all vers (vers.getD j 0) o') ∨ (id ∉ all ∧ St[id]? = some o) := by
    intro id o h
    by_cases hid : id ∈ all
    · obtain ⟨j, hj, rfl⟩ := List.getElem_of_mem hid
      have e := getD_get (List.getElem?_eq_getElem hj)
      have hj2 : j < St2.length := by omega
      refine .inl ⟨j, St2[j], hj, e.symm, List.getElem?_eq_getElem hj2, ?_⟩
      have := get_in j _ (List.getElem?_eq_getElem hj2)
      rw [e, h] at this; exact Option.some.inj this
    · rw [get_out id hid] at h; exact .inr ⟨hid, h⟩
  have hback : Back all vers pl2 St2 (pl.back pl2 all) St3 := by
    intro j o' ho'
    have hj : j < all.length := by have := (List.getElem?_eq_some_iff.1 ho').1; omega
    exact ⟨get_in j o' ho', Pl.back_in hnd hj⟩
  have hownS : ∀ b, Owns (pl.sub ids) St' b → Owns pl St b := fun b h => by
    obtain ⟨i, _, o, h1, h2, h3⟩ := hown b h
    exact ⟨i, o, h1, h2, h3⟩
  have hgrow : Grow (Owns pl St) S w S2 w' := ⟨hg.os, hg.tape, hg.output, hg.size, fun b hb hn => hg.block b hb (fun h => hn (hownS b h)), hg.mono, fun b off hb hn => hg.new b off hb (fun h => hn (hownS b h))⟩
  -- the callee's objects of before
  have kept : Keeps pl St (pl.back pl2 all) St3 := by
    intro id o h hf
    by_cases hid : id ∈ all
    · obtain ⟨j, hj, e⟩ := List.getElem_of_mem hid
      have hid2 : id ∈ ids := by
        rw [hall] at hid
        rcases List.mem_append.1 hid with q | q
        · exact q
        · exact absurd (Option.some.inj ((hfresh id q).symm.trans h)).symm hf
      have hj2 : j < ids.length := by
        rcases Nat.lt_or_ge j ids.length with q | q
        · exact q
        · exfalso
          have hni : id ∈ new := by
            have : all[j]? = some id := by rw [List.getElem?_eq_getElem hj, e]
            rw [hall, List.getElem?_append_right q] at this
            exact List.mem_of_getElem? this
          exact absurd (Option.some.inj ((hfresh id hni).symm.trans h)).symm hf
      have ei : ids.getD j 0 = id := by
        have h1 : all[j]? = some id := by rw [List.getElem?_eq_getElem hj, e]
        rw [hall, List.getElem?_append_left hj2] at h1
        exact getD_get h1
      have ea : all.getD j 0 = id := getD_get (by rw [List.getElem?_eq_getElem hj, e])
      have hj3 : j < St'.length := by omega
      have hj4 : j < St2.length := by omega
      have hSt'j : St'[j]? = some St'[j] := List.getElem?_eq_getElem hj3
      have hSt2j : St2[j]? = some St2[j] := List.getElem?_eq_getElem hj4
      generalize ho1 : St'[j] = o1 at hSt'j
      generalize ho2 : St2[j] = o2 at hSt2j
      obtain ⟨o0, d1, d2, d3⟩ := hdown j o1 hSt'j
      rw [ei, h] at d1; obtain rfl := Option.some.inj d1
      have hs1 : ∃ s, en[j]? = some s ∧ OfSh s o1 := unOs_sh en r j o1 (by rw [← hSt']; exact hSt'j)
      have hs2' : ∃ s, ex[j]? = some s ∧ OfSh s o2 := unOs_sh ex r2 j o2 (by rw [← hSt2]; exact hSt2j)
      obtain ⟨s1, k1, k2⟩ := hs1
      obtain ⟨s2, k3, k4⟩ := hs2'
      obtain ⟨_, q1, q2, q3, q4, q5⟩ := kindB_get hkind k1 k3
      have hver : vers.getD j 0 = verOf St id := by
        rw [hvers]
        simp [List.getD_eq_getElem?_getD, List.getElem?_map, List.getElem?_eq_getElem hj, e]
      obtain ⟨b1, b2⟩ := Pl.back_in (pl := pl) (pl2 := pl2) hnd hj
      rw [ea] at b1 b2
      have hg3 := get_in j o2 hSt2j
      rw [ea] at hg3
      have hsb : (pl.sub ids).blk j = pl.blk id := by show pl.blk (ids.getD j 0) = _; rw [ei]
      refine ⟨_, hg3, ren_ne_fresh _ _ _ _, fun l row e => ?_, fun c vs e => ?_, fun v l c e => ?_, fun v e l c q => ?_, fun kl vl es e => ?_⟩
      · have e := ren_var e
        subst e
        cases s2 with
        | var l2 =>
          obtain ⟨l0, rfl⟩ := q1 _ rfl
          obtain ⟨row0, rfl⟩ := k2
          obtain ⟨l9, row9, rfl⟩ := d2.2.1 _ _ rfl
          exact ⟨⟨_, _, rfl⟩, by rw [b1, hblk j _ _ hSt'j hSt2j (.inl ⟨_, _, rfl⟩), hsb]⟩
        | cells c vs => cases vs with
          | nil => cases k4
          | cons _ _ => obtain ⟨_, q⟩ := k4; cases q
        | arr l => obtain ⟨_, q⟩ := k4; cases q
        | map kl vl => obtain ⟨_, q⟩ := k4; cases q
        | sarr e l => obtain ⟨_, q⟩ := k4; cases q
      · obtain ⟨vs0, e, _⟩ := ren_cells e
        subst e
        cases s2 with
        | cells c2 vs2 => cases vs2 with
          | nil => cases k4
          | cons v2 vs2 =>
            obtain ⟨c0, v1, vs1, rfl⟩ := q2 _ _ _ rfl
            obtain ⟨vs9, rfl⟩ := k2
            obtain ⟨l9, row9, rfl⟩ := d2.2.2.1 _ _ rfl
            exact ⟨⟨_, _, rfl⟩, by rw [b1, hblk j _ _ hSt'j hSt2j (.inr (.inl ⟨_, _, rfl⟩)), hsb]⟩
        | var l => obtain ⟨_, q⟩ := k4; cases q
        | arr l => obtain ⟨_, q⟩ := k4; cases q
        | map kl vl => obtain ⟨_, q⟩ := k4; cases q
        | sarr e l => obtain ⟨_, q⟩ := k4; cases q
      · obtain ⟨eq1, eq2⟩ := ren_arr e
        subst eq1; subst eq2
        cases s2 with
        | arr l2 =>
          have := q3 _ rfl
          subst this
          obtain ⟨c0, q⟩ := k4
          simp only [Obj.arr.injEq, true_and] at q
          obtain ⟨rfl, rfl⟩ := q
          obtain ⟨c1, rfl⟩ := k2
          obtain ⟨_, v0, rfl⟩ := d2.2.2.2.1 _ _ _ rfl
          rw [hver]
          simp only [verOf, h]
          exact ⟨v0, _, rfl, Nat.le_succ _, fun q => by omega⟩
        | cells c vs => cases vs with
          | nil => cases k4
          | cons _ _ => obtain ⟨_, q⟩ := k4; cases q
        | var l => obtain ⟨_, q⟩ := k4; cases q
        | map kl vl => obtain ⟨_, q⟩ := k4; cases q
        | sarr e l => obtain ⟨_, q⟩ := k4; cases q
      · obtain ⟨eq1, eq2⟩ := ren_sarr q
        subst eq1; subst eq2
        cases s2 with
        | sarr e2 l2 =>
          have := q5 _ _ rfl
          subst this
          obtain ⟨c0, q⟩ := k4
          simp only [Obj.sarr.injEq, true_and] at q
          obtain ⟨rfl, rfl, rfl⟩ := q
          obtain ⟨c1, rfl⟩ := k2
          obtain ⟨_, v0, rfl⟩ := d2.2.2.2.2.2 _ _ _ _ rfl
          rw [hver]
          simp only [verOf, h]
          exact ⟨v0, _, rfl, Nat.le_succ _, fun q => by omega⟩
        | cells c vs => cases vs with
          | nil => cases k4
          | cons _ _ => obtain ⟨_, q⟩ := k4; cases q
        | var l => obtain ⟨_, q⟩ := k4; cases q
        | map kl vl => obtain ⟨_, q⟩ := k4; cases q
        | arr l => obtain ⟨_, q⟩ := k4; cases q
      · have e := ren_map e
        subst e
        cases s2 with
        | map kl2 vl2 =>
          obtain ⟨kl0, vl0, rfl⟩ := q4 _ _ rfl
          obtain ⟨es0, rfl⟩ := k2
          obtain ⟨kl9, vl9, es9, rfl⟩ := d2.2.2.2.2.1 _ _ _ rfl
          exact ⟨⟨_, _, _, rfl⟩, by rw [b1, hblk j _ _ hSt'j hSt2j (.inr (.inr ⟨_, _, _, rfl⟩)), hsb]⟩
        | cells c vs => cases vs with
          | nil => cases k4
          | cons _ _ => obtain ⟨_, q⟩ := k4; cases q
        | var l => obtain ⟨_, q⟩ := k4; cases q
        | arr l => obtain ⟨_, q⟩ := k4; cases q
        | sarr e l => obtain ⟨_, q⟩ := k4; cases q
    · obtain ⟨b1, b2⟩ := Pl.back_out (pl := pl) (pl2 := pl2) hid
      exact ⟨o, by rw [get_out id hid]; exact h, hf, Keeps.same b1 b2⟩
  -- an object that is not handed over
  have apart_out : ∀ (id : Nat) (o : Obj), id ∉ all → St[id]? = some o → o.has = true → ¬ Owns (pl.sub ids) St' (pl.blk id) := by
    intro id o hid h hh hq
    obtain ⟨i, hi, o1, h1, h2, h3⟩ := hown _ hq
    have := hs.inj i id o1 o h1 h h2 hh h3
    subst this
    exact hid (by rw [hall]; exact List.mem_append_left _ hi)
  refine ⟨⟨hs2.stab, fun id o h => ?_, fun id o h hh off hoff => ?_, fun i j o o' hi hj h1 h2 hbb => ?_, hs2.glob⟩, hgrow, hback, kept, fun b hb => ?_⟩
  · rcases split id o h with ⟨j, o', hj, rfl, h2, rfl⟩ | ⟨hid, h2⟩
    · obtain ⟨b1, b2⟩ := Pl.back_in (pl := pl) (pl2 := pl2) hnd hj
      exact (hs2.objs j o' h2).back hback b1 b2
    · obtain ⟨b1, b2⟩ := Pl.back_out (pl := pl) (pl2 := pl2) hid
      exact (hs.objs id o h2).keep kept hg.mono b1 b2 (fun hh => hg.block _ (hs.blk_lt h2 hh) (apart_out id o hid h2 hh))
  · rcases split id o h with ⟨j, o', hj, rfl, h2, rfl⟩ | ⟨hid, h2⟩
    · obtain ⟨b1, b2⟩ := Pl.back_in (pl := pl) (pl2 := pl2) hnd hj
      obtain ⟨g1, g2⟩ := ren_has hh
      rw [b1]; exact hs2.apart j o' h2 g1 off (by rw [← g2]; exact hoff)
    · obtain ⟨b1, b2⟩ := Pl.back_out (pl := pl) (pl2 := pl2) hid
      rw [b1, hg.new _ _ (hs.blk_lt h2 hh) (apart_out id o hid h2 hh)]
      exact hs.apart id o h2 hh off hoff
  · have mixed : ∀ (j id : Nat) (o' o : Obj), j < all.length → St2[j]? = some o' → o'.has = true → id ∉ all → St[id]? = some o → o.has = true → pl2.blk j = pl.blk id → False := by
      intro j id o' o hj h2 hh hid h hh2 hb
      rcases hy (pl2.blk j) ⟨j, o', h2, hh, rfl⟩ with q | q
      · rw [hb] at q; exact apart_out id o hid h hh2 q
      · have := hs.blk_lt h hh2; omega
    rcases split i o hi with ⟨k, o1, hk, rfl, g1, rfl⟩ | ⟨hid, g1⟩
    · obtain ⟨b1, _⟩ := Pl.back_in (pl := pl) (pl2 := pl2) hnd hk
      rcases split j o' hj with ⟨k', o1', hk', rfl, g1', rfl⟩ | ⟨hid', g1'⟩
      · obtain ⟨b1', _⟩ := Pl.back_in (pl := pl) (pl2 := pl2) hnd hk'
        rw [b1, b1'] at hbb
        rw [hs2.inj k k' o1 o1' g1 g1' (ren_has h1).1 (ren_has h2).1 hbb]
      · obtain ⟨b1', _⟩ := Pl.back_out (pl := pl) (pl2 := pl2) hid'
        rw [b1, b1'] at hbb
        exact (mixed k j o1 o' hk g1 (ren_has h1).1 hid' g1' h2 hbb).elim
    · obtain ⟨b1, _⟩ := Pl.back_out (pl := pl) (pl2 := pl2) hid
      rcases split j o' hj with ⟨k', o1', hk', rfl, g1', rfl⟩ | ⟨hid', g1'⟩
      · obtain ⟨b1', _⟩ := Pl.back_in (pl := pl) (pl2 := pl2) hnd hk'
        rw [b1, b1'] at hbb
        exact (mixed k' i o1' o hk' g1' (ren_has h2).1 hid g1 h1 hbb.symm).elim
      · obtain ⟨b1', _⟩ := Pl.back_out (pl := pl) (pl2 := pl2) hid'
        rw [b1, b1'] at hbb
        exact hs.inj i j o o' g1 g1' h1 h2 hbb
  · obtain ⟨id, o, h, hh, hbb⟩ := hb
    rcases split id o h with ⟨j, o', hj, rfl, h2, rfl⟩ | ⟨hid, h2⟩
    · obtain ⟨b1, _⟩ := Pl.back_in (pl := pl) (pl2 := pl2) hnd hj
      rw [b1] at hbb
      rcases hy b ⟨j, o', h2, (ren_has hh).1, hbb⟩ with q | q
      · exact .inl (hownS b q)
      · exact .inr q
    · obtain ⟨b1, _⟩ := Pl.back_out (pl := pl) (pl2 := pl2) hid
      rw [b1] at hbb
      exact .inl ⟨id, o, h2, hh, hbb⟩

theorem opds_sound (hs : Sim P T S pl St w) (hF : RelF P T S pl St F a.tmps) : ∀ (xs : List Operand) (axs : List Opd), opdsOk P T xs axs = true → xs.length = axs.length ∧ ∀ i av, (axs.map (·.ev F))[i]? = some av → RelV P T S pl St av ((xs.map a.eval).getD i undef)
  | [], [], _ => ⟨rfl, fun i av h => by simp at h⟩
  | [], _ :: _, h => by simp [opdsOk] at h
  | _ :: _, [], h => by simp [opdsOk] at h
  | x :: xs, ax :: axs, h => by
    simp only [opdsOk, Bool.and_eq_true] at h
    obtain ⟨h1, h2⟩ := opds_sound hs hF xs axs h.2
    refine ⟨by simp [h1], fun i av hi => ?_⟩
    cases i with
    | zero => simp at hi; subst hi; simpa using opd_sound hs h.1 hF
    | succ i => simpa using h2 i av (by simpa using hi)

theorem list_of_get (l : List Value) (n : Nat) (h : l.length = n) : (List.range n).map (fun i => l.getD i undef) = l := by
  apply List.ext_getElem?
  intro i
  by_cases hi : i < l.length
  · simp [← h, hi]
  · simp [← h, hi]

/-- The callee, and what is handed to it. -/
theorem callee_sound {A : Type} {o : Oper} {x : Operand} {xs : Array Operand} {ts : Array TypeId} {f : Nat} {ax : Option Opd} {axs : List Opd} {k : List AV → Option A} {res : A} (hs : Sim P T S pl St w) (hF : RelF P T S pl St F a.tmps)
    (ho : o.op = .call { callee := .value x, args := xs, argTypes := ts }) (hxs : opdsOk P T xs.toList axs = true)
    (hx : calleeB P T x f ax = true) (h : calleeOf F f ax axs k = some res) :
    ∃ (vs : List AV) (vals : Nat → Value), k vs = some res ∧ (∀ j u, vs[j]? = some u → RelV P T S pl St u (vals j)) ∧
      (execOp a.eval o).run P w = (callFunc f ((List.range vs.length).map vals).toArray).run P w := by
  obtain ⟨hl, hv⟩ := opds_sound hs hF _ _ hxs
  have e0 : (List.map a.eval xs.toList).toArray = Array.map a.eval xs := by apply Array.ext'; simp
  unfold calleeOf at h
  split at h
  · refine ⟨_, fun i => (xs.toList.map a.eval).getD i undef, h, hv, ?_⟩
    simp only [calleeB] at hx
    unfold isFnB at hx
    split at hx
    · rename_i f' ho
      obtain rfl := Nat.eq_of_beq_eq_true hx
      have e : ((List.range (axs.map (·.ev F)).length).map fun i => (xs.toList.map a.eval).getD i undef) = xs.toList.map a.eval := list_of_get _ _ (by simpa using hl)
      rw [e, e0]
      unfold execOp
      simp [ho, resolve, Deferred.ofValue, invoke, Act.eval]
    · simp at hx
  · rename_i ay
    split at h
    · rename_i f' caps ey
      obtain ⟨hb, hk⟩ := check_some h
      obtain rfl := Nat.eq_of_beq_eq_true hb
      simp only [calleeB] at hx
      have hvx := opd_sound hs hx hF
      rw [ey] at hvx
      generalize hq : a.eval x = q at hvx
      cases hvx with
      | fn cv hcv =>
        refine ⟨_, fun i => if i < axs.length then (xs.toList.map a.eval).getD i undef else cv (i - axs.length), hk, fun j u hj => ?_, ?_⟩
        · by_cases hjl : j < axs.length
          · rw [List.getElem?_append_left (by simpa using hjl)] at hj
            simp only [if_pos hjl]; exact hv j u hj
          · rw [List.getElem?_append_right (by simp; omega)] at hj
            simp only [if_neg hjl]
            simpa using hcv _ u hj
        · have e : ((List.range (axs.map (·.ev F) ++ caps).length).map fun i => if i < axs.length then (xs.toList.map a.eval).getD i undef else cv (i - axs.length)) = xs.toList.map a.eval ++ (List.range caps.length).map cv := by
            apply List.ext_getElem?
            intro i
            by_cases h1 : i < axs.length
            · rw [List.getElem?_append_left (by simp at hl; simp; omega)]
              have h2 : i < xs.size := by simp at hl; omega
              have h3 : i < axs.length + caps.length := by omega
              simp [h1, h2, h3]
            · rw [List.getElem?_append_right (by simp at hl; simp; omega)]
              have h4 : xs.size = axs.length := by simpa using hl
              by_cases h2 : i < axs.length + caps.length
              · have h5 : i - axs.length < caps.length := by omega
                simp [h1, h2, h4, h5]
              · have h5 : ¬ i - axs.length < caps.length := by omega
                simp [h1, h2, h4, h5]
          rw [e]
          unfold execOp
          simp [ho, resolve, Deferred.ofValue, invoke, hq]
          congr 2
          apply Array.ext'
          simp
    · simp at h

theorem tupV_rel {avs : List AV} {vs : List Value} (hl : vs.length = avs.length) (h : ∀ i av, avs[i]? = some av → RelV P T S pl St av (vs.getD i Go.undef)) : RelV P T S pl St (tupV avs) (retV vs) := by
  have tup : RelV P T S pl St (.tup avs) (.tuple vs.toArray) := by
    have := RelV.tup (P := P) (T := T) (S := S) (pl := pl) (St := St) (avs := avs) (fun i => vs.getD i Go.undef) h
    rw [list_of_get vs avs.length hl] at this; exact this
  match avs, vs, hl with
  | [v], [u], _ => simpa [tupV, retV] using h 0 v rfl
  | [], [], _ => exact tup
  | _ :: _ :: _, _ :: _ :: _, _ => exact tup

theorem s_icall {o : Oper} {base i f new : Nat} {en ex : Shape} {ids : List Nat} {ax : Option Opd} {axs : List Opd} {av : AV} {us : List (Nat × Obj)} {rd : List Nat} (hs : Sim P T S pl St w) (hF : RelF P T S pl St F a.tmps) (hic : IcOk P T E.ic)
    (hok : okOp P T o.op (.icall i f en ex ids new ax axs) = true)
    (h : opK E F St (.icall i f en ex ids new ax axs) base (fun v us rd => some (v, us, rd)) = some (av, us, rd)) : Done P o a w (OpPost P T S pl St w (updAll us St) av) := by
  simp only [okOp] at hok
  split at hok
  · rename_i x xs ts ho
    simp only [Bool.and_eq_true] at hok
    obtain ⟨⟨hT, hxs⟩, hx⟩ := hok
    split at hT
    · rename_i af hTi
      simp only [Bool.and_eq_true] at hT
      obtain rfl := Nat.eq_of_beq_eq_true hT.1.1
      obtain rfl := Shape.beq_eq hT.1.2
      obtain rfl := Shape.beq_eq hT.2
      simp only [opK] at h
      obtain ⟨vs, vals, h1, hv, hrun⟩ := callee_sound hs hF ho hxs hx h
      obtain ⟨hck, h2⟩ := check_some h1
      simp only [Bool.and_eq_true] at hck
      obtain ⟨⟨⟨⟨⟨c1, c2⟩, c3⟩, c4⟩, c5⟩, c6⟩ := hck
      obtain ⟨ps, hp, h3⟩ := Option.bind_eq_some_iff.1 h2
      obtain ⟨ps', hc, h4⟩ := Option.bind_eq_some_iff.1 h3
      have hle : ids.length ≤ af.exit.objs.length := by simpa using c5
      have hnd := nodupB_sound c4
      have hnd1 : ids.Nodup := (List.nodup_append.1 hnd).1
      obtain ⟨avs, r, St', g1, g2, g3, g4, g5, g6, g7, g8, g9, g10⟩ := packI_in hs hnd1 c1 hv hp
      obtain ⟨e1, e2⟩ := hic i af hTi ps ps' hc S (pl.sub ids) St' w avs r vals g1 g2 g7 g8
      intro next Q hn
      unfold Oper.wp
      rw [hrun, ← g3, e1, Oper.upon_enter]
      refine e2.mono fun e w' he => ?_
      obtain ⟨S2, pl2, St2, avs2, r2, out, k1, k2, rfl, k4, k5, k6, k7, k8, k9⟩ := he
      rw [k1] at h4
      simp only [Option.some.injEq, Prod.mk.injEq] at h4
      obtain ⟨rfl, rfl, rfl⟩ := h4
      rw [← k2] at hn
      have hlen2 : St2.length = (ids ++ numsFrom (base + new) (af.exit.objs.length - ids.length)).length := by
        rw [k2, unOs_length, List.length_append, numsFrom_length]; omega
      obtain ⟨p1, p2, p3, p4, p5⟩ := icall_post (ids := ids) (new := numsFrom (base + new) (af.exit.objs.length - ids.length)) (all := ids ++ numsFrom (base + new) (af.exit.objs.length - ids.length)) hs g7 g2 k2 k5 rfl (freshAt_sound c3) hnd hlen2 g4 c6 rfl g10 k6 g9 k8 k9 rfl
      refine hn _ _ ⟨S2, _, p1, p2, ?_, fun _ _ hq => hq.keep p4 p2.mono, p5⟩
      refine tupV_rel (by rw [rens_length]; exact k4) (fun j u hj => ?_)
      rw [rens_get] at hj
      obtain ⟨u0, hu0, rfl⟩ := Option.map_eq_some_iff.1 hj
      exact (k7 j u0 hu0).back p3
    · simp at hT
  · simp at hok
end Go.Ev
