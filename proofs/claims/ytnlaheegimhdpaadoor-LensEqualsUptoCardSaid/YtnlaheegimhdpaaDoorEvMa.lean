/-
  Stable arrays: what is appended to them, and that their cells are never written again.
-/
import Derived.Test.YtnlaheegimhdpaaDoorEvN
import Derived.Deep.AppendSrc
set_option linter.all false
namespace Go.Ev
variable {E : Env} {P : Program} {T : Nat → AFn} {S S' : Stab} {pl pl' : Pl} {St St' : Ev.St} {F : Fr} {a : Act} {w w' : World}

theorem RelV.sw_nil {id ver : Nat} {e : TypeId} {l : L} (h : St[id]? = some (.sarr ver e l .nils)) : RelV P T S pl St (.sw id ver) (.slice none 0 0) :=
  .sw rfl h (by simp) (fun v e l c q => by simp at q; omega) (fun e l q => rfl) (fun e l rows q => by simp at q)
theorem RelV.sw_sl {id ver : Nat} {e : TypeId} {l : L} {rows : List Row} (h : St[id]? = some (.sarr ver e l (.sl rows))) : RelV P T S pl St (.sw id ver) (.slice (some ⟨pl.blk id, 0, none⟩) rows.length (pl.cap id)) :=
  .sw rfl h (by simp) (fun v e l c q => by simp at q; omega) (fun e l q => by simp at q) (fun e l rows q => by simp at q; rw [q.2.2])
theorem RelV.of_sw {id ver : Nat} {e : TypeId} {l : L} {c : C} {v : Value} (h : RelV P T S pl St (.sw id ver) v) (ho : St[id]? = some (.sarr ver e l c)) :
    (c = .nils → v = .slice none 0 0) ∧ ∀ rows, c = .sl rows → v = .slice (some ⟨pl.blk id, 0, none⟩) rows.length (pl.cap id) := by
  cases h with
  | sw h0 h1 h2 hv h3 h4 =>
    rw [ho] at h1; obtain rfl := Option.some.inj h1
    exact ⟨fun e => by subst e; exact h3 _ _ rfl, fun rows e => by subst e; exact h4 _ _ _ rfl⟩

/-- A stable array comes to be, or becomes longer. -/
theorem sarr_post {i u b cap : Nat} {e : TypeId} {l : L} {o : Obj} {c' : C} {v' : Value} (hs : Sim P T S pl St w) (hob : St[i]? = some o) (hkind : o = .fresh ∨ ∃ v0 c0, o = .sarr v0 e l c0 ∧ v0 < u)
    (hw : w'.os = w.os ∧ w'.tape = w.tape ∧ w'.output = w.output) (hsz : w.heap.size ≤ w'.heap.size)
    (hplace : (o.has = true ∧ b = pl.blk i ∧ (∀ k, k < w.heap.size → k ≠ b → w'.heap[k]? = w.heap[k]?) ∧ (∀ p, p < o.sn → w'.cell? ⟨b, p, none⟩ = w.cell? ⟨b, p, none⟩) ∧ o.sn ≤ (Obj.sarr u e l c').sn) ∨
      (w.heap.size ≤ b ∧ ∀ k, k < w.heap.size → w'.heap[k]? = w.heap[k]?))
    (hobj : c' = .nils ∨ ∃ rows cur e' inf, c' = .sl rows ∧ w'.heap[b]? = some (.cells cur e' (0, 0)) ∧ Lay P e l ∧ P.info? e = some inf ∧ 0 < l.n ∧ rows.length ≤ cap ∧ cap ≤ maxLen ∧ cur.size = cap * l.n ∧ RepRows P T S l cur.toList rows)
    (hv : (c' = .nils ∧ v' = .slice none 0 0) ∨ ∃ rows, c' = .sl rows ∧ v' = .slice (some ⟨b, 0, none⟩) rows.length cap) :
    OpPost P T S pl St w (St.set i (.sarr u e l c')) (.sw i u) v' w' := by
  have hlt : i < St.length := (List.getElem?_eq_some_iff.1 hob).1
  have hk : Keeps pl St (pl.at i b cap) (St.set i (.sarr u e l c')) := by
    intro id o1 h hf
    by_cases hne : id = i
    · subst hne
      rw [hob] at h; obtain rfl := Option.some.inj h
      refine ⟨.sarr u e l c', List.getElem?_set_self hlt, by simp, fun l row e => (by cases e), fun c vs e => (by cases e), fun v l' c e => (by cases e), fun v e1 l' c q => ?_, fun _ _ _ e => (by cases e)⟩
      cases q
      rcases hkind with h | ⟨v0, c0, rfl, hv0⟩
      · exact absurd h hf
      · exact ⟨v0, c0, rfl, Nat.le_of_lt hv0, fun e => by omega⟩
    · exact ⟨o1, by rw [List.getElem?_set_ne (Ne.symm hne)]; exact h, hf, Keeps.same (pl.at_ne i _ _ id hne).1 (pl.at_ne i _ _ id hne).2⟩
  have hrel : ∀ S', RelV P T S' (pl.at i b cap) (St.set i (.sarr u e l c')) (.sw i u) v' := by
    intro S'
    rcases hv with ⟨rfl, rfl⟩ | ⟨rows, rfl, rfl⟩
    · exact .sw_nil (List.getElem?_set_self hlt)
    · have := RelV.sw_sl (P := P) (T := T) (S := S') (pl := pl.at i b cap) (St := St.set i (.sarr u e l (.sl rows))) (List.getElem?_set_self hlt)
      rw [Pl.at_blk, Pl.at_cap] at this; exact this
  -- what is known of old blocks
  have hold : ∀ k, k < w.heap.size → (o.has = true → k ≠ pl.blk i) → w'.heap[k]? = w.heap[k]? := by
    intro k hk hne
    rcases hplace with ⟨h1, h2, h3, _⟩ | ⟨_, h⟩
    · exact h3 k hk (by rw [h2]; exact hne h1)
    · exact h k hk
  have hcell : ∀ b' off v, S b' off = some v → w'.cell? ⟨b', off, none⟩ = some v := by
    intro b' off v h
    have hb' := hs.stab_lt h
    rcases hplace with ⟨h1, h2, h3, h4, _⟩ | ⟨_, h3⟩
    · by_cases e : b' = b
      · subst e
        have hoff : off < o.sn := by
          rcases Nat.lt_or_ge off o.sn with q | q
          · exact q
          · have := hs.apart i o hob h1 off q; rw [← h2, h] at this; cases this
        rw [h4 off hoff]; exact hs.stab _ _ _ h
      · rw [World.cell?_of_block (w := w) (w' := w') (h3 b' hb' e)]; exact hs.stab _ _ _ h
    · rw [World.cell?_of_block (w := w) (w' := w') (h3 b' hb')]; exact hs.stab _ _ _ h
  have hother : ∀ j o1, j ≠ i → St[j]? = some o1 → o1.has = true → pl.blk j ≠ b := by
    intro j o1 hj h ho
    rcases hplace with ⟨ho', rfl, _⟩ | ⟨hb, _⟩
    · exact fun e => hj (hs.inj j i _ _ h hob ho ho' e)
    · have := hs.blk_lt h ho; omega
  have howns : ∀ b', Owns (pl.at i b cap) (St.set i (.sarr u e l c')) b' → Owns pl St b' ∨ w.heap.size ≤ b' := by
    rintro b' ⟨id, o1, h, ho, hb'⟩
    by_cases hid : id = i
    · subst hid; rw [Pl.at_blk] at hb'; subst hb'
      rcases hplace with ⟨ho', rfl, _⟩ | ⟨hb, _⟩
      · exact .inl ⟨id, o, hob, ho', rfl⟩
      · exact .inr hb
    · rw [List.getElem?_set_ne (Ne.symm hid)] at h
      rw [(pl.at_ne i _ _ id hid).1] at hb'
      exact .inl ⟨id, o1, h, ho, hb'⟩
  have hgrow : ∀ S', S.le S' → (∀ b' off, b' ≠ b → S' b' off = S b' off) → Grow (Owns pl St) S w S' w' := by
    intro S' hle hS
    refine ⟨hw.1, hw.2.1, hw.2.2, hsz, fun k hk hn => hold k hk (fun ho e => hn ⟨i, o, hob, ho, e.symm⟩), hle, fun b' off hb' hn => hS b' off (fun e => ?_)⟩
    subst e
    rcases hplace with ⟨h1, h2, _⟩ | ⟨h, _⟩
    · exact hn ⟨i, o, hob, h1, h2.symm⟩
    · omega
  rcases hobj with rfl | ⟨rows, cur, e', inf, rfl, hh, hL, hinf, hn, hcap, hmax, hcs, hrr⟩
  · refine ⟨S, pl.at i b cap, ?_, hgrow S S.le_refl (fun _ _ _ => rfl), hrel S, fun _ _ h => h.keep hk S.le_refl, howns⟩
    exact hs.upd hlt hk S.le_refl (pl.at_ne i _ _) (fun j o1 hj h ho => hold _ (hs.blk_lt h ho) (fun ho' e => hj (hs.inj j i _ _ h hob ho ho' e))) hcell (.inl rfl) (fun h => by simp [Obj.has] at h) (fun j o _ h ho => hs.apart j o h ho) (fun h => by simp [Obj.has] at h)
  · have hlen := hrr.len
    have hle : S.le (S.more b (cur.toList.take (rows.length * l.n))) := by
      intro b' off v h
      simp only [Stab.more]
      split
      · rename_i e; subst e
        have hc := hcell _ _ _ h
        rw [cell_of_row w' _ _ _ _ _ hh] at hc
        rw [List.getElem?_take]
        have hoff : off < rows.length * l.n := by
          rcases hplace with ⟨h1, h2, h3, h4, h5⟩ | ⟨hb, _⟩
          · rcases Nat.lt_or_ge off o.sn with q | q
            · have : (Obj.sarr u e l (.sl rows)).sn = rows.length * l.n := rfl
              omega
            · have := hs.apart i o hob h1 off q; rw [← h2, h] at this; cases this
          · have := hs.stab_lt h; omega
        rw [if_pos hoff]; simpa using hc
      · exact h
    refine ⟨S.more b (cur.toList.take (rows.length * l.n)), pl.at i b cap, ?_, hgrow _ hle (fun b' off hb' => by simp [Stab.more, hb']), hrel _, fun _ _ h => h.keep hk hle, howns⟩
    refine hs.upd hlt hk hle (pl.at_ne i _ _) (fun j o1 hj h ho => hold _ (hs.blk_lt h ho) (fun ho' e => hj (hs.inj j i _ _ h hob ho ho' e))) (fun b' off v h => ?_) ?_ (fun _ off hoff => ?_) (fun j o1 hj h ho off hoff => ?_) (fun _ j o1 hj h ho => ?_)
    · simp only [Stab.more] at h
      split at h
      · rename_i e; subst e
        rw [cell_of_row w' _ _ _ _ _ hh]
        rw [List.getElem?_take] at h
        split at h
        · simpa using h
        · cases h
      · exact hcell _ _ _ h
    · refine .inr ⟨rows, cur, e', inf, rfl, by rw [Pl.at_blk]; exact hh, hL, hinf, hn, by rw [Pl.at_cap]; exact hcap, by rw [Pl.at_cap]; exact hmax, by rw [Pl.at_cap]; exact hcs, (hrr.mono hle).row, fun p hp => ?_⟩
      rw [Pl.at_blk]
      simp only [Stab.more, if_true]
      have : p < cur.toList.length := by omega
      rw [List.getElem?_take, if_pos hp]
      simp at this
      simp [this]
    · rw [Pl.at_blk]
      simp only [Stab.more, if_true]
      have : (Obj.sarr u e l (.sl rows)).sn = rows.length * l.n := rfl
      rw [List.getElem?_take, if_neg (by omega)]
    · simp only [Stab.more]
      rw [if_neg (hother j o1 hj h ho)]
      exact hs.apart j o1 h ho off hoff
    · rw [Pl.at_blk]; exact hother j o1 hj h ho

theorem append_room_src (w : World) (t tx ty e e2 : TypeId) (i : TypeInfo) (ht : P.underlying t = some (.slice e)) (hi : P.info? e = some i)
    (g sLen sCap : Nat) (cur : Array Value) (hg : w.heap[g]? = some (.cells cur e2 (0, 0)))
    (x : Value) (m : Nat) (news : List Value) (hs : Src P i.size tx x m news w)
    (hroom : sLen + m ≤ sCap) (hfit : sLen * i.size + news.length ≤ cur.size) :
    (Builtin.append_ #[t, tx] ty #[.slice (some ⟨g, 0, none⟩) sLen sCap, x]).run P w =
      .ok (.slice (some ⟨g, 0, none⟩) (sLen + m) sCap) (w.setRow g (cur.toList.take (sLen * i.size) ++ news ++ cur.toList.drop (sLen * i.size + news.length)).toArray) := by
  have hst := run_storeCells_at P g (sLen * i.size) e2 news 0 cur w hg (by simpa using hfit) hs.one
  simp only [Nat.add_zero] at hst
  rcases hs.kind with ⟨e', hk⟩ | hk <;> simp [Builtin.append_, run_underlying ht, run_underlying hk, sizeOf, typeInfo, hi, hs.len, hroom, hs.cells, Addr.add_lit, hst]
theorem append_none_src (w : World) {t tx ty e : TypeId} {i : TypeInfo} (ht : P.underlying t = some (.slice e)) (hi : P.info? e = some i) (base : Option Addr) (n cap : Nat) (hle : n ≤ cap) (x : Value) (hs : Src P i.size tx x 0 [] w) :
    (Builtin.append_ #[t, tx] ty #[.slice base n cap, x]).run P w = .ok (.slice base n cap) w := by
  rcases hs.kind with ⟨e', hk⟩ | hk <;> cases base <;> simp [Builtin.append_, run_underlying ht, run_underlying hk, sizeOf, typeInfo, hi, hs.len, hs.cells, hle, storeCells]

/-- append, to a stable array or to nil. -/
theorem sapp_run {t tx ty e : TypeId} {l : L} {bytes : Nat} (hB : appB P t e l bytes = true) (hs : Sim P T S pl St w) {i u : Nat} {ob : Obj} {c : C} {v0 : Value} (hob : St[i]? = some ob)
    (hkind : (ob = .fresh ∧ c = .nils) ∨ ∃ v1, ob = .sarr v1 e l c ∧ v1 < u)
    (hv0 : (c = .nils ∧ v0 = .slice none 0 0) ∨ ∃ rows, c = .sl rows ∧ v0 = .slice (some ⟨pl.blk i, 0, none⟩) rows.length (pl.cap i))
    (x : Value) (m : Nat) (news : List Value) (nrows : List Row) (hnr : nrows.length = m) (hq : Src P l.n tx x m news w) (hrn : RepRows P T S l news nrows)
    (hlim : (c.rows.length + m) * bytes ≤ 140737488355328) :
    ∃ v' w', (Builtin.append_ #[t, tx] ty #[v0, x]).run P w = .ok v' w' ∧ OpPost P T S pl St w (St.set i (.sarr u e l (appC c nrows))) (.sw i u) v' w' := by
  obtain ⟨hu, hL, hn, hby, inf, zv, hi, hib, hz, hzs, hsz⟩ := appB_sound hB
  have hq' : Src P inf.size tx x m news w := by rw [hsz]; exact hq
  have hkind' : ob = .fresh ∨ ∃ v1 c1, ob = .sarr v1 e l c1 ∧ v1 < u := by
    rcases hkind with ⟨h, _⟩ | ⟨v1, h, hlt⟩
    · exact .inl h
    · exact .inr ⟨v1, c, h, hlt⟩
  have hmax : c.rows.length + m ≤ 140737488355328 := Nat.le_trans (Nat.le_mul_of_pos_right _ hby) hlim
  have hthree : ((c.rows.length + m : Nat) : Int) ≤ 9223372036854775807 := by omega
  have hnl : news.length = m * l.n := hq.newsLen
  -- a new block
  have grown : ∀ (base : Option Addr) (old : Nat) (olds : List Value), (Builtin.firstCells inf.size c.rows.length (.slice base c.rows.length old)).run P w.drew = .ok olds.toArray w.drew →
      olds.length = c.rows.length * l.n → RepRows P T S l olds c.rows → old < c.rows.length + m → m ≠ 0 → Builtin.nextslicecap (c.rows.length + m) old * inf.bytes ≤ 281474976710656 →
      ∃ v' w', (Builtin.append_ #[t, tx] ty #[.slice base c.rows.length old, x]).run P w = .ok v' w' ∧ OpPost P T S pl St w (St.set i (.sarr u e l (.sl (c.rows ++ nrows)))) (.sw i u) v' w' := by
    intro base old olds hold hol hor ho hm hfit
    have hge := grownCap_ge w (c.rows.length + m) old e
    have hcm : grownCap w (c.rows.length + m) old e ≤ maxLen := grownCap_le_maxLen w _ old e (by simp [maxLen]; omega)
    refine ⟨_, _, run_append_grow_src w t tx ty e inf zv hu hi hz base c.rows.length old olds hold x m news hq' ho hthree hfit, ?_⟩
    refine sarr_post (b := w.heap.size) (cap := grownCap w (c.rows.length + m) old e) hs hob hkind' ⟨rfl, rfl, rfl⟩ (by simp) (.inr ⟨Nat.le_refl _, fun k hk => heap_alloc_old w.drew _ hk⟩) ?_ (.inr ⟨_, rfl, by simp [hnr]⟩)
    refine .inr ⟨_, _, e, inf, rfl, heap_alloc_new w.drew _, hL, hi, hn, by simp [hnr, hge], hcm, ?_, ?_⟩
    · simp only [Array.size_append, List.size_toArray, size_zeroCells, hzs, List.length_append, hol, hnl, ← Nat.add_mul]
      congr 1; omega
    · have := (hor.app hol hrn).more (t := (Builtin.zeroCells zv.cells (grownCap w (c.rows.length + m) old e - (c.rows.length + m))).toList)
      simpa using this
  by_cases hm : m = 0
  · subst hm
    have hnil : nrows = [] := List.eq_nil_of_length_eq_zero hnr
    subst hnil
    have hnn : news = [] := List.eq_nil_of_length_eq_zero (by rw [hnl]; simp)
    subst hnn
    rcases hv0 with ⟨rfl, rfl⟩ | ⟨rows, rfl, rfl⟩
    · refine ⟨_, _, append_none_src w hu hi none 0 0 (Nat.le_refl _) x hq', ?_⟩
      exact sarr_post (b := w.heap.size) (cap := 0) hs hob hkind' ⟨rfl, rfl, rfl⟩ (Nat.le_refl _) (.inr ⟨Nat.le_refl _, fun _ _ => rfl⟩) (.inl rfl) (.inl ⟨rfl, rfl⟩)
    · obtain ⟨v1, rfl, hlt⟩ : ∃ v1, ob = .sarr v1 e l (.sl rows) ∧ v1 < u := by
        rcases hkind with ⟨_, h⟩ | h
        · cases h
        · exact h
      rcases hs.objs _ _ hob with hqq | ⟨rows', cur, e2, i2, hqq, hh, q1, q2, q3, q4, q5, q6, q7, q8⟩
      · simp at hqq
      · simp at hqq; subst hqq
        refine ⟨_, _, append_none_src w hu hi _ _ _ q4 x hq', ?_⟩
        have happ : appC (.sl rows) [] = .sl rows := by simp [appC, C.rows]
        rw [happ]
        refine sarr_post (b := pl.blk i) (cap := pl.cap i) hs hob hkind' ⟨rfl, rfl, rfl⟩ (Nat.le_refl _) (.inl ⟨rfl, rfl, fun _ _ _ => rfl, fun _ _ => rfl, Nat.le_refl _⟩) ?_ (.inr ⟨_, rfl, rfl⟩)
        exact .inr ⟨rows, cur, e2, i2, rfl, hh, q1, q2, q3, q4, q5, q6, ⟨by rw [show cur.toList.length = cur.size from Array.length_toList, q6]; exact Nat.mul_le_mul_right _ q4, q7⟩⟩
  · have happ : appC c nrows = .sl (c.rows ++ nrows) := by
      cases nrows with
      | nil => exact absurd hnr.symm hm
      | cons r rs => cases c <;> rfl
    rw [happ]
    rcases hv0 with ⟨rfl, rfl⟩ | ⟨rows, rfl, rfl⟩
    · refine grown none 0 [] (run_firstCells_none w.drew _ _ _ _) (by simp [C.rows]) ⟨by simp [C.rows], fun j r hj => by simp [C.rows] at hj⟩ (by simp [C.rows]; omega) hm ?_
      have : (C.nils.rows.length + m) = m := by simp [C.rows]
      rw [this, nextslicecap_zero (by omega), hib]
      simp [C.rows] at hlim; omega
    · obtain ⟨v1, rfl, hlt⟩ : ∃ v1, ob = .sarr v1 e l (.sl rows) ∧ v1 < u := by
        rcases hkind with ⟨_, h⟩ | h
        · cases h
        · exact h
      rcases hs.objs _ _ hob with hqq | ⟨rows', cur, e2, i2, hqq, hh, q1, q2, q3, q4, q5, q6, q7, q8⟩
      · simp at hqq
      · simp at hqq; subst hqq
        have hrr : RepRows P T S l cur.toList rows := ⟨by rw [show cur.toList.length = cur.size from Array.length_toList, q6]; exact Nat.mul_le_mul_right _ q4, q7⟩
        have htl : (cur.toList.take (rows.length * l.n)).length = rows.length * l.n := by
          have := hrr.len; rw [List.length_take]; omega
        by_cases hroom : rows.length + m ≤ pl.cap i
        · have hfit : rows.length * inf.size + news.length ≤ cur.size := by rw [hnl, hsz, q6, ← Nat.add_mul]; exact Nat.mul_le_mul_right _ hroom
          have hr := append_room_src (P := P) (ty := ty) w t tx e e2 inf hu hi (pl.blk i) rows.length (pl.cap i) cur hh x m news hq' hroom hfit
          refine ⟨_, _, hr, ?_⟩
          have hnewh := setRow_heap w (pl.blk i) cur (cur.toList.take (rows.length * inf.size) ++ news ++ cur.toList.drop (rows.length * inf.size + news.length)).toArray e2 (0, 0) hh
          refine sarr_post (b := pl.blk i) (cap := pl.cap i) hs hob hkind' ⟨rfl, rfl, rfl⟩ (by simp) (.inl ⟨rfl, rfl, fun k hk hne => setRow_other w _ k _ hne, fun p hp => ?_, ?_⟩) ?_ (.inr ⟨_, rfl, by simp [hnr, C.rows]⟩)
          · rw [cell_of_row _ _ _ _ _ _ hnewh, cell_of_row w _ _ _ _ _ hh]
            have hp : p < rows.length * l.n := hp
            have hps : p < cur.toList.length := by have := hrr.len; omega
            have hps' : p < cur.size := by simpa using hps
            simp only [List.getElem?_toArray, hsz, List.append_assoc]
            rw [List.getElem?_append_left (by rw [htl]; exact hp), List.getElem?_take, if_pos hp]
            simp
          · show rows.length * l.n ≤ (rows ++ nrows).length * l.n
            exact Nat.mul_le_mul_right _ (by simp)
          · refine .inr ⟨_, _, e2, i2, rfl, hnewh, q1, q2, hn, by simp [hnr, C.rows, hroom], q5, ?_, ?_⟩
            · rw [hsz] at hfit
              simp only [List.size_toArray, List.length_append, List.length_take, List.length_drop, Array.length_toList, hsz]
              rw [← q6]; omega
            · have := ((hrr.take.app htl hrn).more (t := cur.toList.drop (rows.length * inf.size + news.length)))
              simpa [hsz, C.rows] using this
        · have hcellO : ∀ j v, (cur.toList.take (rows.length * l.n))[j]? = some v → w.drew.cell? ((⟨pl.blk i, 0, none⟩ : Addr).add j) = some v := by
            intro j v hj
            rw [add_eq _ rfl]
            have : w.drew.cell? ⟨pl.blk i, 0 + j, none⟩ = w.cell? ⟨pl.blk i, 0 + j, none⟩ := by simp
            rw [this, cell_of_row w _ _ _ _ _ hh]
            rw [List.getElem?_take] at hj
            split at hj
            · simpa using hj
            · cases hj
          exact grown (some ⟨pl.blk i, 0, none⟩) (pl.cap i) _ (run_firstCells_some (P := P) w.drew inf.size rows.length _ _ _ _ (by rw [hsz]; exact htl) hcellO) htl hrr.take (by simp [C.rows]; omega) hm
            (growslice_fits (by simp only [C.rows]; omega) (by rw [hib]; exact hlim))
end Go.Ev
