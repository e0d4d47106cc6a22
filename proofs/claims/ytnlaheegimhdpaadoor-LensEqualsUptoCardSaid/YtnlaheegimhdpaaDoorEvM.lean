/-
  Each operation of the abstract machine does what the model's operation does: make, append, bytes and strings.
-/
import Derived.Test.YtnlaheegimhdpaaDoorEvL
import Derived.Lib.ConvBytes
import Derived.Laws.BytesString
import Derived.Laws.MakeOwn
set_option linter.all false
namespace Go.Ev
variable {E : Env} {P : Program} {T : Nat → AFn} {S S' : Stab} {pl pl' : Pl} {St St' : Ev.St} {F : Fr} {a : Act} {w w' : World}

/-- An array comes to be, or becomes another. -/
theorem arr_post {i u b cap : Nat} {l : L} {o : Obj} {c' : C} {v' : Value} (hs : Sim P T S pl St w) (hob : St[i]? = some o) (hkind : o = .fresh ∨ ∃ v0 c0, o = .arr v0 l c0 ∧ v0 < u)
    (hw : w'.os = w.os ∧ w'.tape = w.tape ∧ w'.output = w.output) (hsz : w.heap.size ≤ w'.heap.size)
    (hold : ∀ k, k < w.heap.size → (o.has = true → k ≠ pl.blk i) → w'.heap[k]? = w.heap[k]?)
    (hb : (o.has = true ∧ b = pl.blk i) ∨ w.heap.size ≤ b)
    (hobj : ObjIs P T S (pl.at i b cap) (St.set i (.arr u l c')) w' i (.arr u l c'))
    (hv : (c' = .nils ∧ v' = .slice none 0 0) ∨ ∃ rows, c' = .sl rows ∧ v' = .slice (some ⟨b, 0, none⟩) rows.length cap) :
    OpPost P T S pl St w (St.set i (.arr u l c')) (.whole i u) v' w' := by
  have hlt : i < St.length := (List.getElem?_eq_some_iff.1 hob).1
  have hk : Keeps pl St (pl.at i b cap) (St.set i (.arr u l c')) := by
    intro id o1 h hf
    by_cases hne : id = i
    · subst hne
      rw [hob] at h; obtain rfl := Option.some.inj h
      refine ⟨.arr u l c', List.getElem?_set_self hlt, by simp, fun l row e => (by cases e), fun c vs e => (by cases e), fun v l' c e => ?_, fun _ _ _ _ e => (by cases e), fun _ _ _ e => (by cases e)⟩
      cases e
      rcases hkind with h | ⟨v0, c0, rfl, hv0⟩
      · exact absurd h hf
      · exact ⟨v0, c0, rfl, Nat.le_of_lt hv0, fun e => by omega⟩
    · exact ⟨o1, by rw [List.getElem?_set_ne (Ne.symm hne)]; exact h, hf, Keeps.same (pl.at_ne i _ _ id hne).1 (pl.at_ne i _ _ id hne).2⟩
  refine ⟨S, pl.at i b cap, ?_, ⟨hw.1, hw.2.1, hw.2.2, hsz, fun k hk hn => hold k hk (fun ho e => hn ⟨i, o, hob, ho, e.symm⟩), S.le_refl, fun _ _ _ _ => rfl⟩, ?_, fun _ _ h => h.keep hk S.le_refl, ?_⟩
  · refine hs.upd hlt hk S.le_refl (pl.at_ne i _ _) (fun j o1 hj h ho => hold _ (hs.blk_lt h ho) (fun ho' e => hj (hs.inj j i _ _ h hob ho ho' e))) (fun b o1 v h => ?_) hobj (fun _ off _ => ?_) (fun j o _ h ho => hs.apart j o h ho) (fun _ j o1 hj h ho => ?_)
    · rw [World.cell?_of_block (w := w) (w' := w') (hold b (hs.stab_lt h) (fun ho e => by have := hs.apart i o hob ho o1 (by rcases hkind with rfl | ⟨v0, c0, rfl, _⟩ <;> exact Nat.zero_le _); rw [← e, h] at this; cases this))]; exact hs.stab _ _ _ h
    · rw [Pl.at_blk]
      rcases hb with ⟨ho, rfl⟩ | hb
      · exact hs.apart i o hob ho off (by rcases hkind with rfl | ⟨v0, c0, rfl, _⟩ <;> exact Nat.zero_le _)
      · cases hS : S b off with
        | none => rfl
        | some v => exact absurd (hs.stab_lt hS) (by omega)
    · rw [Pl.at_blk]
      rcases hb with ⟨ho', rfl⟩ | hb
      · exact fun e => hj (hs.inj j i _ _ h hob ho ho' e)
      · have := hs.blk_lt h ho; omega
  · rcases hv with ⟨rfl, rfl⟩ | ⟨rows, rfl, rfl⟩
    · exact .whole_nil (List.getElem?_set_self hlt)
    · have := RelV.whole_sl (P := P) (T := T) (S := S) (pl := pl.at i b cap) (St := St.set i (.arr u l (.sl rows))) (List.getElem?_set_self hlt)
      rw [Pl.at_blk, Pl.at_cap] at this; exact this
  · rintro b' ⟨id, o1, h, ho, hb'⟩
    by_cases hid : id = i
    · subst hid; rw [Pl.at_blk] at hb'; subst hb'
      rcases hb with ⟨ho', rfl⟩ | hb
      · exact .inl ⟨id, o, hob, ho', rfl⟩
      · exact .inr hb
    · rw [List.getElem?_set_ne (Ne.symm hid)] at h
      rw [(pl.at_ne i _ _ id hid).1] at hb'
      exact .inl ⟨id, o1, h, ho, hb'⟩

/-! ### Rows in a row -/
theorem cut_app {A : Type} (xs t : List A) (o n : Nat) (h : o + n ≤ xs.length) : ((xs ++ t).drop o).take n = (xs.drop o).take n := by
  rw [List.drop_append_of_le_length (by omega), List.take_append_of_le_length (by simp; omega)]
theorem RepRows.more {l : L} {xs t : List Value} {r : List Row} (h : RepRows P T S l xs r) : RepRows P T S l (xs ++ t) r := by
  refine ⟨by have := h.len; simp; omega, fun i row hi => ?_⟩
  have hi' := (List.getElem?_eq_some_iff.1 hi).1
  have hle := Nat.mul_le_mul_right l.n (show i + 1 ≤ r.length from hi')
  have hexp : (i + 1) * l.n = i * l.n + l.n := Nat.succ_mul _ _
  have hlen := h.len
  rw [cut_app _ _ _ _ (by omega)]; exact h.row i row hi
theorem RepRows.take {l : L} {xs : List Value} {r : List Row} (h : RepRows P T S l xs r) : RepRows P T S l (xs.take (r.length * l.n)) r := by
  have hlen := h.len
  refine ⟨by simp; omega, fun i row hi => ?_⟩
  have hi' := (List.getElem?_eq_some_iff.1 hi).1
  have hle := Nat.mul_le_mul_right l.n (show i + 1 ≤ r.length from hi')
  have hexp : (i + 1) * l.n = i * l.n + l.n := Nat.succ_mul _ _
  have := h.row i row hi
  rw [← List.take_append_drop (r.length * l.n) xs, cut_app _ _ _ _ (by simp; omega)] at this
  exact this
theorem RepRows.app {l : L} {xs ys : List Value} {r1 r2 : List Row} (h1 : RepRows P T S l xs r1) (hx : xs.length = r1.length * l.n) (h2 : RepRows P T S l ys r2) : RepRows P T S l (xs ++ ys) (r1 ++ r2) := by
  refine ⟨by have := h2.len; simp [Nat.add_mul]; omega, fun i row hi => ?_⟩
  by_cases hi1 : i < r1.length
  · rw [List.getElem?_append_left hi1] at hi
    exact h1.more.row i row hi
  · have hge : r1.length ≤ i := by omega
    rw [List.getElem?_append_right hge] at hi
    have e : i * l.n = xs.length + (i - r1.length) * l.n := by
      rw [hx, ← Nat.add_mul]; congr 1; omega
    rw [e, ← List.drop_drop, List.drop_left]
    exact h2.row _ row hi

/-- The cells of a slice that is data. -/
theorem news_of_sl {l : L} {rows : List Row} {ad : Addr} {f : Nat → Nat → Value} (hs : Sim P T S pl St w) (hn : 0 < l.n) (h3 : ∀ r ∈ rows, r.length = l.n) (h4 : rows.length ≠ 0 → ad.spot = none)
    (h5 : ∀ i j, i < rows.length → j < l.n → S ad.block (ad.off + i * l.n + j) = some (f i j))
    (h6 : ∀ i j k, i < rows.length → l.ks[j]? = some k → Rep P T S k (f i j) (at_ (rowsAt rows i) j)) :
    ∃ news : List Value, news.length = rows.length * l.n ∧ RepRows P T S l news rows ∧ (∀ j u, news[j]? = some u → w.cell? (ad.add j) = some u) ∧ ∀ u ∈ news, u.oneCell' = true := by
  have hd : ∀ i j, j < l.n → (i * l.n + j) / l.n = i ∧ (i * l.n + j) % l.n = j := fun i j hj => by
    constructor
    · rw [Nat.mul_comm, Nat.mul_add_div hn, Nat.div_eq_of_lt hj, Nat.add_zero]
    · rw [Nat.mul_comm, Nat.mul_add_mod, Nat.mod_eq_of_lt hj]
  have hq : ∀ q, q < rows.length * l.n → q / l.n < rows.length ∧ q % l.n < l.n := fun q hq => ⟨Nat.div_lt_of_lt_mul (by rw [Nat.mul_comm]; exact hq), Nat.mod_lt _ hn⟩
  refine ⟨(List.range (rows.length * l.n)).map fun q => f (q / l.n) (q % l.n), by simp, ⟨by simp, fun i r hi => ?_⟩, fun j u hj => ?_, fun u hu => ?_⟩
  · have hi' := (List.getElem?_eq_some_iff.1 hi).1
    have hr : rowsAt rows i = r := by simp [rowsAt, List.getD_eq_getElem?_getD, hi]
    have hle := Nat.mul_le_mul_right l.n (show i + 1 ≤ rows.length from hi')
    have hexp : (i + 1) * l.n = i * l.n + l.n := Nat.succ_mul _ _
    refine ⟨by simp [L.n] at hle hexp ⊢; omega, by rw [h3 r (List.mem_of_getElem? hi)]; rfl, fun j k hk => ?_⟩
    have hj : j < l.n := (List.getElem?_eq_some_iff.1 hk).1
    have := h6 i j k hi' hk
    rw [hr] at this
    have e : ((((List.range (rows.length * l.n)).map fun q => f (q / l.n) (q % l.n)).drop (i * l.n)).take l.n).getD j undef = f i j := by
      have h1 : i * l.n + j < rows.length * l.n := by omega
      simp [List.getD_eq_getElem?_getD, hj, List.getElem?_range h1, (hd i j hj).1, (hd i j hj).2]
    rw [e]; exact this
  · have hjl : j < rows.length * l.n := by have := (List.getElem?_eq_some_iff.1 hj).1; simpa using this
    simp [List.getElem?_range hjl] at hj
    have := hs.stab _ _ _ (h5 (j / l.n) (j % l.n) (hq j hjl).1 (hq j hjl).2)
    rw [hj] at this
    have hz : rows.length ≠ 0 := fun e => by rw [e] at hjl; omega
    rw [add_eq ad (h4 hz)]
    rw [← this]
    congr 2
    have := Nat.div_add_mod j l.n
    rw [Nat.mul_comm] at this
    omega
  · simp only [List.mem_map, List.mem_range] at hu
    obtain ⟨q, hql, rfl⟩ := hu
    have := hq q hql
    obtain ⟨k, hk⟩ : ∃ k, l.ks[q % l.n]? = some k := ⟨_, List.getElem?_eq_getElem (show q % l.n < l.ks.length from this.2)⟩
    exact (h6 _ _ k this.1 hk).not_agg.1

theorem run_append_none {t ty e : TypeId} {i : TypeInfo} (ht : P.underlying t = some (.slice e)) (hi : P.info? e = some i) (base : Option Addr) (n cap : Nat) (hle : n ≤ cap) (q : Option Addr) (c' : Nat) (w : World) :
    (Builtin.append_ #[t, t] ty #[.slice base n cap, .slice q 0 c']).run P w = .ok (.slice base n cap) w := by
  cases base <;> cases q <;> simp [Builtin.append_, run_underlying ht, sizeOf, typeInfo, hi, Builtin.lenOf, Builtin.firstCells, loadCells, loadCellsFrom, hle, storeCells]

def appB (P : Program) (t e : TypeId) (l : L) (bytes : Nat) : Bool :=
  elemB P t e l && Nat.blt 0 l.n && Nat.blt 0 bytes &&
  (match P.info? e with | some i => Nat.beq i.bytes bytes && (match i.zero with | some zv => Nat.beq zv.cells.size l.n | none => false) | none => false)
theorem appB_sound {t e : TypeId} {l : L} {bytes : Nat} (h : appB P t e l bytes = true) : P.underlying t = some (.slice e) ∧ Lay P e l ∧ 0 < l.n ∧ 0 < bytes ∧ ∃ i zv, P.info? e = some i ∧ i.bytes = bytes ∧ i.zero = some zv ∧ zv.cells.size = l.n ∧ i.size = l.n := by
  simp only [appB, Bool.and_eq_true] at h
  obtain ⟨⟨⟨h1, h2⟩, h3⟩, h4⟩ := h
  obtain ⟨hu, hL⟩ := elemB_sound h1
  split at h4
  · rename_i i hi
    simp only [Bool.and_eq_true] at h4
    split at h4
    · rename_i zv hz
      obtain ⟨i', hi', hsz⟩ := hL.2
      rw [hi] at hi'; obtain rfl := Option.some.inj hi'
      exact ⟨hu, hL, by simpa using h2, by simpa using h3, i, zv, hi, Nat.eq_of_beq_eq_true h4.1, hz, Nat.eq_of_beq_eq_true h4.2, hsz⟩
    · simp at h4
  · simp at h4

theorem append_room (w : World) (t ty e e2 : TypeId) (i : TypeInfo) (ht : P.underlying t = some (.slice e)) (hi : P.info? e = some i)
    (g sLen sCap : Nat) (cur : Array Value) (hg : w.heap[g]? = some (.cells cur e2 (0, 0)))
    (a : Addr) (m c : Nat) (news : List Value) (hl : news.length = m * i.size) (hnews : ∀ j u, news[j]? = some u → w.cell? (a.add j) = some u) (h1 : ∀ u ∈ news, u.oneCell' = true)
    (hroom : sLen + m ≤ sCap) (hfit : sLen * i.size + news.length ≤ cur.size) :
    (Builtin.append_ #[t, t] ty #[.slice (some ⟨g, 0, none⟩) sLen sCap, .slice (some a) m c]).run P w =
      .ok (.slice (some ⟨g, 0, none⟩) (sLen + m) sCap) (w.setRow g (cur.toList.take (sLen * i.size) ++ news ++ cur.toList.drop (sLen * i.size + news.length)).toArray) := by
  have hf := run_firstCells_some (P := P) w i.size m a m c news hl hnews
  have hst := run_storeCells_at P g (sLen * i.size) e2 news 0 cur w hg (by simpa using hfit) h1
  simp only [Nat.add_zero] at hst
  simp [Builtin.append_, run_underlying ht, sizeOf, typeInfo, hi, Builtin.lenOf, hroom, hf, Addr.add_lit, hst]

/-- append, to an array of one's own or to nil. -/
theorem app_run {t ty e : TypeId} {l : L} {bytes : Nat} (hB : appB P t e l bytes = true) (hs : Sim P T S pl St w) {i u : Nat} {ob : Obj} {c : C} {v0 : Value} (hob : St[i]? = some ob)
    (hkind : (ob = .fresh ∧ c = .nils) ∨ ∃ v1, ob = .arr v1 l c ∧ v1 < u)
    (hv0 : (c = .nils ∧ v0 = .slice none 0 0) ∨ ∃ rows, c = .sl rows ∧ v0 = .slice (some ⟨pl.blk i, 0, none⟩) rows.length (pl.cap i))
    (q : Option Addr) (m c2 : Nat) (news : List Value) (nrows : List Row) (hnr : nrows.length = m) (hq : m ≠ 0 → ∃ ad, q = some ad ∧ news.length = m * l.n ∧ RepRows P T S l news nrows ∧ (∀ j u, news[j]? = some u → w.cell? (ad.add j) = some u) ∧ ∀ u ∈ news, u.oneCell' = true)
    (hlim : (c.rows.length + m) * bytes ≤ 140737488355328) :
    ∃ v' w', (Builtin.append_ #[t, t] ty #[v0, .slice q m c2]).run P w = .ok v' w' ∧ OpPost P T S pl St w (St.set i (.arr u l (appC c nrows))) (.whole i u) v' w' := by
  obtain ⟨hu, hL, hn, hby, inf, zv, hi, hib, hz, hzs, hsz⟩ := appB_sound hB
  have hkind' : ob = .fresh ∨ ∃ v1 c1, ob = .arr v1 l c1 ∧ v1 < u := by
    rcases hkind with ⟨h, _⟩ | ⟨v1, h, hlt⟩
    · exact .inl h
    · exact .inr ⟨v1, c, h, hlt⟩
  have hmax : c.rows.length + m ≤ 140737488355328 := Nat.le_trans (Nat.le_mul_of_pos_right _ hby) hlim
  have hthree : ((c.rows.length + m : Nat) : Int) ≤ 9223372036854775807 := by omega
  -- a new block
  have grown : ∀ (old : Nat) (olds : List Value), olds.length = c.rows.length * l.n → RepRows P T S l olds c.rows → old < c.rows.length + m → m ≠ 0 →
      OpPost P T S pl St w (St.set i (.arr u l (.sl (c.rows ++ nrows)))) (.whole i u) (.slice (some ⟨w.heap.size, 0, none⟩) (c.rows.length + m) (grownCap w (c.rows.length + m) old e))
        (w.drew.alloc (.cells (olds.toArray ++ news.toArray ++ Builtin.zeroCells zv.cells (grownCap w (c.rows.length + m) old e - (c.rows.length + m))) e)) := by
    intro old olds hol hor ho hm
    obtain ⟨ad, _, hnl, hnr', _, _⟩ := hq hm
    have hge := grownCap_ge w (c.rows.length + m) old e
    have hcm : grownCap w (c.rows.length + m) old e ≤ maxLen := grownCap_le_maxLen w _ old e (by simp [maxLen]; omega)
    refine arr_post (b := w.heap.size) (cap := grownCap w (c.rows.length + m) old e) hs hob hkind' ⟨rfl, rfl, rfl⟩ (by simp) (fun k hk _ => by have := heap_alloc_old w.drew (.cells (olds.toArray ++ news.toArray ++ Builtin.zeroCells zv.cells (grownCap w (c.rows.length + m) old e - (c.rows.length + m))) e) hk; exact this) (.inr (Nat.le_refl _)) ?_ (.inr ⟨_, rfl, by simp [hnr]⟩)
    refine .inr ⟨_, _, e, inf, rfl, by rw [Pl.at_blk]; exact heap_alloc_new w.drew _, hL, hi, hn, by rw [Pl.at_cap]; simp [hnr, hge], by rw [Pl.at_cap]; exact hcm, ?_, fun j r hj => ?_⟩
    · rw [Pl.at_cap]
      simp only [Array.size_append, List.size_toArray, size_zeroCells, hzs, hol, hnl, ← Nat.add_mul]
      congr 1; omega
    · have := (hor.app hol hnr').more (t := (Builtin.zeroCells zv.cells (grownCap w (c.rows.length + m) old e - (c.rows.length + m))).toList)
      have := this.row j r hj
      simpa using this
  by_cases hm : m = 0
  · subst hm
    have hnil : nrows = [] := List.eq_nil_of_length_eq_zero hnr
    subst hnil
    rcases hv0 with ⟨rfl, rfl⟩ | ⟨rows, rfl, rfl⟩
    · refine ⟨_, _, run_append_none hu hi none 0 0 (Nat.le_refl _) q c2 w, ?_⟩
      exact arr_post (b := w.heap.size) (cap := 0) hs hob hkind' ⟨rfl, rfl, rfl⟩ (Nat.le_refl _) (fun _ _ _ => rfl) (.inr (Nat.le_refl _)) (.inl rfl) (.inl ⟨rfl, rfl⟩)
    · obtain ⟨v1, rfl, hlt⟩ : ∃ v1, ob = .arr v1 l (.sl rows) ∧ v1 < u := by
        rcases hkind with ⟨_, h⟩ | h
        · cases h
        · exact h
      rcases hs.objs _ _ hob with hqq | ⟨rows', cur, e2, i2, hqq, hh, q1, q2, q3, q4, q5, q6, q7⟩
      · simp at hqq
      · simp at hqq; subst hqq
        refine ⟨_, _, run_append_none hu hi _ _ _ q4 q c2 w, ?_⟩
        have happ : appC (.sl rows) [] = .sl rows := by simp [appC, C.rows]
        rw [happ]
        refine arr_post (b := pl.blk i) (cap := pl.cap i) hs hob hkind' ⟨rfl, rfl, rfl⟩ (Nat.le_refl _) (fun _ _ _ => rfl) (.inl ⟨rfl, rfl⟩) ?_ (.inr ⟨_, rfl, rfl⟩)
        exact .inr ⟨rows, cur, e2, i2, rfl, by rw [Pl.at_blk]; exact hh, q1, q2, q3, by rw [Pl.at_cap]; exact q4, by rw [Pl.at_cap]; exact q5, by rw [Pl.at_cap]; exact q6, q7⟩
  · obtain ⟨ad, rfl, hnl, hnr', hcells, hone⟩ := hq hm
    have happ : appC c nrows = .sl (c.rows ++ nrows) := by
      cases nrows with
      | nil => exact absurd hnr.symm hm
      | cons r rs => cases c <;> rfl
    rw [happ]
    rcases hv0 with ⟨rfl, rfl⟩ | ⟨rows, rfl, rfl⟩
    · have hr := run_append_nil (P := P) w t ty e inf zv hu hi hz ad m c2 news (by rw [hsz]; exact hnl) hcells (by omega) (by simp [C.rows] at hthree; omega) (by rw [hib]; simp [C.rows] at hlim; omega)
      have := grown 0 [] (by simp [C.rows]) ⟨by simp [C.rows], fun j r hj => by simp [C.rows] at hj⟩ (by simp [C.rows]; omega) hm
      simp only [C.rows, List.length_nil, Nat.zero_add, Array.empty_append] at this
      exact ⟨_, _, hr, this⟩
    · obtain ⟨v1, rfl, hlt⟩ : ∃ v1, ob = .arr v1 l (.sl rows) ∧ v1 < u := by
        rcases hkind with ⟨_, h⟩ | h
        · cases h
        · exact h
      rcases hs.objs _ _ hob with hqq | ⟨rows', cur, e2, i2, hqq, hh, q1, q2, q3, q4, q5, q6, q7⟩
      · simp at hqq
      · simp at hqq; subst hqq
        have hrr : RepRows P T S l cur.toList rows := ⟨by rw [show cur.toList.length = cur.size from Array.length_toList, q6]; exact Nat.mul_le_mul_right _ q4, q7⟩
        have htl : (cur.toList.take (rows.length * l.n)).length = rows.length * l.n := by
          have := hrr.len; rw [List.length_take]; omega
        by_cases hroom : rows.length + m ≤ pl.cap i
        · have hfit : rows.length * inf.size + news.length ≤ cur.size := by rw [hnl, hsz, q6, ← Nat.add_mul]; exact Nat.mul_le_mul_right _ hroom
          have hr := append_room (P := P) w t ty e e2 inf hu hi (pl.blk i) rows.length (pl.cap i) cur hh ad m c2 news (by rw [hsz]; exact hnl) hcells hone hroom hfit
          refine ⟨_, _, hr, ?_⟩
          refine arr_post (b := pl.blk i) (cap := pl.cap i) hs hob hkind' ⟨rfl, rfl, rfl⟩ (by simp) (fun k hk hne => setRow_other w _ k _ (hne rfl)) (.inl ⟨rfl, rfl⟩) ?_ (.inr ⟨_, rfl, by simp [hnr, C.rows]⟩)
          refine .inr ⟨_, _, e2, i2, rfl, by rw [Pl.at_blk]; exact setRow_heap w _ cur _ e2 _ hh, q1, q2, hn, by rw [Pl.at_cap]; simp [hnr, C.rows, hroom], by rw [Pl.at_cap]; exact q5, ?_, fun j r hj => ?_⟩
          · rw [Pl.at_cap]
            rw [hsz] at hfit
            simp only [List.size_toArray, List.length_append, List.length_take, List.length_drop, Array.length_toList, hsz]
            rw [← q6]; omega
          · have := ((hrr.take.app htl hnr').more (t := cur.toList.drop (rows.length * inf.size + news.length))).row j r hj
            simpa [hsz] using this
        · have hcellO : ∀ j v, (cur.toList.take (rows.length * l.n))[j]? = some v → w.cell? ((⟨pl.blk i, 0, none⟩ : Addr).add j) = some v := by
            intro j v hj
            rw [add_eq _ rfl, cell_of_row w _ _ _ _ _ hh]
            rw [List.getElem?_take] at hj
            split at hj
            · simpa using hj
            · cases hj
          have hr := run_append_grow (P := P) w t ty e inf zv hu hi hz ⟨pl.blk i, 0, none⟩ rows.length (pl.cap i) (cur.toList.take (rows.length * l.n)) (by rw [hsz]; exact htl) hcellO ad m c2 news (by rw [hsz]; exact hnl) hcells (by omega) (by simpa [C.rows] using hthree)
            (growslice_fits (by omega) (by rw [hib]; simpa [C.rows] using hlim))
          exact ⟨_, _, hr, grown (pl.cap i) _ htl hrr.take (by simp [C.rows]; omega) hm⟩
end Go.Ev
