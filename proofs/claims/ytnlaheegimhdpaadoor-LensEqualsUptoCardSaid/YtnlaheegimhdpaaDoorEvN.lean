/-
  Each operation of the abstract machine does what the model's operation does: make, append, bytes and strings.
-/
import Derived.Test.YtnlaheegimhdpaaDoorEvM
set_option linter.all false
namespace Go.Ev
variable {E : Env} {P : Program} {T : Nat → AFn} {S S' : Stab} {pl pl' : Pl} {St St' : Ev.St} {F : Fr} {a : Act} {w w' : World}

theorem RepRows.ints {k : IntKind} {xs : List Value} {rows : List Row} (h : RepRows P T S (.one (.int k)) xs rows) (hl : xs.length = rows.length) : xs = rows.map fun r => .int k (at_ r 0).toI := by
  apply List.ext_getElem?
  intro i
  by_cases hi : i < rows.length
  · have hr := (h.row i _ (List.getElem?_eq_getElem hi)).cell 0 (.int k) rfl
    have e : ((xs.drop (i * (L.one (K.int k)).n)).take (L.one (K.int k)).n).getD 0 undef = xs[i]'(by omega) := by
      have hx : i < xs.length := by omega
      simp [L.n, L.ks, List.getD_eq_getElem?_getD, List.getElem?_eq_getElem hx]
    rw [e] at hr
    have hx : i < xs.length := by omega
    rw [List.getElem?_eq_getElem hx, List.getElem?_map, List.getElem?_eq_getElem hi, Option.map_some]
    generalize xs[i] = q at hr
    generalize at_ rows[i] 0 = c at hr ⊢
    cases hr; rfl
  · rw [List.getElem?_eq_none (by omega), List.getElem?_eq_none (by simp; omega)]

theorem heap_size_alloc (w : World) (o : Go.Obj) : (w.alloc o).heap.size = w.heap.size + 1 := by simp

section
variable {o : Oper} {x y c : Operand} {ax ay ac : Opd} {base : Nat}
variable (hs : Sim P T S pl St w) (hF : RelF P T S pl St F a.tmps)
include hs hF

theorem exec_append {t u : TypeId} (ho : o.op = .call { callee := .builtin .append, args := #[x, y], argTypes := #[t, u] }) {v' : Value} {w' : World}
    (h : (Builtin.append_ #[t, u] o.type #[a.eval x, a.eval y]).run P w = .ok v' w') : (execOp a.eval o).run P w = .ok (.value v') w' := by
  unfold execOp
  simp only [ho, resolve, invoke, builtin, Sem.run_bind, Sem.run_pure, Result.andThen_ok, List.map_toArray, List.map_cons, List.map_nil, h]

theorem s_app {t e : TypeId} {l : L} {id bytes : Nat} {ob : Obj} {av : AV} {no : Option Obj} (ho : o.op = .call { callee := .builtin .append, args := #[x, y], argTypes := #[t, t] })
    (hB : appB P t e l bytes = true) (hx : opdOk P T x ax = true) (hy : opdOk P T y ay = true) (hob : ∀ j, tgt F (.app id e l bytes ax ay) base = some j → St[j]? = some ob)
    (h : opO E F St ob (.app id e l bytes ax ay) base ret2 = some (av, no)) : ∃ j o', tgt F (.app id e l bytes ax ay) base = some j ∧ no = some o' ∧ Done P o a w (OpPost P T S pl St w (St.set j o') av) := by
  obtain ⟨hu, hL, hn, hby, _⟩ := appB_sound hB
  have hvx := opd_sound hs hx hF
  have hvy := opd_soundD hs hy hF
  simp only [opO] at h
  obtain ⟨e', ry, ey, hA⟩ := asSl_some h
  obtain ⟨hbe, hB1⟩ := check_some hA
  obtain rfl := Nat.eq_of_beq_eq_true hbe
  rw [ey] at hvy
  -- the second slice
  have hsecond : ∃ (q : Option Addr) (c2 : Nat) (news : List Value), a.eval y = .slice q (at_ ry 0).rows.length c2 ∧
      ((at_ ry 0).rows.length ≠ 0 → ∃ ad, q = some ad ∧ news.length = (at_ ry 0).rows.length * l.n ∧ RepRows P T S l news (at_ ry 0).rows ∧ (∀ j u, news[j]? = some u → w.cell? (ad.add j) = some u) ∧ ∀ u ∈ news, u.oneCell' = true) := by
    rcases hvy.of_sl with ⟨e1, e2⟩ | ⟨l', rows, ad, cap, f, e1, e2, h1, h2, h3, h4, h5, h6⟩
    · exact ⟨none, 0, [], by rw [e2]; exact e1, fun hne => by rw [e2] at hne; exact absurd rfl hne⟩
    · obtain rfl := h1.inj hL
      rw [e2]
      obtain ⟨news, g1, g2, g3, g4⟩ := news_of_sl hs hn h3 h4 h5 h6
      exact ⟨some ad, cap, news, e1, fun _ => ⟨ad, rfl, g1, g2, g3, g4⟩⟩
  obtain ⟨q, c2, news, hye, hnews⟩ := hsecond
  split at hB1
  · rename_i e2 r ex
    obtain ⟨hb2, hC⟩ := check_some hB1
    obtain rfl := Nat.eq_of_beq_eq_true hb2
    rw [ex] at hvx
    split at hC
    · rename_i hnil
      unfold asFresh at hC
      split at hC
      · obtain ⟨hlim, hD⟩ := ite_some hC
        simp only [ret2, Option.some.injEq, Prod.mk.injEq] at hD
        obtain ⟨rfl, rfl⟩ := hD
        have htg : tgt F (.app id e l bytes ax ay) base = some (base + id) := by simp [tgt, ex, tgtV]
        have e1 : a.eval x = .slice none 0 0 := by
          rcases hvx.of_sl with ⟨e1, e2⟩ | ⟨l', rows, ad, cap, f, e1, e2, _⟩
          · exact e1
          · rw [hnil] at e2; cases e2
        obtain ⟨v', w', hr, hp⟩ := app_run (ty := o.type) hB hs (hob _ htg) (.inl ⟨rfl, rfl⟩) (.inl ⟨rfl, rfl⟩) q _ c2 news (at_ ry 0).rows rfl hnews (by simpa [C.rows] using hlim) (u := 0)
        refine ⟨_, _, htg, rfl, done_run (exec_append hs hF ho ?_) hp⟩
        rw [e1, hye]; exact hr
      · simp at hC
    · simp at hC
  · rename_i i v ex
    rw [ex] at hvx
    have htg : tgt F (.app id e l bytes ax ay) base = some i := by simp [tgt, ex, tgtV]
    have hob := hob _ htg
    obtain ⟨l', c, rfl, hC⟩ := asArr_some hB1
    obtain ⟨hlb, hC2⟩ := check_some hC
    obtain rfl := L.beq_eq hlb
    obtain ⟨hlim, hD⟩ := ite_some hC2
    simp only [ret2, Option.some.injEq, Prod.mk.injEq] at hD
    obtain ⟨rfl, rfl⟩ := hD
    have hv0 : (c = .nils ∧ a.eval x = .slice none 0 0) ∨ ∃ rows, c = .sl rows ∧ a.eval x = .slice (some ⟨pl.blk i, 0, none⟩) rows.length (pl.cap i) := by
      have := hvx.of_whole hob
      rcases hs.objs _ _ hob with hq | ⟨rows', cur, e2, i2, hq, _⟩
      · exact .inl ⟨hq, this.1 hq⟩
      · exact .inr ⟨rows', hq, this.2 _ hq⟩
    obtain ⟨v', w', hr, hp⟩ := app_run (ty := o.type) hB hs hob (.inr ⟨v, rfl, Nat.lt_succ_self v⟩) hv0 q _ c2 news (at_ ry 0).rows rfl hnews hlim
    refine ⟨_, _, htg, rfl, done_run (exec_append hs hF ho ?_) hp⟩
    rw [hye]; exact hr
  · simp at hB1

def mkB (P : Program) (T : Nat → AFn) (t e : TypeId) (l : L) (z : Row) (bytes : Nat) : Bool :=
  appB P t e l bytes && (match P.info? e with | some i => (match i.zero with | some zv => constOk l zv z | none => false) | none => false)

theorem s_mk {t e : TypeId} {l : L} {id bytes : Nat} {z : Row} {ob : Obj} {av : AV} {no : Option Obj} (ho : o.op = .makeSlice t x y)
    (hB : mkB P T t e l z bytes = true) (hx : opdOk P T x ax = true) (hy : opdOk P T y ay = true) (hob : St[base + id]? = some ob)
    (h : opO E F St ob (.mk id e l z bytes ax ay) base ret2 = some (av, no)) : ∃ o', no = some o' ∧ Done P o a w (OpPost P T S pl St w (St.set (base + id) o') av) := by
  simp only [mkB, Bool.and_eq_true] at hB
  obtain ⟨hB, hzb⟩ := hB
  obtain ⟨hu, hL, hn, hby, i, zv, hi, hib, hz, hzs, hsz⟩ := appB_sound hB
  rw [hi] at hzb
  simp only [hz] at hzb
  have hzr := (constOk_sound (P := P) (T := T) (S := S) hzb).cells
  simp only [opO, asFresh] at h
  split at h
  · obtain ⟨k1, r1, e1, hA⟩ := asI_some h
    obtain ⟨k2, r2, e2, hC⟩ := asI_some hA
    obtain ⟨⟨h0, h1, h2, h3⟩, hD⟩ := ite_some hC
    have gvx := opd_soundD hs hx hF; rw [e1] at gvx; have hvx := gvx.of_int
    have gvy := opd_soundD hs hy hF; rw [e2] at gvy; have hvy := gvy.of_int
    clear gvx gvy e1 e2 hA hC h
    simp only [ret2, Option.some.injEq, Prod.mk.injEq] at hD
    obtain ⟨rfl, rfl⟩ := hD
    generalize (at_ r1 0).toI = m at *
    generalize (at_ r2 0).toI = n at *
    have hlt : base + id < St.length := (List.getElem?_eq_some_iff.1 hob).1
    have hr := run_make (P := P) w t e i zv hu hi hz k1 k2 m n h0 h1 (by rw [hib, Int.mul_comm]; omega) (by omega)
    refine ⟨_, rfl, done_run (v := .slice (some ⟨w.heap.size, 0, none⟩) m.toNat n.toNat) (w' := w.alloc (.cells (madeCells zv.cells (n.toNat * i.size)) e)) ?_ ?_⟩
    · simp only [execOp, ho]
      refine run_v ?_
      rw [hvx, hvy]; exact hr
    · refine arr_post (b := w.heap.size) (cap := n.toNat) hs hob (.inl rfl) ⟨rfl, rfl, rfl⟩ (by simp) (fun k hk _ => heap_alloc_old w _ hk) (.inr (Nat.le_refl _)) ?_ (.inr ⟨_, rfl, by simp⟩)
      refine .inr ⟨_, _, e, i, rfl, by rw [Pl.at_blk]; exact heap_alloc_new w _, hL, hi, hn, by rw [Pl.at_cap]; simp; omega, by rw [Pl.at_cap]; simp [maxLen]; omega, by rw [Pl.at_cap, size_madeCells, hsz], fun j r hj => ?_⟩
      have hall := repRows_replicate hzr hn n.toNat
      have := hall.row j r (by
        have hjm : j < m.toNat := by have := (List.getElem?_eq_some_iff.1 hj).1; simpa using this
        have hrz : r = z := by have := (List.getElem?_eq_some_iff.1 hj).2; simpa using this.symm
        subst hrz
        rw [List.getElem?_replicate, if_pos (by omega)])
      rw [hsz]
      exact this
  · simp at h

theorem s_s2b {s t e : TypeId} {ob : Obj} {av : AV} {no : Option Obj} (ho : o.op = .convert s t x) (hsu : (P.underlying s).isSome = true) (hel : elemB P t e (.one (.int .u8)) = true) (he : P.underlying e = some (.int .u8)) (hx : opdOk P T x ax = true)
    (h : opO E F St ob (.s2b e ax) base ret2 = some (av, no)) : no = none ∧ Done P o a w (OpPost P T S pl St w St av) := by
  obtain ⟨hu, hL⟩ := elemB_sound hel
  simp only [opO] at h
  obtain ⟨r, ex, hA⟩ := asS_some h
  have hv := opd_soundD hs hx hF; rw [ex] at hv; obtain ⟨b, e1, q1⟩ := hv.of_str
  simp only [ret2, Option.some.injEq, Prod.mk.injEq] at hA
  obtain ⟨rfl, rfl⟩ := hA
  obtain ⟨d, hd⟩ := Option.isSome_iff_exists.1 hsu
  refine ⟨rfl, done_run (v := .slice (some ⟨w.heap.size, 0, none⟩) b.size (grownCap w b.size 0 e)) (w' := Lib.bytesWorld w e b) ?_ ?_⟩
  · simp only [execOp, ho]
    refine run_v ?_
    rw [e1]; exact Lib.run_convert_string_bytes w s t e b hd hu he
  · rw [← q1]
    refine persist_post hs ⟨rfl, rfl, rfl⟩ (fun k hk => Lib.bytesWorld_at_old w e b k hk) (Lib.bytesWorld_size w e b) (Lib.bytesWorld_at_new w e b) b.size ?_
    have hcell : ∀ i, i < b.size → (S.more w.heap.size ((Lib.bytesCells w e b).toList.take b.size)) w.heap.size i = some (.int .u8 (b.data.toList.getD i 0).toNat) := by
      intro i hi
      simp only [Stab.more, if_true]
      rw [List.getElem?_take, if_pos hi]
      have := Lib.bytesWorld_cell w e b i hi
      rw [cell_of_row _ _ _ _ _ _ (Lib.bytesWorld_at_new w e b)] at this
      simpa using this
    refine .d ⟨_, rfl, .sl (fun i _ => .int .u8 (b.data.toList.getD i 0).toNat) hL (by simp [bsize]) (grownCap_ge w _ _ _) (fun r hr => ?_) (fun _ => rfl) (fun i j hi hj => ?_) (fun i j k hi hk => ?_)⟩
    · simp only [List.mem_map] at hr
      obtain ⟨c, _, rfl⟩ := hr; rfl
    · obtain rfl : j = 0 := by simp [L.n, L.ks] at hj; exact hj
      simp only [L.n, L.ks, List.length_cons, List.length_nil, Nat.zero_add, Nat.mul_one, Nat.add_zero]
      exact hcell i hi
    · cases j with
      | succ j => simp [L.ks] at hk
      | zero =>
        simp [L.ks] at hk; subst hk
        have hil : i < b.data.toList.length := by rw [bsize]; exact hi
        have : at_ (rowsAt (b.data.toList.map byteRow) i) 0 = .int (b.data.toList.getD i 0).toNat := by
          simp only [rowsAt, List.getD_eq_getElem?_getD, List.getElem?_map, List.getElem?_eq_getElem hil, Option.map_some, Option.getD_some, byteRow, Ev.at_]
          rfl
        rw [this]; exact .int

theorem s_b2s {s t e : TypeId} {ob : Obj} {av : AV} {no : Option Obj} (ho : o.op = .convert s t x) (hel : elemB P s e (.one (.int .u8)) = true) (he : P.underlying e = some (.int .u8)) (ht : P.underlying t = some .string) (hx : opdOk P T x ax = true)
    (hob : ∀ id, tgtV (ax.ev F) = some id → St[id]? = some ob)
    (h : opO E F St ob (.b2s e ax) base ret2 = some (av, no)) : no = none ∧ Done P o a w (OpPost P T S pl St w St av) := by
  obtain ⟨hu, hL⟩ := elemB_sound hel
  have hv := opd_soundD hs hx hF
  have key : ∀ (ad : Addr) (cap : Nat) (news : List Value) (rows : List Row), a.eval x = .slice (some ad) rows.length cap → news.length = rows.length → RepRows P T S (.one (.int .u8)) news rows → (∀ j u, news[j]? = some u → w.cell? (ad.add j) = some u) →
      Done P o a w (OpPost P T S pl St w St (vS (bytesOf rows))) := by
    intro ad cap news rows hvx hl hr hc
    have hnews := hr.ints hl
    have hload := run_loadCells_list (P := P) w ad news hc
    rw [hl] at hload
    have hnm : news = (rows.map fun r => (at_ r 0).toI).map (Value.int .u8) := by rw [hnews]; simp
    rw [hnm] at hload
    have hrun := run_bytesToString (P := P) w ad rows.length cap _ hload
    have hb : ∀ (ns : List Int) (b : ByteArray), (ns.foldl (fun r n => r.push (UInt8.ofNat n.toNat)) b).data.toList = b.data.toList ++ ns.map fun n => UInt8.ofNat n.toNat := by
      intro ns
      induction ns with
      | nil => intro b; simp
      | cons n ns ih => intro b; rw [List.foldl_cons, ih]; simp [ByteArray.push]
    refine done_run (w' := w) ?_ (.same hs (by have := relS (P := P) (T := T) (S := S) (pl := pl) (St := St) ((rows.map fun r => (at_ r 0).toI).foldl (fun r n => r.push (UInt8.ofNat n.toNat)) ByteArray.empty); rw [hb, List.map_map] at this; exact this))
    simp only [execOp, ho]
    refine run_v ?_
    rw [hvx, run_convert_bytes_string w s t e _ _ _ hu he ht, hrun]
  have keyN : a.eval x = .slice none 0 0 → Done P o a w (OpPost P T S pl St w St (vS (bytesOf []))) := by
    intro hvx
    refine done_run (v := .string ByteArray.empty) (w' := w) ?_ (.same hs (.d ⟨_, rfl, .str⟩))
    simp only [execOp, ho]
    refine run_v ?_
    rw [hvx, run_convert_bytes_string w s t e _ _ _ hu he ht]
    simp [Conv.bytesToString]
  simp only [opO] at h
  split at h
  · rename_i e' r ex
    obtain ⟨hb, hA⟩ := check_some h
    obtain rfl := Nat.eq_of_beq_eq_true hb
    simp only [ret2, Option.some.injEq, Prod.mk.injEq] at hA
    obtain ⟨rfl, rfl⟩ := hA
    rw [ex] at hv
    rcases hv.of_sl with ⟨e1, e2⟩ | ⟨l', rows, ad, cap, f, e1, e2, h1, h2, h3, h4, h5, h6⟩
    · rw [e2]; exact ⟨rfl, keyN e1⟩
    · obtain rfl := h1.inj hL
      obtain ⟨news, g1, g2, g3, g4⟩ := news_of_sl hs (by decide) h3 h4 h5 h6
      rw [e2]
      exact ⟨rfl, key ad cap news rows e1 (by rw [g1]; exact Nat.mul_one _) g2 g3⟩
  · rename_i id v ex
    have hob := hob id (tgt_dat (by rw [ex]; rfl))
    rw [ex] at hv
    obtain ⟨l', c, rfl, hA⟩ := asArr_some h
    obtain ⟨hlb, hA2⟩ := check_some hA
    obtain rfl := L.beq_eq hlb
    simp only [ret2, Option.some.injEq, Prod.mk.injEq] at hA2
    obtain ⟨rfl, rfl⟩ := hA2
    have hw := hv.of_whole hob
    rcases hs.objs _ _ hob with hq | ⟨rows, cur, e2, i, hq, hh, q1, q2, q3, q4, q5, q6, q7⟩
    · rw [hq]; exact ⟨rfl, keyN (hw.1 hq)⟩
    · rw [hq]
      have q6 : cur.size = pl.cap id := by rw [q6]; exact Nat.mul_one _
      have hrr : RepRows P T S (.one (.int .u8)) cur.toList rows := ⟨by rw [show cur.toList.length = cur.size from Array.length_toList, q6]; simp only [L.n, L.ks, List.length_cons, List.length_nil, Nat.zero_add, Nat.mul_one]; exact q4, q7⟩
      have hrt := hrr.take
      have e1 : rows.length * (L.one (K.int .u8)).n = rows.length := Nat.mul_one _
      rw [e1] at hrt
      refine ⟨rfl, key _ _ (cur.toList.take rows.length) rows (hw.2 _ hq) (by rw [List.length_take, show cur.toList.length = cur.size from Array.length_toList]; omega) hrt (fun j u hj => ?_)⟩
      rw [add_eq _ rfl, cell_of_row w _ _ _ _ _ hh]
      rw [List.getElem?_take] at hj
      split at hj
      · simpa using hj
      · cases hj
  · simp at h
end
end Go.Ev
