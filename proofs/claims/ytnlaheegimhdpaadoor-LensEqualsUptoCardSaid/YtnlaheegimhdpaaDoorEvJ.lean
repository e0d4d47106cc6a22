/-
  Each operation of the abstract machine does what the model's operation does: slices.
-/
import Derived.Test.YtnlaheegimhdpaaDoorEvI
set_option linter.all false
namespace Go.Ev
variable {E : Env} {P : Program} {T : Nat → AFn} {S S' : Stab} {pl pl' : Pl} {St St' : Ev.St} {F : Fr} {a : Act} {w w' : World}

/-- The rows of a block, one behind the other. -/
structure RepRows (P : Program) (T : Nat → AFn) (S : Stab) (l : L) (cells : List Value) (rows : List Row) : Prop where
  len : rows.length * l.n ≤ cells.length
  row : ∀ i r, rows[i]? = some r → RepR P T S l.ks ((cells.drop (i * l.n)).take l.n) r

theorem RepRows.set {l : L} {cells news : List Value} {rows : List Row} {i : Nat} {row : Row} (h : RepRows P T S l cells rows) (hi : i < rows.length) (hr : RepR P T S l.ks news row) :
    RepRows P T S l (cells.take (i * l.n) ++ news ++ cells.drop (i * l.n + l.n)) (rows.set i row) := by
  have hn : news.length = l.n := hr.clen
  have hle := Nat.mul_le_mul_right l.n (show i + 1 ≤ rows.length from hi)
  have hexp : (i + 1) * l.n = i * l.n + l.n := Nat.succ_mul _ _
  have hlen := h.len
  refine ⟨by simp [hn]; omega, fun j r hj => ?_⟩
  by_cases hji : j = i
  · subst hji
    simp [hi] at hj; subst hj
    have := splice_same cells news (j * l.n) 0 l.n l.n hn (by omega) (by omega)
    simp only [Nat.add_zero, List.take_zero, List.nil_append, Nat.zero_add] at this
    rw [this, List.drop_eq_nil_of_le (by simp; omega), List.append_nil]
    exact hr
  · rw [List.getElem?_set_ne (Ne.symm hji)] at hj
    rw [splice_other cells news (i * l.n) l.n (j * l.n) l.n hn (by omega)]
    · exact h.row j r hj
    · rcases Nat.lt_or_gt_of_ne hji with h1 | h1
      · left
        have := Nat.mul_le_mul_right l.n (show j + 1 ≤ i from h1)
        have e : (j + 1) * l.n = j * l.n + l.n := Nat.succ_mul _ _
        omega
      · right
        have := Nat.mul_le_mul_right l.n (show i + 1 ≤ j from h1)
        omega

theorem RepRows.mono (hS : S.le S') {l : L} {cells : List Value} {rows : List Row} (h : RepRows P T S l cells rows) : RepRows P T S' l cells rows := ⟨h.len, fun i r hi => (h.row i r hi).mono hS⟩

theorem RepRows.rep {l : L} {cells : List Value} {rows : List Row} {e : TypeId} {b o cap : Nat} (h : RepRows P T S l cells rows) (hl : Lay P e l) (hcap : rows.length ≤ cap)
    (hS : ∀ p, p < rows.length * l.n → S b (o + p) = some (cells.getD p undef)) : Rep P T S (.sl e) (.slice (some ⟨b, o, none⟩) rows.length cap) (.sl rows) := by
  refine .sl (fun i j => cells.getD (i * l.n + j) undef) hl rfl hcap (fun r hr => ?_) (fun _ => rfl) (fun i j hi hj => ?_) (fun i j k hi hk => ?_)
  · obtain ⟨i, hi, rfl⟩ := List.getElem_of_mem hr
    exact (h.row i _ (List.getElem?_eq_getElem hi)).rlen
  · have hle := Nat.mul_le_mul_right l.n (show i + 1 ≤ rows.length from hi)
    have hexp : (i + 1) * l.n = i * l.n + l.n := Nat.succ_mul _ _
    have := hS (i * l.n + j) (by omega)
    simpa [Nat.add_assoc] using this
  · have hrow : rows[i]? = some (rowsAt rows i) := by simp [rowsAt, List.getD_eq_getElem?_getD, hi]
    have := (h.row i _ hrow).cell j k hk
    have hj : j < l.n := (List.getElem?_eq_some_iff.1 hk).1
    have e : ((cells.drop (i * l.n)).take l.n).getD j undef = cells.getD (i * l.n + j) undef := by
      simp [List.getD_eq_getElem?_getD, hj]
    rw [e] at this; exact this

def rowPartsOk (P : Program) (T : Nat → AFn) (n : Nat) : List (Nat × Operand) → List (Nat × Opd) → Bool
  | [], [] => true
  | (i, x) :: r, (i', ax) :: r' => Nat.beq i i' && Nat.blt i n && opdOk P T x ax && rowPartsOk P T n r r'
  | _, _ => false

theorem fillRows_sound {A : Type} {l : L} {k : List Row → Option A} {res : A} (hs : Sim P T S pl St w) (hF : RelF P T S pl St F a.tmps) :
    ∀ (parts : List (Nat × Operand)) (aparts : List (Nat × Opd)) (cells : Array Value) (rows : List Row), rowPartsOk P T rows.length parts aparts = true → RepRows P T S l cells.toList rows →
      fillRows F St l aparts rows k = some res → ∃ cells' rows', Instr.fill (fun i => some (i * l.n, l.n)) cells (parts.map fun p => (p.1, a.eval p.2)) = some cells' ∧ RepRows P T S l cells'.toList rows' ∧ rows'.length = rows.length ∧ cells'.size = cells.size ∧ k rows' = some res
  | [], [], cells, z, _, hr, h => ⟨cells, z, rfl, hr, rfl, rfl, h⟩
  | [], _ :: _, _, _, h, _, _ => by simp [rowPartsOk] at h
  | _ :: _, [], _, _, h, _, _ => by simp [rowPartsOk] at h
  | (i, x) :: r, (i', ax) :: r', cells, rows, hp, hr, h => by
    simp only [rowPartsOk, Bool.and_eq_true] at hp
    obtain ⟨⟨⟨hp0, hp1⟩, hp2⟩, hp3⟩ := hp
    obtain rfl := Nat.eq_of_beq_eq_true hp0
    have hi : i < rows.length := by simpa using hp1
    simp only [fillRows] at h
    obtain ⟨lv, row, ex, hA⟩ := asD_some h
    obtain ⟨hb, hB⟩ := check_some hA
    obtain rfl := L.beq_eq hb
    have hv := opd_soundD hs hp2 hF; rw [ex] at hv
    have hrow := hv.of_d.cells
    have hsz : (a.eval x).cells.size = l.n := by have := hrow.clen; simpa [L.n] using this
    have hle := Nat.mul_le_mul_right l.n (show i + 1 ≤ rows.length from hi)
    have hexp : (i + 1) * l.n = i * l.n + l.n := Nat.succ_mul _ _
    have hlen := hr.len
    have hcs : cells.toList.length = cells.size := Array.length_toList
    have hst := fill_step (cells := cells) (place := fun i => some (i * l.n, l.n)) (rest := r.map fun p => (p.1, a.eval p.2)) (i := i) rfl hsz (by omega)
    obtain ⟨cells', rows', g1, g2, g3, g4, g5⟩ := fillRows_sound hs hF r r' (cells.toList.take (i * l.n) ++ (a.eval x).cells.toList ++ cells.toList.drop (i * l.n + l.n)).toArray (rows.set i row) (by simpa using hp3) (hr.set hi hrow) hB
    refine ⟨cells', rows', by rw [List.map_cons, hst]; exact g1, g2, by simpa using g3, ?_, g5⟩
    rw [g4]; simp [hsz]; omega

theorem repRows_replicate {l : L} {zv : Array Value} {z : Row} (hz : RepR P T S l.ks zv.toList z) (hn : 0 < l.n) (m : Nat) :
    RepRows P T S l ((Array.range (m * l.n)).map fun i => zv[i % zv.size]!).toList (List.replicate m z) := by
  have hzs : zv.size = l.n := by have := hz.clen; simpa [L.n] using this
  refine ⟨by simp, fun i r hi => ?_⟩
  have him : i < m := by have := (List.getElem?_eq_some_iff.1 hi).1; simpa using this
  have hr : r = z := by have := (List.getElem?_eq_some_iff.1 hi).2; simpa using this.symm
  subst hr
  have e : ((((Array.range (m * l.n)).map fun i => zv[i % zv.size]!).toList.drop (i * l.n)).take l.n) = zv.toList := by
    apply List.ext_getElem?
    intro j
    have hle := Nat.mul_le_mul_right l.n (show i + 1 ≤ m from him)
    have hexp : (i + 1) * l.n = i * l.n + l.n := Nat.succ_mul _ _
    by_cases hj : j < l.n
    · have h1 : i * l.n + j < m * l.n := by omega
      have h2 : (i * l.n + j) % zv.size = j := by rw [hzs, Nat.mul_comm, Nat.mul_add_mod]; exact Nat.mod_eq_of_lt hj
      have h3 : j < zv.size := by omega
      simp only [Array.toList_map, Array.toList_range, List.getElem?_take, hj, if_true, List.getElem?_drop, List.getElem?_map, List.getElem?_range h1, Option.map_some]
      rw [h2]
      simp [h3]
    · simp [List.getElem?_take, hj, hzs]
  rw [e]; exact hz

def bslB (P : Program) (T : Nat → AFn) (t e : TypeId) (l : L) (n : Nat) (z : Row) (parts : List (Nat × Operand)) (aparts : List (Nat × Opd)) : Bool :=
  elemB P t e l && Nat.blt 0 l.n && Nat.ble (n * l.n) 16777216 && rowPartsOk P T n parts aparts &&
  (match P.info? e with | some i => (match i.zero with | some zv => constOk l zv z | none => false) | none => false)

section
variable {o : Oper} {x y c : Operand} {ax ay ac : Opd} {base : Nat}
variable (hs : Sim P T S pl St w) (hF : RelF P T S pl St F a.tmps)
include hs hF

theorem s_bsl {t e : TypeId} {l : L} {n : Nat} {z : Row} {parts : Array (Nat × Operand)} {aparts : List (Nat × Opd)} {ob : Obj} {av : AV} {no : Option Obj} (ho : o.op = .buildSlice t n parts)
    (hb : bslB P T t e l n z parts.toList aparts = true)
    (h : opO E F St ob (.bsl e l n z aparts) base ret2 = some (av, no)) : no = none ∧ Done P o a w (OpPost P T S pl St w St av) := by
  simp only [bslB, Bool.and_eq_true] at hb
  obtain ⟨⟨⟨⟨h1, h2⟩, h3⟩, h4⟩, h5⟩ := hb
  obtain ⟨hu, hL⟩ := elemB_sound h1
  have hp : 0 < l.n := by simpa using h2
  have h3 : n * l.n ≤ 16777216 := by simpa using h3
  split at h5
  · rename_i i hi
    split at h5
    · rename_i zv hz
      obtain ⟨i', hi', hsz⟩ := hL.2
      rw [hi] at hi'; obtain rfl := Option.some.inj hi'
      simp only [opO] at h
      have hzr := (constOk_sound (P := P) (T := T) (S := S) h5).cells
      obtain ⟨cells, rows, g1, g2, g3, g4, g5⟩ := fillRows_sound hs hF parts.toList aparts _ _ (by simpa using h4) (repRows_replicate hzr hp n) h
      simp only [ret2, Option.some.injEq, Prod.mk.injEq] at g5
      obtain ⟨rfl, rfl⟩ := g5
      have g3 : rows.length = n := by simpa using g3
      have g4 : cells.size = n * l.n := by simpa using g4
      refine ⟨rfl, done_run (v := .slice (some ⟨w.heap.size, 0, none⟩) n n) (w' := w.alloc (.cells cells e)) ?_ ?_⟩
      · simp only [execOp, ho]
        refine run_v ?_
        have hbig : ¬ (n * l.n > 16777216) := by omega
        by_cases hnz : n * l.n = 0
        · have hn0 : n = 0 := by
            rcases Nat.mul_eq_zero.1 hnz with h | h
            · exact h
            · omega
          subst hn0
          have hpn : parts.toList = [] := by
            cases hpl : parts.toList with
            | nil => rfl
            | cons q qs =>
              rw [hpl] at h4
              cases aparts with
              | nil => simp [rowPartsOk] at h4
              | cons q' qs' => simp [rowPartsOk] at h4
          have hpa : parts = #[] := by cases parts; simp at hpn; subst hpn; rfl
          subst hpa
          have : cells = #[] := by apply Array.eq_empty_of_size_eq_zero; simpa using g4
          subst this
          simp [Instr.buildSlice, run_underlying hu, sizeOf, typeInfo, hi, hsz, Instr.fill, newRow, Array.range_zero']
        · have g1' : Instr.fill (fun i => some (i * l.n, l.n)) ((Array.range (n * l.n)).map fun i => zv.cells[i % zv.cells.size]!) (parts.toList.map fun p => (p.1, a.eval p.2)) = some cells := g1
          simp only [Instr.buildSlice, Sem.run_bind, run_underlying hu, sizeOf, typeInfo, run_program, hi, hsz, Result.andThen_ok, Sem.run_pure, zeroValue, hz]
          rw [if_neg (by simpa using hbig)]
          simp only [Sem.run_pure, Result.andThen_ok, hnz, if_false, Sem.run_bind, typeInfo, run_program, hi, hz]
          have e1 : (parts.map fun (x : Nat × Operand) => (x.1, a.eval x.2)).toList = parts.toList.map fun p => (p.1, a.eval p.2) := by simp
          rw [e1, g1']
          simp [newRow]
      · refine persist_post hs ⟨rfl, rfl, rfl⟩ (fun k hk => Go.RowKit.Below.heap_alloc w _ k hk) (by simp) (heap_alloc_new w _) (n * l.n) ?_
        have hle : S.le (S.more w.heap.size (cells.toList.take (n * l.n))) := Stab.le_more fun q => by
          cases hS : S w.heap.size q with
          | none => rfl
          | some v => exact absurd (hs.stab_lt hS) (by omega)
        have hrep := (g2.mono hle).rep (b := w.heap.size) (o := 0) (cap := n) hL (by omega) (fun p hp => ?_)
        · rw [g3] at hrep; exact .d ⟨_, rfl, hrep⟩
        · rw [g3] at hp
          simp only [Stab.more, if_true, Nat.zero_add]
          rw [List.getElem?_take, if_pos hp]
          have : p < cells.toList.length := by simpa [g4] using hp
          simp [List.getD_eq_getElem?_getD, List.getElem?_eq_getElem this]
    · simp at h5
  · simp at h5
end
end Go.Ev
