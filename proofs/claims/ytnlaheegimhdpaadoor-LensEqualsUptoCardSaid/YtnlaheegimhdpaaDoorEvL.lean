/-
  Each operation of the abstract machine does what the model's operation does: cuts of slices and strings, make, append.
-/
import Derived.Test.YtnlaheegimhdpaaDoorEvK
import Derived.Lib.Strings
set_option linter.all false
namespace Go.Ev
variable {E : Env} {P : Program} {T : Nat → AFn} {S S' : Stab} {pl pl' : Pl} {St St' : Ev.St} {F : Fr} {a : Act} {w w' : World}

def optOk (P : Program) (T : Nat → AFn) : Option Operand → Option Opd → Bool
  | none, none => true
  | some x, some ax => opdOk P T x ax
  | _, _ => false
theorem bnd_sound {A : Type} {x : Option Operand} {ax : Option Opd} {d : Int} {k : Int → Option A} {r : A} (hs : Sim P T S pl St w) (hF : RelF P T S pl St F a.tmps) (hx : optOk P T x ax = true) (h : bnd F St ax d k = some r) :
    ∃ n, k n = some r ∧ ((x.map a.eval = none ∧ n = d) ∨ ∃ kd, x.map a.eval = some (.int kd n)) := by
  cases x with
  | none => cases ax with
    | none => exact ⟨d, h, .inl ⟨rfl, rfl⟩⟩
    | some _ => simp [optOk] at hx
  | some x => cases ax with
    | none => simp [optOk] at hx
    | some ax =>
      simp only [bnd] at h
      obtain ⟨kd, row, e, hA⟩ := asI_some h
      have hv := opd_soundD hs hx hF; rw [e] at hv
      exact ⟨_, hA, .inr ⟨kd, by simp [hv.of_int]⟩⟩
theorem run_bounds {isS : Bool} {len cap : Nat} {lo hi : Option Value} {m n : Int} (hlo : (lo = none ∧ m = 0) ∨ ∃ k, lo = some (.int k m)) (hhi : (hi = none ∧ n = len) ∨ ∃ k, hi = some (.int k n)) (h0 : 0 ≤ m) (h1 : m ≤ n) (h2 : n ≤ cap) (w : World) :
    (Instr.sliceBounds isS len cap lo hi none).run P w = .ok (m.toNat, n.toNat, cap) w := by
  have en : (n.toNat : Int) = n := Int.toNat_of_nonneg (by omega)
  have hn0 : 0 ≤ n := by omega
  rcases hlo with ⟨rfl, rfl⟩ | ⟨k, rfl⟩ <;> rcases hhi with ⟨rfl, rfl⟩ | ⟨k', rfl⟩ <;>
    simp [Instr.sliceBounds, run_sliceBound, h0, h1, h2, hn0, en]

theorem cut_addr (a : Addr) (ha : a.spot = none) (cap m n : Nat) : ∃ ad : Addr, (if cap = m then some a else (some a).map (·.add (m * n))) = some ad ∧ (cap ≠ m → ad = ⟨a.block, a.off + m * n, none⟩) := by
  by_cases h : cap = m
  · exact ⟨a, by rw [if_pos h], fun hn => absurd h hn⟩
  · refine ⟨⟨a.block, a.off + m * n, none⟩, ?_, fun _ => rfl⟩
    rw [if_neg h, Option.map_some, add_eq a ha]
theorem RelV.own_mk {id ver off len cap : Nat} {l : L} {rows : List Row} {ad : Addr} (ho : St[id]? = some (.arr ver l (.sl rows))) (hc : len ≤ cap) (hl : off + len ≤ rows.length)
    (ha : len ≠ 0 → ad = ⟨pl.blk id, off * l.n, none⟩) : RelV P T S pl St (.own id ver off len) (.slice (some ad) len cap) := by
  refine .own rfl ho (fun h => by cases h) (fun v l c e => ?_) (fun l' r e => ?_) (fun l e => ?_)
  · cases e; exact Nat.le_refl _
  · cases e; exact ⟨ad, cap, rfl, hc, hl, ha⟩
  · cases e

section
variable {o : Oper} {x y c : Operand} {ax ay ac : Opd} {base : Nat}
variable (hs : Sim P T S pl St w) (hF : RelF P T S pl St F a.tmps)
include hs hF

theorem s_slcS {t : TypeId} {lo hi : Option Operand} {alo ahi : Option Opd} {ob : Obj} {av : AV} {no : Option Obj} (ho : o.op = .slice t x lo hi none) (ht : P.underlying t = some .string) (hx : opdOk P T x ax = true)
    (hlo : optOk P T lo alo = true) (hhi : optOk P T hi ahi = true)
    (h : opO E F St ob (.slcS ax alo ahi) base ret2 = some (av, no)) : no = none ∧ Done P o a w (OpPost P T S pl St w St av) := by
  simp only [opO] at h
  obtain ⟨r, ex, hA⟩ := asS_some h
  have hv := opd_soundD hs hx hF; rw [ex] at hv; obtain ⟨b, e1, q1⟩ := hv.of_str
  obtain ⟨m, hB, hm⟩ := bnd_sound hs hF hlo hA
  obtain ⟨n, hC, hn⟩ := bnd_sound hs hF hhi hB
  obtain ⟨hlt, hD⟩ := ite_some hC
  simp only [ret2, Option.some.injEq, Prod.mk.injEq] at hD
  obtain ⟨rfl, rfl⟩ := hD
  rw [← q1, bsize] at hlt hn
  have hb := run_bounds (P := P) (isS := false) (cap := b.size) hm hn hlt.1 hlt.2.1 hlt.2.2 w
  refine ⟨rfl, done_run (v := .string (b.extract m.toNat n.toNat)) (w' := w) ?_ (.same hs ?_)⟩
  · simp only [execOp, ho]
    refine run_v ?_
    rw [run_sliceAt_string w t _ _ _ _ ht, e1]
    simp [Instr.slice, run_underlying ht, hb]
  · rw [← q1]
    have e : (b.extract m.toNat n.toNat).data.toList = (b.data.toList.take n.toNat).drop m.toNat := by
      rw [Lib.extract_data, List.drop_take]
    rw [← e]; exact relS _

theorem s_slc {t e : TypeId} {l : L} {lo hi : Option Operand} {alo ahi : Option Opd} {ob : Obj} {av : AV} {no : Option Obj} (ho : o.op = .slice t x lo hi none) (hel : elemB P t e l = true) (hx : opdOk P T x ax = true)
    (hlo : optOk P T lo alo = true) (hhi : optOk P T hi ahi = true) (hob : ∀ id, tgtV (ax.ev F) = some id → St[id]? = some ob)
    (h : opO E F St ob (.slc e l ax alo ahi) base ret2 = some (av, no)) : no = none ∧ Done P o a w (OpPost P T S pl St w St av) := by
  obtain ⟨hu, hL⟩ := elemB_sound hel
  have hv := opd_soundD hs hx hF
  have key : ∀ (ad : Option Addr) (len cap : Nat) (m n : Int), a.eval x = .slice ad len cap → ((lo.map a.eval = none ∧ m = 0) ∨ ∃ kd, lo.map a.eval = some (.int kd m)) →
      ((hi.map a.eval = none ∧ n = len) ∨ ∃ kd, hi.map a.eval = some (.int kd n)) → 0 ≤ m → m ≤ n → n ≤ cap →
      (execOp a.eval o).run P w = .ok (.value (.slice (if cap = m.toNat then ad else ad.map (·.add (m.toNat * l.n))) (n.toNat - m.toNat) (cap - m.toNat))) w := by
    intro ad len cap m n hvx hm hn h0 h1 h2
    have hb := run_bounds (P := P) (isS := true) (len := len) hm hn h0 h1 h2 w
    simp only [execOp, ho]
    refine run_v ?_
    rw [hvx]
    simp [Instr.sliceAt, Instr.slice, run_underlying hu, hb, hL.size w]
  simp only [opO] at h
  split at h
  · rename_i e' r ex
    obtain ⟨hb, hA⟩ := check_some h
    obtain rfl := Nat.eq_of_beq_eq_true hb
    obtain ⟨m, hB, hm⟩ := bnd_sound hs hF hlo hA
    obtain ⟨n, hC, hn⟩ := bnd_sound hs hF hhi hB
    obtain ⟨hlt, hD⟩ := ite_some hC
    simp only [ret2, Option.some.injEq, Prod.mk.injEq] at hD
    obtain ⟨rfl, rfl⟩ := hD
    rw [ex] at hv
    rcases hv.of_sl with ⟨e1, e2⟩ | ⟨l', rows, ad, cap, f, e1, e2, h1, h2, h3, h4, h5, h6⟩
    · rw [e2] at hlt hn ⊢
      simp only [C.rows, List.length_nil] at hlt hn
      have m0 : m.toNat = 0 := by omega
      have n0 : n.toNat = 0 := by omega
      refine ⟨rfl, done_run (key _ _ _ _ _ e1 hm (by simpa using hn) hlt.1 hlt.2.1 (by omega)) (.same hs (.d ⟨_, rfl, ?_⟩))⟩
      simp [m0, n0, slcC]; exact .nils
    · obtain rfl := h1.inj hL
      rw [e2] at hlt hn ⊢
      simp only [C.rows] at hlt hn
      refine ⟨rfl, done_run (key _ _ _ _ _ e1 hm hn hlt.1 hlt.2.1 (by omega)) (.same hs (.d ⟨_, rfl, ?_⟩))⟩
      simp only [slcC, C.rows, Option.map_some]
      have hlen : ((rows.take n.toNat).drop m.toNat).length = n.toNat - m.toNat := by simp; omega
      have hat : ∀ i, i < n.toNat - m.toNat → rowsAt ((rows.take n.toNat).drop m.toNat) i = rowsAt rows (m.toNat + i) := by
        intro i hi
        simp [rowsAt, List.getD_eq_getElem?_getD, List.getElem?_drop, List.getElem?_take, show m.toNat + i < n.toNat from by omega]
      by_cases hz : n.toNat - m.toNat = 0
      · have hnil : (rows.take n.toNat).drop m.toNat = [] := List.eq_nil_of_length_eq_zero (by rw [hlen]; exact hz)
        rw [hz, hnil]
        by_cases hc : cap = m.toNat
        · rw [if_pos hc]
          exact .sl (fun _ _ => undef) h1 rfl (by omega) (by simp) (fun h => absurd rfl h) (fun i j hi _ => by omega) (fun i j k hi _ => by omega)
        · rw [if_neg hc]
          exact .sl (fun _ _ => undef) h1 rfl (by omega) (by simp) (fun h => absurd rfl h) (fun i j hi _ => by omega) (fun i j k hi _ => by omega)
      · have hc : ¬ cap = m.toNat := by omega
        rw [if_neg hc]
        have hspot := h4 (by omega)
        rw [add_eq ad hspot]
        refine .sl (fun i j => f (m.toNat + i) j) h1 hlen (by omega) (fun r hr => h3 r (List.mem_of_mem_take (List.mem_of_mem_drop hr))) (fun _ => rfl) (fun i j hi hj => ?_) (fun i j k hi hk => ?_)
        · have := h5 (m.toNat + i) j (by omega) hj
          simp only
          rw [← this, Nat.add_mul]
          congr 1; omega
        · rw [hat i hi]; exact h6 (m.toNat + i) j k (by omega) hk
  · rename_i id v ex
    have hob := hob id (tgt_dat (by rw [ex]; rfl))
    rw [ex] at hv
    obtain ⟨l', c, rfl, hA⟩ := asArr_some h
    obtain ⟨hlb, hA2⟩ := check_some hA
    obtain rfl := L.beq_eq hlb
    split at hA2
    · obtain ⟨m, hB, hm⟩ := bnd_sound hs hF hlo hA2
      obtain ⟨n, hC, hn⟩ := bnd_sound hs hF hhi hB
      obtain ⟨hlt, hD⟩ := ite_some hC
      simp only [ret2, Option.some.injEq, Prod.mk.injEq] at hD
      obtain ⟨rfl, rfl⟩ := hD
      rcases hs.objs _ _ hob with hq | ⟨rows', cur, e2, i, hq, hh, q1, q2, q3, q4, q5, q6, q7⟩
      · simp at hq
      · simp at hq; subst hq
        have e1 := (hv.of_whole hob).2 _ rfl
        refine ⟨rfl, done_run (key _ _ _ _ _ e1 hm hn hlt.1 hlt.2.1 (by omega)) (.same hs ?_)⟩
        obtain ⟨ad, had, hz⟩ := cut_addr (⟨pl.blk id, 0, none⟩ : Addr) rfl (pl.cap id) m.toNat l.n
        rw [had]
        refine .own_mk hob (by omega) (by omega) (fun hne => ?_)
        rw [hz (by omega)]; simp
    · simp at hA2
  · rename_i id v off len ex
    have hob := hob id (tgt_dat (by rw [ex]; rfl))
    rw [ex] at hv
    obtain ⟨l', c, rfl, hA⟩ := asArr_some h
    obtain ⟨hlb, hA2⟩ := check_some hA
    obtain rfl := L.beq_eq hlb
    obtain ⟨m, hB, hm⟩ := bnd_sound hs hF hlo hA2
    obtain ⟨n, hC, hn⟩ := bnd_sound hs hF hhi hB
    obtain ⟨hlt, hD⟩ := ite_some hC
    simp only [ret2, Option.some.injEq, Prod.mk.injEq] at hD
    obtain ⟨rfl, rfl⟩ := hD
    rcases hs.objs _ _ hob with hq | ⟨rows', cur, e2, i, hq, hh, q1, q2, q3, q4, q5, q6, q7⟩
    · subst hq; exact (hv.own_not_nil hob).elim
    · subst hq
      obtain ⟨ad0, cap, e1, h1, h2, h3⟩ := hv.of_own hob
      refine ⟨rfl, done_run (key _ _ _ _ _ e1 hm hn hlt.1 hlt.2.1 (by omega)) (.same hs ?_)⟩
      by_cases hz : len = 0
      · have hm0 : m.toNat = 0 := by omega
        have hn0 : n.toNat = 0 := by omega
        rw [hm0, hn0]
        by_cases hc : cap = 0
        · rw [if_pos hc]; exact .own_mk hob (by omega) (by omega) (fun hne => absurd rfl hne)
        · rw [if_neg hc]; exact .own_mk hob (by omega) (by omega) (fun hne => absurd rfl hne)
      · obtain rfl := h3 hz
        obtain ⟨ad, had, hz⟩ := cut_addr (⟨pl.blk id, off * l.n, none⟩ : Addr) rfl cap m.toNat l.n
        rw [had]
        refine .own_mk hob (by omega) (by omega) (fun hne => ?_)
        rw [hz (by omega)]; simp [Nat.add_mul]
  · simp at h
end
end Go.Ev
