/-
  A part of the proof: what the functions of the program compute.
-/
import Derived.Test.YtgfpahfegbmoeaaZS
set_option linter.all false
set_option maxRecDepth 100000
namespace Go.Ev.Zzi
/-! Kept -/
def lastF (l : List P) (w k : Int) : Int := l.foldl (fun w p => if p.2 = k then p.1 else w) w
def keptA (l : List P) (m : Nat) : List Row := (List.range m).map fun k : Nat => [.int (lastF l (-1) k)]
theorem keptA_len (l : List P) (m : Nat) : (keptA l m).length = m := by simp [keptA]
theorem keptA_set (l : List P) (m : Nat) (p : P) (y : Nat) (hy : p.2 = (y : Int)) : (keptA l m).set y [.int p.1] = keptA (l ++ [p]) m := by
  apply List.ext_getElem
  · simp [keptA]
  · intro q h1 h2
    rw [List.getElem_set]
    simp only [keptA, List.getElem_map, List.getElem_range, lastF, List.foldl_append, List.foldl_cons, List.foldl_nil]
    by_cases e : y = q
    · subst e; rw [if_pos rfl, if_pos hy]
    · rw [if_neg e, if_neg (by omega)]
def lostL (A : List Int) (i : Nat) : List Row := ((List.range i).filter fun q : Nat => !decide ((q : Int) ∈ A)).map fun q : Nat => [.int (q : Int)]
theorem lostL_succ (A : List Int) (i : Nat) : lostL A (i + 1) = if (i : Int) ∈ A then lostL A i else lostL A i ++ [[.int (i : Int)]] := by
  unfold lostL
  rw [List.range_succ, List.filter_append, List.map_append]
  by_cases h : (i : Int) ∈ A <;> simp [h]
theorem lostL_len (A : List Int) (i : Nat) : (lostL A i).length ≤ i := by
  unfold lostL
  rw [List.length_map]
  have := List.length_filter_le (fun q : Nat => !decide ((q : Int) ∈ A)) (List.range i)
  rw [List.length_range] at this; exact this
theorem al_rng {n m : Int} : ∀ {l : List P} {A B : List Int}, al n m l A B = 0 → ∀ p ∈ l, 0 ≤ p.1 ∧ p.1 < n ∧ 0 ≤ p.2 ∧ p.2 < m
  | [], A, B, h, p, hp => by simp at hp
  | q :: l, A, B, h, p, hp => by
    rw [al] at h
    split at h
    · exact absurd h (by decide)
    · rename_i c
      split at h
      · exact absurd h (by decide)
      · rcases List.mem_cons.1 hp with rfl | hp
        · omega
        · exact al_rng h p hp
theorem kept_l0 (c : C) (n : Int) (m : Nat) (hm : m ≤ big) : ∀ (j i : Nat), i + j = m → ∀ rows : List Row, rows = (List.range m).map (fun q : Nat => [.int (if q < i then -1 else 0)]) →
    align_Kept_l0 (lim T) c n (m : Int) (i : Int) (.sl rows) = some (0, [.r [c], .r [.int n], .r [.sl (keptA [] m)]])
  | 0, i, h, rows, hr => by
    rw [align_Kept_l0_eq]; unfold align_Kept_b0
    obtain rfl : i = m := by omega
    have : rows = keptA [] i := by
      rw [hr]; unfold keptA
      exact List.map_congr_left fun q hq => by rw [if_pos (List.mem_range.1 hq)]; rfl
    simp [this]
  | j + 1, i, h, rows, hr => by
    rw [align_Kept_l0_eq]; unfold align_Kept_b0
    have h1 : (i : Int) < (m : Int) := by omega
    have h0 : (0 : Int) ≤ (i : Int) := by omega
    have hi : i < m := by omega
    have hl : rows.length = m := by rw [hr]; simp
    have ih := kept_l0 c n m hm j (i + 1) (by omega) (rows.set i [.int (-1)]) (by
      rw [hr]
      apply List.ext_getElem
      · simp
      · intro q q1 q2
        rw [List.getElem_set]
        simp only [List.getElem_map, List.getElem_range]
        by_cases e : i = q
        · subst e; rw [if_pos rfl, if_pos (by omega)]
        · rw [if_neg e]
          by_cases e2 : q < i
          · rw [if_pos e2, if_pos (by omega)]
          · rw [if_neg e2, if_neg (by omega)])
    simp only [h1, h0, decide_true, if_true, rows_sl, hl, and_self, Int.toNat_natCast, hi, wrap_nat (show i ≤ big by omega), ih]
theorem kept_l1 (c : C) (l : List P) (hc : c.rows = l.map pr) (hN : l.length ≤ big) (n m : Nat) (hin : ∀ p ∈ l, 0 ≤ p.1 ∧ p.1 < (n : Int) ∧ 0 ≤ p.2 ∧ p.2 < (m : Int)) : ∀ (j i : Nat), i + j = l.length →
    align_Kept_l1 (lim T) c (l.length : Int) (i : Int) (.sl (keptA (l.take i) m)) (.sl (uArr n ((l.take i).map (·.1)))) = some (0, [.r [.sl (keptA l m)], .r [.sl (uArr n (l.map (·.1)))]])
  | 0, i, h => by
    rw [align_Kept_l1_eq]; unfold align_Kept_b1
    obtain rfl : i = l.length := by omega
    simp
  | j + 1, i, h => by
    have ih := kept_l1 c l hc hN n m hin j (i + 1) (by omega)
    rw [align_Kept_l1_eq]; unfold align_Kept_b1
    have hi : i < l.length := by omega
    have h1 : (i : Int) < (l.length : Int) := by omega
    have h0 : (0 : Int) ≤ (i : Int) := by omega
    have hl : c.rows.length = l.length := by rw [hc, List.length_map]
    have hr := pr_at hc i hi
    have hm := hin _ (List.getElem_mem hi)
    have ht : l.take (i + 1) = l.take i ++ [l[i]] := by rw [List.take_add_one, List.getElem?_eq_getElem hi]; rfl
    rw [ht] at ih
    generalize l[i] = p at hr hm ih
    obtain ⟨x', y'⟩ := p
    obtain ⟨x0, x1, y0, y1⟩ := hm
    simp only at x0 x1 y0 y1
    obtain ⟨x, rfl⟩ : ∃ x : Nat, x' = (x : Int) := ⟨x'.toNat, by omega⟩
    obtain ⟨y, rfl⟩ : ∃ y : Nat, y' = (y : Int) := ⟨y'.toNat, by omega⟩
    have x2 : x < n := by omega
    have y2 : y < m := by omega
    have s1 := keptA_set (l.take i) m ((x : Int), (y : Int)) y rfl
    have s2 := uArr_set n ((l.take i).map (·.1)) ((l.take i ++ [(((x : Int), (y : Int)) : P)]).map (·.1)) x (fun q => by simp [or_comm])
    simp only [h1, h0, hl, decide_true, and_self, if_true, Int.toNat_natCast, hr, at_pr0, at_pr1, toI_int, rows_sl, keptA_len, uArr_len, x0, x1, x2, y0, y1, y2, s1, s2, wrap_nat (show i ≤ big by omega), ih]
theorem kept_l2 (n : Nat) (hn : n ≤ big) (c : C) (A : List Int) : ∀ (j i : Nat), i + j = n → ∀ d : C, d.rows = lostL A i → ∃ d' : C, align_Kept_l2 (lim T) (n : Int) (i : Int) c d (.sl (uArr n A)) = some (0, [.r [c], .r [d']]) ∧ d'.rows = lostL A n
  | 0, i, h, d, hd => by
    rw [align_Kept_l2_eq]; unfold align_Kept_b2
    obtain rfl : i = n := by omega
    exact ⟨d, by simp, hd⟩
  | j + 1, i, h, d, hd => by
    rw [align_Kept_l2_eq]; unfold align_Kept_b2
    have h1 : (i : Int) < (n : Int) := by omega
    have h0 : (0 : Int) ≤ (i : Int) := by omega
    have hi : i < n := by omega
    have hu := uArr_at n A i hi
    have hdl := lostL_len A i
    rw [← hd] at hdl
    have hg : (d.rows.length + 1) * 8 ≤ 140737488355328 := by unfold big at hn; omega
    have hs := lostL_succ A i
    by_cases c1 : (i : Int) ∈ A
    · rw [if_pos c1] at hs
      obtain ⟨d', e1, e2⟩ := kept_l2 n hn c A j (i + 1) (by omega) d (by rw [hd, hs])
      refine ⟨d', ?_, e2⟩
      simp only [h1, h0, decide_true, if_true, rows_sl, uArr_len, and_self, Int.toNat_natCast, hi, hu, at_zero, toB_bool, c1, Bool.not_true, Bool.false_eq_true, if_false, wrap_nat (show i ≤ big by omega), e1]
    · rw [if_neg c1] at hs
      obtain ⟨d', e1, e2⟩ := kept_l2 n hn c A j (i + 1) (by omega) (appC d [[.int (i : Int)]]) (by rw [appC_rows, hd, hs])
      refine ⟨d', ?_, e2⟩
      simp only [h1, h0, decide_true, if_true, rows_sl, uArr_len, and_self, Int.toNat_natCast, hi, hu, at_zero, toB_bool, c1, decide_false, Bool.not_false, List.length_cons, List.length_nil, Nat.zero_add, hg, wrap_nat (show i ≤ big by omega), e1]
theorem kept_spec (c : C) (l : List P) (hc : c.rows = l.map pr) (hN : l.length ≤ big) (n m : Int) : ∃ d e : C, (lim T).pc n_align_Kept [[c], [.int n], [.int m]] = some [[d], [e], [.int (chkV l n m)]] ∧ (chkV l n m ≠ 0 → d = .nils ∧ e = .nils) ∧ (chkV l n m = 0 → d.rows = keptA l m.toNat ∧ e.rows = lostL (l.map (·.1)) n.toNat) := by
  rw [align_Kept_pc]; unfold align_Kept
  rw [check_spec c l hc hN]
  by_cases h : chkV l n m = 0
  · have hr : ¬ (n < 0 ∨ m < 0 ∨ n > 200 ∨ m > 200) := fun k => by rw [chkV_1 l k] at h; exact absurd h (by decide)
    obtain ⟨n', rfl⟩ : ∃ n' : Nat, n = (n' : Int) := ⟨n.toNat, by omega⟩
    obtain ⟨m', rfl⟩ : ∃ m' : Nat, m = (m' : Int) := ⟨m.toNat, by omega⟩
    have h' := h
    rw [chkV_2 l hr] at h'
    have hin := al_rng h'
    have hl : c.rows.length = l.length := by rw [hc, List.length_map]
    have b1 : (0 : Int) ≤ (n' : Int) ∧ (n' : Int) ≤ (n' : Int) ∧ (n' : Int) * 1 ≤ 140737488355328 ∧ (n' : Int) ≤ 1099511627776 := by omega
    have b2 : (0 : Int) ≤ (m' : Int) ∧ (m' : Int) ≤ (m' : Int) ∧ (m' : Int) * 8 ≤ 140737488355328 ∧ (m' : Int) ≤ 1099511627776 := by omega
    have e0 := kept_l0 c (n' : Int) m' (by unfold big; omega) m' 0 (by omega) (List.replicate m' [.int 0]) (by
      apply List.ext_getElem
      · simp
      · intro q h1 h2; simp)
    have e1 := kept_l1 c l hc hN n' m' hin _ 0 (Nat.zero_add _)
    obtain ⟨d', e2, e3⟩ := kept_l2 n' (by unfold big; omega) (.sl (keptA l m')) (l.map (·.1)) n' 0 (by omega) .nils rfl
    rw [show ((0 : Nat) : Int) = 0 from rfl] at e0 e1 e2
    rw [List.take_zero, List.map_nil] at e1
    refine ⟨.sl (keptA l m'), d', ?_, fun k => absurd h k, fun _ => ⟨rfl, e3⟩⟩
    simp only [Option.bind_some, rowsAt_zero, at_zero, toI_int, h, bne_self_eq_false, Bool.false_eq_true, if_false, b1, b2, and_self, if_true, Int.toNat_natCast, List.length_replicate, e0, gI_s, gI_z, gC_s, gC_z, hl, uArr_nil, e1, rows_sl, uArr_len, e2]
  · have hne : (chkV l n m != 0) = true := by simp [h]
    refine ⟨.nils, .nils, ?_, fun _ => ⟨rfl, rfl⟩, fun k => absurd k h⟩
    simp only [Option.bind_some, rowsAt_zero, at_zero, toI_int, hne, if_true]
theorem rk_l1 (c : C) (l : List P) (hc : c.rows = l.map pr) (hN : l.length ≤ big) (n k m k' : Int) (d e : C) : ∀ (j i : Nat), i + j = l.length → ∀ w : Int,
    clapref3_Kept_l1 (lim T) c n k w m k' c (l.length : Int) (i : Int) d e = some (0, [.r [c], .r [.int n], .r [.int (lastF (l.drop i) w k)], .r [.int m], .r [.int k'], .r [d], .r [e]])
  | 0, i, h, w => by
    rw [clapref3_Kept_l1_eq]; unfold clapref3_Kept_b1
    obtain rfl : i = l.length := by omega
    simp [lastF]
  | j + 1, i, h, w => by
    rw [clapref3_Kept_l1_eq]; unfold clapref3_Kept_b1
    have hi : i < l.length := by omega
    have h1 : (i : Int) < (l.length : Int) := by omega
    have h0 : (0 : Int) ≤ (i : Int) := by omega
    have hl : c.rows.length = l.length := by rw [hc, List.length_map]
    have hr := pr_at hc i hi
    have ih := rk_l1 c l hc hN n k m k' d e j (i + 1) (by omega)
    rw [List.drop_eq_getElem_cons hi, lastF, List.foldl_cons, ← lastF]
    by_cases c1 : l[i].2 = k
    · have : (l[i].2 == k) = true := by simp [c1]
      simp only [h1, h0, hl, decide_true, and_self, if_true, Int.toNat_natCast, hr, at_pr0, at_pr1, toI_int, c1, beq_self_eq_true, wrap_nat (show i ≤ big by omega), ih]
    · have : ¬ (l[i].2 == k) = true := by simp [c1]
      simp only [h1, h0, hl, decide_true, and_self, if_true, Int.toNat_natCast, hr, at_pr0, at_pr1, toI_int, beq_iff_eq, c1, if_false, wrap_nat (show i ≤ big by omega), ih]
theorem rk_l0 (c : C) (l : List P) (hc : c.rows = l.map pr) (hN : l.length ≤ big) (n : Int) (m : Nat) (hm : m ≤ big) (e : C) : ∀ (j k : Nat), k + j = m → ∀ d : C, d.rows = keptA l k →
    ∃ d' : C, clapref3_Kept_l0 (lim T) c n (m : Int) (k : Int) d e = some (0, [.r [c], .r [.int n], .r [d'], .r [e]]) ∧ d'.rows = keptA l m
  | 0, k, h, d, hd => by
    rw [clapref3_Kept_l0_eq]; unfold clapref3_Kept_b0
    obtain rfl : k = m := by omega
    exact ⟨d, by simp, hd⟩
  | j + 1, k, h, d, hd => by
    rw [clapref3_Kept_l0_eq]; unfold clapref3_Kept_b0
    have h1 : (k : Int) < (m : Int) := by omega
    have hl : c.rows.length = l.length := by rw [hc, List.length_map]
    have e1 := rk_l1 c l hc hN n (k : Int) (m : Int) (k : Int) d e _ 0 (Nat.zero_add _) (-1)
    rw [show ((0 : Nat) : Int) = 0 from rfl, List.drop_zero] at e1
    have hdl : d.rows.length = k := by rw [hd, keptA_len]
    have hg : (k + 1) * 8 ≤ 140737488355328 := by unfold big at hm; omega
    obtain ⟨d', f1, f2⟩ := rk_l0 c l hc hN n m hm e j (k + 1) (by omega) (appC d [[.int (lastF l (-1) k)]]) (by rw [appC_rows, hd]; simp [keptA, List.range_succ])
    refine ⟨d', ?_, f2⟩
    simp only [h1, decide_true, if_true, hl, e1, Option.bind_some, gI_s, gI_z, gC_s, gC_z, hdl, List.length_cons, List.length_nil, Nat.zero_add, hg, wrap_nat (show k ≤ big by omega), f1]
theorem rk_l3 (c : C) (l : List P) (hc : c.rows = l.map pr) (hN : l.length ≤ big) (k n k' : Int) (d e : C) : ∀ (j i : Nat), i + j = l.length → ∀ b : Bool,
    clapref3_Kept_l3 (lim T) c k b n k' c (l.length : Int) (i : Int) d e = some (0, [.r [c], .r [.int k], .r [.bool (b || decide (k ∈ (l.drop i).map (·.1)))], .r [.int n], .r [.int k'], .r [d], .r [e]])
  | 0, i, h, b => by
    rw [clapref3_Kept_l3_eq]; unfold clapref3_Kept_b3
    obtain rfl : i = l.length := by omega
    simp
  | j + 1, i, h, b => by
    rw [clapref3_Kept_l3_eq]; unfold clapref3_Kept_b3
    have hi : i < l.length := by omega
    have h1 : (i : Int) < (l.length : Int) := by omega
    have h0 : (0 : Int) ≤ (i : Int) := by omega
    have hl : c.rows.length = l.length := by rw [hc, List.length_map]
    have hr := pr_at hc i hi
    have ih := rk_l3 c l hc hN k n k' d e j (i + 1) (by omega)
    have hb : (b || decide (k ∈ (l.drop i).map (·.1))) = ((b || (l[i].1 == k)) || decide (k ∈ (l.drop (i + 1)).map (·.1))) := by
      rw [List.drop_eq_getElem_cons hi, List.map_cons]
      by_cases c1 : l[i].1 = k
      · cases b <;> simp [c1]
      · have : ¬ k = l[i].1 := fun e => c1 e.symm
        have c2 : (l[i].1 == k) = false := by simp [c1]
        rw [c2, Bool.or_false]
        congr 1
        simp only [List.mem_cons, this, false_or]
    rw [hb]
    cases b <;> simp only [h1, h0, hl, decide_true, and_self, if_true, Bool.false_eq_true, if_false, Bool.true_or, Bool.false_or, Int.toNat_natCast, hr, at_pr0, at_pr1, toI_int, wrap_nat (show i ≤ big by omega), ih]
theorem rk_l2 (c : C) (l : List P) (hc : c.rows = l.map pr) (hN : l.length ≤ big) (n : Nat) (hn : n ≤ big) (d : C) : ∀ (j i : Nat), i + j = n → ∀ e : C, e.rows = lostL (l.map (·.1)) i →
    ∃ e' : C, clapref3_Kept_l2 (lim T) c (n : Int) (i : Int) d e = some (0, [.r [d], .r [e']]) ∧ e'.rows = lostL (l.map (·.1)) n
  | 0, i, h, e, he => by
    rw [clapref3_Kept_l2_eq]; unfold clapref3_Kept_b2
    obtain rfl : i = n := by omega
    exact ⟨e, by simp, he⟩
  | j + 1, i, h, e, he => by
    rw [clapref3_Kept_l2_eq]; unfold clapref3_Kept_b2
    have h1 : (i : Int) < (n : Int) := by omega
    have hl : c.rows.length = l.length := by rw [hc, List.length_map]
    have e1 := rk_l3 c l hc hN (i : Int) (n : Int) (i : Int) d e _ 0 (Nat.zero_add _) false
    rw [show ((0 : Nat) : Int) = 0 from rfl, List.drop_zero, Bool.false_or] at e1
    have hdl := lostL_len (l.map (·.1)) i
    rw [← he] at hdl
    have hg : (e.rows.length + 1) * 8 ≤ 140737488355328 := by unfold big at hn; omega
    have hs := lostL_succ (l.map (·.1)) i
    by_cases c1 : (i : Int) ∈ l.map (·.1)
    · rw [if_pos c1] at hs
      obtain ⟨e', f1, f2⟩ := rk_l2 c l hc hN n hn d j (i + 1) (by omega) e (by rw [he, hs])
      refine ⟨e', ?_, f2⟩
      rw [decide_eq_true c1] at e1
      simp only [h1, decide_true, if_true, hl, e1, Option.bind_some, gB_s, gB_z, gI_s, gI_z, gC_s, gC_z, Bool.not_true, Bool.false_eq_true, if_false, wrap_nat (show i ≤ big by omega), f1]
    · rw [if_neg c1] at hs
      obtain ⟨e', f1, f2⟩ := rk_l2 c l hc hN n hn d j (i + 1) (by omega) (appC e [[.int (i : Int)]]) (by rw [appC_rows, he, hs])
      refine ⟨e', ?_, f2⟩
      rw [decide_eq_false c1] at e1
      simp only [h1, decide_true, if_true, hl, e1, Option.bind_some, gB_s, gB_z, gI_s, gI_z, gC_s, gC_z, Bool.not_false, List.length_cons, List.length_nil, Nat.zero_add, hg, wrap_nat (show i ≤ big by omega), f1]
theorem rkept_spec (c : C) (l : List P) (hc : c.rows = l.map pr) (hN : l.length ≤ big) (n m : Int) : ∃ d e : C, (lim T).pc n_clapref3_Kept [[c], [.int n], [.int m]] = some [[d], [e], [.int (chkV l n m)]] ∧ (chkV l n m ≠ 0 → d = .nils ∧ e = .nils) ∧ (chkV l n m = 0 → d.rows = keptA l m.toNat ∧ e.rows = lostL (l.map (·.1)) n.toNat) := by
  rw [clapref3_Kept_pc]; unfold clapref3_Kept
  rw [aligned_spec c l hc hN]
  by_cases h : chkV l n m = 0
  · have hr : ¬ (n < 0 ∨ m < 0 ∨ n > 200 ∨ m > 200) := fun k => by rw [chkV_1 l k] at h; exact absurd h (by decide)
    obtain ⟨n', rfl⟩ : ∃ n' : Nat, n = (n' : Int) := ⟨n.toNat, by omega⟩
    obtain ⟨m', rfl⟩ : ∃ m' : Nat, m = (m' : Int) := ⟨m.toNat, by omega⟩
    obtain ⟨d', e0, e1⟩ := rk_l0 c l hc hN (n' : Int) m' (by unfold big; omega) .nils m' 0 (by omega) .nils rfl
    obtain ⟨e', e2, e3⟩ := rk_l2 c l hc hN n' (by unfold big; omega) d' n' 0 (by omega) .nils rfl
    rw [show ((0 : Nat) : Int) = 0 from rfl] at e0 e2
    refine ⟨d', e', ?_, fun k => absurd h k, fun _ => ⟨e1, e3⟩⟩
    simp only [Option.bind_some, rowsAt_zero, at_zero, toI_int, h, bne_self_eq_false, Bool.false_eq_true, if_false, e0, gI_s, gI_z, gC_s, gC_z, e2]
  · have hne : (chkV l n m != 0) = true := by simp [h]
    refine ⟨.nils, .nils, ?_, fun _ => ⟨rfl, rfl⟩, fun k => absurd k h⟩
    simp only [Option.bind_some, rowsAt_zero, at_zero, toI_int, hne, if_true]
theorem equali_l (c d : C) (hd : d.rows = c.rows) (hN : c.rows.length ≤ big) : ∀ (j i : Nat), i + j = c.rows.length → slices_Equal_int_l0 (lim T) d c (c.rows.length : Int) (i : Int) = some (0, [])
  | 0, i, h => by
    rw [slices_Equal_int_l0_eq]; unfold slices_Equal_int_b0
    obtain rfl : i = c.rows.length := by omega
    simp
  | j + 1, i, h => by
    rw [slices_Equal_int_l0_eq]; unfold slices_Equal_int_b0
    have h1 : (i : Int) < (c.rows.length : Int) := by omega
    have h0 : (0 : Int) ≤ (i : Int) := by omega
    have ih := equali_l c d hd hN j (i + 1) (by omega)
    rw [hd]
    simp only [h1, h0, decide_true, and_self, if_true, bne_self_eq_false, Bool.false_eq_true, if_false, wrap_nat (show i ≤ big by omega), ih]
theorem equali_spec (c d : C) (hd : d.rows = c.rows) (hN : c.rows.length ≤ big) : (lim T).pc n_slices_Equal_int [[d], [c]] = some [[.bool true]] := by
  rw [slices_Equal_int_pc]; unfold slices_Equal_int
  have := equali_l c d hd hN _ 0 (Nat.zero_add _)
  simp only [Int.ofNat_zero, Int.natCast_zero] at this
  rw [hd, this]
  simp
end Go.Ev.Zzi
