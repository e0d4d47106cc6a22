/-
  A part of the proof: what the functions of the program compute.
-/
import Derived.Test.YtgfpahfegbmoeaaZSh
set_option linter.all false
set_option maxRecDepth 100000
namespace Go.Ev.Zzi
/-! Compose and Joined -/
def fst1 : List P → Int → Option Int
  | [], _ => none
  | p :: l, k => if p.2 = k then some p.1 else fst1 l k
def one (a : List P) (q : P) : List Row := match fst1 a q.1 with | none => [] | some o => [[.int o, .int q.2]]
def cmps (a b : List P) : List Row := (b.map (one a)).flatten
theorem cmps_snoc (a b : List P) (q : P) : cmps a (b ++ [q]) = cmps a b ++ one a q := by simp [cmps]
theorem one_len (a : List P) (q : P) : (one a q).length ≤ 1 := by unfold one; split <;> simp
theorem cmps_len (a : List P) : ∀ b : List P, (cmps a b).length ≤ b.length
  | [] => by simp [cmps]
  | q :: b => by
    have := cmps_len a b
    have := one_len a q
    have e : cmps a (q :: b) = one a q ++ cmps a b := by simp [cmps]
    rw [e, List.length_append, List.length_cons]; omega
theorem comp_l1 (ca cb : C) (a : List P) (ha : ca.rows = a.map pr) (hN : a.length ≤ big) (x y : Int) (q : P) (d : C) (hd : d.rows.length ≤ big) : ∀ (j i : Nat), i + j = a.length → ∃ d' : C,
    align_Compose_l1 (lim T) ca cb x y ca (a.length : Int) (i : Int) d (pr q) = some (0, [.r [ca], .r [cb], .r [.int x], .r [.int y], .r [d']]) ∧ d'.rows = d.rows ++ one (a.drop i) q
  | 0, i, h => by
    rw [align_Compose_l1_eq]; unfold align_Compose_b1
    obtain rfl : i = a.length := by omega
    exact ⟨d, by simp, by simp [one, fst1]⟩
  | j + 1, i, h => by
    rw [align_Compose_l1_eq]; unfold align_Compose_b1
    have hi : i < a.length := by omega
    have h1 : (i : Int) < (a.length : Int) := by omega
    have h0 : (0 : Int) ≤ (i : Int) := by omega
    have hl : ca.rows.length = a.length := by rw [ha, List.length_map]
    have hr := pr_at ha i hi
    have hg : (d.rows.length + 1) * 16 ≤ 140737488355328 := by unfold big at hd; omega
    rw [List.drop_eq_getElem_cons hi]
    by_cases c1 : a[i].2 = q.1
    · refine ⟨appC d [[.int a[i].1, .int q.2]], ?_, by rw [appC_rows, one, fst1, if_pos c1]⟩
      simp only [h1, h0, hl, decide_true, and_self, if_true, Int.toNat_natCast, hr, at_pr0, at_pr1, toI_int, c1, beq_self_eq_true, List.length_cons, List.length_nil, Nat.zero_add, hg]
    · obtain ⟨d', e1, e2⟩ := comp_l1 ca cb a ha hN x y q d hd j (i + 1) (by omega)
      refine ⟨d', ?_, by rw [e2]; unfold one; rw [fst1, if_neg c1]⟩
      simp only [h1, h0, hl, decide_true, and_self, if_true, Int.toNat_natCast, hr, at_pr0, at_pr1, toI_int, beq_iff_eq, c1, if_false, wrap_nat (show i ≤ big by omega), e1]
theorem comp_l0 (ca cb : C) (a b : List P) (ha : ca.rows = a.map pr) (hb : cb.rows = b.map pr) (hN : a.length ≤ big) (hM : b.length ≤ big) : ∀ (j i : Nat), i + j = b.length → ∀ d : C, d.rows = cmps a (b.take i) →
    ∃ d' : C, align_Compose_l0 (lim T) ca cb (b.length : Int) (i : Int) d = some (0, [.r [d']]) ∧ d'.rows = cmps a b
  | 0, i, h, d, hd => by
    rw [align_Compose_l0_eq]; unfold align_Compose_b0
    obtain rfl : i = b.length := by omega
    exact ⟨d, by simp, by rw [hd, List.take_length]⟩
  | j + 1, i, h, d, hd => by
    rw [align_Compose_l0_eq]; unfold align_Compose_b0
    have hi : i < b.length := by omega
    have h1 : (i : Int) < (b.length : Int) := by omega
    have h0 : (0 : Int) ≤ (i : Int) := by omega
    have hla : ca.rows.length = a.length := by rw [ha, List.length_map]
    have hlb : cb.rows.length = b.length := by rw [hb, List.length_map]
    have hr := pr_at hb i hi
    have hdl := cmps_len a (b.take i)
    rw [← hd, List.length_take] at hdl
    obtain ⟨d1, e1, e2⟩ := comp_l1 ca cb a ha hN (b.length : Int) (i : Int) b[i] d (by omega) _ 0 (Nat.zero_add _)
    rw [show ((0 : Nat) : Int) = 0 from rfl] at e1
    rw [List.drop_zero] at e2
    have ht : b.take (i + 1) = b.take i ++ [b[i]] := by rw [List.take_add_one, List.getElem?_eq_getElem hi]; rfl
    obtain ⟨d', f1, f2⟩ := comp_l0 ca cb a b ha hb hN hM j (i + 1) (by omega) d1 (by rw [ht, cmps_snoc, e2, hd])
    refine ⟨d', ?_, f2⟩
    simp only [h1, h0, hla, hlb, decide_true, and_self, if_true, Int.toNat_natCast, hr, e1, Option.bind_some, gI_s, gI_z, gC_s, gC_z, wrap_nat (show i ≤ big by omega), f1]
theorem comp_spec (ca cb : C) (a b : List P) (ha : ca.rows = a.map pr) (hb : cb.rows = b.map pr) (hN : a.length ≤ big) (hM : b.length ≤ big) : ∃ d : C, (lim T).pc n_align_Compose [[ca], [cb]] = some [[d]] ∧ d.rows = cmps a b := by
  rw [align_Compose_pc]; unfold align_Compose
  have hlb : cb.rows.length = b.length := by rw [hb, List.length_map]
  obtain ⟨d, e1, e2⟩ := comp_l0 ca cb a b ha hb hN hM _ 0 (Nat.zero_add _) .nils (by simp [cmps])
  rw [show ((0 : Nat) : Int) = 0 from rfl] at e1
  exact ⟨d, by rw [hlb, e1]; simp, e2⟩
theorem join_l0 (ca cb : C) (a : List P) (ha : ca.rows = a.map pr) (hN : a.length ≤ big) : ∀ (i : Nat), i ≤ a.length → ∀ es : List (Row × Row), (∀ k : Int, findE lI [.int k] es = (fst1 (a.drop i) k).map fun o => [.int o]) →
    ∃ es' : List (Row × Row), clapref3_Joined_l0 (lim T) ca cb ((i : Int) - 1) es = some (0, [.r [cb], .m es']) ∧ (∀ k : Int, findE lI [.int k] es' = (fst1 a k).map fun o => [.int o])
  | 0, h, es, he => by
    rw [clapref3_Joined_l0_eq]; unfold clapref3_Joined_b0
    refine ⟨es, by simp, fun k => ?_⟩
    have := he k
    rwa [List.drop_zero] at this
  | i + 1, h, es, he => by
    rw [clapref3_Joined_l0_eq]; unfold clapref3_Joined_b0
    have e : ((i + 1 : Nat) : Int) - 1 = (i : Int) := by omega
    rw [e]
    have hi : i < a.length := by omega
    have h1 : (i : Int) < (a.length : Int) := by omega
    have h0 : (0 : Int) ≤ (i : Int) := by omega
    have h0' : (i : Int) ≥ 0 := h0
    have hl : ca.rows.length = a.length := by rw [ha, List.length_map]
    have hr := pr_at ha i hi
    have w : IntKind.wrap .i64 ((i : Int) - 1) = (i : Int) - 1 := by unfold big at hN; exact wrapZ (by omega) (by omega)
    obtain ⟨es', f1, f2⟩ := join_l0 ca cb a ha hN i (by omega) (setE lI [.int a[i].2] [.int a[i].1] es) (fun k => by
      rw [find_set, List.drop_eq_getElem_cons hi, fst1, he]
      by_cases c1 : k = a[i].2
      · rw [if_pos c1, if_pos c1.symm]; rfl
      · rw [if_neg c1, if_neg (fun h => c1 h.symm)])
    refine ⟨es', ?_, f2⟩
    simp only [h1, h0, h0', hl, decide_true, and_self, if_true, Int.toNat_natCast, hr, at_pr0, at_pr1, toI_int, w, f1]
theorem join_l1 (cb : C) (a b : List P) (hb : cb.rows = b.map pr) (hM : b.length ≤ big) (es : List (Row × Row)) (he : ∀ k : Int, findE lI [.int k] es = (fst1 a k).map fun o => [.int o]) : ∀ (j i : Nat), i + j = b.length → ∀ d : C, d.rows = cmps a (b.take i) →
    ∃ d' : C, clapref3_Joined_l1 (lim T) cb (b.length : Int) (i : Int) es d = some (0, [.r [d']]) ∧ d'.rows = cmps a b
  | 0, i, h, d, hd => by
    rw [clapref3_Joined_l1_eq]; unfold clapref3_Joined_b1
    obtain rfl : i = b.length := by omega
    exact ⟨d, by simp, by rw [hd, List.take_length]⟩
  | j + 1, i, h, d, hd => by
    rw [clapref3_Joined_l1_eq]; unfold clapref3_Joined_b1
    have hi : i < b.length := by omega
    have h1 : (i : Int) < (b.length : Int) := by omega
    have h0 : (0 : Int) ≤ (i : Int) := by omega
    have hlb : cb.rows.length = b.length := by rw [hb, List.length_map]
    have hr := pr_at hb i hi
    have hdl := cmps_len a (b.take i)
    rw [← hd, List.length_take] at hdl
    have hg : (d.rows.length + 1) * 16 ≤ 140737488355328 := by unfold big at hM; omega
    have ht : b.take (i + 1) = b.take i ++ [b[i]] := by rw [List.take_add_one, List.getElem?_eq_getElem hi]; rfl
    cases hf : fst1 a b[i].1 with
    | none =>
      have ho : one a b[i] = [] := by rw [one, hf]
      obtain ⟨d', f1, f2⟩ := join_l1 cb a b hb hM es he j (i + 1) (by omega) d (by rw [ht, cmps_snoc, ho, hd, List.append_nil])
      refine ⟨d', ?_, f2⟩
      simp only [h1, h0, hlb, decide_true, and_self, if_true, Int.toNat_natCast, hr, at_pr0, at_pr1, toI_int, he, hf, Option.map_none, Option.isSome_none, Bool.false_eq_true, if_false, wrap_nat (show i ≤ big by omega), f1]
    | some o =>
      have ho : one a b[i] = [[.int o, .int b[i].2]] := by rw [one, hf]
      obtain ⟨d', f1, f2⟩ := join_l1 cb a b hb hM es he j (i + 1) (by omega) (appC d [[.int o, .int b[i].2]]) (by rw [ht, cmps_snoc, ho, appC_rows, hd])
      refine ⟨d', ?_, f2⟩
      simp only [h1, h0, hlb, decide_true, and_self, if_true, Int.toNat_natCast, hr, at_pr0, at_pr1, toI_int, he, hf, Option.map_some, Option.isSome_some, Option.getD_some, at_zero, List.length_cons, List.length_nil, Nat.zero_add, hg, wrap_nat (show i ≤ big by omega), f1]
theorem join_spec (ca cb : C) (a b : List P) (ha : ca.rows = a.map pr) (hb : cb.rows = b.map pr) (hN : a.length ≤ big) (hM : b.length ≤ big) : ∃ d : C, (lim T).pc n_clapref3_Joined [[ca], [cb]] = some [[d]] ∧ d.rows = cmps a b := by
  rw [clapref3_Joined_pc]; unfold clapref3_Joined
  have hla : ca.rows.length = a.length := by rw [ha, List.length_map]
  have hlb : cb.rows.length = b.length := by rw [hb, List.length_map]
  have w : IntKind.wrap .i64 ((a.length : Int) - 1) = (a.length : Int) - 1 := by unfold big at hN; exact wrapZ (by omega) (by omega)
  obtain ⟨es, e1, e2⟩ := join_l0 ca cb a ha hN a.length (Nat.le_refl _) [] (fun k => by simp [findE, fst1])
  obtain ⟨d, f1, f2⟩ := join_l1 cb a b hb hM es e2 _ 0 (Nat.zero_add _) .nils (by simp [cmps])
  rw [show ((0 : Nat) : Int) = 0 from rfl] at f1
  exact ⟨d, by rw [hla, w, e1]; simp only [Option.bind_some, gC_z, gM_s, gM_z, hlb, f1], f2⟩
theorem two_cmps (a b : List P) : ∀ r ∈ cmps a b, ∃ x y : Int, r = [.int x, .int y] := fun r hr => by
  rw [cmps, List.mem_flatten] at hr
  obtain ⟨t, h1, h2⟩ := hr
  obtain ⟨q, _, rfl⟩ := List.mem_map.1 h1
  unfold one at h2
  split at h2
  · simp at h2
  · rw [List.mem_singleton] at h2; exact ⟨_, _, h2⟩
/-! Crossings -/
def X (p q : P) : Bool := (decide (p.1 < q.1) && decide (p.2 > q.2)) || (decide (p.1 > q.1) && decide (p.2 < q.2))
theorem X_symm (p q : P) : X p q = X q p := by
  unfold X
  rw [Bool.or_comm]
def S2 : List P → Nat
  | [] => 0
  | p :: l => l.countP (X p) + S2 l
theorem S2_snoc (q : P) : ∀ l : List P, S2 (l ++ [q]) = S2 l + l.countP (X q)
  | [] => by simp [S2]
  | p :: l => by
    rw [List.cons_append, S2, S2, S2_snoc q l, List.countP_append]
    simp only [List.countP_cons, List.countP_nil]
    rw [X_symm q p]
    by_cases h : X p q = true <;> simp [h] <;> omega
theorem wrapL {n : Nat} (h : n ≤ 4000000000000) : Go.IntKind.wrap .i64 ((n : Int) + 1) = ((n + 1 : Nat) : Int) := by rw [wrap_i64 ⟨by omega, by omega⟩]; omega
theorem cr_l1 (c e : C) (t : List P) (he : e.rows = t.map pr) (hN : t.length ≤ 1048576) (x y : Int) (q : P) : ∀ (j i : Nat), i + j = t.length → ∀ k : Nat, k + j ≤ 4000000000000 →
    align_Crossings_l1 (lim T) c (k : Int) c x y e (t.length : Int) (i : Int) (pr q) = some (0, [.r [c], .r [.int ((k + (t.drop i).countP (X q) : Nat) : Int)], .r [c], .r [.int x], .r [.int y]])
  | 0, i, h, k, hk => by
    rw [align_Crossings_l1_eq]; unfold align_Crossings_b1
    obtain rfl : i = t.length := by omega
    simp
  | j + 1, i, h, k, hk => by
    rw [align_Crossings_l1_eq]; unfold align_Crossings_b1
    have hi : i < t.length := by omega
    have h1 : (i : Int) < (t.length : Int) := by omega
    have h0 : (0 : Int) ≤ (i : Int) := by omega
    have hl : e.rows.length = t.length := by rw [he, List.length_map]
    have hr := pr_at he i hi
    rw [List.drop_eq_getElem_cons hi, List.countP_cons]
    generalize t[i] = p at hr
    have wn : IntKind.wrap .i64 ((i : Int) + 1) = ((i + 1 : Nat) : Int) := wrap_nat (by unfold big; omega)
    have i0 := cr_l1 c e t he hN x y q j (i + 1) (by omega) k (by omega)
    have i1 := cr_l1 c e t he hN x y q j (i + 1) (by omega) (k + 1) (by omega)
    have wk := wrapL (n := k) (by omega)
    have e1 : k + (List.countP (X q) (t.drop (i + 1)) + 1) = k + 1 + List.countP (X q) (t.drop (i + 1)) := by omega
    have hpq : pr q = [.int q.1, .int q.2] := rfl
    simp only [h1, h0, hl, decide_true, and_self, if_true, Int.toNat_natCast, hr, at_pr0, at_pr1, toI_int]
    by_cases c1 : q.1 < p.1
    · by_cases c2 : q.2 > p.2
      · have hX : X q p = true := by simp [X, c1, c2]
        simp only [c1, c2, hX, decide_true, if_true, Option.bind_some, gI_s, gI_z, gC_s, gC_z, gR_s, gR_z, wk, wn, i1, e1]
      · have c3 : ¬ q.1 > p.1 := by omega
        have hX : ¬ X q p = true := by simp [X, c1, c2, c3]
        simp only [c1, c2, c3, hX, decide_true, decide_false, Bool.false_eq_true, if_true, if_false, Option.bind_some, gI_s, gI_z, gC_s, gC_z, gR_s, gR_z, wn, i0, Nat.add_zero]
    · by_cases c3 : q.1 > p.1
      · by_cases c4 : q.2 < p.2
        · have hX : X q p = true := by simp [X, c3, c4]
          simp only [c1, c3, c4, hX, decide_true, decide_false, Bool.false_eq_true, if_true, if_false, Option.bind_some, gI_s, gI_z, gC_s, gC_z, gR_s, gR_z, wk, wn, i1, e1]
        · have hX : ¬ X q p = true := by simp [X, c1, c3, c4]
          simp only [c1, c3, c4, hX, decide_true, decide_false, Bool.false_eq_true, if_true, if_false, Option.bind_some, gI_s, gI_z, gC_s, gC_z, gR_s, gR_z, wn, i0, Nat.add_zero]
      · have hX : ¬ X q p = true := by simp [X, c1, c3]
        simp only [c1, c3, hX, decide_true, decide_false, Bool.false_eq_true, if_true, if_false, Option.bind_some, gI_s, gI_z, gC_s, gC_z, gR_s, gR_z, wn, i0, Nat.add_zero]
theorem mul_bound {i N k : Nat} (hi : i ≤ N) (hN : N ≤ 1048576) (hk : k ≤ i * N) : k ≤ 1099511627776 := by
  have : i * N ≤ 1048576 * 1048576 := Nat.mul_le_mul (by omega) hN
  omega
theorem cr_l0 (c : C) (l : List P) (hc : c.rows = l.map pr) (hN : l.length ≤ 1048576) : ∀ (j i : Nat), i + j = l.length → S2 (l.take i) ≤ i * l.length →
    align_Crossings_l0 (lim T) c (S2 (l.take i) : Int) c (l.length : Int) (i : Int) = some (0, [.r [.int (S2 l : Int)]])
  | 0, i, h, hk => by
    rw [align_Crossings_l0_eq]; unfold align_Crossings_b0
    obtain rfl : i = l.length := by omega
    simp
  | j + 1, i, h, hk => by
    rw [align_Crossings_l0_eq]; unfold align_Crossings_b0
    have hi : i < l.length := by omega
    have h1 : (i : Int) < (l.length : Int) := by omega
    have h1' : (i : Int) ≤ (l.length : Int) := by omega
    have h0 : (0 : Int) ≤ (i : Int) := by omega
    have hl : c.rows.length = l.length := by rw [hc, List.length_map]
    have hr := pr_at hc i hi
    have hs := slc_rows c 0 i
    rw [show ((0 : Nat) : Int) = 0 from rfl, List.drop_zero, hc, ← List.map_take] at hs
    have hbd := mul_bound (by omega) hN hk
    have ht : l.take (i + 1) = l.take i ++ [l[i]] := by rw [List.take_add_one, List.getElem?_eq_getElem hi]; rfl
    have htl : (l.take i).length = i := by rw [List.length_take]; omega
    have e1 := cr_l1 c (slcC c 0 (i : Int)) (l.take i) hs (by omega) (l.length : Int) (i : Int) l[i] i 0 (by omega) (S2 (l.take i)) (by omega)
    rw [show ((0 : Nat) : Int) = 0 from rfl, List.drop_zero, ← S2_snoc, ← ht] at e1
    have hcp := List.countP_le_length (p := X l[i]) (l := l.take i)
    have hk' : S2 (l.take (i + 1)) ≤ (i + 1) * l.length := by
      rw [ht, S2_snoc, Nat.add_mul]; omega
    have ih := cr_l0 c l hc hN j (i + 1) (by omega) hk'
    have hsl : (slcC c 0 (i : Int)).rows.length = (l.take i).length := by rw [hs, List.length_map]
    simp only [h1, h1', h0, hl, decide_true, and_self, if_true, Int.toNat_natCast, Int.le_refl, hr, hsl, e1, Option.bind_some, gI_s, gI_z, gC_s, gC_z, wrap_nat (show i ≤ big by unfold big; omega), ih]
theorem cr_spec (c : C) (l : List P) (hc : c.rows = l.map pr) (hN : l.length ≤ 1048576) : (lim T).pc n_align_Crossings [[c]] = some [[.int (S2 l : Int)]] := by
  rw [align_Crossings_pc]; unfold align_Crossings
  have hl : c.rows.length = l.length := by rw [hc, List.length_map]
  have e := cr_l0 c l hc hN _ 0 (Nat.zero_add _) (by simp [S2])
  rw [show ((0 : Nat) : Int) = 0 from rfl, List.take_zero, show ((S2 [] : Nat) : Int) = 0 from rfl] at e
  rw [hl, e]; simp
theorem rc_l1 (c : C) (l : List P) (hc : c.rows = l.map pr) (hN : l.length ≤ 1048576) (i : Nat) (hi : i < l.length) (x y : Int) : ∀ (j q : Nat), q + j = l.length → ∀ k : Nat, k + j ≤ 4000000000000 →
    clapref3_Crossings_l1 (lim T) c (k : Int) (i : Int) (q : Int) x y = some (0, [.r [c], .r [.int ((k + (l.drop q).countP (X l[i]) : Nat) : Int)], .r [.int x], .r [.int y]])
  | 0, q, h, k, hk => by
    rw [clapref3_Crossings_l1_eq]; unfold clapref3_Crossings_b1
    have hl : c.rows.length = l.length := by rw [hc, List.length_map]
    obtain rfl : q = l.length := by omega
    simp [hl]
  | j + 1, q, h, k, hk => by
    rw [clapref3_Crossings_l1_eq]; unfold clapref3_Crossings_b1
    have hq : q < l.length := by omega
    have h1 : (q : Int) < (l.length : Int) := by omega
    have h0 : (0 : Int) ≤ (q : Int) := by omega
    have h1i : (i : Int) < (l.length : Int) := by omega
    have h0i : (0 : Int) ≤ (i : Int) := by omega
    have hl : c.rows.length = l.length := by rw [hc, List.length_map]
    have hr := pr_at hc q hq
    have hri := pr_at hc i hi
    have i0 := rc_l1 c l hc hN i hi x y j (q + 1) (by omega) k (by omega)
    have i1 := rc_l1 c l hc hN i hi x y j (q + 1) (by omega) (k + 1) (by omega)
    rw [List.drop_eq_getElem_cons hq, List.countP_cons]
    have wn : IntKind.wrap .i64 ((q : Int) + 1) = ((q + 1 : Nat) : Int) := wrap_nat (by unfold big; omega)
    have wk := wrapL (n := k) (by omega)
    generalize l[q] = p at hr
    generalize l[i] = o at hri i0 i1
    have e1 : k + (List.countP (X o) (l.drop (q + 1)) + 1) = k + 1 + List.countP (X o) (l.drop (q + 1)) := by omega
    have hpo : pr o = [.int o.1, .int o.2] := rfl
    have hpp : pr p = [.int p.1, .int p.2] := rfl
    simp only [h1, h0, h1i, h0i, hl, decide_true, and_self, if_true, Int.toNat_natCast, hr, hri, at_pr0, at_pr1, toI_int, decide_eq_true_eq]
    by_cases c1 : o.1 > p.1
    · have c5 : p.1 < o.1 := c1
      have c6 : ¬ o.1 < p.1 := by omega
      simp only [c1, if_true, Option.bind_some, gI_s, gI_z, gC_s, gC_z, gR_s, gR_z, hpo, hpp, at_1, toI_int, c5]
      by_cases c2 : p.2 > o.2
      · have c7 : o.2 < p.2 := c2
        have hX : X o p = true := by simp [X, c1, c7]
        simp only [c2, hX, if_true, Option.bind_some, gI_s, gI_z, gC_s, gC_z, wk, wn, i1, e1]
      · have c7 : ¬ o.2 < p.2 := c2
        have hX : ¬ X o p = true := by simp [X, c1, c6, c7]
        simp only [c2, hX, Bool.false_eq_true, if_false, Option.bind_some, gI_s, gI_z, gC_s, gC_z, wn, i0, Nat.add_zero]
    · simp only [c1, if_false, Option.bind_some, gI_s, gI_z, gC_s, gC_z, gR_s, gR_z, hpo, hpp, at_1, toI_int]
      by_cases c5 : o.1 < p.1
      · by_cases c2 : o.2 > p.2
        · have hX : X o p = true := by simp [X, c5, c2]
          simp only [c5, c2, hX, if_true, Option.bind_some, gI_s, gI_z, gC_s, gC_z, wk, wn, i1, e1]
        · have hX : ¬ X o p = true := by simp [X, c1, c5, c2]
          simp only [c5, c2, hX, Bool.false_eq_true, if_true, if_false, Option.bind_some, gI_s, gI_z, gC_s, gC_z, wn, i0, Nat.add_zero]
      · have hX : ¬ X o p = true := by simp [X, c1, c5]
        simp only [c5, hX, Bool.false_eq_true, if_false, Option.bind_some, gI_s, gI_z, gC_s, gC_z, wn, i0, Nat.add_zero]
theorem rc_l0 (c : C) (l : List P) (hc : c.rows = l.map pr) (hN : l.length ≤ 1048576) : ∀ (j i : Nat), i + j = l.length → ∀ k : Nat, k ≤ i * l.length →
    clapref3_Crossings_l0 (lim T) c (k : Int) (l.length : Int) (i : Int) = some (0, [.r [.int ((k + S2 (l.drop i) : Nat) : Int)]])
  | 0, i, h, k, hk => by
    rw [clapref3_Crossings_l0_eq]; unfold clapref3_Crossings_b0
    obtain rfl : i = l.length := by omega
    simp [S2]
  | j + 1, i, h, k, hk => by
    rw [clapref3_Crossings_l0_eq]; unfold clapref3_Crossings_b0
    have hi : i < l.length := by omega
    have h1 : (i : Int) < (l.length : Int) := by omega
    have hbd := mul_bound (by omega) hN hk
    have wn : IntKind.wrap .i64 ((i : Int) + 1) = ((i + 1 : Nat) : Int) := wrap_nat (by unfold big; omega)
    have e1 := rc_l1 c l hc hN i hi (l.length : Int) (i : Int) j (i + 1) (by omega) k (by omega)
    have hcp := List.countP_le_length (p := X l[i]) (l := l.drop (i + 1))
    rw [List.length_drop] at hcp
    have ih := rc_l0 c l hc hN j (i + 1) (by omega) (k + (l.drop (i + 1)).countP (X l[i])) (by rw [Nat.add_mul]; omega)
    rw [List.drop_eq_getElem_cons hi, S2]
    have e2 : k + (List.countP (X l[i]) (l.drop (i + 1)) + S2 (l.drop (i + 1))) = k + List.countP (X l[i]) (l.drop (i + 1)) + S2 (l.drop (i + 1)) := by omega
    rw [e2]
    simp only [h1, decide_true, if_true, wn, e1, Option.bind_some, gI_s, gI_z, gC_s, gC_z, ih]
theorem rc_spec (c : C) (l : List P) (hc : c.rows = l.map pr) (hN : l.length ≤ 1048576) : (lim T).pc n_clapref3_Crossings [[c]] = some [[.int (S2 l : Int)]] := by
  rw [clapref3_Crossings_pc]; unfold clapref3_Crossings
  have hl : c.rows.length = l.length := by rw [hc, List.length_map]
  have e := rc_l0 c l hc hN _ 0 (Nat.zero_add _) 0 (Nat.zero_le _)
  rw [show ((0 : Nat) : Int) = 0 from rfl, List.drop_zero, Nat.zero_add] at e
  rw [hl, e]; simp
/-! the law -/
theorem aligned_true : (lim T).pc n_claplaw3_aligned [] = some [[.bool true]] := (lim_pc T).2 ⟨60, by kernel_rfl⟩
theorem law (ca cb : C) (n m : Int) (ha : Two ca) (hb : Two cb) (hN : ca.rows.length ≤ 1048576) (hM : cb.rows.length ≤ 1048576) : (lim T).pc n_claplaw3_AlignLists [[ca], [cb], [.int n], [.int m]] = some [[.bool true]] := by
  rw [claplaw3_AlignLists_pc]; unfold claplaw3_AlignLists
  obtain ⟨a, hca⟩ := pr_two ha
  obtain ⟨b, hcb⟩ := pr_two hb
  have la : a.length ≤ 1048576 := by rw [hca, List.length_map] at hN; exact hN
  have lb : b.length ≤ 1048576 := by rw [hcb, List.length_map] at hM; exact hM
  have la' : a.length ≤ big := by unfold big; omega
  have lb' : b.length ≤ big := by unfold big; omega
  have k11 : (lim T).pc n_align_Check [[.sl ([[.int 0, .int 1]] : List Row)], [.int 1], [.int 1]] = some [[.int 11]] :=
    (check_spec (.sl [[.int 0, .int 1]]) [(0, 1)] rfl (by decide) 1 1).trans (by rw [show chkV [(0, 1)] 1 1 = 11 by decide])
  obtain ⟨ta, t1, t2⟩ := twos_spec ca ha (by unfold big; omega)
  obtain ⟨tb, t3, t4⟩ := twos_spec cb hb (by unfold big; omega)
  have hta := t2.trans hca
  have htb := t4.trans hcb
  obtain ⟨d1, e1, u1, u2, u3⟩ := kept_spec ca a hca la' n m
  obtain ⟨d2, e2, v1, v2, v3⟩ := rkept_spec ta a hta la' n m
  have hd : d1.rows = d2.rows ∧ e1.rows = e2.rows ∧ d2.rows.length ≤ big ∧ e2.rows.length ≤ big := by
    by_cases h : chkV a n m = 0
    · have hr : ¬ (n < 0 ∨ m < 0 ∨ n > 200 ∨ m > 200) := fun k => by rw [chkV_1 a k] at h; exact absurd h (by decide)
      refine ⟨(u3 h).1.trans (v3 h).1.symm, (u3 h).2.trans (v3 h).2.symm, ?_, ?_⟩
      · rw [(v3 h).1, keptA_len]; unfold big; omega
      · rw [(v3 h).2]; have := lostL_len (a.map (·.1)) n.toNat; unfold big; omega
    · rw [(u2 h).1, (u2 h).2, (v2 h).1, (v2 h).2]; exact ⟨rfl, rfl, by simp, by simp⟩
  have q1 := equali_spec d2 d1 hd.1 hd.2.2.1
  have q2 := equali_spec e2 e1 hd.2.1 hd.2.2.2
  have k1 := check_spec ca a hca la' n m
  have k2 := aligned_spec ta a hta la' n m
  obtain ⟨i1, i2, w1, w2, w3, w4, w5⟩ := inv_ex ca ta a hca hta la'
  obtain ⟨i3, w6, w7⟩ := twos_spec i1 (fun r hr => w4 r (by rw [← w3]; exact hr)) (by rw [w3]; exact w5)
  have q3 := equal_spec i2 i3 w4 (w7.trans w3) w5
  obtain ⟨j1, x1, x2⟩ := comp_spec ca cb a b hca hcb la' lb'
  obtain ⟨j2, x3, x4⟩ := join_spec ta tb a b hta htb la' lb'
  have hl2 : j2.rows.length ≤ big := by rw [x4]; have := cmps_len a b; omega
  have hl1 : j1.rows.length ≤ big := by rw [x2]; have := cmps_len a b; omega
  obtain ⟨j3, x5, x6⟩ := twos_spec j1 (fun r hr => two_cmps a b r (by rw [← x2]; exact hr)) hl1
  have q4 := equal_spec j2 j3 (fun r hr => two_cmps a b r (by rw [← x4]; exact hr)) (x6.trans (x2.trans x4.symm)) hl2
  have y1 := cr_spec ca a hca la
  have y2 := rc_spec ta a hta la
  simp only [aligned_true, k11, Option.bind_some, rowsAt_zero, rowsAt_succ, at_zero, toB_bool, toI_int, Bool.not_true, Bool.false_eq_true, if_false, bne_self_eq_false, beq_self_eq_true, if_true, gB_s, gB_z, gI_s, gI_z, gC_s, gC_z, t1, t3, u1, v1, k1, k2, q1, q2, w1, w2, w6, q3, x1, x3, x5, q4, y1, y2]
end Go.Ev.Zzi
