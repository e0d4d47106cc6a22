/-
  A part of the proof: what the functions of the program compute.
-/
import Derived.Test.YtgfpahfegbmoeaaZEq
import Derived.Test.YtgfpahfegbmoeaaEvDa
set_option linter.all false
set_option maxRecDepth 100000
namespace Go.Ev.Zzi
/-! orders of places: an array is a function from places to the places where its elements once stood -/
def L (K : Nat → Int) (x y : Nat) : Prop := K x < K y ∨ (K x = K y ∧ x < y)
theorem L.trans {K : Nat → Int} {x y z : Nat} (h : L K x y) (k : L K y z) : L K x z := by
  unfold L at *; omega
theorem L.asymm {K : Nat → Int} {x y : Nat} (h : L K x y) (k : L K y x) : False := by
  unfold L at *; omega
theorem L.total {K : Nat → Int} {x y : Nat} (h : x ≠ y) : L K x y ∨ L K y x := by
  unfold L; omega
theorem L.of_nlt {K : Nat → Int} {x y : Nat} (h : ¬ K y < K x) (k : x < y) : L K x y := by unfold L; omega
def Srt (K : Nat → Int) (g : Nat → Nat) (a b : Nat) : Prop := ∀ i j, a ≤ i → i < j → j < b → L K (g i) (g j)
def Crs (g : Nat → Nat) (a m b : Nat) : Prop := ∀ i j, a ≤ i → i < m → m ≤ j → j < b → g i < g j
structure Sub (g' g : Nat → Nat) (a b : Nat) : Prop where
  out : ∀ i, (i < a ∨ b ≤ i) → g' i = g i
  fwd : ∀ i, a ≤ i → i < b → ∃ j, a ≤ j ∧ j < b ∧ g' i = g j
  bwd : ∀ j, a ≤ j → j < b → ∃ i, a ≤ i ∧ i < b ∧ g' i = g j
theorem Sub.refl (g : Nat → Nat) (a b : Nat) : Sub g g a b := ⟨fun _ _ => rfl, fun i h k => ⟨i, h, k, rfl⟩, fun i h k => ⟨i, h, k, rfl⟩⟩
theorem Sub.trans {g1 g2 g3 : Nat → Nat} {a b : Nat} (h : Sub g1 g2 a b) (k : Sub g2 g3 a b) : Sub g1 g3 a b := by
  refine ⟨fun i hi => (h.out i hi).trans (k.out i hi), fun i h1 h2 => ?_, fun j h1 h2 => ?_⟩
  · obtain ⟨j, a1, a2, a3⟩ := h.fwd i h1 h2
    obtain ⟨q, b1, b2, b3⟩ := k.fwd j a1 a2
    exact ⟨q, b1, b2, a3.trans b3⟩
  · obtain ⟨i, a1, a2, a3⟩ := k.bwd j h1 h2
    obtain ⟨q, b1, b2, b3⟩ := h.bwd i a1 a2
    exact ⟨q, b1, b2, b3.trans a3⟩
theorem Sub.mono {g' g : Nat → Nat} {a b a' b' : Nat} (h : Sub g' g a b) (ha : a' ≤ a) (hb : b ≤ b') : Sub g' g a' b' := by
  refine ⟨fun i hi => h.out i (by omega), fun i h1 h2 => ?_, fun j h1 h2 => ?_⟩
  · by_cases hi : a ≤ i ∧ i < b
    · obtain ⟨j, a1, a2, a3⟩ := h.fwd i hi.1 hi.2
      exact ⟨j, by omega, by omega, a3⟩
    · exact ⟨i, h1, h2, h.out i (by omega)⟩
  · by_cases hi : a ≤ j ∧ j < b
    · obtain ⟨i, a1, a2, a3⟩ := h.bwd j hi.1 hi.2
      exact ⟨i, by omega, by omega, a3⟩
    · exact ⟨j, h1, h2, h.out j (by omega)⟩
/-- Two places change over. -/
def swp (g : Nat → Nat) (i j : Nat) : Nat → Nat := fun q => if q = j then g i else if q = i then g j else g q
theorem swp_sub (g : Nat → Nat) {i j a b : Nat} (hi : a ≤ i) (hi2 : i < b) (hj : a ≤ j) (hj2 : j < b) : Sub (swp g i j) g a b := by
  refine ⟨fun q hq => ?_, fun q h1 h2 => ?_, fun q h1 h2 => ?_⟩
  · simp only [swp]; rw [if_neg (by omega), if_neg (by omega)]
  · simp only [swp]
    by_cases h : q = j
    · exact ⟨i, hi, hi2, by rw [if_pos h]⟩
    · by_cases h' : q = i
      · exact ⟨j, hj, hj2, by rw [if_neg h, if_pos h']⟩
      · exact ⟨q, h1, h2, by rw [if_neg h, if_neg h']⟩
  · simp only [swp]
    by_cases h : q = i
    · exact ⟨j, hj, hj2, by rw [if_pos rfl, h]⟩
    · by_cases h' : q = j
      · by_cases e : i = j
        · exact absurd (h'.trans e.symm) h
        · exact ⟨i, hi, hi2, by rw [if_neg e, if_pos rfl, h']⟩
      · exact ⟨q, h1, h2, by rw [if_neg h', if_neg h]⟩
/-- Two blocks of one length change over. -/
def swr (g : Nat → Nat) (a b c : Nat) : Nat → Nat := fun q => if a ≤ q ∧ q < a + c then g (q + b - a) else if b ≤ q ∧ q < b + c then g (q + a - b) else g q
theorem swr_zero (g : Nat → Nat) (a b : Nat) : swr g a b 0 = g := by
  funext q; simp only [swr]; rw [if_neg (by omega), if_neg (by omega)]
theorem swr_succ (g : Nat → Nat) (a b i : Nat) (h : a + i < b) : swp (swr g a b i) (a + i) (b + i) = swr g a b (i + 1) := by
  funext q
  simp only [swp]
  by_cases h1 : q = b + i
  · subst h1
    rw [if_pos rfl]
    simp only [swr]
    rw [if_neg (by omega), if_neg (by omega), if_neg (by omega), if_pos (by omega)]
    congr 1; omega
  · rw [if_neg h1]
    by_cases h2 : q = a + i
    · subst h2
      rw [if_pos rfl]
      simp only [swr]
      rw [if_neg (by omega), if_neg (by omega), if_pos (by omega)]
      congr 1; omega
    · rw [if_neg h2]
      simp only [swr]
      by_cases h3 : a ≤ q ∧ q < a + i
      · rw [if_pos h3, if_pos (by omega)]
      · by_cases h4 : b ≤ q ∧ q < b + i
        · rw [if_neg h3, if_pos h4, if_neg (by omega), if_pos (by omega)]
        · rw [if_neg h3, if_neg h4, if_neg (by omega), if_neg (by omega)]
/-- The block of i places ahead of m and the block of j places from m on change over. -/
def rot (g : Nat → Nat) (m i j : Nat) : Nat → Nat := fun q => if m - i ≤ q ∧ q < m - i + j then g (q + i) else if m - i + j ≤ q ∧ q < m + j then g (q - j) else g q
theorem rot_eq (g : Nat → Nat) (m i : Nat) (h : i ≤ m) : swr g (m - i) m i = rot g m i i := by
  funext q
  simp only [swr, rot]
  split
  · congr 1; omega
  · split
    · rw [if_pos (by omega)]; congr 1; omega
    · rw [if_neg (by omega)]
theorem rot_gt (g : Nat → Nat) (m i j : Nat) (h : i ≤ m) (hj : j < i) : rot (swr g (m - i) m j) m (i - j) j = rot g m i j := by
  funext q
  simp only [swr, rot]
  by_cases c1 : m - i ≤ q ∧ q < m - i + j
  · rw [if_neg (by omega), if_neg (by omega), if_pos (by omega), if_pos c1]; congr 1; omega
  · by_cases c2 : m - i + j ≤ q ∧ q < m - i + j + j
    · rw [if_pos (by omega), if_neg (by omega), if_pos (by omega), if_neg c1, if_pos (by omega)]; congr 1; omega
    · by_cases c3 : m - i + j + j ≤ q ∧ q < m + j
      · rw [if_neg (by omega), if_pos (by omega), if_neg (by omega), if_neg (by omega), if_neg c1, if_pos (by omega)]
      · rw [if_neg (by omega), if_neg (by omega), if_neg (by omega), if_neg (by omega), if_neg c1, if_neg (by omega)]
theorem rot_lt (g : Nat → Nat) (m i j : Nat) (h : i ≤ m) (hj : i < j) : rot (swr g (m - i) (m + j - i) i) m i (j - i) = rot g m i j := by
  funext q
  simp only [swr, rot]
  by_cases c1 : m - i ≤ q ∧ q < m - i + (j - i)
  · rw [if_pos c1, if_neg (by omega), if_neg (by omega), if_pos (by omega)]
  · by_cases c2 : m - i + (j - i) ≤ q ∧ q < m + (j - i)
    · rw [if_neg c1, if_pos (by omega), if_pos (by omega), if_pos (by omega)]; congr 1; omega
    · by_cases c3 : m + (j - i) ≤ q ∧ q < m + j
      · rw [if_neg c1, if_neg (by omega), if_neg (by omega), if_pos (by omega), if_neg (by omega), if_pos (by omega)]; congr 1; omega
      · rw [if_neg c1, if_neg (by omega), if_neg (by omega), if_neg (by omega), if_neg (by omega), if_neg (by omega)]
/-- Equal orders: what is in order, and holds the same, is the same. -/
theorem srt_unique {K : Nat → Int} {g h : Nat → Nat} {n : Nat} (hg : Srt K g 0 n) (hh : Srt K h 0 n)
    (g1 : ∀ x, x < n → g x < n) (g2 : ∀ y, y < n → ∃ x, x < n ∧ g x = y) (h1 : ∀ x, x < n → h x < n) (h2 : ∀ y, y < n → ∃ x, x < n ∧ h x = y) :
    ∀ i, i < n → g i = h i := by
  intro i
  induction i using Nat.strongRecOn with
  | _ i ih =>
    intro hi
    have key : ∀ (g h : Nat → Nat), Srt K g 0 n → Srt K h 0 n → (∀ x, x < n → g x < n) → (∀ y, y < n → ∃ x, x < n ∧ h x = y) → (∀ j, j < i → g j = h j) → ¬ L K (g i) (h i) := by
      intro g h hg hh g1 h2 e hl
      obtain ⟨j, hj, hjg⟩ := h2 (g i) (g1 i hi)
      rcases Nat.lt_trichotomy j i with c | c | c
      · rw [← e j c] at hjg
        have := hg j i (Nat.zero_le _) c hi
        rw [hjg] at this
        exact this.asymm this
      · subst c
        rw [← hjg] at hl
        exact hl.asymm hl
      · have := hh i j (Nat.zero_le _) c hj
        rw [hjg] at this
        exact this.asymm hl
    by_cases e : g i = h i
    · exact e
    · rcases L.total (K := K) e with c | c
      · exact absurd c (key g h hg hh g1 h2 fun j hj => ih j hj (by omega))
      · exact absurd c (key h g hh hg h1 g2 fun j hj => (ih j hj (by omega)).symm)
/-- From a on, in blocks of s: each in order, and each elder than the ones behind it. -/
inductive Blocks (K : Nat → Int) (g : Nat → Nat) (s n : Nat) : Nat → Prop
  | last {a : Nat} : n ≤ a + s → Srt K g a n → Blocks K g s n a
  | cons {a : Nat} : a + s < n → Srt K g a (a + s) → Crs g a (a + s) n → Blocks K g s n (a + s) → Blocks K g s n a
theorem Srt.congr {K : Nat → Int} {g g' : Nat → Nat} {a b : Nat} (h : Srt K g a b) (e : ∀ i, a ≤ i → i < b → g' i = g i) : Srt K g' a b := fun i j h1 h2 h3 => by
  rw [e i h1 (by omega), e j (by omega) h3]; exact h i j h1 h2 h3
theorem Crs.congr {g g' : Nat → Nat} {a m b : Nat} (h : Crs g a m b) (e : ∀ i, a ≤ i → i < b → g' i = g i) : Crs g' a m b := fun i j h1 h2 h3 h4 => by
  rw [e i h1 (by omega), e j (by omega) h4]; exact h i j h1 h2 h3 h4
theorem Blocks.congr {K : Nat → Int} {g g' : Nat → Nat} {s n a : Nat} (h : Blocks K g s n a) (e : ∀ i, a ≤ i → i < n → g' i = g i) : Blocks K g' s n a := by
  induction h with
  | last h1 h2 => exact .last h1 (h2.congr e)
  | cons h1 h2 h3 h4 ih => exact .cons h1 (h2.congr fun i hi hj => e i hi (by omega)) (h3.congr e) (ih fun i hi hj => e i (by omega) hj)
theorem Crs.sub {g g' : Nat → Nat} {a m b : Nat} (h : Crs g a m b) (k1 : ∀ i, a ≤ i → i < m → ∃ j, a ≤ j ∧ j < m ∧ g' i = g j) (k2 : ∀ i, m ≤ i → i < b → ∃ j, m ≤ j ∧ j < b ∧ g' i = g j) : Crs g' a m b := fun i j h1 h2 h3 h4 => by
  obtain ⟨i', a1, a2, a3⟩ := k1 i h1 h2
  obtain ⟨j', b1, b2, b3⟩ := k2 j h3 h4
  rw [a3, b3]; exact h i' j' a1 a2 b1 b2
theorem Crs.sub2 {g1 g g2 : Nat → Nat} {a m b n : Nat} (h : Crs g a m n) (s1 : Sub g1 g a m) (s2 : Sub g2 g1 m b) (hn : b ≤ n) (hm : m ≤ n) : Crs g2 a m n := by
  refine h.sub (fun i h1 h2 => ?_) (fun i h1 h2 => ?_)
  · rw [s2.out i (.inl h2)]; exact s1.fwd i h1 h2
  · obtain ⟨j, c1, c2, c3⟩ := (s2.mono (Nat.le_refl _) hn).fwd i h1 h2
    exact ⟨j, c1, c2, by rw [c3, s1.out j (.inr c1)]⟩
/-! the array -/
def arr (R : Nat → Row) (g : Nat → Nat) (n : Nat) : List Row := (List.range n).map fun q => R (g q)
theorem arr_len (R : Nat → Row) (g : Nat → Nat) (n : Nat) : (arr R g n).length = n := by simp [arr]
theorem arr_at (R : Nat → Row) (g : Nat → Nat) (n i : Nat) (h : i < n) : rowsAt (arr R g n) i = R (g i) := by
  unfold arr; rw [rowsAt_map _ _ _ (by simpa using h)]; simp
theorem arr_set (R : Nat → Row) (g : Nat → Nat) (n i j : Nat) : ((arr R g n).set i (R (g j))).set j (R (g i)) = arr R (swp g i j) n := by
  apply List.ext_getElem
  · simp [arr]
  · intro q h1 h2
    have hq : q < n := by simpa [arr] using h2
    rw [List.getElem_set]
    simp only [arr, List.getElem_map, List.getElem_range, swp]
    by_cases e : j = q
    · subst e; simp
    · rw [if_neg e, List.getElem_set]
      by_cases e2 : i = q
      · subst e2; rw [if_pos rfl, if_neg (fun h => e h.symm), if_pos rfl]
      · rw [if_neg e2, if_neg (fun h => e h.symm), if_neg (fun h => e2 h.symm)]; simp
/-- Numbers that no sum of ours passes. -/
abbrev big : Nat := 4294967296
theorem wrapZ {n : Int} (h0 : -1000000000000 ≤ n) (h1 : n ≤ 1000000000000) : Go.IntKind.wrap .i64 n = n := wrap_i64 ⟨by omega, by omega⟩
theorem wr_succ {i : Nat} (h : i ≤ big) : IntKind.wrap .i64 ((i : Int) + 1) = ((i + 1 : Nat) : Int) := by unfold big at h; rw [wrapZ (by omega) (by omega)]; omega
theorem wr_pred {i : Nat} (h : i ≤ big) : IntKind.wrap .i64 (((i + 1 : Nat) : Int) - 1) = (i : Int) := by unfold big at h; rw [wrapZ (by omega) (by omega)]; omega
theorem wr_add {i j : Nat} (h : i ≤ big) (k : j ≤ big) : IntKind.wrap .i64 ((i : Int) + (j : Int)) = ((i + j : Nat) : Int) := by unfold big at h k; rw [wrapZ (by omega) (by omega)]; omega
theorem wr_sub {i j : Nat} (h : i ≤ 10000000000) (k : j ≤ i) : IntKind.wrap .i64 ((i : Int) - (j : Int)) = ((i - j : Nat) : Int) := by rw [wrapZ (by omega) (by omega)]; omega
theorem half {i j : Nat} (h : i ≤ big) (k : j ≤ big) : IntKind.wrap .i64 ((Go.IntKind.u64.wrap (Go.IntKind.i64.wrap ((i : Int) + (j : Int)))).fdiv (2 ^ (min 1 (Go.IntKind.bits .u64)))) = (((i + j) / 2 : Nat) : Int) := by
  rw [wr_add h k]
  unfold big at h k
  have e : Go.IntKind.u64.wrap ((i + j : Nat) : Int) = ((i + j : Nat) : Int) := by
    simp [Go.IntKind.wrap, Go.IntKind.bits, Go.IntKind.signed]; omega
  rw [e]
  have e2 : (2 : Int) ^ (min 1 (Go.IntKind.bits .u64)) = 2 := by decide
  rw [e2, Int.fdiv_eq_ediv_of_nonneg _ (by omega)]
  rw [wrapZ (by omega) (by omega)]
  omega
/-- How the function that compares answers. -/
structure Cm (R : Nat → Row) (K : Nat → Int) (fc : C) (cm : Nat → Nat → Int) : Prop where
  call : ∀ x y, callC (lim T) fc [R x, R y] = some [[.int (cm x y)]]
  lt : ∀ x y, cm x y < 0 ↔ K x < K y
end Go.Ev.Zzi
namespace Go.Ev.Zzi
variable {n : Nat} {R : Nat → Row} {K : Nat → Int} {fc : C} {cm : Nat → Nat → Int}
/-- The array as it is handed on. -/
def st (R : Nat → Row) (g : Nat → Nat) (n : Nat) : Row := [.sl (arr R g n), .int (n : Int)]
theorem st0 (R : Nat → Row) (g : Nat → Nat) (n : Nat) : at_ (st R g n) 0 = .sl (arr R g n) := rfl
theorem st1 (R : Nat → Row) (g : Nat → Nat) (n : Nat) : at_ (st R g n) 1 = .int (n : Int) := rfl
theorem st_mk (R : Nat → Row) (g : Nat → Nat) (n : Nat) : ([C.sl (arr R g n), .int (n : Int)] : Row) = st R g n := rfl
theorem gC_st (R : Nat → Row) (g : Nat → Nat) (n : Nat) (x : List PV) : gC 0 (.r (st R g n) :: x) = .sl (arr R g n) := rfl
theorem swr_l (hn : n ≤ big) (g : Nat → Nat) (a b c : Nat) (h1 : a + c ≤ b) (h2 : b + c ≤ n) : ∀ (j i : Nat), i + j = c →
    slices_swapRangeCmpFunc_align_Pair_i5_l0 (lim T) (a : Int) (b : Int) (c : Int) (i : Int) (st R (swr g a b i) n) = some (0, [.r (st R (swr g a b c) n)])
  | 0, i, h => by
    obtain rfl : i = c := by omega
    rw [slices_swapRangeCmpFunc_align_Pair_i5_l0_eq]; unfold slices_swapRangeCmpFunc_align_Pair_i5_b0
    simp [st0, st1, st_mk]
  | j + 1, i, h => by
    have ih := swr_l hn g a b c h1 h2 j (i + 1) (by omega)
    rw [slices_swapRangeCmpFunc_align_Pair_i5_l0_eq]; unfold slices_swapRangeCmpFunc_align_Pair_i5_b0
    have hi : (i : Int) < (c : Int) := by omega
    have w1 := wr_add (i := a) (j := i) (by omega) (by omega)
    have w2 := wr_add (i := b) (j := i) (by omega) (by omega)
    have w3 := wr_succ (i := i) (by omega)
    have p1 : (0 : Int) ≤ ((a + i : Nat) : Int) := by omega
    have p2 : (0 : Int) ≤ ((b + i : Nat) : Int) := by omega
    have q1 : ((a + i : Nat) : Int) < (n : Int) := by omega
    have q2 : ((b + i : Nat) : Int) < (n : Int) := by omega
    have r1 : a + i < n := by omega
    have r2 : b + i < n := by omega
    have n1 : a + i ≠ n := by omega
    have n2 : b + i ≠ n := by omega
    simp only [st0, st1, rows_sl, toI_int, Int.toNat_natCast, hi, decide_true, if_true, w1, w2, w3, arr_len, List.length_set, p1, p2, q1, q2, r1, r2, n1, n2, and_self, ne_eq, not_false_eq_true, Nat.le_refl, arr_at R _ n _ r1, arr_at R _ n _ r2]
    rw [arr_set, swr_succ g a b i (by omega), st_mk]
    exact ih
theorem swr_ic (hn : n ≤ big) (g : Nat → Nat) (a b c : Nat) (h1 : a + c ≤ b) (h2 : b + c ≤ n) :
    (lim T).ic slices_swapRangeCmpFunc_align_Pair_i5_n [.r [.int (a : Int)], .r [.int (b : Int)], .r [.int (c : Int)], .r [fc], .r (st R g n)] = some [.r (st R (swr g a b c) n)] := by
  rw [slices_swapRangeCmpFunc_align_Pair_i5_ic]; unfold slices_swapRangeCmpFunc_align_Pair_i5
  have := swr_l (R := R) hn g a b c h1 h2 c 0 (by omega)
  rw [swr_zero] at this
  simp only [st0, st1, toI_int, Int.toNat_natCast, st_mk]
  rw [show (0 : Int) = ((0 : Nat) : Int) from rfl, this]
  simp [st0, st1, st_mk, gC_st]
theorem rot_l (hn : n ≤ big) (m : Nat) : ∀ (d i j : Nat) (g : Nat → Nat), i + j ≤ d → 0 < i → 0 < j → i ≤ m → m + j ≤ n →
    ∃ (i' : Nat) (g' : Nat → Nat), slices_rotateCmpFunc_align_Pair_i4_l0 (lim T) (m : Int) fc (i : Int) (j : Int) (st R g n) = some (0, [.r [.int (m : Int)], .r [fc], .r [.int (i' : Int)], .r (st R g' n)]) ∧ 0 < i' ∧ i' ≤ m ∧ m + i' ≤ n ∧ swr g' (m - i') m i' = rot g m i j
  | 0, i, j, g, h, hi, hj, him, hjn => by omega
  | d + 1, i, j, g, h, hi, hj, him, hjn => by
    rw [slices_rotateCmpFunc_align_Pair_i4_l0_eq]; unfold slices_rotateCmpFunc_align_Pair_i4_b0
    simp only [st0, st1, toI_int, Int.toNat_natCast, st_mk]
    by_cases e : i = j
    · subst e
      refine ⟨i, g, by simp, hi, him, hjn, rot_eq g m i him⟩
    · have ne : ((i : Int) != (j : Int)) = true := by simp; omega
      have w1 := wr_sub (i := m) (j := i) (by unfold big at hn; omega) him
      rw [if_pos ne]
      by_cases c : j < i
      · have hc : (i : Int) > (j : Int) := by omega
        have w2 := wr_sub (i := i) (j := j) (by unfold big at hn; omega) (by omega)
        have sw := swr_ic (R := R) (fc := fc) hn g (m - i) m j (by omega) hjn
        obtain ⟨i', g', h1, h2, h3, h4, h5⟩ := rot_l hn m d (i - j) j (swr g (m - i) m j) (by omega) (by omega) hj (by omega) hjn
        refine ⟨i', g', ?_, h2, h3, h4, h5.trans (rot_gt g m i j him c)⟩
        simp only [hc, decide_true, if_true, w1, w2, sw, Option.bind_some, gC_st, gR_z, st0, st1, toI_int, Int.toNat_natCast, st_mk]
        exact h1
      · have hc : ¬ (i : Int) > (j : Int) := by omega
        have w2 := wr_sub (i := j) (j := i) (by unfold big at hn; omega) (by omega)
        have w3 := wr_add (i := m) (j := j) (by omega) (by omega)
        have w4 := wr_sub (i := m + j) (j := i) (by unfold big at hn; omega) (by omega)
        have sw := swr_ic (R := R) (fc := fc) hn g (m - i) (m + j - i) i (by omega) (by omega)
        obtain ⟨i', g', h1, h2, h3, h4, h5⟩ := rot_l hn m d i (j - i) (swr g (m - i) (m + j - i) i) (by omega) hi (by omega) him (by omega)
        refine ⟨i', g', ?_, h2, h3, h4, h5.trans (rot_lt g m i j him (by omega))⟩
        simp only [hc, decide_false, Bool.false_eq_true, if_false, w1, w2, w3, w4, sw, Option.bind_some, gC_st, gR_z, st0, st1, toI_int, Int.toNat_natCast, st_mk]
        exact h1
theorem rot_ic (hn : n ≤ big) (g : Nat → Nat) (a m b : Nat) (h1 : a < m) (h2 : m < b) (h3 : b ≤ n) :
    (lim T).ic slices_rotateCmpFunc_align_Pair_i4_n [.r [.int (a : Int)], .r [.int (m : Int)], .r [.int (b : Int)], .r [fc], .r (st R g n)] = some [.r (st R (rot g m (m - a) (b - m)) n)] := by
  rw [slices_rotateCmpFunc_align_Pair_i4_ic]; unfold slices_rotateCmpFunc_align_Pair_i4
  have w1 := wr_sub (i := m) (j := a) (by unfold big at hn; omega) (by omega)
  have w2 := wr_sub (i := b) (j := m) (by unfold big at hn; omega) (by omega)
  obtain ⟨i', g', e, i1, i2, i3, i4⟩ := rot_l (R := R) (fc := fc) hn m _ (m - a) (b - m) g (Nat.le_refl _) (by omega) (by omega) (by omega) (by omega)
  have w3 := wr_sub (i := m) (j := i') (by unfold big at hn; omega) i2
  have sw := swr_ic (R := R) (fc := fc) hn g' (m - i') m i' (by omega) i3
  simp only [st0, st1, toI_int, Int.toNat_natCast, st_mk, w1, w2, e, Option.bind_some, gI_z, gI_s, gC_s, gR_s, gC_z, gR_z, gC_st, w3, sw, i4]
/-! insertion -/
theorem ins_l1 (hn : n ≤ big) (hc : Cm R K fc cm) (a b i : Nat) (hi : i < n) : ∀ (j : Nat) (g : Nat → Nat), a ≤ j → j ≤ i → Srt K g a j → Srt K g j (i + 1) →
    (∀ q r, a ≤ q → q < j → j < r → r ≤ i → L K (g q) (g r)) → (∀ q, a ≤ q → q < j → g q < g j) →
    ∃ g' : Nat → Nat, slices_insertionSortCmpFunc_align_Pair_i2_l1 (lim T) (a : Int) (b : Int) fc (i : Int) (j : Int) (st R g n) = some (0, [.r [.int (a : Int)], .r [.int (b : Int)], .r [fc], .r [.int (i : Int)], .r (st R g' n)]) ∧ Sub g' g a (i + 1) ∧ Srt K g' a (i + 1)
  | j, g, haj, hji, s1, s2, s3, s4 => by
    rw [slices_insertionSortCmpFunc_align_Pair_i2_l1_eq]; unfold slices_insertionSortCmpFunc_align_Pair_i2_b1
    by_cases e : j = a
    · subst e
      refine ⟨g, ?_, Sub.refl _ _ _, s2⟩
      simp [st0, st1, st_mk, gC_st, gR_z]
    · obtain ⟨k, rfl⟩ : ∃ k, j = k + 1 := ⟨j - 1, by omega⟩
      have c1 : ((k + 1 : Nat) : Int) > (a : Int) := by omega
      have w1 := wr_pred (i := k) (by omega)
      have p1 : (0 : Int) ≤ ((k + 1 : Nat) : Int) := by omega
      have p2 : (0 : Int) ≤ (k : Int) := by omega
      have q1 : ((k + 1 : Nat) : Int) < (n : Int) := by omega
      have q2 : (k : Int) < (n : Int) := by omega
      have r1 : k + 1 < n := by omega
      have r2 : k < n := by omega
      have n1 : k + 1 ≠ n := by omega
      have n2 : k ≠ n := by omega
      by_cases hlt : K (g (k + 1)) < K (g k)
      · have hd : cm (g (k + 1)) (g k) < 0 := (hc.lt _ _).2 hlt
        have hl : L K (g (k + 1)) (g k) := .inl hlt
        obtain ⟨g', e1, e2, e3⟩ := ins_l1 hn hc a b i hi k (swp g (k + 1) k) (by omega) (by omega)
          (fun x y h1 h2 h3 => by
            simp only [swp]; rw [if_neg (by omega), if_neg (by omega), if_neg (by omega), if_neg (by omega)]; exact s1 x y h1 h2 (by omega))
          (fun x y h1 h2 h3 => by
            simp only [swp]
            rw [if_neg (show ¬ y = k by omega)]
            by_cases hx : x = k
            · rw [if_pos hx]
              by_cases hy : y = k + 1
              · rw [if_pos hy]; exact hl
              · rw [if_neg hy]; exact s2 (k + 1) y (Nat.le_refl _) (by omega) h3
            · rw [if_neg hx]
              by_cases hx2 : x = k + 1
              · rw [if_pos hx2, if_neg (by omega)]; exact s3 k y (by omega) (by omega) (by omega) (by omega)
              · rw [if_neg hx2, if_neg (by omega)]; exact s2 x y (by omega) h2 h3)
          (fun x y h1 h2 h3 h4 => by
            simp only [swp]
            rw [if_neg (show ¬ x = k by omega), if_neg (show ¬ x = k + 1 by omega), if_neg (show ¬ y = k by omega)]
            by_cases hy : y = k + 1
            · rw [if_pos hy]; exact s1 x k h1 h2 (by omega)
            · rw [if_neg hy]; exact s3 x y h1 (by omega) (by omega) h4)
          (fun x h1 h2 => by
            simp only [swp]
            rw [if_neg (show ¬ x = k by omega), if_neg (show ¬ x = k + 1 by omega), if_pos trivial]
            exact s4 x h1 (by omega))
        refine ⟨g', ?_, e2.trans (swp_sub g (by omega) (by omega) (by omega) (by omega)), e3⟩
        simp only [st0, st1, rows_sl, toI_int, toB_bool, Int.toNat_natCast, c1, decide_true, if_true, w1, arr_len, List.length_set, p1, p2, q1, q2, r1, r2, n1, n2, and_self, ne_eq, not_false_eq_true, Nat.le_refl, arr_at R _ n _ r1, arr_at R _ n _ r2, hc.call, Option.bind_some, rowsAt_zero, at_zero, decide_eq_true_eq, hd, st_mk, gI_z, gI_s, gB_s, gB_z, gC_s, gC_z, gC_st, gR_s, gR_z, arr_set]
        exact e1
      · have hd : ¬ cm (g (k + 1)) (g k) < 0 := fun h => hlt ((hc.lt _ _).1 h)
        refine ⟨g, ?_, Sub.refl _ _ _, ?_⟩
        · simp only [st0, st1, rows_sl, toI_int, toB_bool, Int.toNat_natCast, c1, decide_true, if_true, w1, arr_len, List.length_set, p1, p2, q1, q2, r1, r2, n1, n2, and_self, ne_eq, not_false_eq_true, Nat.le_refl, arr_at R _ n _ r1, arr_at R _ n _ r2, hc.call, Option.bind_some, rowsAt_zero, at_zero, decide_eq_true_eq, hd, Bool.false_eq_true, if_false, st_mk, gI_z, gI_s, gB_s, gB_z, gC_s, gC_z, gC_st, gR_s, gR_z, arr_set]
        · have hl : L K (g k) (g (k + 1)) := .of_nlt hlt (s4 k (by omega) (by omega))
          intro x y h1 h2 h3
          by_cases hy : y ≤ k
          · exact s1 x y h1 h2 (by omega)
          · by_cases hx : k + 1 ≤ x
            · exact s2 x y hx h2 h3
            · have hx1 : L K (g x) (g (k + 1)) := by
                by_cases hx2 : x = k
                · rw [hx2]; exact hl
                · exact (s1 x k h1 (by omega) (by omega)).trans hl
              by_cases hy2 : y = k + 1
              · rw [hy2]; exact hx1
              · exact s3 x y h1 (by omega) (by omega) (by omega)
theorem ins_l0 (hn : n ≤ big) (hc : Cm R K fc cm) (a b : Nat) (hb : b ≤ n) : ∀ (k i : Nat) (g : Nat → Nat), b ≤ i + k → i ≤ n + 1 → a < i → Srt K g a i → (∀ q r, a ≤ q → q < r → i ≤ r → r < b → g q < g r) →
    ∃ g' : Nat → Nat, slices_insertionSortCmpFunc_align_Pair_i2_l0 (lim T) (a : Int) (b : Int) fc (i : Int) (st R g n) = some (0, [.r (st R g' n)]) ∧ Sub g' g a b ∧ Srt K g' a b
  | k, i, g, hk, hin, hai, s1, s2 => by
    rw [slices_insertionSortCmpFunc_align_Pair_i2_l0_eq]; unfold slices_insertionSortCmpFunc_align_Pair_i2_b0
    by_cases e : i < b
    · obtain ⟨k, rfl⟩ : ∃ k', k = k' + 1 := ⟨k - 1, by omega⟩
      have c1 : (i : Int) < (b : Int) := by omega
      have w1 := wr_succ (i := i) (by omega)
      obtain ⟨g1, e1, e2, e3⟩ := ins_l1 hn hc a b i (by omega) i g (by omega) (Nat.le_refl _) s1 (fun x y h1 h2 h3 => by omega) (fun q r h1 h2 h3 h4 => by omega) (fun q h1 h2 => s2 q i h1 h2 (Nat.le_refl _) e)
      obtain ⟨g2, f1, f2, f3⟩ := ins_l0 hn hc a b hb k (i + 1) g1 (by omega) (by omega) (by omega) e3 (fun q r h1 h2 h3 h4 => by
        rw [e2.out r (.inr h3)]
        by_cases hq : q < i + 1
        · obtain ⟨j, j1, j2, j3⟩ := e2.fwd q h1 hq
          rw [j3]; exact s2 j r j1 (by omega) (by omega) h4
        · rw [e2.out q (.inr (by omega))]; exact s2 q r h1 h2 (by omega) h4)
      refine ⟨g2, ?_, f2.trans (e2.mono (Nat.le_refl _) (by omega)), f3⟩
      simp only [st0, st1, toI_int, Int.toNat_natCast, c1, decide_true, if_true, st_mk, e1, Option.bind_some, gI_z, gI_s, gC_s, gC_z, gR_s, gR_z, gC_st, w1]
      exact f1
    · have c1 : ¬ (i : Int) < (b : Int) := by omega
      refine ⟨g, ?_, Sub.refl _ _ _, fun x y h1 h2 h3 => s1 x y h1 h2 (by omega)⟩
      simp only [st0, st1, toI_int, Int.toNat_natCast, c1, decide_false, Bool.false_eq_true, if_false, st_mk]
theorem ins_ic (hn : n ≤ big) (hc : Cm R K fc cm) (a b : Nat) (hab : a ≤ b) (hb : b ≤ n) (g : Nat → Nat) (h : ∀ q r, a ≤ q → q < r → r < b → g q < g r) :
    ∃ g' : Nat → Nat, (lim T).ic slices_insertionSortCmpFunc_align_Pair_i2_n [.r [.int (a : Int)], .r [.int (b : Int)], .r [fc], .r (st R g n)] = some [.r (st R g' n)] ∧ Sub g' g a b ∧ Srt K g' a b := by
  rw [slices_insertionSortCmpFunc_align_Pair_i2_ic]; unfold slices_insertionSortCmpFunc_align_Pair_i2
  have w1 := wr_succ (i := a) (by omega)
  obtain ⟨g', e1, e2, e3⟩ := ins_l0 hn hc a b hb b (a + 1) g (by omega) (by omega) (by omega) (fun x y h1 h2 h3 => by omega) (fun q r h1 h2 h3 h4 => h q r h1 h2 h4)
  refine ⟨g', ?_, e2, e3⟩
  simp only [st0, st1, toI_int, Int.toNat_natCast, st_mk, w1, e1, Option.bind_some, gC_st, gR_z]
end Go.Ev.Zzi
namespace Go.Ev.Zzi
/-- It answers, and the answer is as Q says. -/
def Tot {β : Type} (Q : β → Prop) (x : Option β) : Prop := ∃ r, x = some r ∧ Q r
theorem Tot.some {β : Type} {Q : β → Prop} {r : β} (h : Q r) : Tot Q (some r) := ⟨r, rfl, h⟩
theorem Tot.bind {α β : Type} {R : α → Prop} {Q : β → Prop} {x : Option α} {f : α → Option β} (h : Tot R x) (k : ∀ r, R r → Tot Q (f r)) : Tot Q (x.bind f) := by
  obtain ⟨r, rfl, hr⟩ := h
  exact k r hr
variable {n : Nat} {R : Nat → Row} {K : Nat → Int} {fc : C} {cm : Nat → Nat → Int}
theorem sm_l0 (hn : n ≤ big) (hc : Cm R K fc cm) (g : Nat → Nat) (a m b : Nat) (ha : a < m) (hb : b ≤ n) (hx : ∀ h, m ≤ h → h < b → g a < g h) : ∀ (d i j : Nat), j - i ≤ d → m ≤ i → i ≤ j → j ≤ b →
    (i = m ∨ L K (g (i - 1)) (g a)) → (j = b ∨ L K (g a) (g j)) →
    ∃ r : Nat, slices_symMergeCmpFunc_align_Pair_i3_l0 (lim T) (a : Int) fc (i : Int) (j : Int) (st R g n) = some (0, [.r [.int (a : Int)], .r [.int (r : Int)], .r (st R g n)]) ∧ m ≤ r ∧ r ≤ b ∧ (r = m ∨ L K (g (r - 1)) (g a)) ∧ (r = b ∨ L K (g a) (g r))
  | d, i, j, hd, hi, hij, hj, h1, h2 => by
    rw [slices_symMergeCmpFunc_align_Pair_i3_l0_eq]; unfold slices_symMergeCmpFunc_align_Pair_i3_b0
    by_cases e : i < j
    · obtain ⟨d, rfl⟩ : ∃ d', d = d' + 1 := ⟨d - 1, by omega⟩
      have c1 : (i : Int) < (j : Int) := by omega
      have wh := half (i := i) (j := j) (by omega) (by omega)
      have hh1 : i ≤ (i + j) / 2 := by omega
      have hh2 : (i + j) / 2 < j := by omega
      generalize (i + j) / 2 = h at wh hh1 hh2
      have w1 := wr_succ (i := h) (by omega)
      have p1 : (0 : Int) ≤ (h : Int) := by omega
      have p2 : (0 : Int) ≤ (a : Int) := by omega
      have q1 : (h : Int) < (n : Int) := by omega
      have q2 : (a : Int) < (n : Int) := by omega
      have r1 : h < n := by omega
      have r2 : a < n := by omega
      have n1 : h ≠ n := by omega
      have n2 : a ≠ n := by omega
      by_cases hlt : K (g h) < K (g a)
      · have hd' : cm (g h) (g a) < 0 := (hc.lt _ _).2 hlt
        obtain ⟨r, e1, e2⟩ := sm_l0 hn hc g a m b ha hb hx d (h + 1) j (by omega) (by omega) (by omega) hj (.inr (.inl hlt)) h2
        refine ⟨r, ?_, e2⟩
        simp only [st0, st1, rows_sl, toI_int, Int.toNat_natCast, c1, decide_true, if_true, wh, w1, arr_len, p1, p2, q1, q2, r1, r2, n1, n2, and_self, ne_eq, not_false_eq_true, arr_at R _ n _ r1, arr_at R _ n _ r2, hc.call, Option.bind_some, rowsAt_zero, at_zero, decide_eq_true_eq, hd', st_mk]
        exact e1
      · have hd' : ¬ cm (g h) (g a) < 0 := fun h' => hlt ((hc.lt _ _).1 h')
        obtain ⟨r, e1, e2⟩ := sm_l0 hn hc g a m b ha hb hx d i h (by omega) (by omega) (by omega) (by omega) h1 (.inr (.of_nlt hlt (hx h (by omega) (by omega))))
        refine ⟨r, ?_, e2⟩
        simp only [st0, st1, rows_sl, toI_int, Int.toNat_natCast, c1, decide_true, if_true, wh, w1, arr_len, p1, p2, q1, q2, r1, r2, n1, n2, and_self, ne_eq, not_false_eq_true, arr_at R _ n _ r1, arr_at R _ n _ r2, hc.call, Option.bind_some, rowsAt_zero, at_zero, decide_eq_true_eq, hd', if_false, st_mk]
        exact e1
    · have c1 : ¬ (i : Int) < (j : Int) := by omega
      obtain rfl : i = j := by omega
      refine ⟨i, ?_, hi, hj, h1, h2⟩
      simp only [st0, st1, toI_int, Int.toNat_natCast, c1, decide_false, Bool.false_eq_true, if_false, st_mk]
theorem sm_l2 (hn : n ≤ big) (hc : Cm R K fc cm) (g : Nat → Nat) (a m : Nat) (hb : m < n) (hx : ∀ h, a ≤ h → h < m → g h < g m) : ∀ (d i j : Nat), j - i ≤ d → a ≤ i → i ≤ j → j ≤ m →
    (i = a ∨ L K (g (i - 1)) (g m)) → (j = m ∨ L K (g m) (g j)) →
    ∃ r : Nat, slices_symMergeCmpFunc_align_Pair_i3_l2 (lim T) (m : Int) fc (i : Int) (j : Int) (st R g n) = some (0, [.r [.int (m : Int)], .r [.int (r : Int)], .r (st R g n)]) ∧ a ≤ r ∧ r ≤ m ∧ (r = a ∨ L K (g (r - 1)) (g m)) ∧ (r = m ∨ L K (g m) (g r))
  | d, i, j, hd, hi, hij, hj, h1, h2 => by
    rw [slices_symMergeCmpFunc_align_Pair_i3_l2_eq]; unfold slices_symMergeCmpFunc_align_Pair_i3_b2
    by_cases e : i < j
    · obtain ⟨d, rfl⟩ : ∃ d', d = d' + 1 := ⟨d - 1, by omega⟩
      have c1 : (i : Int) < (j : Int) := by omega
      have wh := half (i := i) (j := j) (by omega) (by omega)
      have hh1 : i ≤ (i + j) / 2 := by omega
      have hh2 : (i + j) / 2 < j := by omega
      generalize (i + j) / 2 = h at wh hh1 hh2
      have w1 := wr_succ (i := h) (by omega)
      have p1 : (0 : Int) ≤ (h : Int) := by omega
      have p2 : (0 : Int) ≤ (m : Int) := by omega
      have q1 : (h : Int) < (n : Int) := by omega
      have q2 : (m : Int) < (n : Int) := by omega
      have r1 : h < n := by omega
      have n1 : h ≠ n := by omega
      have n2 : m ≠ n := by omega
      by_cases hlt : K (g m) < K (g h)
      · have hd' : cm (g m) (g h) < 0 := (hc.lt _ _).2 hlt
        obtain ⟨r, e1, e2⟩ := sm_l2 hn hc g a m hb hx d i h (by omega) (by omega) (by omega) (by omega) h1 (.inr (.inl hlt))
        refine ⟨r, ?_, e2⟩
        simp only [st0, st1, rows_sl, toI_int, Int.toNat_natCast, c1, decide_true, if_true, wh, w1, arr_len, p1, p2, q1, q2, r1, hb, n1, n2, and_self, ne_eq, not_false_eq_true, arr_at R _ n _ r1, arr_at R _ n _ hb, hc.call, Option.bind_some, rowsAt_zero, at_zero, Bool.not_eq_true', decide_eq_false_iff_not, hd', not_true_eq_false, if_false, st_mk]
        exact e1
      · have hd' : ¬ cm (g m) (g h) < 0 := fun h' => hlt ((hc.lt _ _).1 h')
        obtain ⟨r, e1, e2⟩ := sm_l2 hn hc g a m hb hx d (h + 1) j (by omega) (by omega) (by omega) (by omega) (.inr (.of_nlt hlt (hx h (by omega) (by omega)))) h2
        refine ⟨r, ?_, e2⟩
        simp only [st0, st1, rows_sl, toI_int, Int.toNat_natCast, c1, decide_true, if_true, wh, w1, arr_len, p1, p2, q1, q2, r1, hb, n1, n2, and_self, ne_eq, not_false_eq_true, arr_at R _ n _ r1, arr_at R _ n _ hb, hc.call, Option.bind_some, rowsAt_zero, at_zero, Bool.not_eq_true', decide_eq_false_iff_not, hd', if_true, st_mk]
        exact e1
    · have c1 : ¬ (i : Int) < (j : Int) := by omega
      obtain rfl : i = j := by omega
      refine ⟨i, ?_, hi, hj, h1, h2⟩
      simp only [st0, st1, toI_int, Int.toNat_natCast, c1, decide_false, Bool.false_eq_true, if_false, st_mk]
def shl (g : Nat → Nat) (a k : Nat) : Nat → Nat := fun q => if a ≤ q ∧ q < k then g (q + 1) else if q = k then g a else g q
theorem shl_refl (g : Nat → Nat) (a : Nat) : shl g a a = g := by
  funext q; simp only [shl]; rw [if_neg (by omega)]; split
  · subst q; rfl
  · rfl
theorem shl_succ (g : Nat → Nat) (a k : Nat) (h : a ≤ k) : swp (shl g a k) k (k + 1) = shl g a (k + 1) := by
  funext q
  simp only [swp, shl]
  by_cases h1 : q = k + 1
  · subst h1; simp
  · rw [if_neg h1]
    by_cases h2 : q = k
    · subst h2; rw [if_pos rfl, if_neg (by omega), if_neg (by omega), if_pos (by omega)]
    · rw [if_neg h2]
      by_cases h3 : a ≤ q ∧ q < k
      · rw [if_pos h3, if_pos (by omega)]
      · rw [if_neg h3, if_neg (by omega), if_neg (by omega), if_neg h1]
theorem shl_sub (g : Nat → Nat) {a b : Nat} : ∀ {k : Nat}, a ≤ k → k < b → Sub (shl g a k) g a b
  | k, h1, h2 => by
    by_cases e : k = a
    · subst e; rw [shl_refl]; exact Sub.refl _ _ _
    · obtain ⟨k, rfl⟩ : ∃ k', k = k' + 1 := ⟨k - 1, by omega⟩
      rw [← shl_succ g a k (by omega)]
      exact (swp_sub _ (by omega) (by omega) (by omega) (by omega)).trans (shl_sub g (by omega) (by omega))
def shr (g : Nat → Nat) (k m : Nat) : Nat → Nat := fun q => if k < q ∧ q ≤ m then g (q - 1) else if q = k then g m else g q
theorem shr_refl (g : Nat → Nat) (m : Nat) : shr g m m = g := by
  funext q; simp only [shr]; rw [if_neg (by omega)]; split
  · subst q; rfl
  · rfl
theorem shr_succ (g : Nat → Nat) (k m : Nat) (h : k < m) : swp (shr g (k + 1) m) (k + 1) k = shr g k m := by
  funext q
  simp only [swp, shr]
  by_cases h1 : q = k
  · subst h1; simp
  · rw [if_neg h1]
    by_cases h2 : q = k + 1
    · subst h2; rw [if_pos rfl, if_neg (by omega), if_neg (by omega), if_pos (by omega)]; rfl
    · rw [if_neg h2]
      by_cases h3 : k + 1 < q ∧ q ≤ m
      · rw [if_pos h3, if_pos (by omega)]
      · rw [if_neg h3, if_neg (by omega), if_neg (by omega), if_neg h1]
theorem shr_sub (g : Nat → Nat) {a m b : Nat} (hm : m < b) : ∀ {d k : Nat}, k + d = m → a ≤ k → Sub (shr g k m) g a b
  | 0, k, h1, h2 => by obtain rfl : k = m := by omega
                       rw [shr_refl]; exact Sub.refl _ _ _
  | d + 1, k, h1, h2 => by
    rw [← shr_succ g k m (by omega)]
    exact (swp_sub _ (by omega) (by omega) (by omega) (by omega)).trans (shr_sub g hm (d := d) (by omega) (by omega))
theorem sm_l1 (hn : n ≤ big) (g : Nat → Nat) (a i : Nat) (hi : i ≤ n) : ∀ (d k : Nat), k + d = i - 1 → a ≤ k → a < i →
    slices_symMergeCmpFunc_align_Pair_i3_l1 (lim T) (i : Int) (k : Int) (st R (shl g a k) n) = some (0, [.r (st R (shl g a (i - 1)) n)])
  | d, k, hk, hak, hai => by
    rw [slices_symMergeCmpFunc_align_Pair_i3_l1_eq]; unfold slices_symMergeCmpFunc_align_Pair_i3_b1
    have w0 := wr_sub (i := i) (j := 1) (by unfold big at hn; omega) (by omega)
    rw [show ((1 : Nat) : Int) = 1 from rfl] at w0
    rw [w0]
    match d with
    | 0 =>
      obtain rfl : k = i - 1 := by omega
      simp [st0, st1, st_mk]
    | d + 1 =>
      have ih := sm_l1 hn g a i hi d (k + 1) (by omega) (by omega) hai
      have c1 : (k : Int) < ((i - 1 : Nat) : Int) := by omega
      have w1 := wr_succ (i := k) (by omega)
      have p1 : (0 : Int) ≤ ((k + 1 : Nat) : Int) := by omega
      have p2 : (0 : Int) ≤ (k : Int) := by omega
      have q1 : ((k + 1 : Nat) : Int) < (n : Int) := by omega
      have q2 : (k : Int) < (n : Int) := by omega
      have r1 : k + 1 < n := by omega
      have r2 : k < n := by omega
      have n1 : k + 1 ≠ n := by omega
      have n2 : k ≠ n := by omega
      simp only [st0, st1, rows_sl, toI_int, Int.toNat_natCast, c1, decide_true, if_true, w1, arr_len, List.length_set, p1, p2, q1, q2, r1, r2, n1, n2, and_self, ne_eq, not_false_eq_true, Nat.le_refl, arr_at R _ n _ r1, arr_at R _ n _ r2]
      rw [arr_set, shl_succ g a k hak, st_mk]
      exact ih
theorem sm_l3 (hn : n ≤ big) (g : Nat → Nat) (i m : Nat) (hm : m < n) : ∀ (d k : Nat), i + d = k → k ≤ m →
    slices_symMergeCmpFunc_align_Pair_i3_l3 (lim T) (i : Int) (k : Int) (st R (shr g k m) n) = some (0, [.r (st R (shr g i m) n)])
  | 0, k, hk, hkm => by
    rw [slices_symMergeCmpFunc_align_Pair_i3_l3_eq]; unfold slices_symMergeCmpFunc_align_Pair_i3_b3
    obtain rfl : i = k := by omega
    simp [st0, st1, st_mk]
  | d + 1, k, hk, hkm => by
    obtain ⟨k, rfl⟩ : ∃ k', k = k' + 1 := ⟨k - 1, by omega⟩
    rw [slices_symMergeCmpFunc_align_Pair_i3_l3_eq]; unfold slices_symMergeCmpFunc_align_Pair_i3_b3
    have ih := sm_l3 hn g i m hm d k (by omega) (by omega)
    have c1 : ((k + 1 : Nat) : Int) > (i : Int) := by omega
    have w1 := wr_pred (i := k) (by omega)
    have p1 : (0 : Int) ≤ ((k + 1 : Nat) : Int) := by omega
    have p2 : (0 : Int) ≤ (k : Int) := by omega
    have q1 : ((k + 1 : Nat) : Int) < (n : Int) := by omega
    have q2 : (k : Int) < (n : Int) := by omega
    have r1 : k + 1 < n := by omega
    have r2 : k < n := by omega
    have n1 : k + 1 ≠ n := by omega
    have n2 : k ≠ n := by omega
    simp only [st0, st1, rows_sl, toI_int, Int.toNat_natCast, c1, decide_true, if_true, w1, arr_len, List.length_set, p1, p2, q1, q2, r1, r2, n1, n2, and_self, ne_eq, not_false_eq_true, Nat.le_refl, arr_at R _ n _ r1, arr_at R _ n _ r2]
    rw [arr_set, shr_succ g k m (by omega), st_mk]
    exact ih
theorem sm_l4 (hn : n ≤ big) (hc : Cm R K fc cm) (g : Nat → Nat) (a m b mid nn p s0 r0 : Nat) (hb : b ≤ n) (hp : p < nn) (hnn : nn ≤ 2 * n) (hx : ∀ x y, a ≤ x → x < m → m ≤ y → y < b → g x < g y) (hr : ∀ c, s0 ≤ c → c < r0 → a ≤ c ∧ c < m ∧ m + c ≤ p ∧ p < b + c) : ∀ (d s r : Nat), r - s ≤ d → s0 ≤ s → s ≤ r → r ≤ r0 → r0 ≤ n →
    (s = s0 ∨ L K (g (s - 1)) (g (p + 1 - s))) → (r = r0 ∨ L K (g (p - r)) (g r)) →
    ∃ t : Nat, slices_symMergeCmpFunc_align_Pair_i3_l4 (lim T) (a : Int) (m : Int) (b : Int) fc (mid : Int) (nn : Int) (s : Int) (r : Int) (p : Int) (st R g n) = some (0, [.r [.int (a : Int)], .r [.int (m : Int)], .r [.int (b : Int)], .r [fc], .r [.int (mid : Int)], .r [.int (nn : Int)], .r [.int (t : Int)], .r (st R g n)]) ∧ s0 ≤ t ∧ t ≤ r0 ∧ (t = s0 ∨ L K (g (t - 1)) (g (p + 1 - t))) ∧ (t = r0 ∨ L K (g (p - t)) (g t))
  | d, s, r, hd, hs, hsr, hrr, hr0, h1, h2 => by
    rw [slices_symMergeCmpFunc_align_Pair_i3_l4_eq]; unfold slices_symMergeCmpFunc_align_Pair_i3_b4
    by_cases e : s < r
    · obtain ⟨d, rfl⟩ : ∃ d', d = d' + 1 := ⟨d - 1, by omega⟩
      have c1 : (s : Int) < (r : Int) := by omega
      have wh := half (i := s) (j := r) (by omega) (by omega)
      have hh1 : s ≤ (s + r) / 2 := by omega
      have hh2 : (s + r) / 2 < r := by omega
      generalize (s + r) / 2 = c at wh hh1 hh2
      obtain ⟨k1, k2, k3, k4⟩ := hr c (by omega) (by omega)
      have w1 := wr_succ (i := c) (by omega)
      have w2 := wr_sub (i := p) (j := c) (by unfold big at hn; omega) (by omega)
      have p1 : (0 : Int) ≤ (c : Int) := by omega
      have p2 : (0 : Int) ≤ ((p - c : Nat) : Int) := by omega
      have q1 : (c : Int) < (n : Int) := by omega
      have q2 : ((p - c : Nat) : Int) < (n : Int) := by omega
      have r1 : c < n := by omega
      have r2 : p - c < n := by omega
      have n1 : c ≠ n := by omega
      have n2 : p - c ≠ n := by omega
      by_cases hlt : K (g (p - c)) < K (g c)
      · have hd' : cm (g (p - c)) (g c) < 0 := (hc.lt _ _).2 hlt
        obtain ⟨t, e1, e2⟩ := sm_l4 hn hc g a m b mid nn p s0 r0 hb hp hnn hx hr d s c (by omega) (by omega) (by omega) (by omega) hr0 h1 (.inr (.inl hlt))
        refine ⟨t, ?_, e2⟩
        simp only [st0, st1, rows_sl, toI_int, Int.toNat_natCast, c1, decide_true, if_true, wh, w1, w2, arr_len, p1, p2, q1, q2, r1, r2, n1, n2, and_self, ne_eq, not_false_eq_true, arr_at R _ n _ r1, arr_at R _ n _ r2, hc.call, Option.bind_some, rowsAt_zero, at_zero, Bool.not_eq_true', decide_eq_false_iff_not, hd', not_true_eq_false, if_false, st_mk]
        exact e1
      · have hd' : ¬ cm (g (p - c)) (g c) < 0 := fun h' => hlt ((hc.lt _ _).1 h')
        obtain ⟨t, e1, e2⟩ := sm_l4 hn hc g a m b mid nn p s0 r0 hb hp hnn hx hr d (c + 1) r (by omega) (by omega) (by omega) hrr hr0 (.inr (by
          rw [show p + 1 - (c + 1) = p - c by omega]
          exact .of_nlt hlt (hx c (p - c) k1 k2 (by omega) (by omega)))) h2
        refine ⟨t, ?_, e2⟩
        simp only [st0, st1, rows_sl, toI_int, Int.toNat_natCast, c1, decide_true, if_true, wh, w1, w2, arr_len, p1, p2, q1, q2, r1, r2, n1, n2, and_self, ne_eq, not_false_eq_true, arr_at R _ n _ r1, arr_at R _ n _ r2, hc.call, Option.bind_some, rowsAt_zero, at_zero, Bool.not_eq_true', decide_eq_false_iff_not, hd', if_true, st_mk]
        exact e1
    · have c1 : ¬ (s : Int) < (r : Int) := by omega
      obtain rfl : s = r := by omega
      refine ⟨s, ?_, hs, hrr, h1, h2⟩
      simp only [st0, st1, toI_int, Int.toNat_natCast, c1, decide_false, Bool.false_eq_true, if_false, st_mk]
end Go.Ev.Zzi
namespace Go.Ev.Zzi
variable {n : Nat} {R : Nat → Row} {K : Nat → Int} {fc : C} {cm : Nat → Nat → Int}
theorem srt_shl {g : Nat → Nat} {a b r : Nat} (h2 : Srt K g (a + 1) b) (har : a < r) (hrb : r ≤ b) (k1 : r = a + 1 ∨ L K (g (r - 1)) (g a)) (k2 : r = b ∨ L K (g a) (g r)) : Srt K (shl g a (r - 1)) a b := by
  intro x y hx hxy hy
  have lo : ∀ q, a + 1 ≤ q → q < r → L K (g q) (g a) := fun q q1 q2 => by
    rcases k1 with k1 | k1
    · omega
    · by_cases e : q = r - 1
      · rw [e]; exact k1
      · exact (h2 q (r - 1) q1 (by omega) (by omega)).trans k1
  have hi : ∀ q, r ≤ q → q < b → L K (g a) (g q) := fun q q1 q2 => by
    rcases k2 with k2 | k2
    · omega
    · by_cases e : q = r
      · rw [e]; exact k2
      · exact k2.trans (h2 r q (by omega) (by omega) q2)
  simp only [shl]
  by_cases c1 : x < r - 1
  · rw [if_pos (show a ≤ x ∧ x < r - 1 from ⟨hx, c1⟩)]
    by_cases c2 : y < r - 1
    · rw [if_pos (show a ≤ y ∧ y < r - 1 by omega)]; exact h2 _ _ (by omega) (by omega) (by omega)
    · rw [if_neg (show ¬ (a ≤ y ∧ y < r - 1) by omega)]
      by_cases c3 : y = r - 1
      · rw [if_pos c3]; exact lo _ (by omega) (by omega)
      · rw [if_neg c3]; exact h2 _ _ (by omega) (by omega) (by omega)
  · rw [if_neg (show ¬ (a ≤ x ∧ x < r - 1) by omega), if_neg (show ¬ (a ≤ y ∧ y < r - 1) by omega), if_neg (show ¬ y = r - 1 by omega)]
    by_cases c3 : x = r - 1
    · rw [if_pos c3]; exact hi _ (by omega) (by omega)
    · rw [if_neg c3]; exact h2 _ _ (by omega) (by omega) (by omega)
theorem srt_shr {g : Nat → Nat} {a m r : Nat} (h1 : Srt K g a m) (har : a ≤ r) (hrm : r ≤ m) (k1 : r = a ∨ L K (g (r - 1)) (g m)) (k2 : r = m ∨ L K (g m) (g r)) : Srt K (shr g r m) a (m + 1) := by
  intro x y hx hxy hy
  have lo : ∀ q, a ≤ q → q < r → L K (g q) (g m) := fun q q1 q2 => by
    rcases k1 with k1 | k1
    · omega
    · by_cases e : q = r - 1
      · rw [e]; exact k1
      · exact (h1 q (r - 1) q1 (by omega) (by omega)).trans k1
  have hi : ∀ q, r ≤ q → q < m → L K (g m) (g q) := fun q q1 q2 => by
    rcases k2 with k2 | k2
    · omega
    · by_cases e : q = r
      · rw [e]; exact k2
      · exact k2.trans (h1 r q (by omega) (by omega) q2)
  simp only [shr]
  by_cases c1 : x < r
  · rw [if_neg (show ¬ (r < x ∧ x ≤ m) by omega), if_neg (show ¬ x = r by omega)]
    by_cases c2 : y < r
    · rw [if_neg (show ¬ (r < y ∧ y ≤ m) by omega), if_neg (show ¬ y = r by omega)]; exact h1 _ _ (by omega) (by omega) (by omega)
    · by_cases c3 : y = r
      · rw [if_neg (show ¬ (r < y ∧ y ≤ m) by omega), if_pos c3]; exact lo _ (by omega) (by omega)
      · rw [if_pos (show r < y ∧ y ≤ m by omega)]; exact h1 _ _ (by omega) (by omega) (by omega)
  · rw [if_pos (show r < y ∧ y ≤ m by omega)]
    by_cases c3 : x = r
    · rw [if_neg (show ¬ (r < x ∧ x ≤ m) by omega), if_pos c3]; exact hi _ (by omega) (by omega)
    · rw [if_pos (show r < x ∧ x ≤ m by omega)]; exact h1 _ _ (by omega) (by omega) (by omega)
theorem rot_nil (g : Nat → Nat) (m i j : Nat) (h : i = 0 ∨ j = 0) (hi : i ≤ m) : rot g m i j = g := by
  funext q
  simp only [rot]
  split
  · congr 1; omega
  · split
    · congr 1; omega
    · rfl
theorem rot_sub (g : Nat → Nat) {a m i j b : Nat} (h1 : i ≤ m) (h2 : a ≤ m - i) (h3 : m + j ≤ b) : Sub (rot g m i j) g a b := by
  refine ⟨fun q hq => ?_, fun q q1 q2 => ?_, fun q q1 q2 => ?_⟩
  · simp only [rot]; rw [if_neg (by omega), if_neg (by omega)]
  · simp only [rot]
    by_cases c1 : m - i ≤ q ∧ q < m - i + j
    · exact ⟨q + i, by omega, by omega, by rw [if_pos c1]⟩
    · by_cases c2 : m - i + j ≤ q ∧ q < m + j
      · exact ⟨q - j, by omega, by omega, by rw [if_neg c1, if_pos c2]⟩
      · exact ⟨q, q1, q2, by rw [if_neg c1, if_neg c2]⟩
  · simp only [rot]
    by_cases c1 : m ≤ q ∧ q < m + j
    · exact ⟨q - i, by omega, by omega, by rw [if_pos (by omega)]; congr 1; omega⟩
    · by_cases c2 : m - i ≤ q ∧ q < m
      · exact ⟨q + j, by omega, by omega, by rw [if_neg (by omega), if_pos (by omega)]; congr 1; omega⟩
      · exact ⟨q, q1, q2, by rw [if_neg (by omega), if_neg (by omega)]⟩
/-- What the search and the rotation bring. -/
theorem sm_mid {g : Nat → Nat} {a m b mid s0 r0 t : Nat} (hmid : mid = (a + b) / 2) (ham : a < m) (hmb : m < b) (s1 : Srt K g a m) (s2 : Srt K g m b) (sx : Crs g a m b)
    (hs : s0 = if mid < m then mid + m - b else a) (hr : r0 = if mid < m then mid else m) (t1 : s0 ≤ t) (t2 : t ≤ r0) (t3 : t = s0 ∨ L K (g (t - 1)) (g (mid + m - 1 + 1 - t))) (t4 : t = r0 ∨ L K (g (mid + m - 1 - t)) (g t)) :
    a ≤ t ∧ t ≤ m ∧ t ≤ mid ∧ m ≤ mid + m - t ∧ mid + m - t ≤ b ∧
    (let g1 := rot g m (m - t) (mid - t); Srt K g1 a t ∧ Srt K g1 t mid ∧ Crs g1 a t mid ∧ Srt K g1 mid (mid + m - t) ∧ Srt K g1 (mid + m - t) b ∧ Crs g1 mid (mid + m - t) b ∧ (∀ x y, a ≤ x → x < mid → mid ≤ y → y < b → L K (g1 x) (g1 y))) := by
  have a0 : a ≤ t ∧ t ≤ m ∧ t ≤ mid ∧ mid + m - t ≤ b := by
    subst hmid
    split at hs <;> split at hr <;> omega
  obtain ⟨a1, a2, a3, a4⟩ := a0
  refine ⟨a1, a2, a3, by omega, a4, ?_⟩
  have lo : ∀ q, q < t → rot g m (m - t) (mid - t) q = g q := fun q hq => by simp only [rot]; rw [if_neg (by omega), if_neg (by omega)]
  have hi : ∀ q, mid + m - t ≤ q → rot g m (m - t) (mid - t) q = g q := fun q hq => by simp only [rot]; rw [if_neg (by omega), if_neg (by omega)]
  have m1 : ∀ q, t ≤ q → q < mid → rot g m (m - t) (mid - t) q = g (q + (m - t)) := fun q h1 h2 => by simp only [rot]; rw [if_pos (by omega)]
  have m2 : ∀ q, mid ≤ q → q < mid + m - t → rot g m (m - t) (mid - t) q = g (q - (mid - t)) := fun q h1 h2 => by simp only [rot]; rw [if_neg (by omega), if_pos (by omega)]
  -- [a,t) < [t,m), [m,e) < [e,b), [m,e) < [t,m), [a,t) < [e,b)
  have A : ∀ x y, m ≤ x → x < mid + m - t → t ≤ y → y < m → L K (g x) (g y) := fun x y h1 h2 h3 h4 => by
    have hl : L K (g (mid + m - 1 - t)) (g t) := by
      rcases t4 with t4 | t4
      · exfalso; split at hr <;> omega
      · exact t4
    have h5 : L K (g x) (g t) := by
      by_cases e : x = mid + m - 1 - t
      · rw [e]; exact hl
      · exact (s2 x _ h1 (by omega) (by omega)).trans hl
    by_cases e : y = t
    · rw [e]; exact h5
    · exact h5.trans (s1 t y a1 (by omega) h4)
  have B : ∀ x y, a ≤ x → x < t → mid + m - t ≤ y → y < b → L K (g x) (g y) := fun x y h1 h2 h3 h4 => by
    have hl : L K (g (t - 1)) (g (mid + m - t)) := by
      rcases t3 with t3 | t3
      · exfalso; split at hs <;> omega
      · rw [show mid + m - 1 + 1 - t = mid + m - t by omega] at t3; exact t3
    have h5 : L K (g x) (g (mid + m - t)) := by
      by_cases e : x = t - 1
      · rw [e]; exact hl
      · exact (s1 x _ h1 (by omega) (by omega)).trans hl
    by_cases e : y = mid + m - t
    · rw [e]; exact h5
    · exact h5.trans (s2 _ y (by omega) (by omega) h4)
  refine ⟨fun x y h1 h2 h3 => ?_, fun x y h1 h2 h3 => ?_, fun x y h1 h2 h3 h4 => ?_, fun x y h1 h2 h3 => ?_, fun x y h1 h2 h3 => ?_, fun x y h1 h2 h3 h4 => ?_, fun x y h1 h2 h3 h4 => ?_⟩
  · rw [lo x (by omega), lo y h3]; exact s1 x y h1 h2 (by omega)
  · rw [m1 x h1 (by omega), m1 y (by omega) h3]; exact s2 _ _ (by omega) (by omega) (by omega)
  · rw [lo x h2, m1 y h3 h4]; exact sx _ _ h1 (by omega) (by omega) (by omega)
  · rw [m2 x h1 (by omega), m2 y (by omega) h3]; exact s1 _ _ (by omega) (by omega) (by omega)
  · rw [hi x h1, hi y (by omega)]; exact s2 _ _ (by omega) h2 h3
  · rw [m2 x h1 h2, hi y h3]; exact sx _ _ (by omega) (by omega) (by omega) h4
  · by_cases c1 : x < t
    · rw [lo x c1]
      by_cases c2 : y < mid + m - t
      · rw [m2 y h3 c2]; exact s1 _ _ h1 (by omega) (by omega)
      · rw [hi y (by omega)]; exact B _ _ h1 c1 (by omega) h4
    · rw [m1 x (by omega) h2]
      by_cases c2 : y < mid + m - t
      · rw [m2 y h3 c2]; exact A _ _ (by omega) (by omega) (by omega) (by omega)
      · rw [hi y (by omega)]; exact s2 _ _ (by omega) (by omega) h4
theorem srt_join {g1 g2 g3 : Nat → Nat} {a mid b : Nat} (ha : a ≤ mid) (hb : mid ≤ b) (s1 : Sub g2 g1 a mid) (s2 : Sub g3 g2 mid b) (h1 : Srt K g2 a mid) (h2 : Srt K g3 mid b)
    (h : ∀ x y, a ≤ x → x < mid → mid ≤ y → y < b → L K (g1 x) (g1 y)) : Srt K g3 a b := by
  intro x y hx hxy hy
  by_cases c1 : mid ≤ x
  · exact h2 x y c1 hxy hy
  · rw [s2.out x (.inl (by omega))]
    by_cases c2 : y < mid
    · rw [s2.out y (.inl c2)]; exact h1 x y hx hxy c2
    · obtain ⟨x', x1, x2, x3⟩ := s1.fwd x hx (by omega)
      obtain ⟨y', y1, y2, y3⟩ := s2.fwd y (by omega) hy
      rw [x3, y3, s1.out y' (.inr y1)]
      exact h x' y' x1 x2 y1 y2
theorem of_tot {x : Option (List PV)} {P : (Nat → Nat) → Prop} (h : Tot (fun r => ∃ g' : Nat → Nat, r = [.r (st R g' n)] ∧ P g') x) : ∃ g' : Nat → Nat, x = some [.r (st R g' n)] ∧ P g' := by
  obtain ⟨r, h1, g', rfl, h3⟩ := h
  exact ⟨g', h1, h3⟩
theorem sm_ic (hn : n ≤ big) (hc : Cm R K fc cm) : ∀ (d a m b : Nat) (g : Nat → Nat), b - a ≤ d → a < m → m < b → b ≤ n → Srt K g a m → Srt K g m b → Crs g a m b →
    ∃ g' : Nat → Nat, (lim T).ic slices_symMergeCmpFunc_align_Pair_i3_n [.r [.int (a : Int)], .r [.int (m : Int)], .r [.int (b : Int)], .r [fc], .r (st R g n)] = some [.r (st R g' n)] ∧ Sub g' g a b ∧ Srt K g' a b
  | 0, a, m, b, g, hd, ham, hmb, hb, s1, s2, sx => by omega
  | d + 1, a, m, b, g, hd, ham, hmb, hb, s1, s2, sx => by
    rw [slices_symMergeCmpFunc_align_Pair_i3_ic]; unfold slices_symMergeCmpFunc_align_Pair_i3
    have w1 := wr_sub (i := m) (j := a) (by unfold big at hn; omega) (by omega)
    have w2 := wr_sub (i := b) (j := m) (by unfold big at hn; omega) (by omega)
    by_cases e1 : m - a = 1
    · obtain rfl : m = a + 1 := by omega
      have c1 : (((a + 1 - a : Nat) : Int) == 1) = true := by rw [e1]; rfl
      obtain ⟨r, f1, f2, f3, f4, f5⟩ := sm_l0 hn hc g a (a + 1) b (by omega) hb (fun h h1 h2 => sx a h (Nat.le_refl _) (by omega) h1 h2) _ (a + 1) b (Nat.le_refl _) (Nat.le_refl _) (by omega) (Nat.le_refl _) (.inl rfl) (.inl rfl)
      have f6 := sm_l1 (R := R) hn g a r (by omega) (r - 1 - a) a (by omega) (Nat.le_refl _) (by omega)
      rw [shl_refl] at f6
      refine ⟨shl g a (r - 1), ?_, shl_sub g (by omega) (by omega), srt_shl s2 (by omega) f3 f4 f5⟩
      simp only [w1, c1, if_true, st0, st1, toI_int, Int.toNat_natCast, st_mk, f1, Option.bind_some, gI_s, gI_z, gC_s, gC_z, gC_st, gR_s, gR_z, f6]
    · have c1 : ¬ (((m - a : Nat) : Int) == 1) = true := by simp; omega
      by_cases e2 : b - m = 1
      · obtain rfl : b = m + 1 := by omega
        have c2 : (((m + 1 - m : Nat) : Int) == 1) = true := by rw [e2]; rfl
        obtain ⟨r, f1, f2, f3, f4, f5⟩ := sm_l2 hn hc g a m (by omega) (fun h h1 h2 => sx h m h1 h2 (Nat.le_refl _) (by omega)) _ a m (Nat.le_refl _) (Nat.le_refl _) (by omega) (Nat.le_refl _) (.inl rfl) (.inl rfl)
        have f6 := sm_l3 (R := R) hn g r m (by omega) (m - r) m (by omega) (Nat.le_refl _)
        rw [shr_refl] at f6
        refine ⟨shr g r m, ?_, shr_sub g (by omega) (d := m - r) (by omega) f2, srt_shr s1 f2 f3 f4 f5⟩
        simp only [w1, w2, c1, c2, Bool.false_eq_true, if_false, if_true, st0, st1, toI_int, Int.toNat_natCast, st_mk, f1, Option.bind_some, gI_s, gI_z, gC_s, gC_z, gC_st, gR_s, gR_z, f6]
      · have c2 : ¬ (((b - m : Nat) : Int) == 1) = true := by simp; omega
        have wh := half (i := a) (j := b) (by omega) (by omega)
        obtain ⟨mid, hmid⟩ : ∃ mid, mid = (a + b) / 2 := ⟨_, rfl⟩
        rw [← hmid] at wh
        have w3 := wr_add (i := mid) (j := m) (by omega) (by omega)
        have w4 := wr_sub (i := mid + m) (j := 1) (by unfold big at hn; omega) (by omega)
        rw [show ((1 : Nat) : Int) = 1 from rfl] at w4
        rw [w1, w2, if_neg c1, if_neg c2, wh, w3]
        simp only [st0, st1, toI_int, Int.toNat_natCast, st_mk]
        obtain ⟨s0, hs0⟩ : ∃ s0, s0 = if mid < m then mid + m - b else a := ⟨_, rfl⟩
        obtain ⟨r0, hr0⟩ : ∃ r0, r0 = if mid < m then mid else m := ⟨_, rfl⟩
        refine of_tot (P := fun g' => Sub g' g a b ∧ Srt K g' a b) ?_
        refine Tot.bind (R := fun x => x = (0, [.r [.int (a : Int)], .r [.int (m : Int)], .r [.int (b : Int)], .r [fc], .r [.int (mid : Int)], .r [.int ((mid + m : Nat) : Int)], .r [.int (s0 : Int)], .r [.int (r0 : Int)], .r (st R g n)])) ?_ ?_
        · by_cases c : mid < m
          · have c3 : (m : Int) > (mid : Int) := by omega
            have w5 := wr_sub (i := mid + m) (j := b) (by unfold big at hn; omega) (by omega)
            rw [if_pos c] at hs0 hr0
            subst hs0; subst hr0
            simp only [c3, decide_true, if_true, w5]
            exact Tot.some rfl
          · have c3 : ¬ (m : Int) > (mid : Int) := by omega
            rw [if_neg c] at hs0 hr0
            subst hs0; subst hr0
            simp only [c3, decide_false, Bool.false_eq_true, if_false]
            exact Tot.some rfl
        · rintro _ rfl
          have hm2 : 2 * mid ≤ a + b ∧ a + b < 2 * mid + 2 := by omega
          obtain ⟨t, f1, t1, t2, t3, t4⟩ := sm_l4 hn hc g a m b mid (mid + m) (mid + m - 1) s0 r0 hb (by omega) (by omega) (fun x y h1 h2 h3 h4 => sx x y h1 h2 h3 h4)
            (fun c h1 h2 => by split at hs0 <;> split at hr0 <;> omega) _ s0 r0 (Nat.le_refl _) (Nat.le_refl _) (by split at hs0 <;> split at hr0 <;> omega) (Nat.le_refl _) (by split at hr0 <;> omega) (.inl rfl) (.inl rfl)
          obtain ⟨a1, a2, a3, a4, a5, b1, b2, b3, b4, b5, b6, b7⟩ := sm_mid hmid ham hmb s1 s2 sx hs0 hr0 t1 t2 t3 t4
          have w6 := wr_sub (i := mid + m) (j := t) (by unfold big at hn; omega) (by omega)
          simp only [gI_s, gI_z, gC_s, gC_z, gC_st, gR_s, gR_z, st1, toI_int, Int.toNat_natCast, st_mk, w4, f1, Option.bind_some, w6]
          refine Tot.bind (R := fun x => x = (0, [.r [.int (a : Int)], .r [.int (m : Int)], .r [.int (b : Int)], .r [fc], .r [.int (mid : Int)], .r [.int (t : Int)], .r [.int ((mid + m - t : Nat) : Int)], .r [.bool (decide (t < m ∧ m < mid + m - t))], .r (st R g n)])) ?_ ?_
          · by_cases c : t < m
            · have c3 : (t : Int) < (m : Int) := by omega
              by_cases c' : m < mid + m - t
              · have c4 : (m : Int) < ((mid + m - t : Nat) : Int) := by omega
                simp only [c3, c4, c, c', decide_true, if_true, and_self]; exact Tot.some rfl
              · have c4 : ¬ (m : Int) < ((mid + m - t : Nat) : Int) := by omega
                simp only [c3, c4, c, c', decide_true, decide_false, if_true, and_false]; exact Tot.some rfl
            · have c3 : ¬ (t : Int) < (m : Int) := by omega
              simp only [c3, c, decide_false, Bool.false_eq_true, if_false, false_and]; exact Tot.some rfl
          rintro _ rfl
          simp only [gI_s, gI_z, gC_s, gC_z, gC_st, gR_s, gR_z, gB_s, gB_z, st1, toI_int, Int.toNat_natCast, st_mk]
          refine Tot.bind (R := fun x => x = (0, [.r [.int (a : Int)], .r [.int (b : Int)], .r [fc], .r [.int (mid : Int)], .r [.int (t : Int)], .r [.int ((mid + m - t : Nat) : Int)], .r (st R (rot g m (m - t) (mid - t)) n)])) ?_ ?_
          · by_cases c : t < m ∧ m < mid + m - t
            · have ro := rot_ic (R := R) (fc := fc) hn g t m (mid + m - t) c.1 c.2 (by omega)
              rw [show mid + m - t - m = mid - t by omega] at ro
              rw [if_pos (decide_eq_true c), ro]
              exact Tot.some rfl
            · rw [if_neg (by simpa using c), rot_nil g m _ _ (by omega) (by omega)]
              exact Tot.some rfl
          rintro _ rfl
          simp only [gI_s, gI_z, gC_s, gC_z, gC_st, gR_s, gR_z, gB_s, gB_z, st1, toI_int, Int.toNat_natCast, st_mk]
          refine Tot.bind (R := fun x => x = (0, [.r [.int (a : Int)], .r [.int (b : Int)], .r [fc], .r [.int (mid : Int)], .r [.int (t : Int)], .r [.int ((mid + m - t : Nat) : Int)], .r [.bool (decide (a < t ∧ t < mid))], .r (st R (rot g m (m - t) (mid - t)) n)])) ?_ ?_
          · by_cases c : a < t
            · have c3 : (a : Int) < (t : Int) := by omega
              by_cases c' : t < mid
              · have c4 : (t : Int) < (mid : Int) := by omega
                simp only [c3, c4, c, c', decide_true, if_true, and_self]; exact Tot.some rfl
              · have c4 : ¬ (t : Int) < (mid : Int) := by omega
                simp only [c3, c4, c, c', decide_true, decide_false, if_true, and_false]; exact Tot.some rfl
            · have c3 : ¬ (a : Int) < (t : Int) := by omega
              simp only [c3, c, decide_false, Bool.false_eq_true, if_false, false_and]; exact Tot.some rfl
          rintro _ rfl
          simp only [gI_s, gI_z, gC_s, gC_z, gC_st, gR_s, gR_z, gB_s, gB_z, st1, toI_int, Int.toNat_natCast, st_mk]
          refine Tot.bind (R := fun x => ∃ g2 : Nat → Nat, x = (0, [.r [.int (b : Int)], .r [fc], .r [.int (mid : Int)], .r [.int ((mid + m - t : Nat) : Int)], .r (st R g2 n)]) ∧ Sub g2 (rot g m (m - t) (mid - t)) a mid ∧ Srt K g2 a mid) ?_ ?_
          · by_cases c : a < t ∧ t < mid
            · obtain ⟨g2, y1, y2, y3⟩ := sm_ic hn hc d a t mid _ (by omega) c.1 c.2 (by omega) b1 b2 b3
              rw [if_pos (decide_eq_true c), y1]
              exact Tot.some ⟨g2, rfl, y2, y3⟩
            · rw [if_neg (by simpa using c)]
              refine Tot.some ⟨_, rfl, Sub.refl _ _ _, ?_⟩
              by_cases c' : a = t
              · subst c'; exact b2
              · obtain rfl : t = mid := by omega
                exact b1
          rintro _ ⟨g2, rfl, y2, y3⟩
          simp only [gI_s, gI_z, gC_s, gC_z, gC_st, gR_s, gR_z, gB_s, gB_z, st1, toI_int, Int.toNat_natCast, st_mk]
          have hro : Sub (rot g m (m - t) (mid - t)) g a b := rot_sub g (by omega) (by omega) (by omega)
          have e1' : ∀ q, mid ≤ q → g2 q = rot g m (m - t) (mid - t) q := fun q hq => y2.out q (.inr hq)
          have fin : ∀ g3, Sub g3 g2 mid b → Srt K g3 mid b → Sub g3 g a b ∧ Srt K g3 a b := fun g3 z1 z2 =>
            ⟨(z1.mono (by omega) (Nat.le_refl _)).trans ((y2.mono (Nat.le_refl _) (by omega)).trans hro), srt_join (by omega) (by omega) y2 z1 y3 z2 b7⟩
          by_cases c : mid < mid + m - t ∧ mid + m - t < b
          · have c3 : (mid : Int) < ((mid + m - t : Nat) : Int) := by omega
            have c4 : ((mid + m - t : Nat) : Int) < (b : Int) := by omega
            obtain ⟨g3, z1, z2, z3⟩ := sm_ic hn hc d mid (mid + m - t) b g2 (by omega) c.1 c.2 hb (b4.congr fun q h1 h2 => e1' q h1) (b5.congr fun q h1 h2 => e1' q (by omega)) (b6.congr fun q h1 h2 => e1' q h1)
            simp only [c3, c4, decide_true, if_true, z1, Option.bind_some, gC_st, gR_z, st1, toI_int, Int.toNat_natCast, st_mk]
            exact Tot.some ⟨g3, rfl, fin g3 z2 z3⟩
          · have last : Srt K g2 mid b := by
              by_cases c' : mid < mid + m - t
              · have : mid + m - t = b := by omega
                rw [this] at b4
                exact b4.congr fun q h1 h2 => e1' q h1
              · have : mid + m - t = mid := by omega
                rw [this] at b5
                exact b5.congr fun q h1 h2 => e1' q h1
            by_cases c' : mid < mid + m - t
            · have c3 : (mid : Int) < ((mid + m - t : Nat) : Int) := by omega
              have c4 : ¬ ((mid + m - t : Nat) : Int) < (b : Int) := by omega
              simp only [c3, c4, decide_true, decide_false, Bool.false_eq_true, if_true, if_false]
              exact Tot.some ⟨g2, rfl, fin g2 (Sub.refl _ _ _) last⟩
            · have c3 : ¬ (mid : Int) < ((mid + m - t : Nat) : Int) := by omega
              simp only [c3, decide_false, Bool.false_eq_true, if_false]
              exact Tot.some ⟨g2, rfl, fin g2 (Sub.refl _ _ _) last⟩
end Go.Ev.Zzi
namespace Go.Ev.Zzi
variable {n : Nat} {R : Nat → Row} {K : Nat → Int} {fc : C} {cm : Nat → Nat → Int}
theorem st_l0 (hn : n ≤ big) (hc : Cm R K fc cm) : ∀ (k a : Nat) (g : Nat → Nat), n ≤ a + k → a ≤ n → (∀ q r, a ≤ q → q < r → r < n → g q < g r) →
    ∃ (a' : Nat) (g1 : Nat → Nat), slices_stableCmpFunc_align_Pair_i1_l0 (lim T) (n : Int) fc 20 (a : Int) ((a + 20 : Nat) : Int) (st R g n) = some (0, [.r [.int (n : Int)], .r [fc], .r [.int 20], .r [.int (a' : Int)], .r (st R g1 n)]) ∧ a ≤ a' ∧ a' ≤ n ∧ n < a' + 20 ∧ Sub g1 g a a' ∧ (∀ q r, a' ≤ q → q < r → r < n → g1 q < g1 r) ∧ (∀ g2, Sub g2 g1 a' n → Srt K g2 a' n → Blocks K g2 20 n a)
  | k, a, g, hk, han, hx => by
    rw [slices_stableCmpFunc_align_Pair_i1_l0_eq]; unfold slices_stableCmpFunc_align_Pair_i1_b0
    by_cases e : a + 20 ≤ n
    · have c1 : ((a + 20 : Nat) : Int) ≤ (n : Int) := by omega
      obtain ⟨k, rfl⟩ : ∃ k', k = k' + 1 := ⟨k - 1, by omega⟩
      obtain ⟨g1, i1, i2, i3⟩ := ins_ic hn hc a (a + 20) (by omega) e g (fun q r h1 h2 h3 => hx q r h1 h2 (by omega))
      have w := wr_add (i := a + 20) (j := 20) (by omega) (by omega)
      rw [show ((20 : Nat) : Int) = 20 from rfl] at w
      obtain ⟨a', g2, e1, e2, e3, e4, e5, e6, e7⟩ := st_l0 hn hc k (a + 20) g1 (by omega) e (fun q r h1 h2 h3 => by
        rw [i2.out q (.inr h1), i2.out r (.inr (by omega))]; exact hx q r (by omega) h2 h3)
      refine ⟨a', g2, ?_, by omega, e3, e4, (e5.mono (by omega) (Nat.le_refl _)).trans (i2.mono (Nat.le_refl _) e2), e6, fun g3 z1 z2 => ?_⟩
      · simp only [st0, st1, toI_int, Int.toNat_natCast, c1, decide_true, if_true, st_mk, i1, Option.bind_some, gC_st, gR_z, w]
        exact e1
      · have h1 := e7 g3 z1 z2
        have e5' : Sub g3 g1 (a + 20) n := (z1.mono e2 (Nat.le_refl _)).trans (e5.mono (Nat.le_refl _) e3)
        have hs : Srt K g3 a (a + 20) := i3.congr fun q h1 h2 => e5'.out q (.inl h2)
        by_cases c : a + 20 < n
        · refine .cons c hs ?_ h1
          exact Crs.sub2 (g := g) (g1 := g1) (b := n) (fun q r h1 h2 h3 h4 => hx q r h1 (by omega) h4) i2 e5' (Nat.le_refl _) (by omega)
        · obtain rfl : a + 20 = n := by omega
          exact .last (Nat.le_refl _) hs
    · have c1 : ¬ ((a + 20 : Nat) : Int) ≤ (n : Int) := by omega
      refine ⟨a, g, ?_, Nat.le_refl _, han, by omega, Sub.refl _ _ _, hx, fun g2 z1 z2 => .last (by omega) z2⟩
      simp only [st0, st1, toI_int, Int.toNat_natCast, c1, decide_false, Bool.false_eq_true, if_false, st_mk]
theorem blocks_srt {g : Nat → Nat} {s a : Nat} (h : Blocks K g s n a) (hs : n ≤ a + s) : Srt K g a n := by
  cases h with
  | last h1 h2 => exact h2
  | cons h1 h2 h3 h4 => omega
theorem st_l2 (hn : n ≤ big) (hc : Cm R K fc cm) (s : Nat) (hs0 : 0 < s) (hsn : s ≤ n) : ∀ (k a : Nat) (g : Nat → Nat), n ≤ a + k → a ≤ n → Blocks K g s n a →
    ∃ (a' : Nat) (g1 : Nat → Nat), slices_stableCmpFunc_align_Pair_i1_l2 (lim T) (n : Int) fc (s : Int) (a : Int) ((a + 2 * s : Nat) : Int) (st R g n) = some (0, [.r [.int (n : Int)], .r [fc], .r [.int (s : Int)], .r [.int (a' : Int)], .r (st R g1 n)]) ∧ a ≤ a' ∧ a' ≤ n ∧ n < a' + 2 * s ∧ Sub g1 g a a' ∧ Blocks K g1 s n a' ∧ (∀ g2, Sub g2 g1 a' n → Srt K g2 a' n → Blocks K g2 (2 * s) n a)
  | k, a, g, hk, han, hx => by
    rw [slices_stableCmpFunc_align_Pair_i1_l2_eq]; unfold slices_stableCmpFunc_align_Pair_i1_b2
    by_cases e : a + 2 * s ≤ n
    · have c1 : ((a + 2 * s : Nat) : Int) ≤ (n : Int) := by omega
      obtain ⟨k, rfl⟩ : ∃ k', k = k' + 1 := ⟨k - 1, by omega⟩
      obtain ⟨b1, b2, b3⟩ : Srt K g a (a + s) ∧ Crs g a (a + s) n ∧ Blocks K g s n (a + s) := by
        cases hx with
        | last h1 h2 => omega
        | cons h1 h2 h3 h4 => exact ⟨h2, h3, h4⟩
      obtain ⟨b4, b5, b6⟩ : Srt K g (a + s) (a + 2 * s) ∧ Crs g a (a + 2 * s) n ∧ Blocks K g s n (a + 2 * s) := by
        cases b3 with
        | last h1 h2 =>
          obtain rfl : n = a + 2 * s := by omega
          exact ⟨h2, fun _ _ _ _ h5 h6 => by omega, .last (by omega) fun _ _ _ _ _ => by omega⟩
        | cons h1 h2 h3 h4 =>
          rw [show a + s + s = a + 2 * s by omega] at h2 h3 h4
          exact ⟨h2, fun x y h5 h6 h7 h8 => by
            by_cases c : x < a + s
            · exact b2 x y h5 c (by omega) h8
            · exact h3 x y (by omega) h6 h7 h8, h4⟩
      obtain ⟨g1, i1, i2, i3⟩ := sm_ic hn hc _ a (a + s) (a + 2 * s) g (Nat.le_refl _) (by omega) (by omega) e b1 b4 (fun x y h1 h2 h3 h4 => b2 x y h1 h2 h3 (by omega))
      have w1 := wr_add (i := a) (j := s) (by omega) (by omega)
      have w2 : IntKind.wrap .i64 (2 * (s : Int)) = ((2 * s : Nat) : Int) := by unfold big at hn; rw [wrapZ (by omega) (by omega)]; omega
      have w3 : IntKind.wrap .i64 (((a + 2 * s : Nat) : Int) + ((2 * s : Nat) : Int)) = ((a + 2 * s + 2 * s : Nat) : Int) := by unfold big at hn; rw [wrapZ (by omega) (by omega)]; omega
      obtain ⟨a', g2, e1, e2, e3, e4, e5, e6, e7⟩ := st_l2 hn hc s hs0 hsn k (a + 2 * s) g1 (by omega) e (b6.congr fun q h1 h2 => i2.out q (.inr h1))
      refine ⟨a', g2, ?_, by omega, e3, e4, (e5.mono (by omega) (Nat.le_refl _)).trans (i2.mono (Nat.le_refl _) e2), e6, fun g3 z1 z2 => ?_⟩
      · simp only [st0, st1, toI_int, Int.toNat_natCast, c1, decide_true, if_true, st_mk, w1, w2, w3, i1, Option.bind_some, gC_st, gR_z]
        exact e1
      · have h1 := e7 g3 z1 z2
        have e5' : Sub g3 g1 (a + 2 * s) n := (z1.mono e2 (Nat.le_refl _)).trans (e5.mono (Nat.le_refl _) e3)
        have hs : Srt K g3 a (a + 2 * s) := i3.congr fun q h1 h2 => e5'.out q (.inl h2)
        by_cases c : a + 2 * s < n
        · exact .cons c hs (Crs.sub2 (g := g) (g1 := g1) (b := n) b5 i2 e5' (Nat.le_refl _) (by omega)) h1
        · obtain rfl : n = a + 2 * s := by omega
          exact .last (Nat.le_refl _) hs
    · have c1 : ¬ ((a + 2 * s : Nat) : Int) ≤ (n : Int) := by omega
      refine ⟨a, g, ?_, Nat.le_refl _, han, by omega, Sub.refl _ _ _, hx, fun g2 z1 z2 => .last (by omega) z2⟩
      simp only [st0, st1, toI_int, Int.toNat_natCast, c1, decide_false, Bool.false_eq_true, if_false, st_mk]
theorem st_l1 (hn : n ≤ big) (hc : Cm R K fc cm) : ∀ (k s : Nat) (g : Nat → Nat), n ≤ s + k → 0 < s → Blocks K g s n 0 →
    ∃ g' : Nat → Nat, slices_stableCmpFunc_align_Pair_i1_l1 (lim T) (n : Int) fc (s : Int) (st R g n) = some (0, [.r (st R g' n)]) ∧ Sub g' g 0 n ∧ Srt K g' 0 n
  | k, s, g, hk, hs, hx => by
    rw [slices_stableCmpFunc_align_Pair_i1_l1_eq]; unfold slices_stableCmpFunc_align_Pair_i1_b1
    by_cases e : s < n
    · have c1 : (s : Int) < (n : Int) := by omega
      obtain ⟨k, rfl⟩ : ∃ k', k = k' + 1 := ⟨k - 1, by omega⟩
      obtain ⟨a', g1, e1, e2, e3, e4, e5, e6, e7⟩ := st_l2 hn hc s hs (by omega) n 0 g (by omega) (by omega) hx
      rw [Nat.zero_add] at e1
      have w2 : IntKind.wrap .i64 (2 * (s : Int)) = ((2 * s : Nat) : Int) := by unfold big at hn; rw [wrapZ (by omega) (by omega)]; omega
      have w3 : IntKind.wrap .i64 ((s : Int) * 2) = ((2 * s : Nat) : Int) := by unfold big at hn; rw [wrapZ (by omega) (by omega)]; omega
      have w1 := wr_add (i := a') (j := s) (by omega) (by omega)
      rw [show ((0 : Nat) : Int) = 0 from rfl] at e1
      by_cases c : a' + s < n
      · have c2 : ((a' + s : Nat) : Int) < (n : Int) := by omega
        obtain ⟨b1, b2, b3⟩ : Srt K g1 a' (a' + s) ∧ Crs g1 a' (a' + s) n ∧ Blocks K g1 s n (a' + s) := by
          cases e6 with
          | last h1 h2 => omega
          | cons h1 h2 h3 h4 => exact ⟨h2, h3, h4⟩
        obtain ⟨g2, i1, i2, i3⟩ := sm_ic hn hc _ a' (a' + s) n g1 (Nat.le_refl _) (by omega) c (Nat.le_refl _) b1 (blocks_srt b3 (by omega)) b2
        obtain ⟨g3, f1, f2, f3⟩ := st_l1 hn hc k (2 * s) g2 (by omega) (by omega) (e7 g2 i2 i3)
        refine ⟨g3, ?_, f2.trans ((i2.mono (Nat.zero_le _) (Nat.le_refl _)).trans (e5.mono (Nat.le_refl _) e3)), f3⟩
        simp only [st0, st1, toI_int, Int.toNat_natCast, c1, decide_true, if_true, st_mk, w2, e1, Option.bind_some, gI_s, gI_z, gC_s, gC_z, gC_st, gR_s, gR_z, w1, c2, i1, w3]
        exact f1
      · have c2 : ¬ ((a' + s : Nat) : Int) < (n : Int) := by omega
        obtain ⟨g3, f1, f2, f3⟩ := st_l1 hn hc k (2 * s) g1 (by omega) (by omega) (e7 g1 (Sub.refl _ _ _) (blocks_srt e6 (by omega)))
        refine ⟨g3, ?_, f2.trans (e5.mono (Nat.le_refl _) e3), f3⟩
        simp only [st0, st1, toI_int, Int.toNat_natCast, c1, decide_true, if_true, st_mk, w2, e1, Option.bind_some, gI_s, gI_z, gC_s, gC_z, gC_st, gR_s, gR_z, w1, c2, decide_false, Bool.false_eq_true, if_false, w3]
        exact f1
    · have c1 : ¬ (s : Int) < (n : Int) := by omega
      refine ⟨g, ?_, Sub.refl _ _ _, blocks_srt hx (by omega)⟩
      simp only [st0, st1, toI_int, Int.toNat_natCast, c1, decide_false, Bool.false_eq_true, if_false, st_mk]
theorem st_ic (hn : n ≤ big) (hc : Cm R K fc cm) : ∃ g' : Nat → Nat, (lim T).ic slices_SortStableFunc_align_Pair_i0_n [.r [fc], .r (st R id n)] = some [.r (st R g' n)] ∧ Sub g' id 0 n ∧ Srt K g' 0 n := by
  rw [slices_SortStableFunc_align_Pair_i0_ic]; unfold slices_SortStableFunc_align_Pair_i0
  rw [st0, rows_sl, arr_len, slices_stableCmpFunc_align_Pair_i1_ic]; unfold slices_stableCmpFunc_align_Pair_i1
  obtain ⟨a', g1, e1, e2, e3, e4, e5, e6, e7⟩ := st_l0 hn hc n 0 id (by omega) (by omega) (fun q r h1 h2 h3 => h2)
  obtain ⟨g2, i1, i2, i3⟩ := ins_ic hn hc a' n e3 (Nat.le_refl _) g1 e6
  obtain ⟨g3, f1, f2, f3⟩ := st_l1 hn hc n 20 g2 (by omega) (by omega) (e7 g2 i2 i3)
  refine ⟨g3, ?_, f2.trans ((i2.mono (Nat.zero_le _) (Nat.le_refl _)).trans (e5.mono (Nat.le_refl _) e3)), f3⟩
  rw [Nat.zero_add] at e1
  rw [show ((20 : Nat) : Int) = 20 from rfl] at e1 f1
  rw [show ((0 : Nat) : Int) = 0 from rfl] at e1
  simp only [at_1, st0, st1, toI_int, Int.toNat_natCast, st_mk, e1, Option.bind_some, gI_s, gI_z, gC_s, gC_z, gC_st, gR_s, gR_z, i1, f1, at_zero]
end Go.Ev.Zzi
namespace Go.Ev.Zzi
def Two (c : C) : Prop := ∀ r ∈ c.rows, ∃ x y : Int, r = [.int x, .int y]
theorem wrap_nat {i : Nat} (h : i ≤ big) : IntKind.wrap .i64 ((i : Int) + 1) = ((i + 1 : Nat) : Int) := wr_succ h
/-! twos, slices.Equal -/
theorem twos_l (c : C) (h2 : Two c) (hN : c.rows.length ≤ big) : ∀ (j i : Nat), i + j = c.rows.length → ∀ d : C, d.rows = c.rows.take i → ∃ d' : C, claplaw3_twos_l0 (lim T) c (c.rows.length : Int) (i : Int) d = some (0, [.r [d']]) ∧ d'.rows = c.rows
  | 0, i, h, d, hd => by
    rw [claplaw3_twos_l0_eq]; unfold claplaw3_twos_b0
    obtain rfl : i = c.rows.length := by omega
    exact ⟨d, by simp, by rw [hd, List.take_length]⟩
  | j + 1, i, h, d, hd => by
    rw [claplaw3_twos_l0_eq]; unfold claplaw3_twos_b0
    have hi : i < c.rows.length := by omega
    have h1 : (i : Int) < (c.rows.length : Int) := by omega
    have h0 : (0 : Int) ≤ (i : Int) := by omega
    obtain ⟨x, y, hxy⟩ := h2 _ (List.getElem_mem hi)
    have hr : rowsAt c.rows (i : Int).toNat = [.int x, .int y] := by rw [← hxy]; simp [rowsAt, hi]
    have hdl : d.rows.length ≤ i := by rw [hd, List.length_take]; omega
    have hg : (d.rows.length + 1) * 16 ≤ 140737488355328 := by unfold big at hN; omega
    obtain ⟨d', e1, e2⟩ := twos_l c h2 hN j (i + 1) (by omega) (appC d [[.int x, .int y]]) (by rw [appC_rows, hd, List.take_add_one, List.getElem?_eq_getElem hi, hxy]; rfl)
    refine ⟨d', ?_, e2⟩
    rw [hr]
    simp only [h1, h0, decide_true, and_self, if_true, List.length_cons, List.length_nil, Nat.zero_add, hg, at_zero, at_succ, toI_int, wrap_nat (show i ≤ big by omega), e1]
theorem twos_spec (c : C) (h2 : Two c) (hN : c.rows.length ≤ big) : ∃ d : C, (lim T).pc n_claplaw3_twos [[c]] = some [[d]] ∧ d.rows = c.rows := by
  rw [claplaw3_twos_pc]; unfold claplaw3_twos
  obtain ⟨d, e1, e2⟩ := twos_l c h2 hN _ 0 (Nat.zero_add _) .nils rfl
  simp only [Int.ofNat_zero, Int.natCast_zero] at e1
  exact ⟨d, by rw [e1]; simp, e2⟩
theorem equal_l (c d : C) (h2 : Two c) (hd : d.rows = c.rows) (hN : c.rows.length ≤ big) : ∀ (j i : Nat), i + j = c.rows.length → slices_Equal_clapref3_Two_l0 (lim T) d c (c.rows.length : Int) (i : Int) = some (0, [])
  | 0, i, h => by
    rw [slices_Equal_clapref3_Two_l0_eq]; unfold slices_Equal_clapref3_Two_b0
    obtain rfl : i = c.rows.length := by omega
    simp
  | j + 1, i, h => by
    rw [slices_Equal_clapref3_Two_l0_eq]; unfold slices_Equal_clapref3_Two_b0
    have hi : i < c.rows.length := by omega
    have h1 : (i : Int) < (c.rows.length : Int) := by omega
    have h0 : (0 : Int) ≤ (i : Int) := by omega
    obtain ⟨x, y, hxy⟩ := h2 _ (List.getElem_mem hi)
    have hr : rowsAt c.rows (i : Int).toNat = [.int x, .int y] := by rw [← hxy]; simp [rowsAt, hi]
    have ih := equal_l c d h2 hd hN j (i + 1) (by omega)
    rw [hd, hr]
    have hq : ceq [.int .i64, .int .i64] [.int x, .int y] [.int x, .int y] = true := by simp [ceq]
    simp only [h1, h0, decide_true, and_self, if_true, hq, Bool.not_true, Bool.false_eq_true, if_false, wrap_nat (show i ≤ big by omega), ih]
theorem equal_spec (c d : C) (h2 : Two c) (hd : d.rows = c.rows) (hN : c.rows.length ≤ big) : (lim T).pc n_slices_Equal_clapref3_Two [[d], [c]] = some [[.bool true]] := by
  rw [slices_Equal_clapref3_Two_pc]; unfold slices_Equal_clapref3_Two
  have := equal_l c d h2 hd hN _ 0 (Nat.zero_add _)
  simp only [Int.ofNat_zero, Int.natCast_zero] at this
  rw [hd, this]
  simp


/-! pairs -/
abbrev P := Int × Int
def pr (p : P) : Row := [.int p.1, .int p.2]
theorem two_pr {c : C} {l : List P} (h : c.rows = l.map pr) : Two c := fun r hr => by
  rw [h, List.mem_map] at hr
  obtain ⟨p, _, rfl⟩ := hr
  exact ⟨p.1, p.2, rfl⟩
theorem pr_two {c : C} (h : Two c) : ∃ l : List P, c.rows = l.map pr := by
  refine ⟨c.rows.map fun r => ((at_ r 0).toI, (at_ r 1).toI), ?_⟩
  rw [List.map_map]
  conv => lhs; rw [← List.map_id c.rows]
  apply List.map_congr_left
  intro r hr
  obtain ⟨x, y, rfl⟩ := h r hr
  rfl
theorem pr_at {c : C} {l : List P} (h : c.rows = l.map pr) (i : Nat) (hi : i < l.length) : rowsAt c.rows i = pr l[i] := by rw [h]; exact rowsAt_map _ _ _ hi
theorem at_pr0 (p : P) : at_ (pr p) 0 = .int p.1 := rfl
theorem at_pr1 (p : P) : at_ (pr p) 1 = .int p.2 := rfl
theorem isNaN_int (a : Int) : (lim T).pc n_cmp_isNaN_int [[.int a]] = some [[.bool false]] := by
  rw [cmp_isNaN_int_pc]; simp [cmp_isNaN_int]
theorem compare_int (a b : Int) : (lim T).pc n_cmp_Compare_int [[.int a], [.int b]] = some [[.int (cmpI a b)]] := by
  rw [cmp_Compare_int_pc]
  unfold cmp_Compare_int cmpI
  simp only [isNaN_int, Option.bind_some, rowsAt_zero, at_zero, toB_bool, Bool.false_eq_true, if_false, decide_eq_true_eq]
  split
  · rfl
  · split <;> rfl
def ky (l : List P) (i : Nat) : Int := (l.getD i (0, 0)).1
def rw_ (l : List P) (i : Nat) : Row := [.int (l.getD i (0, 0)).2, .int (l.getD i (0, 0)).1]
theorem inv_cm (l : List P) : Cm (rw_ l) (ky l) (.fn n_align_Invert_1 []) (fun x y => cmpI (ky l x) (ky l y)) := by
  refine ⟨fun x y => ?_, fun x y => ?_⟩
  · have : callC (lim T) (.fn n_align_Invert_1 []) [rw_ l x, rw_ l y] = (lim T).pc n_align_Invert_1 [rw_ l x, rw_ l y] := rfl
    rw [this, show rw_ l x = [.int (l.getD x (0, 0)).2, .int (ky l x)] from rfl, show rw_ l y = [.int (l.getD y (0, 0)).2, .int (ky l y)] from rfl]
    rw [align_Invert_1_pc]; unfold align_Invert_1
    simp only [at_1, toI_int, compare_int, Option.bind_some, rowsAt_zero, at_zero]
  · simp only [cmpI]; split <;> (try split) <;> omega
theorem arr_succ (R : Nat → Row) (g : Nat → Nat) (n : Nat) : arr R g (n + 1) = arr R g n ++ [R (g n)] := by simp [arr, List.range_succ]
def outI (l : List P) : Nat → C
  | 0 => .nils
  | i + 1 => .sl (arr (rw_ l) id (i + 1))
theorem outI_rows (l : List P) (i : Nat) : (outI l i).rows = arr (rw_ l) id i := by cases i <;> rfl
theorem inv_l (c : C) (l : List P) (hc : c.rows = l.map pr) (hN : l.length ≤ big) : ∀ (j i : Nat), i + j = l.length →
    align_Invert_l0 (lim T) c (l.length : Int) (i : Int) (outI l i) = some (0, [.r [outI l l.length]])
  | 0, i, h => by
    rw [align_Invert_l0_eq]; unfold align_Invert_b0
    obtain rfl : i = l.length := by omega
    simp
  | j + 1, i, h => by
    have ih := inv_l c l hc hN j (i + 1) (by omega)
    rw [align_Invert_l0_eq]; unfold align_Invert_b0
    have hi : i < l.length := by omega
    have h1 : (i : Int) < (l.length : Int) := by omega
    have h0 : (0 : Int) ≤ (i : Int) := by omega
    have hl : c.rows.length = l.length := by rw [hc, List.length_map]
    have hr := pr_at hc i hi
    have hg : (i + 1) * 16 ≤ 140737488355328 := by unfold big at hN; omega
    have ha : appC (outI l i) [[.int l[i].2, .int l[i].1]] = outI l (i + 1) := by
      have e : rw_ l (id i) = [.int l[i].2, .int l[i].1] := by simp [rw_, hi]
      rw [outI, arr_succ, e, ← outI_rows]
      cases i <;> rfl
    simp only [h1, h0, hl, decide_true, and_self, if_true, Int.toNat_natCast, hr, at_pr0, at_pr1, toI_int, outI_rows, arr_len, List.length_cons, List.length_nil, Nat.zero_add, hg, wrap_nat (show i ≤ big by omega), ha, ih]
/-- What both come to: the order by the first numbers, equal ones as they stand. -/
theorem inv_spec (c : C) (l : List P) (hc : c.rows = l.map pr) (hN : l.length ≤ big) : ∃ (d : C) (g : Nat → Nat), (lim T).pc n_align_Invert [[c]] = some [[d]] ∧ d.rows = arr (rw_ l) g l.length ∧ Sub g id 0 l.length ∧ Srt (ky l) g 0 l.length := by
  rw [align_Invert_pc]; unfold align_Invert
  have hl : c.rows.length = l.length := by rw [hc, List.length_map]
  have e1 := inv_l c l hc hN _ 0 (Nat.zero_add _)
  rw [show ((0 : Nat) : Int) = 0 from rfl, show outI l 0 = .nils from rfl] at e1
  rw [hl, e1]
  cases hn : l.length with
  | zero =>
    refine ⟨.nils, id, ?_, rfl, Sub.refl _ _ _, fun x y _ h1 h2 => by omega⟩
    rw [show outI l 0 = .nils from rfl]
    simp only [Option.bind_some, gC_z, rows_nils, List.length_nil]
    have key : (lim T).ic slices_SortStableFunc_align_Pair_i0_n [.r [.fn n_align_Invert_1 []], .r [.nils, .int ((0 : Nat) : Int)]] = some [.r [.nils, .int ((0 : Nat) : Int)]] := by
      rw [slices_SortStableFunc_align_Pair_i0_ic]; unfold slices_SortStableFunc_align_Pair_i0
      simp only [at_zero, at_1, rows_nils, List.length_nil, toI_int, Int.toNat_natCast]
      rw [slices_stableCmpFunc_align_Pair_i1_ic]; unfold slices_stableCmpFunc_align_Pair_i1
      rw [slices_stableCmpFunc_align_Pair_i1_l0_eq]; unfold slices_stableCmpFunc_align_Pair_i1_b0
      have w1 : IntKind.wrap .i64 ((0 : Int) + 1) = 1 := by decide
      have w2 : IntKind.wrap .i64 (1 : Int) = 1 := by decide
      have l1 : slices_insertionSortCmpFunc_align_Pair_i2_l0 (lim T) 0 0 (.fn n_align_Invert_1 []) 1 [.nils, .int 0] = some (0, [.r [.nils, .int 0]]) := by
        rw [slices_insertionSortCmpFunc_align_Pair_i2_l0_eq]; unfold slices_insertionSortCmpFunc_align_Pair_i2_b0
        simp
      have l2 : slices_stableCmpFunc_align_Pair_i1_l1 (lim T) 0 (.fn n_align_Invert_1 []) 20 [.nils, .int 0] = some (0, [.r [.nils, .int 0]]) := by
        rw [slices_stableCmpFunc_align_Pair_i1_l1_eq]; unfold slices_stableCmpFunc_align_Pair_i1_b1
        simp
      simp [slices_insertionSortCmpFunc_align_Pair_i2_ic, slices_insertionSortCmpFunc_align_Pair_i2, w1, w2, l1, l2]
    rw [key]
    simp
  | succ k =>
    obtain ⟨g, s1, s2, s3⟩ := st_ic (n := k + 1) (by omega) (inv_cm l)
    refine ⟨.sl (arr (rw_ l) g (k + 1)), g, ?_, rfl, s2, s3⟩
    rw [show outI l (k + 1) = .sl (arr (rw_ l) id (k + 1)) from rfl]
    simp only [Option.bind_some, gC_z, rows_sl, arr_len, st_mk, s1, gC_st, gR_z, st1, toI_int, Int.toNat_natCast, Nat.le_refl, if_true]
/-! clapref3.Exchanged -/
def insf (h : Nat → Nat) (i k : Nat) : Nat → Nat := fun q => if q < i then h q else if q = i then k else h (q - 1)
theorem arr_ins (R : Nat → Row) (h : Nat → Nat) (i k : Nat) (hi : i ≤ k) : arr R (insf h i k) (k + 1) = (arr R h k).take i ++ [R k] ++ (arr R h k).drop i := by
  apply List.ext_getElem
  · simp [arr]; omega
  · intro q h1 h2
    have hq : q < k + 1 := by simpa [arr] using h1
    simp only [arr, List.getElem_map, List.getElem_range, insf, List.getElem_append, List.length_append, List.length_take, List.length_map, List.length_range, List.length_singleton, List.getElem_take, List.getElem_drop, List.getElem_singleton]
    by_cases c1 : q < i
    · rw [if_pos c1, dif_pos (by omega), dif_pos (by omega)]
    · rw [if_neg c1]
      by_cases c2 : q = i
      · rw [if_pos c2, dif_pos (by omega), dif_neg (by omega)]
      · rw [if_neg c2, dif_neg (by omega)]
        congr 2; omega
theorem ex_l1 (out c : C) (l : List P) (h : Nat → Nat) (k : Nat) (z : Int) (w : Int) (hk : k ≤ big) (ho : out.rows = arr (rw_ l) h k) (K0 N0 : Int) : ∀ (i : Nat), i ≤ k → (i = k ∨ w < ky l (h i)) →
    ∃ i' : Nat, clapref3_Exchanged_l1 (lim T) out (i : Int) c K0 N0 [.int w, .int z] = some (0, [.r [out], .r [.int (i' : Int)], .r [c], .r [.int K0], .r [.int N0], .r [.int w, .int z]]) ∧ i' ≤ k ∧ (i' = k ∨ w < ky l (h i')) ∧ (i' = 0 ∨ ¬ w < ky l (h (i' - 1)))
  | 0, h1, h2 => by
    rw [clapref3_Exchanged_l1_eq]; unfold clapref3_Exchanged_b1
    exact ⟨0, by simp, h1, h2, .inl rfl⟩
  | i + 1, h1, h2 => by
    rw [clapref3_Exchanged_l1_eq]; unfold clapref3_Exchanged_b1
    have c1 : ((i + 1 : Nat) : Int) > 0 := by omega
    have w1 := wr_pred (i := i) (by omega)
    have p1 : (0 : Int) ≤ (i : Int) := by omega
    have p2 : (i : Int) < (k : Int) := by omega
    have hr : rowsAt out.rows i = rw_ l (h i) := by rw [ho]; exact arr_at _ _ _ _ (by omega)
    have hl : out.rows.length = k := by rw [ho, arr_len]
    have e : (at_ (rw_ l (h i)) 1).toI = ky l (h i) := rfl
    by_cases hlt : w < ky l (h i)
    · obtain ⟨i', e1, e2⟩ := ex_l1 out c l h k z w hk ho K0 N0 i (by omega) (.inr hlt)
      refine ⟨i', ?_, e2⟩
      have hlt' : ky l (h i) > w := hlt
      simp only [c1, decide_true, if_true, w1, hl, p1, p2, and_self, Int.toNat_natCast, hr, e, at_zero, toI_int, decide_eq_true_eq, hlt']
      exact e1
    · have hlt' : ¬ ky l (h i) > w := hlt
      refine ⟨i + 1, ?_, h1, h2, .inr hlt⟩
      simp only [c1, decide_true, if_true, w1, hl, p1, p2, and_self, Int.toNat_natCast, hr, e, at_zero, toI_int, decide_eq_true_eq, hlt', if_false]
theorem slc_rows (c : C) (a b : Nat) : (slcC c (a : Int) (b : Int)).rows = (c.rows.take b).drop a := by
  cases c <;> simp [slcC]
theorem spl_spec (c : C) (i : Nat) (x : Row) (hi : i ≤ c.rows.length) (hN : c.rows.length ≤ big) : ∃ d : C, (lim T).pc n_clapref3_spliced_clapref3_Two [[c], [.int (i : Int)], [.int 0], [.sl [x]]] = some [[d]] ∧ d.rows = c.rows.take i ++ [x] ++ c.rows.drop i := by
  rw [clapref3_spliced_clapref3_Two_pc]; unfold clapref3_spliced_clapref3_Two
  have w : IntKind.wrap .i64 ((i : Int) + 0) = (i : Int) := by unfold big at hN; rw [wrapZ (by omega) (by omega)]; omega
  have s1 := slc_rows c 0 i
  rw [show ((0 : Nat) : Int) = 0 from rfl, List.drop_zero] at s1
  have s2 := slc_rows c i c.rows.length
  rw [List.take_length] at s2
  have g0 : (0 : Int) ≤ (i : Int) := by omega
  have g1 : (i : Int) ≤ (c.rows.length : Int) := by omega
  have l1 : (c.rows.take i).length * 16 ≤ 140737488355328 := by unfold big at hN; rw [List.length_take]; omega
  have l2 : ((c.rows.take i).length + 1) * 16 ≤ 140737488355328 := by unfold big at hN; rw [List.length_take]; omega
  have l3 : ((c.rows.take i).length + 1 + (c.rows.drop i).length) * 16 ≤ 140737488355328 := by unfold big at hN; rw [List.length_take, List.length_drop]; omega
  refine ⟨appC (appC (appC .nils (c.rows.take i)) [x]) (c.rows.drop i), ?_, ?_⟩
  · simp only [w, s1, s2, g0, g1, appC_rows, rows_nils, rows_sl, List.nil_append, List.length_append, List.length_cons, List.length_nil, Nat.zero_add, l1, l2, l3, Int.le_refl, and_self, if_true]
  · simp only [appC_rows, rows_nils, rows_sl, List.nil_append]
theorem insf_srt {l : List P} {h : Nat → Nat} {k i : Nat} (hi : i ≤ k) (hk : ∀ x, x < k → h x < k) (hs : Srt (ky l) h 0 k) (h1 : i = k ∨ ky l k < ky l (h i)) (h2 : i = 0 ∨ ¬ ky l k < ky l (h (i - 1))) : Srt (ky l) (insf h i k) 0 (k + 1) := by
  have lo : ∀ q, q < i → L (ky l) (h q) k := fun q hq => by
    rcases h2 with h2 | h2
    · omega
    · have e := L.of_nlt h2 (hk (i - 1) (by omega))
      by_cases c : q = i - 1
      · rw [c]; exact e
      · exact (hs q (i - 1) (Nat.zero_le _) (by omega) (by omega)).trans e
  have hi' : ∀ q, i ≤ q → q < k → L (ky l) k (h q) := fun q hq hq2 => by
    rcases h1 with h1 | h1
    · omega
    · have e : L (ky l) k (h i) := .inl h1
      by_cases c : q = i
      · rw [c]; exact e
      · exact e.trans (hs i q (Nat.zero_le _) (by omega) hq2)
  intro x y _ hxy hy
  simp only [insf]
  by_cases c1 : x < i
  · rw [if_pos c1]
    by_cases c2 : y < i
    · rw [if_pos c2]; exact hs x y (Nat.zero_le _) hxy (by omega)
    · rw [if_neg c2]
      by_cases c3 : y = i
      · rw [if_pos c3]; exact lo x c1
      · rw [if_neg c3]; exact hs x (y - 1) (Nat.zero_le _) (by omega) (by omega)
  · rw [if_neg c1, if_neg (show ¬ y < i by omega), if_neg (show ¬ y = i by omega)]
    by_cases c3 : x = i
    · rw [if_pos c3]; exact hi' _ (by omega) (by omega)
    · rw [if_neg c3]; exact hs _ _ (Nat.zero_le _) (by omega) (by omega)
theorem ex_l0 (c : C) (l : List P) (hc : c.rows = l.map pr) (hN : l.length ≤ big) : ∀ (j k : Nat), k + j = l.length → ∀ (out : C) (h : Nat → Nat), out.rows = arr (rw_ l) h k → Srt (ky l) h 0 k → (∀ x, x < k → h x < k) → (∀ y, y < k → ∃ x, x < k ∧ h x = y) →
    ∃ (d : C) (h' : Nat → Nat), clapref3_Exchanged_l0 (lim T) out c (l.length : Int) (k : Int) = some (0, [.r [d]]) ∧ d.rows = arr (rw_ l) h' l.length ∧ Srt (ky l) h' 0 l.length ∧ (∀ x, x < l.length → h' x < l.length) ∧ (∀ y, y < l.length → ∃ x, x < l.length ∧ h' x = y)
  | 0, k, e, out, h, ho, s1, s2, s3 => by
    rw [clapref3_Exchanged_l0_eq]; unfold clapref3_Exchanged_b0
    obtain rfl : k = l.length := by omega
    exact ⟨out, h, by simp, ho, s1, s2, s3⟩
  | j + 1, k, e, out, h, ho, s1, s2, s3 => by
    rw [clapref3_Exchanged_l0_eq]; unfold clapref3_Exchanged_b0
    have hi : k < l.length := by omega
    have h1 : (k : Int) < (l.length : Int) := by omega
    have h0 : (0 : Int) ≤ (k : Int) := by omega
    have hl : c.rows.length = l.length := by rw [hc, List.length_map]
    have hr := pr_at hc k hi
    have hol : out.rows.length = k := by rw [ho, arr_len]
    have kk : ky l k = l[k].1 := by simp [ky, hi]
    have rk : rw_ l k = [.int l[k].2, .int l[k].1] := by simp [rw_, hi]
    obtain ⟨i, e1, e2, e3, e4⟩ := ex_l1 out c l h k l[k].2 l[k].1 (by omega) ho (l.length : Int) (k : Int) k (Nat.le_refl _) (.inl rfl)
    obtain ⟨d, d1, d2⟩ := spl_spec out i [.int l[k].2, .int l[k].1] (by omega) (by omega)
    obtain ⟨d', h', f1, f2⟩ := ex_l0 c l hc hN j (k + 1) (by omega) d (insf h i k)
      (by rw [d2, arr_ins _ _ _ _ e2, rk, ho])
      (insf_srt e2 s2 s1 (by rw [kk]; exact e3) (by rw [kk]; exact e4))
      (fun x hx => by
        simp only [insf]
        by_cases c1 : x < i
        · rw [if_pos c1]; have := s2 x (by omega); omega
        · rw [if_neg c1]
          by_cases c2 : x = i
          · rw [if_pos c2]; omega
          · rw [if_neg c2]; have := s2 (x - 1) (by omega); omega)
      (fun y hy => by
        by_cases c0 : y = k
        · exact ⟨i, by omega, by simp only [insf]; rw [if_neg (by omega), if_pos trivial, c0]⟩
        · obtain ⟨x, x1, x2⟩ := s3 y (by omega)
          by_cases c1 : x < i
          · exact ⟨x, by omega, by simp only [insf]; rw [if_pos c1, x2]⟩
          · exact ⟨x + 1, by omega, by simp only [insf]; rw [if_neg (by omega), if_neg (by omega)]; exact x2⟩)
    refine ⟨d', h', ?_, f2⟩
    have hp : pr l[k] = [.int l[k].1, .int l[k].2] := rfl
    simp only [h1, h0, hl, decide_true, and_self, if_true, Int.toNat_natCast, hr, hp, hol, e1, Option.bind_some, gI_s, gI_z, gC_s, gC_z, gR_s, gR_z, at_1, toI_int, d1, rowsAt_zero, at_zero, wrap_nat (show k ≤ big by omega), f1]
theorem ex_spec (c : C) (l : List P) (hc : c.rows = l.map pr) (hN : l.length ≤ big) : ∃ (d : C) (h : Nat → Nat), (lim T).pc n_clapref3_Exchanged [[c]] = some [[d]] ∧ d.rows = arr (rw_ l) h l.length ∧ Srt (ky l) h 0 l.length ∧ (∀ x, x < l.length → h x < l.length) ∧ (∀ y, y < l.length → ∃ x, x < l.length ∧ h x = y) := by
  rw [clapref3_Exchanged_pc]; unfold clapref3_Exchanged
  have hl : c.rows.length = l.length := by rw [hc, List.length_map]
  obtain ⟨d, h, e1, e2⟩ := ex_l0 c l hc hN _ 0 (Nat.zero_add _) .nils id rfl (fun x y _ h1 h2 => by omega) (fun x hx => by omega) (fun y hy => by omega)
  rw [show ((0 : Nat) : Int) = 0 from rfl] at e1
  exact ⟨d, h, by rw [hl, e1]; simp, e2⟩
/-- Both sides bring the same. -/
theorem inv_ex (c c' : C) (l : List P) (hc : c.rows = l.map pr) (hc' : c'.rows = l.map pr) (hN : l.length ≤ big) : ∃ d d' : C, (lim T).pc n_align_Invert [[c]] = some [[d]] ∧ (lim T).pc n_clapref3_Exchanged [[c']] = some [[d']] ∧ d.rows = d'.rows ∧ Two d' ∧ d'.rows.length ≤ big := by
  obtain ⟨d, g, a1, a2, a3, a4⟩ := inv_spec c l hc hN
  obtain ⟨d', h, b1, b2, b3, b4, b5⟩ := ex_spec c' l hc' hN
  have e := srt_unique a4 b3 (fun x hx => by obtain ⟨j, j1, j2, j3⟩ := a3.fwd x (Nat.zero_le _) hx; rw [j3]; exact j2)
    (fun y hy => by obtain ⟨i, i1, i2, i3⟩ := a3.bwd y (Nat.zero_le _) hy; exact ⟨i, i2, i3⟩) b4 b5
  refine ⟨d, d', a1, b1, ?_, fun r hr => ?_, by rw [b2, arr_len]; exact hN⟩
  · rw [a2, b2]; unfold arr
    exact List.map_congr_left fun q hq => by rw [e q (List.mem_range.1 hq)]
  · rw [b2] at hr
    obtain ⟨q, _, rfl⟩ := List.mem_map.1 hr
    exact ⟨_, _, rfl⟩
end Go.Ev.Zzi
namespace Go.Ev.Zzi
theorem ceqI (i j : Row) : ceq [.int .i64] i j = ((at_ i 0).toI == (at_ j 0).toI) := by simp [ceq]
theorem find_set (i j : Int) (v : Row) : ∀ (es : List (Row × Row)), findE lI [.int i] (setE lI [.int j] v es) = if i = j then some v else findE lI [.int i] es
  | [] => by
    simp only [setE, findE, L.ks, ceqI, at_zero, toI_int]
    by_cases h : i = j <;> simp [h]
  | (k, u) :: r => by
    have ih := find_set i j v r
    simp only [setE, findE, L.ks, ceqI, at_zero, toI_int]
    by_cases h : j = (at_ k 0).toI
    · simp only [h, beq_self_eq_true, if_true, findE, L.ks, ceqI, at_zero, toI_int]
      by_cases h2 : i = (at_ k 0).toI <;> simp [h2]
    · simp only [h, beq_iff_eq, if_false, findE, L.ks, ceqI, at_zero, toI_int, ih]
      by_cases h2 : i = (at_ k 0).toI
      · have : ¬ i = j := fun e => h (e.symm.trans h2)
        simp only [h2, if_true]
        rw [if_neg (fun e => h e.symm)]
      · simp only [h2, if_false]

/-! align.Check and clapref3.Aligned -/
def al (n m : Int) : List P → List Int → List Int → Int
  | [], _, _ => 0
  | p :: l, A, B => if p.1 < 0 ∨ p.1 ≥ n ∨ p.2 < 0 ∨ p.2 ≥ m then 11 else if p.1 ∈ A ∨ p.2 ∈ B then 5 else al n m l (p.1 :: A) (p.2 :: B)
def uArr (n : Nat) (A : List Int) : List Row := (List.range n).map fun q : Nat => [.bool (decide ((q : Int) ∈ A))]
theorem uArr_len (n : Nat) (A : List Int) : (uArr n A).length = n := by simp [uArr]
theorem uArr_at (n : Nat) (A : List Int) (q : Nat) (h : q < n) : rowsAt (uArr n A) q = [.bool (decide ((q : Int) ∈ A))] := by
  unfold uArr; rw [rowsAt_map _ _ _ (by simpa using h)]; simp
theorem uArr_set (n : Nat) (A A' : List Int) (a : Nat) (h : ∀ q : Int, q ∈ A' ↔ q = a ∨ q ∈ A) : (uArr n A).set a [.bool true] = uArr n A' := by
  apply List.ext_getElem
  · simp [uArr]
  · intro q h1 h2
    rw [List.getElem_set]
    simp only [uArr, List.getElem_map, List.getElem_range]
    by_cases e : a = q
    · subst e; rw [if_pos rfl, decide_eq_true ((h _).2 (.inl rfl))]
    · rw [if_neg e]
      have : ((q : Int) ∈ A') = ((q : Int) ∈ A) := by
        rw [h]; exact propext ⟨fun k => k.resolve_left (by omega), .inr⟩
      simp only [this]
theorem uArr_nil (n : Nat) : List.replicate n ([.bool false] : Row) = uArr n [] := by
  apply List.ext_getElem
  · simp [uArr]
  · intro q h1 h2; simp [uArr]
theorem chk_l (c : C) (l : List P) (hc : c.rows = l.map pr) (hN : l.length ≤ big) (n m : Nat) : ∀ (j i : Nat), i + j = l.length → ∀ A B : List Int,
    align_Check_l0 (lim T) (n : Int) (m : Int) c (l.length : Int) (i : Int) (.sl (uArr n A)) (.sl (uArr m B)) = if al n m (l.drop i) A B = 0 then some (0, []) else some (1, [.r [.int (al n m (l.drop i) A B)]])
  | 0, i, h, A, B => by
    rw [align_Check_l0_eq]; unfold align_Check_b0
    obtain rfl : i = l.length := by omega
    simp [al]
  | j + 1, i, h, A, B => by
    rw [align_Check_l0_eq]; unfold align_Check_b0
    have hi : i < l.length := by omega
    have h1 : (i : Int) < (l.length : Int) := by omega
    have h0 : (0 : Int) ≤ (i : Int) := by omega
    have hl : c.rows.length = l.length := by rw [hc, List.length_map]
    have hr := pr_at hc i hi
    rw [List.drop_eq_getElem_cons hi]
    generalize hp : l[i] = p at hr
    obtain ⟨x, y⟩ := p
    have hp0 : at_ (pr (x, y)) 0 = .int x := rfl
    have hp1 : at_ (pr (x, y)) 1 = .int y := rfl
    have hpr : pr (x, y) = [.int x, .int y] := rfl
    simp only [h1, h0, hl, decide_true, and_self, if_true, Int.toNat_natCast, hr, hp0, hp1, toI_int]
    have e11 : (x < 0 ∨ x ≥ (n : Int) ∨ y < 0 ∨ y ≥ (m : Int)) → al n m ((x, y) :: l.drop (i + 1)) A B = 11 := fun k => by rw [al, if_pos k]
    by_cases c1 : x < 0
    · rw [e11 (.inl c1)]; simp [c1]
    by_cases c2 : x ≥ (n : Int)
    · rw [e11 (.inr (.inl c2))]; simp [c1, c2]
    by_cases c3 : y < 0
    · rw [e11 (.inr (.inr (.inl c3)))]; simp [c1, c2, c3]
    by_cases c4 : y ≥ (m : Int)
    · rw [e11 (.inr (.inr (.inr c4)))]; simp [c1, c2, c3, c4]
    have nb : ¬ (x < 0 ∨ x ≥ (n : Int) ∨ y < 0 ∨ y ≥ (m : Int)) := by omega
    obtain ⟨x', rfl⟩ : ∃ x' : Nat, x = (x' : Int) := ⟨x.toNat, by omega⟩
    obtain ⟨y', rfl⟩ : ∃ y' : Nat, y = (y' : Int) := ⟨y.toNat, by omega⟩
    have x0 : (0 : Int) ≤ (x' : Int) := by omega
    have x1 : (x' : Int) < (n : Int) := by omega
    have x2 : x' < n := by omega
    have y0 : (0 : Int) ≤ (y' : Int) := by omega
    have y1 : (y' : Int) < (m : Int) := by omega
    have y2 : y' < m := by omega
    have ux := uArr_at n A x' x2
    have uy := uArr_at m B y' y2
    have e5 : ((x' : Int) ∈ A ∨ (y' : Int) ∈ B) → al n m ((((x' : Int), (y' : Int)) : P) :: l.drop (i + 1)) A B = 5 := fun k => by rw [al, if_neg nb, if_pos k]
    simp only [c1, c2, c3, c4, decide_false, Bool.false_eq_true, if_false, Option.bind_some, gB_s, gB_z, gI_s, gI_z, gC_s, gC_z, gR_s, gR_z, hpr, rows_sl, uArr_len, x0, x1, x2, y0, y1, y2, and_self, if_true, Int.toNat_natCast, ux, uy, at_zero, at_1, toB_bool, toI_int, decide_eq_true_eq]
    by_cases d1 : (x' : Int) ∈ A
    · rw [e5 (.inl d1)]; simp [d1]
    by_cases d2 : (y' : Int) ∈ B
    · rw [e5 (.inr d2)]; simp [d1, d2]
    have ih := chk_l c l hc hN n m j (i + 1) (by omega) ((x' : Int) :: A) ((y' : Int) :: B)
    have hal : al n m ((((x' : Int), (y' : Int)) : P) :: l.drop (i + 1)) A B = al n m (l.drop (i + 1)) ((x' : Int) :: A) ((y' : Int) :: B) := by rw [al, if_neg nb, if_neg (by simp [d1, d2])]
    rw [hal, ← ih]
    have s1 := uArr_set n A ((x' : Int) :: A) x' (fun q => by simp)
    have s2 := uArr_set m B ((y' : Int) :: B) y' (fun q => by simp)
    simp only [d1, d2, if_false, decide_false, Bool.false_eq_true, Option.bind_some, gB_s, gB_z, gI_s, gI_z, gC_s, gC_z, gR_s, gR_z, rows_sl, uArr_len, x0, x1, x2, y0, y1, y2, and_self, if_true, Int.toNat_natCast, at_zero, at_1, toI_int, s1, s2, wrap_nat (show i ≤ big by omega)]
def chkV (l : List P) (n m : Int) : Int := if n < 0 ∨ m < 0 ∨ n > 200 ∨ m > 200 then 1 else al n m l [] []
theorem chkV_1 (l : List P) {n m : Int} (h : n < 0 ∨ m < 0 ∨ n > 200 ∨ m > 200) : chkV l n m = 1 := if_pos h
theorem chkV_2 (l : List P) {n m : Int} (h : ¬ (n < 0 ∨ m < 0 ∨ n > 200 ∨ m > 200)) : chkV l n m = al n m l [] [] := if_neg h
theorem check_spec (c : C) (l : List P) (hc : c.rows = l.map pr) (hN : l.length ≤ big) (n m : Int) : (lim T).pc n_align_Check [[c], [.int n], [.int m]] = some [[.int (chkV l n m)]] := by
  rw [align_Check_pc]; unfold align_Check
  by_cases c1 : n < 0
  · rw [chkV_1 l (.inl c1)]; simp [c1]
  by_cases c2 : m < 0
  · rw [chkV_1 l (.inr (.inl c2))]; simp [c1, c2]
  by_cases c3 : n > 200
  · rw [chkV_1 l (.inr (.inr (.inl c3)))]; simp [c1, c2, c3]
  by_cases c4 : m > 200
  · rw [chkV_1 l (.inr (.inr (.inr c4)))]; simp [c1, c2, c3, c4]
  rw [chkV_2 l (by omega)]
  obtain ⟨n', rfl⟩ : ∃ n' : Nat, n = (n' : Int) := ⟨n.toNat, by omega⟩
  obtain ⟨m', rfl⟩ : ∃ m' : Nat, m = (m' : Int) := ⟨m.toNat, by omega⟩
  have hl : c.rows.length = l.length := by rw [hc, List.length_map]
  have e := chk_l c l hc hN n' m' _ 0 (Nat.zero_add _) [] []
  rw [show ((0 : Nat) : Int) = 0 from rfl, List.drop_zero] at e
  have b1 : (0 : Int) ≤ (n' : Int) ∧ (n' : Int) ≤ (n' : Int) ∧ (n' : Int) * 1 ≤ 140737488355328 ∧ (n' : Int) ≤ 1099511627776 := by omega
  have b2 : (0 : Int) ≤ (m' : Int) ∧ (m' : Int) ≤ (m' : Int) ∧ (m' : Int) * 1 ≤ 140737488355328 ∧ (m' : Int) ≤ 1099511627776 := by omega
  simp only [c1, c2, c3, c4, decide_false, Bool.false_eq_true, if_false, Option.bind_some, gB_s, gB_z, gI_s, gI_z, gC_s, gC_z, b1, b2, if_true, Int.toNat_natCast, uArr_nil, hl, e, and_self]
  by_cases h : al n' m' l [] [] = 0
  · rw [if_pos h, h]; rfl
  · rw [if_neg h]; rfl
theorem ald_l (c : C) (l : List P) (hc : c.rows = l.map pr) (hN : l.length ≤ big) (n m : Nat) : ∀ (j i : Nat), i + j = l.length → ∀ (A B : List Int) (es fs : List (Row × Row)),
    (∀ q : Int, (at_ ((findE lI [.int q] es).getD [.bool false]) 0).toB = decide (q ∈ A)) → (∀ q : Int, (at_ ((findE lI [.int q] fs).getD [.bool false]) 0).toB = decide (q ∈ B)) →
    clapref3_Aligned_l0 (lim T) (n : Int) (m : Int) c (l.length : Int) (i : Int) es fs = if al n m (l.drop i) A B = 0 then some (0, []) else some (1, [.r [.int (al n m (l.drop i) A B)]])
  | 0, i, h, A, B, es, fs, he, hf => by
    rw [clapref3_Aligned_l0_eq]; unfold clapref3_Aligned_b0
    obtain rfl : i = l.length := by omega
    simp [al]
  | j + 1, i, h, A, B, es, fs, he, hf => by
    rw [clapref3_Aligned_l0_eq]; unfold clapref3_Aligned_b0
    have hi : i < l.length := by omega
    have h1 : (i : Int) < (l.length : Int) := by omega
    have h0 : (0 : Int) ≤ (i : Int) := by omega
    have hl : c.rows.length = l.length := by rw [hc, List.length_map]
    have hr := pr_at hc i hi
    rw [List.drop_eq_getElem_cons hi]
    generalize hp : l[i] = p at hr
    obtain ⟨x, y⟩ := p
    have hp0 : at_ (pr (x, y)) 0 = .int x := rfl
    have hp1 : at_ (pr (x, y)) 1 = .int y := rfl
    have hpr : pr (x, y) = [.int x, .int y] := rfl
    simp only [h1, h0, hl, decide_true, and_self, if_true, Int.toNat_natCast, hr, hp0, hp1, toI_int]
    have e11 : (x < 0 ∨ x ≥ (n : Int) ∨ y < 0 ∨ y ≥ (m : Int)) → al n m ((x, y) :: l.drop (i + 1)) A B = 11 := fun k => by rw [al, if_pos k]
    by_cases c1 : x < 0
    · rw [e11 (.inl c1)]; simp [c1]
    by_cases c2 : x ≥ (n : Int)
    · rw [e11 (.inr (.inl c2))]; simp [c1, c2]
    by_cases c3 : y < 0
    · rw [e11 (.inr (.inr (.inl c3)))]; simp [c1, c2, c3]
    by_cases c4 : y ≥ (m : Int)
    · rw [e11 (.inr (.inr (.inr c4)))]; simp [c1, c2, c3, c4]
    have nb : ¬ (x < 0 ∨ x ≥ (n : Int) ∨ y < 0 ∨ y ≥ (m : Int)) := by omega
    have e5 : (x ∈ A ∨ y ∈ B) → al n m ((x, y) :: l.drop (i + 1)) A B = 5 := fun k => by rw [al, if_neg nb, if_pos k]
    simp only [c1, c2, c3, c4, decide_false, Bool.false_eq_true, if_false, Option.bind_some, gB_s, gB_z, gI_s, gI_z, gC_s, gC_z, gR_s, gR_z, gM_s, gM_z, hpr, at_zero, at_1, toB_bool, toI_int, he, hf, decide_eq_true_eq]
    by_cases d1 : x ∈ A
    · rw [e5 (.inl d1)]; simp [d1]
    by_cases d2 : y ∈ B
    · rw [e5 (.inr d2)]; simp [d1, d2]
    have ih := ald_l c l hc hN n m j (i + 1) (by omega) (x :: A) (y :: B) (setE lI [.int x] [.bool true] es) (setE lI [.int y] [.bool true] fs)
      (fun q => by rw [find_set]; by_cases e : q = x <;> simp [e, he])
      (fun q => by rw [find_set]; by_cases e : q = y <;> simp [e, hf])
    have hal : al n m ((x, y) :: l.drop (i + 1)) A B = al n m (l.drop (i + 1)) (x :: A) (y :: B) := by rw [al, if_neg nb, if_neg (by simp [d1, d2])]
    rw [hal, ← ih]
    simp only [d1, d2, if_false, decide_false, Bool.false_eq_true, Option.bind_some, gB_s, gB_z, gI_s, gI_z, gC_s, gC_z, gR_s, gR_z, gM_s, gM_z, at_zero, at_1, toI_int, wrap_nat (show i ≤ big by omega)]
theorem aligned_spec (c : C) (l : List P) (hc : c.rows = l.map pr) (hN : l.length ≤ big) (n m : Int) : (lim T).pc n_clapref3_Aligned [[c], [.int n], [.int m]] = some [[.int (chkV l n m)]] := by
  rw [clapref3_Aligned_pc]; unfold clapref3_Aligned
  by_cases c1 : n < 0
  · rw [chkV_1 l (.inl c1)]; simp [c1]
  by_cases c2 : m < 0
  · rw [chkV_1 l (.inr (.inl c2))]; simp [c1, c2]
  by_cases c3 : n > 200
  · rw [chkV_1 l (.inr (.inr (.inl c3)))]; simp [c1, c2, c3]
  by_cases c4 : m > 200
  · rw [chkV_1 l (.inr (.inr (.inr c4)))]; simp [c1, c2, c3, c4]
  rw [chkV_2 l (by omega)]
  obtain ⟨n', rfl⟩ : ∃ n' : Nat, n = (n' : Int) := ⟨n.toNat, by omega⟩
  obtain ⟨m', rfl⟩ : ∃ m' : Nat, m = (m' : Int) := ⟨m.toNat, by omega⟩
  have hl : c.rows.length = l.length := by rw [hc, List.length_map]
  have e := ald_l c l hc hN n' m' _ 0 (Nat.zero_add _) [] [] [] [] (fun q => by simp [findE]) (fun q => by simp [findE])
  rw [show ((0 : Nat) : Int) = 0 from rfl, List.drop_zero] at e
  simp only [c1, c2, c3, c4, decide_false, Bool.false_eq_true, if_false, Option.bind_some, gB_s, gB_z, gI_s, gI_z, gC_s, gC_z, hl, e]
  by_cases h : al n' m' l [] [] = 0
  · rw [if_pos h, h]; rfl
  · rw [if_neg h]; rfl
end Go.Ev.Zzi
