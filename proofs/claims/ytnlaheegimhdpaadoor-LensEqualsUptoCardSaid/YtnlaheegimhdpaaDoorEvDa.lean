/-
  Readings of plain data: what fits a type; bulk.
-/
import Derived.Test.YtnlaheegimhdpaaDoorEvZb
set_option linter.all false
namespace Go.Ev
variable {H : Type} {enc : TypeId × Value → H} {P : Program} {w : World}

/-- A reading fits a type. -/
def fitD (P : Program) : Nat → TypeId → DataW H → Prop
  | 0, _, _ => False
  | n + 1, t, d => match P.underlying t, d with
    | some .bool, .lit (.bool _) => True
    | some (.int k), .lit (.int k' m) => k' = k ∧ (Lit.int k m).wf = true
    | some .string, .lit (.string s) => True
    | some (.slice _), .nil => True
    | some (.slice e), .slice es _ => ∀ x ∈ es, fitD P n e x
    | some (.struct fs), .agg ds => ds.length = fs.toList.length ∧ ∀ (i : Nat) (f : Field) (d : DataW H), fs.toList[i]? = some f → ds[i]? = some d → fitD P n f.type d
    | some (.array m e), .agg ds => ds.length = m ∧ ∀ d ∈ ds, fitD P n e d
    | _, _ => False

theorem trod_fit {base : Nat} {sp : Nat → Bool} {held : Bool} {ts : List TypeId} (hp : plainT P ts = true) :
    ∀ (fuel : Nat) (t : TypeId) (cs : List Value) (x : DataW H × List MemPlace), t ∈ ts → DataW.trod enc P w base sp held fuel t cs = some x → fitD P fuel t x.1 := by
  intro fuel
  induction fuel with
  | zero => intro t cs x _ h; simp [DataW.trod] at h
  | succ fuel ih =>
    intro t cs x ht h
    have hpt := List.all_eq_true.1 hp t ht
    simp only [Bool.and_eq_true] at hpt
    have hpt := hpt.2
    unfold DataW.trod at h
    simp only [fitD]
    cases hu : P.underlying t with
    | none => simp [hu] at hpt
    | some d =>
      cases d <;> simp only [hu] at hpt h <;> try (simp at hpt; done)
      case bool =>
        split at h <;> simp_all
        obtain ⟨rfl⟩ := h
        trivial
      case int k =>
        split at h <;> simp_all
        obtain ⟨⟨rfl, hw⟩, rfl⟩ := h
        exact ⟨rfl, hw⟩
      case string =>
        split at h <;> simp_all
        obtain ⟨_, rfl⟩ := h
        trivial
      case slice e =>
        simp only [Bool.and_eq_true, List.contains_iff_mem] at hpt
        split at h
        case h_7 =>
          simp only [Option.some.injEq] at h
          subst h
          trivial
        case h_8 =>
          rename_i e' a len cap heq
          cases heq
          split at h
          · simp only [Option.map_eq_some_iff, Option.bind_eq_some_iff] at h
            obtain ⟨elems, he, rest, _, rfl⟩ := h
            simp only [List.mem_map]
            rintro y ⟨z, hz, rfl⟩
            obtain ⟨i, hi, hz'⟩ := List.mem_iff_getElem.1 hz
            have hlen : elems.length = len := by simpa using mapM_some_length he
            have := mapM_some_get he i i (by simp [show i < len by omega])
            rw [List.getElem?_eq_getElem hi, hz', Option.bind_eq_some_iff] at this
            obtain ⟨cs', _, h2⟩ := this
            exact ih _ _ _ hpt.1 h2
          · simp at h
        all_goals first | (rename_i heq _; cases heq; done) | (rename_i heq; cases heq; done) | (simp at h; done)
      case struct fs =>
        have h' : (if cs.length = P.cellsOf t then (fs.toList.mapM fun f => DataW.trod enc P w base sp held fuel f.type ((cs.drop f.offset).take (P.cellsOf f.type))).map fun xs => (DataW.agg (xs.map (·.1)), xs.flatMap (·.2)) else none) = some x := by
          rw [← h]
        split at h'
        · simp only [Option.map_eq_some_iff] at h'
          obtain ⟨xs, hm, rfl⟩ := h'
          refine ⟨by simpa using mapM_some_length hm, fun i f d hf hd => ?_⟩
          have h1 := mapM_some_get hm i f hf
          simp only [List.getElem?_map, Option.map_eq_some_iff] at hd
          obtain ⟨y, hy, rfl⟩ := hd
          rw [hy] at h1
          exact ih _ _ _ (by
            have := List.all_eq_true.1 hpt f (List.mem_of_getElem? hf)
            simpa using this) h1
        · simp at h'
      case array m e =>
        have h' : (if cs.length = P.cellsOf t then ((List.range m).mapM fun i => DataW.trod enc P w base sp held fuel e ((cs.drop (i * P.cellsOf e)).take (P.cellsOf e))).map fun xs => (DataW.agg (xs.map (·.1)), xs.flatMap (·.2)) else none) = some x := by
          rw [← h]
        split at h'
        · simp only [Option.map_eq_some_iff] at h'
          obtain ⟨xs, hm, rfl⟩ := h'
          have hlen : xs.length = m := by simpa using mapM_some_length hm
          refine ⟨by simpa using hlen, fun d hd => ?_⟩
          simp only [List.mem_map] at hd
          obtain ⟨z, hz, rfl⟩ := hd
          obtain ⟨i, hi, hz'⟩ := List.mem_iff_getElem.1 hz
          have := mapM_some_get hm i i (by simp [show i < m by omega])
          rw [List.getElem?_eq_getElem hi, hz'] at this
          exact ih _ _ _ (by simpa using hpt) this
        · simp at h'

theorem trodAll_fit {base : Nat} {sp : Nat → Bool} {held : Bool} {ts : List TypeId} (hp : plainT P ts = true) :
    ∀ {us : List TypeId} {vs : List Value} {ds : List (DataW H)} {p : List MemPlace}, (∀ t ∈ us, t ∈ ts) → DataW.TrodAll enc P w base sp held us vs ds p →
      ds.length = us.length ∧ ∀ (i : Nat) t d, us[i]? = some t → ds[i]? = some d → ∃ n, fitD P n t d
  | [], [], [], p, _, _ => ⟨rfl, fun i t d h => by simp at h⟩
  | t :: us, v :: vs, d :: ds, p, ht, ⟨p1, q1, ⟨n, h1⟩, h2, _⟩ => by
    obtain ⟨a, b⟩ := trodAll_fit hp (fun t' h => ht t' (by simp [h])) h2
    refine ⟨by simp [a], fun i t' d' e1 e2 => ?_⟩
    cases i with
    | zero =>
      simp at e1 e2
      subst e1; subst e2
      exact ⟨n, trod_fit hp n _ _ _ (ht t (by simp)) h1⟩
    | succ i => exact b i t' d' (by simpa using e1) (by simpa using e2)
  | [], _ :: _, _, _, _, h => by simp [DataW.TrodAll] at h
  | [], [], _ :: _, _, _, h => by simp [DataW.TrodAll] at h
  | _ :: _, [], _, _, _, h => by simp [DataW.TrodAll] at h
  | _ :: _, _ :: _, [], _, _, h => by simp [DataW.TrodAll] at h

mutual
/-- The bulk of a reading of plain data, without what is spare. -/
def bulkD : DataW H → Nat
  | .lit (.string bytes) => bytes.length + 1
  | .slice elems _ => bulksD elems + 1
  | .agg parts => bulksD parts + 1
  | _ => 1
def bulksD : List (DataW H) → Nat
  | [] => 0
  | d :: r => bulkD d + bulksD r
end
theorem bulksD_mem : ∀ {l : List (DataW H)} {d : DataW H}, d ∈ l → bulkD d ≤ bulksD l
  | x :: r, d, h => by
    simp only [bulksD]
    rcases List.mem_cons.1 h with rfl | h
    · omega
    · have := bulksD_mem h; omega
theorem bulkD_pos : ∀ (d : DataW H), 1 ≤ bulkD d
  | .lit (.string _) => by simp only [bulkD]; omega
  | .lit (.bool _) => by simp only [bulkD]; omega
  | .lit (.int _ _) => by simp only [bulkD]; omega
  | .lit (.float _ _) => by simp only [bulkD]; omega
  | .lit _ => by unfold bulkD; split <;> omega
  | .slice _ _ => by simp only [bulkD]; omega
  | .agg _ => by simp only [bulkD]; omega
  | .nil => by simp only [bulkD]; omega
  | .ptr _ => by simp only [bulkD]; omega
  | .iface _ _ => by simp only [bulkD]; omega
  | .map _ => by simp only [bulkD]; omega
  | .held _ => by simp only [bulkD]; omega
theorem bulksD_len : ∀ (l : List (DataW H)), l.length ≤ bulksD l
  | [] => by simp [bulksD]
  | d :: r => by have := bulksD_len r; have := bulkD_pos d; simp only [bulksD, List.length_cons]; omega
end Go.Ev
