/-
  Which of the model's operations an operation of the abstract machine stands for; that it does what that one does.
-/
import Derived.Test.YtnlaheegimhdpaaDoorEvMb
set_option linter.all false
namespace Go.Ev
variable {E : Env} {P : Program} {T : Nat → AFn} {S S' : Stab} {pl pl' : Pl} {St St' : Ev.St} {F : Fr} {a : Act} {w w' : World}

def BinOp.tag : BinOp → Nat
  | .add => 0 | .sub => 1 | .mul => 2 | .quo => 3 | .rem => 4 | .and => 5 | .or => 6 | .xor => 7 | .shl => 8 | .shr => 9 | .andNot => 10
  | .eql => 11 | .neq => 12 | .lss => 13 | .leq => 14 | .gtr => 15 | .geq => 16
def opB (a b : BinOp) : Bool := Nat.beq (BinOp.tag a) (BinOp.tag b)
theorem opB_eq {a b : BinOp} (h : opB a b = true) : a = b := by
  cases a <;> cases b <;> first | rfl | simp [opB, BinOp.tag] at h

def undB (P : Program) (t : TypeId) (d : TypeDesc → Bool) : Bool := match P.underlying t with | some x => d x | none => false
theorem undB_sound {t : TypeId} {d : TypeDesc → Bool} (h : undB P t d = true) : ∃ x, P.underlying t = some x ∧ d x = true := by
  unfold undB at h; split at h
  · exact ⟨_, by assumption, h⟩
  · simp at h
def isStr : TypeDesc → Bool | .string => true | _ => false
def isBool : TypeDesc → Bool | .bool => true | _ => false
def isU8 : TypeDesc → Bool | .int .u8 => true | _ => false
def isIntK (k : IntKind) : TypeDesc → Bool | .int k' => Nat.beq (IntKind.tag k) (IntKind.tag k') | _ => false
def isSl : TypeDesc → Bool | .slice _ => true | _ => false
theorem isStr_eq {d : TypeDesc} (h : isStr d = true) : d = .string := by cases d <;> first | rfl | simp [isStr] at h
theorem isBool_eq {d : TypeDesc} (h : isBool d = true) : d = .bool := by cases d <;> first | rfl | simp [isBool] at h
theorem isU8_eq {d : TypeDesc} (h : isU8 d = true) : d = .int .u8 := by unfold isU8 at h; split at h <;> first | rfl | simp at h
theorem isIntK_eq {k : IntKind} {d : TypeDesc} (h : isIntK k d = true) : d = .int k := by unfold isIntK at h; split at h <;> first | rw [tag_inj h] | simp at h
theorem isSl_eq {d : TypeDesc} (h : isSl d = true) : ∃ e, d = .slice e := by unfold isSl at h; split at h <;> first | exact ⟨_, rfl⟩ | simp at h
theorem undB_eq {t : TypeId} {d : TypeDesc → Bool} {x : TypeDesc} (h : undB P t d = true) (he : ∀ y, d y = true → y = x) : P.underlying t = some x := by
  obtain ⟨y, h1, h2⟩ := undB_sound h; rw [h1, he y h2]
theorem undB_some {t : TypeId} {d : TypeDesc → Bool} (h : undB P t d = true) : (P.underlying t).isSome = true := by
  obtain ⟨y, h1, h2⟩ := undB_sound h; rw [h1]; rfl

def zeroB (P : Program) (t : TypeId) (f : Value → Bool) : Bool := match P.info? t with | some i => (match i.zero with | some zv => f zv | none => false) | none => false
theorem zeroB_sound {t : TypeId} {f : Value → Bool} (h : zeroB P t f = true) : ∃ i zv, P.info? t = some i ∧ i.zero = some zv ∧ f zv = true := by
  unfold zeroB at h; split at h
  · rename_i i hi; split at h
    · rename_i zv hz; exact ⟨i, zv, hi, hz, h⟩
    · simp at h
  · simp at h
def isPtr : TypeDesc → Bool | .pointer _ => true | _ => false
theorem isPtr_eq {d : TypeDesc} (h : isPtr d = true) : ∃ e, d = .pointer e := by unfold isPtr at h; split at h <;> first | exact ⟨_, rfl⟩ | simp at h
def isNilPt : Operand → Bool | .const (.pointer none) => true | _ => false
theorem isNilPt_eq {x : Operand} (h : isNilPt x = true) : x = .const (.pointer none) := by unfold isNilPt at h; split at h <;> first | rfl | simp at h
def isNilSl : Operand → Bool | .const (.slice none 0 0) => true | _ => false
theorem isNilSl_eq {x : Operand} (h : isNilSl x = true) : x = .const (.slice none 0 0) := by unfold isNilSl at h; split at h <;> first | rfl | simp at h
def negOp (op : BinOp) (neg : Bool) : Bool := opB op (if neg then .neq else .eql)
/-- The field's place, and what lies there. -/
def fadB (P : Program) (t : TypeId) (f off n : Nat) (u : TypeId) : Bool :=
  fieldB P t f off n u && (match layOf P t, layOf P u with | some l', some l => layB P t l' && layB P u l && Nat.beq l.n n && ksBeq l.ks ((l'.ks.drop off).take l.n) | _, _ => false)
def lenOk (P : Program) (c : Call) (b : Builtin) : Bool := true
def isLen : Builtin → Bool | .len => true | _ => false
def isApp : Builtin → Bool | .append => true | _ => false
def isMM (mx : Bool) : Builtin → Bool | .max => mx | .min => !mx | _ => false
theorem isLen_eq {b : Builtin} (h : isLen b = true) : b = .len := by unfold isLen at h; split at h <;> first | rfl | simp at h
theorem isApp_eq {b : Builtin} (h : isApp b = true) : b = .append := by unfold isApp at h; split at h <;> first | rfl | simp at h
theorem isMM_eq {mx : Bool} {b : Builtin} (h : isMM mx b = true) : b = (if mx then .max else .min) := by unfold isMM at h; split at h <;> simp_all

def isFnB (f : Nat) : Operand → Bool | .func f' => Nat.beq f' f | _ => false
def calleeB (P : Program) (T : Nat → AFn) (x : Operand) (f : Nat) (ax : Option Opd) : Bool := match ax with | none => isFnB f x | some ay => opdOk P T x ay
def okOp (P : Program) (T : Nat → AFn) (op : Op) (ao : AOp) : Bool :=
  match ao with
  | .mov ax => (match op with | .move x => opdOk P T x ax | .assign x => opdOk P T x ax | _ => false)
  | .nchk ax => (match op with | .nilCheck x => opdOk P T x ax | _ => false)
  | .cvS ax => (match op with | .convert s t x => undB P s isStr && undB P t isStr && opdOk P T x ax | _ => false)
  | .nilS _ _ _ => (match op with | .move x => isNilSl x | .assign x => isNilSl x | _ => false)
  | .nilO _ _ => (match op with | .move x => isNilSl x | .assign x => isNilSl x | _ => false)
  | .pick ac ax ay => (match op with | .pick c x y => opdOk P T c ac && opdOk P T x ax && opdOk P T y ay | _ => false)
  | .ibin bo ax ay => (match op with | .binOp bo' _ x y _ => opB bo' bo && opdOk P T x ax && opdOk P T y ay | _ => false)
  | .idiv bo ax ay => (match op with | .binOp bo' _ x y _ => opB bo' bo && opdOk P T x ax && opdOk P T y ay | _ => false)
  | .shf bo ax ay => (match op with | .binOp bo' _ x y _ => opB bo' bo && opdOk P T x ax && opdOk P T y ay | _ => false)
  | .icmp bo ax ay => (match op with | .binOp bo' _ x y _ => opB bo' bo && opdOk P T x ax && opdOk P T y ay | _ => false)
  | .scat ax ay => (match op with | .binOp bo' _ x y _ => opB bo' .add && opdOk P T x ax && opdOk P T y ay | _ => false)
  | .scmp bo ax ay => (match op with | .binOp bo' _ x y _ => opB bo' bo && opdOk P T x ax && opdOk P T y ay | _ => false)
  | .bcmp neg ax ay => (match op with | .binOp bo' t x y _ => negOp bo' neg && undB P t isBool && opdOk P T x ax && opdOk P T y ay | _ => false)
  | .nileq neg ax => (match op with | .binOp bo' t x y _ => negOp bo' neg && undB P t isSl && ((isNilSl y && opdOk P T x ax) || (isNilSl x && opdOk P T y ax)) | _ => false)
  | .not ax => (match op with | .unOp .not _ x => opdOk P T x ax | _ => false)
  | .ineg ax => (match op with | .unOp .neg _ x => opdOk P T x ax | _ => false)
  | .icpl ax => (match op with | .unOp .xor _ x => opdOk P T x ax | _ => false)
  | .i2i k ax => (match op with | .convert s t x => undB P s (fun _ => true) && undB P t (isIntK k) && opdOk P T x ax | _ => false)
  | .s2b e ax => (match op with | .convert s t x => undB P s (fun _ => true) && elemB P t e (.one (.int .u8)) && undB P e isU8 && opdOk P T x ax | _ => false)
  | .b2s e ax => (match op with | .convert s t x => elemB P s e (.one (.int .u8)) && undB P e isU8 && undB P t isStr && opdOk P T x ax | _ => false)
  | .boxP l t ax => (match op with | .box t' x => Nat.beq t' t && layB P t l && opdOk P T x ax | _ => false)
  | .boxO _ _ ax => (match op with | .box _ x => opdOk P T x ax | _ => false)
  | .boxC _ ax => (match op with | .box _ x => opdOk P T x ax | _ => false)
  | .allocO _ l z => (match op with | .alloc t => zeroB P t (fun zv => constOk l zv z) | _ => false)
  | .allocC _ => (match op with | .alloc t => zeroB P t (fun zv => Nat.beq zv.cells.size 1 && zsOk [none] zv.cells.toList) | _ => false)
  | .boxA _ ax => (match op with | .box _ x => opdOk P T x ax | _ => false)
  | .allocA _ zs => (match op with | .alloc t => zeroB P t (fun zv => zsOk zs zv.cells.toList) | _ => false)
  | .ldA n ax => (match op with | .load t x => aggB P t n && opdOk P T x ax | _ => false)
  | .stA n ax ay => (match op with | .store t x y => sizeB P t n && opdOk P T x ax && opdOk P T y ay | _ => false)
  | .ptrnil neg ax => (match op with | .binOp bo' t x y _ => negOp bo' neg && undB P t isPtr && ((isNilPt y && opdOk P T x ax) || (isNilPt x && opdOk P T y ax)) | _ => false)
  | .ld l t ax => (match op with | .load t' x => Nat.beq t' t && layB P t l && Nat.blt 0 l.n && opdOk P T x ax | _ => false)
  | .ldC ax => (match op with | .load t x => noAgg P t && opdOk P T x ax | _ => false)
  | .st l ax ay => (match op with | .store t x y => sizeB P t l.n && Nat.blt 0 l.n && opdOk P T x ax && opdOk P T y ay | _ => false)
  | .stC ax ay => (match op with | .store t x y => sizeB P t 1 && opdOk P T x ax && opdOk P T y ay | _ => false)
  | .fad off n t u ax => (match op with | .fieldAddr t' x f => Nat.beq t' t && fadB P t f off n u && opdOk P T x ax | _ => false)
  | .fld off l ax => (match op with | .field t x f => fldB P t f off l && opdOk P T x ax | _ => false)
  | .bld l z aparts => (match op with | .build t parts => (match l with | .agg _ => true | .one _ => false) && bldB P T t l z parts.toList aparts | _ => false)
  | .bslO _ e l n z aparts => (match op with | .buildSlice t n' parts => Nat.beq n' n && bslB P T t e l n z parts.toList aparts | _ => false)
  | .bslS _ e l n z aparts => (match op with | .buildSlice t n' parts => Nat.beq n' n && bslB P T t e l n z parts.toList aparts | _ => false)
  | .bsl e l n z aparts => (match op with | .buildSlice t n' parts => Nat.beq n' n && bslB P T t e l n z parts.toList aparts | _ => false)
  | .iad e l ax ai => (match op with | .indexAddr t x i => elemB P t e l && Nat.blt 0 l.n && opdOk P T x ax && opdOk P T i ai | _ => false)
  | .idxS ax ai => (match op with | .index t x i => undB P t isStr && opdOk P T x ax && opdOk P T i ai | _ => false)
  | .lenS ax => (match op with | .call ⟨.builtin b, ⟨[x]⟩, ⟨[t]⟩⟩ => isLen b && undB P t isStr && opdOk P T x ax | _ => false)
  | .lenL ax => (match op with | .call ⟨.builtin b, ⟨[x]⟩, ⟨[t]⟩⟩ => isLen b && undB P t isSl && opdOk P T x ax | _ => false)
  | .imin mx axs => (match op with | .call ⟨.builtin b, xs, _⟩ => isMM mx b && opdsOk P T xs.toList axs | _ => false)
  | .app _ e l bytes ax ay => (match op with | .call ⟨.builtin b, ⟨[x, y]⟩, ⟨[t, t']⟩⟩ => isApp b && Nat.beq t t' && appB P t e l bytes && opdOk P T x ax && opdOk P T y ay | _ => false)
  | .appW _ e l bytes ax ay => (match op with | .call ⟨.builtin b, ⟨[x, y]⟩, ⟨[t, t']⟩⟩ => isApp b && Nat.beq t t' && appB P t e l bytes && opdOk P T x ax && opdOk P T y ay | _ => false)
  | .appS _ e ax ay => (match op with | .call ⟨.builtin b, ⟨[x, y]⟩, ⟨[t, u]⟩⟩ => isApp b && appSB P t u e && opdOk P T x ax && opdOk P T y ay | _ => false)
  | .mkS _ e l z bytes an ac => (match op with | .makeSlice t n c => mkB P T t e l z bytes && opdOk P T n an && opdOk P T c ac | _ => false)
  | .mk _ e l z bytes an ac => (match op with | .makeSlice t n c => mkB P T t e l z bytes && opdOk P T n an && opdOk P T c ac | _ => false)
  | .slc e l ax lo hi => (match op with | .slice t x lo' hi' none => elemB P t e l && opdOk P T x ax && optOk P T lo' lo && optOk P T hi' hi | _ => false)
  | .slcS ax lo hi => (match op with | .slice t x lo' hi' none => undB P t isStr && opdOk P T x ax && optOk P T lo' lo && optOk P T hi' hi | _ => false)
  | .call f ps rs axs => (match op with | .call ⟨.value (.func f'), xs, _⟩ => Nat.beq f' f && callB P T f ps rs && opdsOk P T xs.toList axs | _ => false)
  | .callv t ps rs ax axs => (match op with | .call ⟨.value x, xs, _⟩ => callvB P t ps rs && opdOk P T x ax && opdsOk P T xs.toList axs | _ => false)
  | .mkf f t ks acs => (match op with | .makeFunc (.func f') ⟨[]⟩ cs => Nat.beq f' f && sigB P T t f ks && opdsOk P T cs.toList acs | _ => false)
  | .mkfO f acs => (match op with | .makeFunc (.func f') ⟨[]⟩ cs => Nat.beq f' f && opdsOk P T cs.toList acs | _ => false)
  | .ext i ax => (match op with | .extract x i' => Nat.beq i' i && opdOk P T x ax | _ => false)
  | .cmpS f ax ay => (match op with | .call ⟨.value (.func f'), ⟨[x, y]⟩, _⟩ => Nat.beq f' f && (match T f with | .cmp => true | _ => false) && opdOk P T x ax && opdOk P T y ay | _ => false)
  | .idxA m l ax ai => (match op with | .index t x i => (match P.underlying t with | some (.array _ e) => arrB P t e m l | _ => false) && opdOk P T x ax && opdOk P T i ai | _ => false)
  | .iadA m t e l ax ai => (match op with | .indexAddr t' x i => Nat.beq t' t && arrB P t e m l && opdOk P T x ax && opdOk P T i ai | _ => false)
  | .aeq neg l ax ay => (match op with | .binOp bo' t x y _ => negOp bo' neg && aeqB P t l && opdOk P T x ax && opdOk P T y ay | _ => false)
  | .bad => true
  | .icall i f en ex _ _ ax axs => (match op with
    | .call ⟨.value x, xs, _⟩ => (match T i with | .imp af => Nat.beq af.fn f && Shape.beq af.entry en && Shape.beq af.exit ex | _ => false) && opdsOk P T xs.toList axs &&
      calleeB P T x f ax
    | _ => false)
  | _ => false

def stOf (St : Ev.St) (t : Option Nat) (no : Option Obj) : Ev.St := match no with
  | none => St
  | some o' => (match t with | some j => St.set j o' | none => St)

section
variable {o : Oper} {x y c : Operand} {ax ay ac : Opd} {base : Nat}
variable (hs : Sim P T S pl St w) (hF : RelF P T S pl St F a.tmps)
include hs hF

theorem s_nchk {ob : Obj} {av : AV} {no : Option Obj} (ho : o.op = .nilCheck x) (hx : opdOk P T x ax = true) (hob : ∀ id, tgtV (ax.ev F) = some id → St[id]? = some ob)
    (h : opO E F St ob (.nchk ax) base ret2 = some (av, no)) : no = none ∧ Done P o a w (OpPost P T S pl St w St av) := by
  have hv := opd_sound hs hx hF
  simp only [opO] at h
  split at h
  · rename_i t r ex
    obtain ⟨hn, hA⟩ := ite_some h
    simp only [ret2, Option.some.injEq, Prod.mk.injEq] at hA
    obtain ⟨rfl, rfl⟩ := hA
    rw [ex] at hv
    refine ⟨rfl, done_run (v := a.eval x) (w' := w) ?_ (.same hs hv)⟩
    obtain ⟨cc, rfl, hrep⟩ := hv.of_d
    have hat : at_ [cc] 0 = cc := rfl
    rw [hat] at hn
    generalize hvv : a.eval x = v at hrep
    cases hrep with
    | nilfn => simp [C.isNilF] at hn
    | fn vs h1 h2 h3 => simp [execOp, ho, hvv]
  · rename_i t r ex
    obtain ⟨hdp, h⟩ := ite_some h
    simp only [ret2, Option.some.injEq, Prod.mk.injEq] at h
    obtain ⟨rfl, rfl⟩ := h
    rw [ex] at hv
    refine ⟨rfl, done_run (v := a.eval x) (w' := w) ?_ (.same hs hv)⟩
    obtain ⟨cc, rfl, hrep⟩ := hv.of_d
    have hat : at_ [cc] 0 = cc := rfl
    rw [hat] at hdp
    generalize hvv : a.eval x = v at hrep
    cases hrep with
    | ref f h1 h2 h3 h4 h5 => simp [execOp, ho, hvv]
    | nilp => simp [C.isDp] at hdp
  · rename_i f caps ex
    simp only [ret2, Option.some.injEq, Prod.mk.injEq] at h
    obtain ⟨rfl, rfl⟩ := h
    rw [ex] at hv
    refine ⟨rfl, done_run (v := a.eval x) (w' := w) ?_ (.same hs hv)⟩
    generalize hvv : a.eval x = v at hv
    cases hv with
    | fn vs h => simp [execOp, ho, hvv]
  · rename_i id off ex
    have hob := hob id (by rw [ex]; rfl)
    rw [ex] at hv
    obtain ⟨hk2, hA⟩ := asHas_some h
    simp only [ret2, Option.some.injEq, Prod.mk.injEq] at hA
    obtain ⟨rfl, rfl⟩ := hA
    have e1 := hv.of_has hob hk2
    exact ⟨rfl, done_run (v := a.eval x) (w' := w) (by simp [execOp, ho, e1]) (.same hs hv)⟩
  · simp at h

theorem s_cvS {s t : TypeId} {ob : Obj} {av : AV} {no : Option Obj} (ho : o.op = .convert s t x) (hs1 : P.underlying s = some .string) (ht : P.underlying t = some .string) (hx : opdOk P T x ax = true)
    (h : opO E F St ob (.cvS ax) base ret2 = some (av, no)) : no = none ∧ Done P o a w (OpPost P T S pl St w St av) := by
  simp only [opO] at h
  obtain ⟨r1, e1, hA⟩ := asS_some h
  have g1 := opd_soundD hs hx hF; rw [e1] at g1; obtain ⟨b1, h1, q1⟩ := g1.of_str
  simp only [ret2, Option.some.injEq, Prod.mk.injEq] at hA
  obtain ⟨rfl, rfl⟩ := hA
  rw [← q1]
  refine ⟨rfl, done_run (v := .string b1) (w' := w) ?_ (.same hs (relS _))⟩
  simp [execOp, ho, h1, convert, run_underlying hs1, run_underlying ht]

theorem op_none {ob : Obj} {ao : AOp} {av : AV} {no : Option Obj} (h : no = none ∧ Done P o a w (OpPost P T S pl St w St av)) : Done P o a w (OpPost P T S pl St w (stOf St (tgt F ao base) no) av) := by
  obtain ⟨rfl, h⟩ := h; exact h
theorem op_new {ob : Obj} {ao : AOp} {i : Nat} {av : AV} {no : Option Obj} (ht : tgt F ao base = some i) (h : ∃ o', no = some o' ∧ Done P o a w (OpPost P T S pl St w (St.set i o') av)) : Done P o a w (OpPost P T S pl St w (stOf St (tgt F ao base) no) av) := by
  obtain ⟨o', rfl, h⟩ := h; rw [ht]; exact h
theorem op_turn {ob : Obj} {ao : AOp} {v : AV} {av : AV} {no : Option Obj} (ht : tgt F ao base = tgtV v) (h : ∃ id o', tgtV v = some id ∧ no = some o' ∧ Done P o a w (OpPost P T S pl St w (St.set id o') av)) : Done P o a w (OpPost P T S pl St w (stOf St (tgt F ao base) no) av) := by
  obtain ⟨id, o', h1, rfl, h⟩ := h; rw [ht, h1]; exact h

/-- Each operation does what it stands for. -/
theorem op_sound {ao : AOp} {ob : Obj} {av : AV} {no : Option Obj} (hpc : PcOk P T E.pc) (hok : okOp P T o.op ao = true) (hob : ∀ j, tgt F ao base = some j → St[j]? = some ob)
    (h : opO E F St ob ao base ret2 = some (av, no)) : Done P o a w (OpPost P T S pl St w (stOf St (tgt F ao base) no) av) := by
  cases ao with
  | mov ax =>
    simp only [okOp] at hok
    simp only [opO, ret2, Option.some.injEq, Prod.mk.injEq] at h
    obtain ⟨rfl, rfl⟩ := h
    split at hok
    · exact s_mov hs hF (.inl ‹_›) hok
    · exact s_mov hs hF (.inr ‹_›) hok
    · simp at hok
  | nchk ax =>
    simp only [okOp] at hok
    split at hok
    · exact op_none (ob := ob) hs hF (s_nchk hs hF ‹_› hok hob h)
    · simp at hok
  | cvS ax =>
    simp only [okOp] at hok
    split at hok
    · simp only [Bool.and_eq_true] at hok
      exact op_none (ob := ob) hs hF (s_cvS hs hF ‹_› (undB_eq hok.1.1 fun _ => isStr_eq) (undB_eq hok.1.2 fun _ => isStr_eq) hok.2 h)
    · simp at hok
  | nilS id e l =>
    simp only [okOp] at hok
    split at hok
    · exact op_new (ob := ob) hs hF rfl (s_nilS hs hF (.inr (by rw [‹o.op = _›, isNilSl_eq hok])) (hob _ rfl) h)
    · exact op_new (ob := ob) hs hF rfl (s_nilS hs hF (.inl (by rw [‹o.op = _›, isNilSl_eq hok])) (hob _ rfl) h)
    · simp at hok
  | nilO id l =>
    simp only [okOp] at hok
    split at hok
    · exact op_new (ob := ob) hs hF rfl (s_nilO hs hF (.inr (by rw [‹o.op = _›, isNilSl_eq hok])) (hob _ rfl) h)
    · exact op_new (ob := ob) hs hF rfl (s_nilO hs hF (.inl (by rw [‹o.op = _›, isNilSl_eq hok])) (hob _ rfl) h)
    · simp at hok
  | pick ac ax ay =>
    simp only [okOp] at hok
    split at hok
    · simp only [Bool.and_eq_true] at hok
      exact op_none (ob := ob) hs hF (s_pick hs hF ‹_› hok.1.1 hok.1.2 hok.2 h)
    · simp at hok
  | ibin bo ax ay =>
    simp only [okOp] at hok
    split at hok
    · simp only [Bool.and_eq_true] at hok
      obtain rfl := opB_eq hok.1.1
      exact op_none (ob := ob) hs hF (s_arith hs hF ‹_› hok.1.2 hok.2 h)
    · simp at hok
  | idiv bo ax ay =>
    simp only [okOp] at hok
    split at hok
    · simp only [Bool.and_eq_true] at hok
      obtain rfl := opB_eq hok.1.1
      exact op_none (ob := ob) hs hF (s_idiv hs hF ‹_› hok.1.2 hok.2 h)
    · simp at hok
  | shf bo ax ay =>
    simp only [okOp] at hok
    split at hok
    · simp only [Bool.and_eq_true] at hok
      obtain rfl := opB_eq hok.1.1
      exact op_none (ob := ob) hs hF (s_shf hs hF ‹_› hok.1.2 hok.2 h)
    · simp at hok
  | icmp bo ax ay =>
    simp only [okOp] at hok
    split at hok
    · simp only [Bool.and_eq_true] at hok
      obtain rfl := opB_eq hok.1.1
      exact op_none (ob := ob) hs hF (s_icmp hs hF ‹_› hok.1.2 hok.2 h)
    · simp at hok
  | scat ax ay =>
    simp only [okOp] at hok
    split at hok
    · simp only [Bool.and_eq_true] at hok
      obtain rfl := opB_eq hok.1.1
      exact op_none (ob := ob) hs hF (s_scat hs hF ‹_› hok.1.2 hok.2 h)
    · simp at hok
  | scmp bo ax ay =>
    simp only [okOp] at hok
    split at hok
    · simp only [Bool.and_eq_true] at hok
      obtain rfl := opB_eq hok.1.1
      exact op_none (ob := ob) hs hF (s_scmp hs hF ‹_› hok.1.2 hok.2 h)
    · simp at hok
  | bcmp neg ax ay =>
    simp only [okOp] at hok
    split at hok
    · simp only [Bool.and_eq_true] at hok
      exact op_none (ob := ob) hs hF (s_bcmp hs hF ‹_› (opB_eq hok.1.1.1) (undB_eq hok.1.1.2 fun _ => isBool_eq) hok.1.2 hok.2 h)
    · simp at hok
  | nileq neg ax =>
    simp only [okOp] at hok
    split at hok
    · simp only [Bool.and_eq_true, Bool.or_eq_true] at hok
      obtain ⟨⟨h1, h2⟩, h3⟩ := hok
      obtain ⟨d, hd, hsl⟩ := undB_sound h2
      obtain ⟨e, rfl⟩ := isSl_eq hsl
      rcases h3 with ⟨h3, h4⟩ | ⟨h3, h4⟩
      · exact op_none (ob := ob) hs hF (s_nileq hs hF (opB_eq h1) hd (.inl (by rw [‹o.op = _›, isNilSl_eq h3])) h4 hob h)
      · exact op_none (ob := ob) hs hF (s_nileq hs hF (opB_eq h1) hd (.inr (by rw [‹o.op = _›, isNilSl_eq h3])) h4 hob h)
    · simp at hok
  | not ax =>
    simp only [okOp] at hok
    split at hok
    · exact op_none (ob := ob) hs hF (s_not hs hF ‹_› hok h)
    · simp at hok
  | ineg ax =>
    simp only [okOp] at hok
    split at hok
    · exact op_none (ob := ob) hs hF (s_ineg hs hF ‹_› hok h)
    · simp at hok
  | icpl ax =>
    simp only [okOp] at hok
    split at hok
    · exact op_none (ob := ob) hs hF (s_icpl hs hF ‹_› hok h)
    · simp at hok
  | i2i k ax =>
    simp only [okOp] at hok
    split at hok
    · simp only [Bool.and_eq_true] at hok
      exact op_none (ob := ob) hs hF (s_i2i hs hF ‹_› (undB_eq hok.1.2 fun _ => isIntK_eq) (undB_some hok.1.1) hok.2 h)
    · simp at hok
  | s2b e ax =>
    simp only [okOp] at hok
    split at hok
    · simp only [Bool.and_eq_true] at hok
      exact op_none (ob := ob) hs hF (s_s2b hs hF ‹_› (undB_some hok.1.1.1) hok.1.1.2 (undB_eq hok.1.2 fun _ => isU8_eq) hok.2 h)
    · simp at hok
  | b2s e ax =>
    simp only [okOp] at hok
    split at hok
    · simp only [Bool.and_eq_true] at hok
      exact op_none (ob := ob) hs hF (s_b2s hs hF ‹_› hok.1.1.1 (undB_eq hok.1.1.2 fun _ => isU8_eq) (undB_eq hok.1.2 fun _ => isStr_eq) hok.2 hob h)
    · simp at hok
  | boxP l t ax =>
    simp only [okOp] at hok
    split at hok
    · simp only [Bool.and_eq_true] at hok
      obtain rfl := Nat.eq_of_beq_eq_true hok.1.1
      exact op_none (ob := ob) hs hF (s_boxP hs hF ‹_› hok.1.2 hok.2 h)
    · simp at hok
  | boxO id l ax =>
    simp only [okOp] at hok
    split at hok
    · exact op_new (ob := ob) hs hF rfl (s_boxO hs hF ‹_› hok (hob _ rfl) h)
    · simp at hok
  | boxC id ax =>
    simp only [okOp] at hok
    split at hok
    · exact op_new (ob := ob) hs hF rfl (s_boxC hs hF ‹_› hok (hob _ rfl) h)
    · simp at hok
  | allocO id l z =>
    simp only [okOp] at hok
    split at hok
    · obtain ⟨i, zv, h1, h2, h3⟩ := zeroB_sound hok
      exact op_new (ob := ob) hs hF rfl (s_allocO hs hF ‹_› h1 h2 h3 (hob _ rfl) h)
    · simp at hok
  | allocC id =>
    simp only [okOp] at hok
    split at hok
    · obtain ⟨i, zv, h1, h2, h3⟩ := zeroB_sound hok
      simp only [Bool.and_eq_true] at h3
      have h1' := (zsOk_sound (P := P) (T := T) (S := S) (pl := pl) (St := St) h3.2).2.2
      exact op_new (ob := ob) hs hF rfl (s_allocC hs hF ‹_› h1 h2 (Nat.eq_of_beq_eq_true h3.1) (fun i hi => by simpa [List.getD_eq_getElem?_getD] using h1' i (by simpa using hi)) (hob _ rfl) h)
    · simp at hok
  | boxA id ax =>
    simp only [okOp] at hok
    split at hok
    · exact op_new (ob := ob) hs hF rfl (s_boxA hs hF ‹_› hok (hob _ rfl) h)
    · simp at hok
  | allocA id zs =>
    simp only [okOp] at hok
    split at hok
    · obtain ⟨i, zv, h1, h2, h3⟩ := zeroB_sound hok
      exact op_new (ob := ob) hs hF rfl (s_allocA hs hF ‹_› h1 h2 h3 (hob _ rfl) h)
    · simp at hok
  | ldA n ax =>
    simp only [okOp] at hok
    split at hok
    · simp only [Bool.and_eq_true] at hok
      exact op_none (ob := ob) hs hF (s_ldA hs hF ‹_› hok.1 hok.2 hob h)
    · simp at hok
  | stA n ax ay =>
    simp only [okOp] at hok
    split at hok
    · simp only [Bool.and_eq_true] at hok
      exact op_turn (ob := ob) hs hF rfl (s_stA hs hF ‹_› hok.1.1 hok.1.2 hok.2 hob h)
    · simp at hok
  | ptrnil neg ax =>
    simp only [okOp] at hok
    split at hok
    · simp only [Bool.and_eq_true, Bool.or_eq_true] at hok
      obtain ⟨⟨h1, h2⟩, h3⟩ := hok
      obtain ⟨d, hd, hsl⟩ := undB_sound h2
      obtain ⟨e, rfl⟩ := isPtr_eq hsl
      rcases h3 with ⟨h3, h4⟩ | ⟨h3, h4⟩
      · exact op_none (ob := ob) hs hF (s_ptrnil hs hF (opB_eq h1) hd (.inl (by rw [‹o.op = _›, isNilPt_eq h3])) h4 hob h)
      · exact op_none (ob := ob) hs hF (s_ptrnil hs hF (opB_eq h1) hd (.inr (by rw [‹o.op = _›, isNilPt_eq h3])) h4 hob h)
    · simp at hok
  | ld l t ax =>
    simp only [okOp] at hok
    split at hok
    · simp only [Bool.and_eq_true] at hok
      obtain rfl := Nat.eq_of_beq_eq_true hok.1.1.1
      exact op_none (ob := ob) hs hF (s_ld hs hF ‹_› hok.1.1.2 hok.1.2 hok.2 hob h)
    · simp at hok
  | ldC ax =>
    simp only [okOp] at hok
    split at hok
    · simp only [Bool.and_eq_true] at hok
      exact op_none (ob := ob) hs hF (s_ldC hs hF ‹_› hok.1 hok.2 hob h)
    · simp at hok
  | st l ax ay =>
    simp only [okOp] at hok
    split at hok
    · simp only [Bool.and_eq_true] at hok
      exact op_turn (ob := ob) hs hF rfl (s_st hs hF ‹_› hok.1.1.1 hok.1.1.2 hok.1.2 hok.2 hob h)
    · simp at hok
  | stC ax ay =>
    simp only [okOp] at hok
    split at hok
    · simp only [Bool.and_eq_true] at hok
      exact op_turn (ob := ob) hs hF rfl (s_stC hs hF ‹_› hok.1.1 hok.1.2 hok.2 hob h)
    · simp at hok
  | fad off n t u ax =>
    simp only [okOp] at hok
    split at hok
    · simp only [Bool.and_eq_true, fadB] at hok
      obtain ⟨⟨h1, h2, h3⟩, h4⟩ := hok
      obtain rfl := Nat.eq_of_beq_eq_true h1
      split at h3
      · simp only [Bool.and_eq_true] at h3
        exact op_none (ob := ob) hs hF (s_fad hs hF ‹_› h2 h3.1.1.1 h3.1.1.2 h3.1.2 h3.2 h4 hob h)
      · simp at h3
    · simp at hok
  | fld off l ax =>
    simp only [okOp] at hok
    split at hok
    · simp only [Bool.and_eq_true] at hok
      exact op_none (ob := ob) hs hF (s_fld hs hF ‹_› hok.1 hok.2 h)
    · simp at hok
  | bld l z aparts =>
    simp only [okOp] at hok
    split at hok
    · simp only [Bool.and_eq_true] at hok
      exact op_none (ob := ob) hs hF (s_bld hs hF ‹_› hok.1 hok.2 h)
    · simp at hok
  | bslO id e l n z aparts =>
    simp only [okOp] at hok
    split at hok
    · simp only [Bool.and_eq_true] at hok
      obtain rfl := Nat.eq_of_beq_eq_true hok.1
      exact op_new (ob := ob) hs hF rfl (s_bslO hs hF ‹_› hok.2 (hob _ rfl) h)
    · simp at hok
  | bslS id e l n z aparts =>
    simp only [okOp] at hok
    split at hok
    · simp only [Bool.and_eq_true] at hok
      obtain rfl := Nat.eq_of_beq_eq_true hok.1
      exact op_new (ob := ob) hs hF rfl (s_bslS hs hF ‹_› hok.2 (hob _ rfl) h)
    · simp at hok
  | bsl e l n z aparts =>
    simp only [okOp] at hok
    split at hok
    · simp only [Bool.and_eq_true] at hok
      obtain rfl := Nat.eq_of_beq_eq_true hok.1
      exact op_none (ob := ob) hs hF (s_bsl hs hF ‹_› hok.2 h)
    · simp at hok
  | iad e l ax ai =>
    simp only [okOp] at hok
    split at hok
    · simp only [Bool.and_eq_true] at hok
      exact op_none (ob := ob) hs hF (s_iad hs hF ‹_› hok.1.1.1 hok.1.1.2 hok.1.2 hok.2 hob h)
    · simp at hok
  | idxS ax ai =>
    simp only [okOp] at hok
    split at hok
    · simp only [Bool.and_eq_true] at hok
      exact op_none (ob := ob) hs hF (s_idxS hs hF ‹_› (undB_eq hok.1.1 fun _ => isStr_eq) hok.1.2 hok.2 h)
    · simp at hok
  | lenS ax =>
    simp only [okOp] at hok
    split at hok
    · simp only [Bool.and_eq_true] at hok
      obtain rfl := isLen_eq hok.1.1
      exact op_none (ob := ob) hs hF (s_lenS (ty := 0) hs hF ‹_› (undB_eq hok.1.2 fun _ => isStr_eq) hok.2 h)
    · simp at hok
  | lenL ax =>
    simp only [okOp] at hok
    split at hok
    · simp only [Bool.and_eq_true] at hok
      obtain rfl := isLen_eq hok.1.1
      obtain ⟨d, hd, hsl⟩ := undB_sound hok.1.2
      obtain ⟨e, rfl⟩ := isSl_eq hsl
      exact op_none (ob := ob) hs hF (s_lenL hs hF ‹_› hd hok.2 hob h)
    · simp at hok
  | imin mx axs =>
    simp only [okOp] at hok
    split at hok
    · simp only [Bool.and_eq_true] at hok
      obtain rfl := isMM_eq hok.1
      exact op_none (ob := ob) hs hF (s_imin hs hF ‹_› hok.2 h)
    · simp at hok
  | app id e l bytes ax ay =>
    simp only [okOp] at hok
    split at hok
    · simp only [Bool.and_eq_true] at hok
      obtain rfl := isApp_eq hok.1.1.1.1
      obtain rfl := Nat.eq_of_beq_eq_true hok.1.1.1.2
      obtain ⟨j, o', h1, rfl, h2⟩ := s_app hs hF ‹_› hok.1.1.2 hok.1.2 hok.2 hob h
      rw [h1]; exact h2
    · simp at hok
  | appW id e l bytes ax ay =>
    simp only [okOp] at hok
    split at hok
    · simp only [Bool.and_eq_true] at hok
      obtain rfl := isApp_eq hok.1.1.1.1
      obtain rfl := Nat.eq_of_beq_eq_true hok.1.1.1.2
      obtain ⟨j, o', h1, rfl, h2⟩ := s_appW hs hF ‹_› hok.1.1.2 hok.1.2 hok.2 hob h
      rw [h1]; exact h2
    · simp at hok
  | appS id e ax ay =>
    simp only [okOp] at hok
    split at hok
    · simp only [Bool.and_eq_true] at hok
      obtain rfl := isApp_eq hok.1.1.1
      obtain ⟨j, o', h1, rfl, h2⟩ := s_appS hs hF ‹_› hok.1.1.2 hok.1.2 hok.2 hob h
      rw [h1]; exact h2
    · simp at hok
  | mkS id e l z bytes an ac =>
    simp only [okOp] at hok
    split at hok
    · simp only [Bool.and_eq_true] at hok
      exact op_new (ob := ob) hs hF rfl (s_mkS hs hF ‹_› hok.1.1 hok.1.2 hok.2 (hob _ rfl) h)
    · simp at hok
  | mk id e l z bytes an ac =>
    simp only [okOp] at hok
    split at hok
    · simp only [Bool.and_eq_true] at hok
      exact op_new (ob := ob) hs hF rfl (s_mk hs hF ‹_› hok.1.1 hok.1.2 hok.2 (hob _ rfl) h)
    · simp at hok
  | slc e l ax lo hi =>
    simp only [okOp] at hok
    split at hok
    · simp only [Bool.and_eq_true] at hok
      exact op_none (ob := ob) hs hF (s_slc hs hF ‹_› hok.1.1.1 hok.1.1.2 hok.1.2 hok.2 hob h)
    · simp at hok
  | slcS ax lo hi =>
    simp only [okOp] at hok
    split at hok
    · simp only [Bool.and_eq_true] at hok
      exact op_none (ob := ob) hs hF (s_slcS hs hF ‹_› (undB_eq hok.1.1.1 fun _ => isStr_eq) hok.1.1.2 hok.1.2 hok.2 h)
    · simp at hok
  | call f ps rs axs =>
    simp only [okOp] at hok
    split at hok
    · simp only [Bool.and_eq_true] at hok
      obtain rfl := Nat.eq_of_beq_eq_true hok.1.1
      exact op_none (ob := ob) hs hF (s_call hs hF hpc ‹_› hok.2 hok.1.2 h)
    · simp at hok
  | callv t ps rs ax axs =>
    simp only [okOp] at hok
    split at hok
    · simp only [Bool.and_eq_true] at hok
      exact op_none (ob := ob) hs hF (s_callv hs hF hpc ‹_› hok.1.2 hok.2 hok.1.1 h)
    · simp at hok
  | mkf f t ks acs =>
    simp only [okOp] at hok
    split at hok
    · simp only [Bool.and_eq_true] at hok
      obtain rfl := Nat.eq_of_beq_eq_true hok.1.1
      exact op_none (ob := ob) hs hF (s_mkf hs hF ‹_› hok.2 hok.1.2 h)
    · simp at hok
  | mkfO f acs =>
    simp only [okOp] at hok
    split at hok
    · simp only [Bool.and_eq_true] at hok
      obtain rfl := Nat.eq_of_beq_eq_true hok.1
      exact op_none (ob := ob) hs hF (s_mkfO hs hF ‹_› hok.2 h)
    · simp at hok
  | ext i ax =>
    simp only [okOp] at hok
    split at hok
    · simp only [Bool.and_eq_true] at hok
      obtain rfl := Nat.eq_of_beq_eq_true hok.1
      exact op_none (ob := ob) hs hF (s_ext hs hF ‹_› hok.2 h)
    · simp at hok
  | cmpS f ax ay =>
    simp only [okOp] at hok
    split at hok
    · simp only [Bool.and_eq_true] at hok
      obtain ⟨⟨⟨h1, h2⟩, h3⟩, h4⟩ := hok
      obtain rfl := Nat.eq_of_beq_eq_true h1
      split at h2
      · exact op_none (ob := ob) hs hF (s_cmpS hs hF (hpc.1 _ ‹_›) ‹o.op = _› h3 h4 h)
      · simp at h2
    · simp at hok
  | idxA m l ax ai =>
    simp only [okOp] at hok
    split at hok
    · simp only [Bool.and_eq_true] at hok
      obtain ⟨⟨h1, h2⟩, h3⟩ := hok
      split at h1
      · exact op_none (ob := ob) hs hF (s_idxA hs hF ‹_› h1 h2 h3 h)
      · simp at h1
    · simp at hok
  | iadA m t e l ax ai =>
    simp only [okOp] at hok
    split at hok
    · simp only [Bool.and_eq_true] at hok
      obtain ⟨⟨⟨h1, h2⟩, h3⟩, h4⟩ := hok
      obtain rfl := Nat.eq_of_beq_eq_true h1
      exact op_none (ob := ob) hs hF (s_iadA hs hF ‹_› h2 h3 h4 hob h)
    · simp at hok
  | aeq neg l ax ay =>
    simp only [okOp] at hok
    split at hok
    · simp only [Bool.and_eq_true] at hok
      exact op_none (ob := ob) hs hF (s_aeq hs hF ‹_› (opB_eq hok.1.1.1) hok.1.1.2 hok.1.2 hok.2 h)
    · simp at hok
  | bad => simp [opO] at h
  | icall => simp [opO] at h
  | _ => simp [okOp] at hok
end
end Go.Ev
