/-
  Each operation of the abstract machine does what the model's operation does: constants, operands, and the operations without memory.
-/
import Derived.Test.YtdhebofenihjmaaGreatDoorEvB
set_option linter.all false
set_option maxRecDepth 100000
namespace Go.Ev
variable {P:Program} {T:Nat→yF} {S:yA} {pl:Pl} {St:St} {F:Fr} {a:Act} {w:World}
def aUA:K→Value→C→Bool
 | .int k,.int k' n,.int m=>Nat.beq (IntKind.tag k) (IntKind.tag k')&&n==m
 | .bool,.bool b,.bool c=>b==c
 | .str,.string b,.str s=>b.data.toList==s
 | .sl _,.slice none 0 0,.bA=>true
 | .fn _,.nilFunc,.aM5=>true
 | .ref _,.pointer none,.aTm=>true
 | .ifc,.nilIface,.aYu=>true
 |_,_,_=>false
def aIg:List K→List Value→Row→Bool
 |[],[],[]=>true
 |k::ks,v::vs,c::cs=>aUA k v c&&aIg ks vs cs
 |_,_,_=>false
def aAt:L→Value→Row→Bool
 | .one k,v,[c]=>aUA k v c
 | .agg ks,.agg vs,row=>aIg ks vs.toList row
 |_,_,_=>false
theorem aKY {k:K} {v:Value} {c:C} (h:aUA k v c=true):gO P T S k v c:=by
 unfold aUA at h
 split at h
 ·simp only[Bool.and_eq_true,beq_iff_eq]at h
  rw[aF4 h.1,h.2];exact .int
 ·simp at h;subst h;exact .bool
 ·simp at h;subst h;exact .str
 ·exact .bA
 ·exact .aM5
 ·exact .aTm
 ·exact .aYu
 ·simp at h
theorem aOJ:∀{ks:List K} {vs:List Value} {row:Row},aIg ks vs row=true→yC P T S ks vs row
 |[],[],[],_=>⟨rfl,rfl,fun j k h=>by simp at h⟩
 |k::ks,v::vs,c::cs,h=>by
  simp only[aIg,Bool.and_eq_true]at h
  have r:yC P T S ks vs cs:=aOJ h.2
  refine ⟨by simp[r.mL],by simp[r.aBQ],fun j k' hk=> ?_⟩
  cases j with
  |zero=>simp at hk;subst hk;exact aKY h.1
  |succ j=>simpa[at_]using r.cell j k' (by simpa using hk)
 |[],[],_::_,h=>by simp[aIg]at h
 |[],_::_,_,h=>by simp[aIg]at h
 |_::_,[],_,h=>by simp[aIg]at h
 |_::_,_::_,[],h=>by simp[aIg]at h
theorem pM {l:L} {v:Value} {row:Row} (h:aAt l v row=true):cF P T S l v row:=by
 unfold aAt at h
 split at h
 ·exact ⟨_,rfl,aKY h⟩
 ·exact ⟨_,rfl,aOJ h⟩
 ·simp at h
def aM9:List L→List L→Bool
 |[],[]=>true
 |a::x,b::y=>L.beq a b&&aM9 x y
 |_,_=>false
theorem aHc:∀{a b:List L},aM9 a b=true→a=b
 |[],[],_=>rfl
 |[],_::_,h=>by simp[aM9]at h
 |_::_,[],h=>by simp[aM9]at h
 |a::x,b::y,h=>by
  simp only[aM9,Bool.and_eq_true]at h
  rw[L.beq_eq h.1,aHc h.2]
def a6o (P:Program) (T:Nat→yF) (t:TypeId) (f:Nat) (ks:List K):Bool:=
 match P.underlying t with
 |some (.func pt rt _)=>
  match aDq P pt.toList,aDq P rt.toList,(T f).sig with
  |some ps,some rs,some (ps',rs')=>aM9 ps' (ps++ks.map .one)&&aM9 rs' rs
  |_,_,_=>false
 |_=>false
theorem aUB {t f ks} (h:a6o P T t f ks=true):bFJ P T t f ks:=by
 unfold a6o at h
 split at h
 ·rename_i pt rt v hu
  split at h
  ·rename_i ps rs ps' rs' h1 h2 h3
   simp only[Bool.and_eq_true]at h
   exact ⟨pt,rt,v,ps,rs,hu,h1,h2,by rw[h3,aHc h.1,aHc h.2]⟩
  ·simp at h
 ·simp at h
def bC9:C→C→Bool
 | .int a,.int b=>a==b
 | .bool a,.bool b=>a==b
 | .str a,.str b=>a==b
 | .bA,.bA=>true
 |_,_=>false
theorem a9w {a b:C} (h:bC9 a b=true):a=b:=by
 unfold bC9 at h;split at h<;>simp_all
def aRv:Row→Row→Bool
 |[],[]=>true
 |a::x,b::y=>bC9 a b&&aRv x y
 |_,_=>false
theorem aXe:∀{a b:Row},aRv a b=true→a=b
 |[],[],_=>rfl
 |[],_::_,h=>by simp[aRv]at h
 |_::_,[],h=>by simp[aRv]at h
 |a::x,b::y,h=>by
  simp only[aRv,Bool.and_eq_true]at h
  rw[a9w h.1,aXe h.2]
def bAK (T:Nat→yF) (g:Nat) (t:TypeId) (row:Row):Bool:=match T (oZ+g)with | .fR t' _ row'=>Nat.beq t t'&&aRv row row' |_=>false
def oA (P:Program) (T:Nat→yF):Operand→rD→Bool
 | .tmp t,.t n=>Nat.beq t n
 | .const v,.c l row=>aAt l v row
 | .func f,.c (.one (.fn t)) [.fn g []]=>Nat.beq f g&&a6o P T t f []
 | .global g,.c (.one (.ref t)) [.dp row]=>bAK T g t row
 |_,_=>false
theorem sC (hs:mW P T S pl St w) {x:Operand} {y:rD} (h:oA P T x y=true) (hF:wX P T S pl St F a.tmps):iB P T S pl St (y.ev F) (a.eval x):=by
 unfold oA at h
 split at h
 ·have e:=Nat.eq_of_beq_eq_true h;subst e;exact hF _
 ·exact .d (pM h)
 ·simp only[Bool.and_eq_true]at h
  have e:=Nat.eq_of_beq_eq_true h.1;subst e
  refine .d ⟨_,rfl, ?_⟩
  have r:=gO.fn (P:=P) (T:=T) (S:=S) (ks:=[]) (cs:=[]) (fun _=>undef) (aUB h.2) rfl (fun i k hk=>by simp at hk)
  simpa[Act.eval]using r
 ·unfold bAK at h
  split at h
  ·rename_i t' l row' e
   simp only[Bool.and_eq_true]at h
   obtain rfl:=Nat.eq_of_beq_eq_true h.1
   obtain rfl:=aXe h.2
   exact .d ⟨_,rfl,hs.fR _ _ _ _ e⟩
  ·simp at h
 ·simp at h
theorem aKZ (vs:Nat→Value) (n i:Nat) (h:i<n):((List.range n).map vs).getD i undef=vs i:=by
 simp[List.getD_eq_getElem?_getD,h]
theorem a9x (hs:mW P T S pl St w) {id bO:Nat} {e:TypeId} {l:L} {c:C} {v:Value} (hv:iB P T S pl St (.sw id bO) v) (ho:St[id]? =some (.zA bO e l c)):cF P T S (.one (.sl e)) v [c]:=by
 cases hv with
 |sw h0 h1 h2 h3 h4 h5=>
  rw[ho]at h1;obtain rfl:=Option.some.inj h1
  refine ⟨c,rfl, ?_⟩
  rcases hs.objs _ _ ho with rfl |⟨rows,cur,e',i,rfl,g1,g2,g3,g4,g5,g6,g7,g8,g9⟩
  ·rw[h4 _ _ rfl];exact .bA
  ·rw[h5 _ _ _ rfl]
   have hrow:∀i,i<rows.length→yC P T S l.ks ((cur.toList.drop (i*l.n)).take l.n) (aA rows i):=fun i hi=>by
    refine g8 i _ ?_
    simp[aA,List.getD_eq_getElem?_getD,hi]
   refine .sl (fun i j=>cur.getD (i*l.n+j) undef) g2 rfl g5 (fun r hr=> ?_) (fun _=>rfl) (fun i j hi hj=> ?_) (fun i j k hi hk=> ?_)
   ·obtain ⟨i,hi,rfl⟩:=List.getElem_of_mem hr
    have:=(g8 i _ (List.getElem?_eq_getElem hi)).aBQ
    exact this
   ·have hle:=Nat.mul_le_mul_right l.n (show i+1≤rows.length from hi)
    have aWa:(i+1)*l.n=i*l.n+l.n:=Nat.succ_mul _ _
    rw[Nat.zero_add];exact g9 _ (by omega)
   ·have hj:j<l.n:=(List.getElem?_eq_some_iff.1 hk).1
    have:=(hrow i hi).cell j k hk
    have e:((cur.toList.drop (i*l.n)).take l.n).getD j undef=cur.getD (i*l.n+j) undef:=by
     simp[List.getD_eq_getElem?_getD,List.getElem?_take,hj]
    rw[e]at this;exact this
mutual
theorem aG2 (hs:mW P T S pl St w):∀(av:AV) (v:Value),iB P T S pl St av v→iB P T S pl St (av.dat St) v
 | .sw id bO,v,h=>by
   simp only[AV.dat]
   split
   ·rename_i v' e l c ho
    split
    ·rename_i hb
     obtain rfl:=Nat.eq_of_beq_eq_true hb
     exact .d (a9x hs h ho)
    ·exact h
   ·exact h
 | .agg vs,v,h=>by
   simp only[AV.dat]
   split
   ·rename_i ks row hg
    cases h with
    |agg vals h1 h2=>
     have:=aP6 hs vs vals ks row hg h2
     exact .d ⟨_,rfl,by simpa using this⟩
   ·exact h
 | .undef,v,h=>by simpa[AV.dat]using h
 | .und,v,h=>by simpa[AV.dat]using h
 | .d _ _,v,h=>by simpa[AV.dat]using h
 | .ptr _ _,v,h=>by simpa[AV.dat]using h
 | .zL _ _ _ _,v,h=>by simpa[AV.dat]using h
 | .whole _ _,v,h=>by simpa[AV.dat]using h
 | .own _ _ _ _,v,h=>by simpa[AV.dat]using h
 | .fn _ _,v,h=>by simpa[AV.dat]using h
 | .tup _,v,h=>by simpa[AV.dat]using h
 | .map _,v,h=>by simpa[AV.dat]using h
 | .vE _,v,h=>by simpa[AV.dat]using h
 | .aKU _ _,v,h=>by simpa[AV.dat]using h
theorem aP6 (hs:mW P T S pl St w):∀(yL:List AV) (vals:Nat→Value) (ks:List K) (row:Row),AV.aKV St yL=some (ks,row)→(∀i av,yL[i]? =some av→iB P T S pl St av (vals i))→
 yC P T S ks ((List.range yL.length).map vals) row
 |[],vals,ks,row,h,_=>by
  simp only[AV.aKV,Option.some.injEq,Prod.mk.injEq]at h
  obtain ⟨rfl,rfl⟩:=h
  exact ⟨rfl,rfl,fun j k hk=>by simp at hk⟩
 |av::yL,vals,ks,row,h,hv=>by
  simp only[AV.aKV]at h
  split at h
  ·rename_i k r ks' row' h1 h2
   simp only[Option.some.injEq,Prod.mk.injEq]at h
   obtain ⟨rfl,rfl⟩:=h
   have hd:=aG2 hs av (vals 0) (hv 0 av rfl)
   rw[h1]at hd
   cases hd with
   |d hd=>
    have hr:=hd.a6m
    have ih:=aP6 hs yL (fun i=>vals (i+1)) ks' row' h2 (fun i av hi=>hv (i+1) av (by simpa using hi))
    have hl:=ih.mL
    simp only[List.length_map,List.length_range]at hl
    refine ⟨by simp[hl],by simp[ih.aBQ],fun j k' hk=> ?_⟩
    cases j with
    |zero=>
     simp at hk;subst hk
     rw[aKZ _ _ _ (by simp)];exact hr
    |succ j=>
     have hk:ks'[j]? =some k':=by simpa using hk
     have hj:j<ks'.length:=(List.getElem?_eq_some_iff.1 hk).1
     have:=ih.cell j k' hk
     rw[aKZ _ _ _ (by omega)]at this
     rw[aKZ _ _ _ (by simp;omega)]
     simpa[at_]using this
  ·simp at h
end
theorem aD3 {y:rD} {id:Nat} (h:tJ (y.uM F St)=some id):tJ (y.ev F)=some id:=by
 unfold rD.uM at h
 generalize y.ev F=v at*
 cases v with
 |sw i u=>
  simp only[AV.dat]at h
  split at h
  ·split at h
   ·simp[tJ]at h
   ·exact h
  ·exact h
 |agg vs=>
  simp only[AV.dat]at h
  split at h<;>simp[tJ]at h
 |_=>simpa[AV.dat]using h
theorem qA (hs:mW P T S pl St w) {x:Operand} {y:rD} (h:oA P T x y=true) (hF:wX P T S pl St F a.tmps):iB P T S pl St (y.uM F St) (a.eval x):=aG2 hs _ _ (sC hs h hF)
def bB (P:Program) (T:Nat→yF) (S:yA) (pl:Pl) (St:Ev.St) (w:World) (dD:Ev.St) (av:AV) (v:Value) (w':World):Prop:=
 ∃S' wD,mW P T S' wD dD w'∧Grow (nW pl St) S w S' w'∧iB P T S' wD dD av v∧
  (∀av0 v0,iB P T S pl St av0 v0→iB P T S' wD dD av0 v0)∧(∀b,nW wD dD b→nW pl St b∨w.heap.size≤b)
theorem bB.same {av:AV} {v:Value} (hs:mW P T S pl St w) (h:iB P T S pl St av v):bB P T S pl St w St av v w:=
 ⟨S,pl,hs,.refl _ _ _,h,fun _ _ h=>h,fun _ h=> .inl h⟩
def cE (P:Program) (o:Oper) (a:Act) (w:World) (R:Value→World→Prop):Prop:=
 ∀(next:Act→World→Prop) (Q:Exit→Act→World→Prop),(∀v w',R v w'→next (a.put o.dst v) w')→o.wp P a w next Q
theorem mA {o:Oper} {v:Value} {w':World} {R:Value→World→Prop} (h:(execOp a.eval o).run P w= .ok (.value v) w') (hR:R v w'):cE P o a w R:=by
 intro next Q hn
 unfold Oper.wp
 rw[h]
 exact hn v w' hR
theorem aG3 {o:Oper} {w':World} {R:Value→World→Prop} (h:(execOp a.eval o).run P w= .ok .skip w') (hR:R undef w'):cE P o a w R:=by
 intro next Q hn
 unfold Oper.wp
 rw[h]
 exact hn undef w' hR
section
variable {A:Type}
theorem aG {v:AV} {k:IntKind→Int→Option A} {r:A} (h:asI v k=some r):∃kd row,v= .d (.one (.int kd)) row∧k kd (at_ row 0).uA=some r:=by
 unfold asI at h;split at h<;>first |exact ⟨_,_,rfl,h⟩|simp at h
theorem aZV {v:AV} {k:Bool→Option A} {r:A} (h:asB v k=some r):∃row,v= .d (.one .bool) row∧k (at_ row 0).rJ=some r:=by
 unfold asB at h;split at h<;>first |exact ⟨_,rfl,h⟩|simp at h
theorem jT {v:AV} {k:List UInt8→Option A} {r:A} (h:asS v k=some r):∃row,v= .d (.one .str) row∧k (at_ row 0).qE=some r:=by
 unfold asS at h;split at h<;>first |exact ⟨_,rfl,h⟩|simp at h
theorem aXf {v:AV} {k:TypeId→C→Option A} {r:A} (h:a2a v k=some r):∃e row,v= .d (.one (.sl e)) row∧k e (at_ row 0)=some r:=by
 unfold a2a at h;split at h<;>first |exact ⟨_,_,rfl,h⟩|simp at h
theorem zM {v:AV} {k:L→Row→Option A} {r:A} (h:asD v k=some r):∃l row,v= .d l row∧k l row=some r:=by
 unfold asD at h;split at h<;>first |exact ⟨_,_,rfl,h⟩|simp at h
theorem lA {b:Bool} {k:Option A} {r:A} (h:check b k=some r):b=true∧k=some r:=by
 unfold check at h;split at h<;>first |exact ⟨rfl,h⟩|simp at h
theorem jD {c:Prop} [Decidable c] {k:Option A} {r:A} (h:(if c then k else none)=some r):c∧k=some r:=by
 split at h<;>first |exact ⟨‹_›,h⟩|simp at h
end
theorem iB.aBR {l:L} {row:Row} {v:Value} (h:iB P T S pl St (.d l row) v):cF P T S l v row:=by cases h;assumption
theorem iB.of_int {k:IntKind} {row:Row} {v:Value} (h:iB P T S pl St (.d (.one (.int k)) row) v):v= .int k (at_ row 0).uA:=by
 obtain ⟨c,rfl,hr⟩:=h.aBR;cases hr;rfl
theorem iB.of_bool {row:Row} {v:Value} (h:iB P T S pl St (.d (.one .bool) row) v):v= .bool (at_ row 0).rJ:=by
 obtain ⟨c,rfl,hr⟩:=h.aBR;cases hr;rfl
theorem iB.aFm {row:Row} {v:Value} (h:iB P T S pl St (.d (.one .str) row) v):∃b:ByteArray,v= .string b∧b.data.toList=(at_ row 0).qE:=by
 obtain ⟨c,rfl,hr⟩:=h.aBR;cases hr;exact ⟨_,rfl,rfl⟩
theorem aNa (k:IntKind) (n:Int):iB P T S pl St (vI k n) (.int k n):= .d ⟨_,rfl,.int⟩
theorem aWb (b:Bool):iB P T S pl St (vB b) (.bool b):= .d ⟨_,rfl,.bool⟩
theorem bDa (b:ByteArray):iB P T S pl St (vS b.data.toList) (.string b):= .d ⟨_,rfl,.str⟩
theorem bsize (b:ByteArray):b.data.toList.length=b.size:=Array.length_toList
abbrev cB:AV→Option Obj→Option (AV×Option Obj):=fun v o=>some (v,o)
section
variable {o:Oper} {x y c:Operand} {ax ay ac:rD}
variable (hs:mW P T S pl St w) (hF:wX P T S pl St F a.tmps)
include hs hF
theorem bAL (ho:o.op= .move x∨o.op= .assign x) (hx:oA P T x ax=true):cE P o a w (bB P T S pl St w St (ax.ev F)):=by
 refine mA (v:=a.eval x) (w':=w) ?_ (.same hs (sC hs hx hF))
 rcases ho with h |h<;>simp[execOp,h]
theorem bDb {x y:Operand} {av:AV} {no:Option Obj} (ho:o.op= .pick c x y) (hc:oA P T c ac=true) (hx:oA P T x ax=true) (hy:oA P T y ay=true)
 (h:(asB (ac.uM F St) fun t=>if t=true then cB (ax.ev F) none else cB (ay.ev F) none)=some (av,no)):no=none∧cE P o a w (bB P T S pl St w St av):=by
 obtain ⟨row,e,hA⟩:=aZV h;clear h;have h:=hA;clear hA
 have hv0:=qA hs hc hF;rw[e]at hv0
 have hv:=hv0.of_bool
 split at h<;>rename_i ht<;>simp only[cB,Option.some.injEq,Prod.mk.injEq]at h<;>obtain ⟨rfl,rfl⟩:=h
 ·refine ⟨rfl,mA (v:=a.eval x) (w':=w) ?_ (.same hs (sC hs hx hF))⟩
  simp[execOp,ho,hv,ht,asBool]
 ·refine ⟨rfl,mA (v:=a.eval y) (w':=w) ?_ (.same hs (sC hs hy hF))⟩
  simp[execOp,ho,hv,ht,asBool]
theorem a9y {op:BinOp} {t u:TypeId} {av:AV} {no:Option Obj} (ho:o.op= .binOp op t x y u) (hx:oA P T x ax=true) (hy:oA P T y ay=true)
 (h:(asI (ax.uM F St) fun kd m=>asI (ay.uM F St) fun kd' n=>check (Nat.beq (IntKind.tag kd) (IntKind.tag kd')) (arith op kd m n fun n=>cB (vI kd n) none))=some (av,no)):
 no=none∧cE P o a w (bB P T S pl St w St av):=by
 obtain ⟨k,r1,e1,hA⟩:=aG h;clear h
 obtain ⟨k',r2,e2,hB⟩:=aG hA;clear hA
 obtain ⟨hk,h⟩:=lA hB;clear hB
 obtain rfl:=aF4 hk
 have g1:=qA hs hx hF;rw[e1]at g1;have h1:=g1.of_int
 have g2:=qA hs hy hF;rw[e2]at g2;have h2:=g2.of_int
 clear g1 g2 e1 e2 hk
 generalize (at_ r1 0).uA=m at*
 generalize (at_ r2 0).uA=n at*
 unfold arith at h
 split at h<;>first
  |(simp at h;done)
  |(simp only[cB,Option.some.injEq,Prod.mk.injEq]at h
    obtain ⟨rfl,rfl⟩:=h
    refine ⟨rfl,mA (w':=w) ?_ (.same hs (aNa _ _))⟩
    simp[execOp,ho,h1,h2,eqGuard,binOp,Op.intArith,Op.intBits,bitsOf])
theorem bDc {op:BinOp} {t u:TypeId} {av:AV} {no:Option Obj} (ho:o.op= .binOp op t x y u) (hx:oA P T x ax=true) (hy:oA P T y ay=true)
 (h:(asI (ax.uM F St) fun kd m=>asI (ay.uM F St) fun kd' n=>check (Nat.beq (IntKind.tag kd) (IntKind.tag kd')) (aXb op m n fun b=>cB (vB b) none))=some (av,no)):
 no=none∧cE P o a w (bB P T S pl St w St av):=by
 obtain ⟨k,r1,e1,hA⟩:=aG h;clear h
 obtain ⟨k',r2,e2,hB⟩:=aG hA;clear hA
 obtain ⟨hk,h⟩:=lA hB;clear hB
 obtain rfl:=aF4 hk
 have g1:=qA hs hx hF;rw[e1]at g1;have h1:=g1.of_int
 have g2:=qA hs hy hF;rw[e2]at g2;have h2:=g2.of_int
 clear g1 g2 e1 e2 hk
 generalize (at_ r1 0).uA=m at*
 generalize (at_ r2 0).uA=n at*
 unfold aXb at h
 split at h<;>first
  |(simp at h;done)
  |(simp only[cB,Option.some.injEq,Prod.mk.injEq]at h
    obtain ⟨rfl,rfl⟩:=h
    refine ⟨rfl,mA (w':=w) ?_ (.same hs (aWb _))⟩
    simp[execOp,ho,h1,h2,eqGuard,binOp,Op.intCmp])
theorem bDd {op:BinOp} {t u:TypeId} {av:AV} {no:Option Obj} (ho:o.op= .binOp op t x y u) (hx:oA P T x ax=true) (hy:oA P T y ay=true)
 (h:(asI (ax.uM F St) fun kd m=>asI (ay.uM F St) fun kd' n=>check (Nat.beq (IntKind.tag kd) (IntKind.tag kd')) (if n=0 then none else match op with
   | .quo=>cB (vI kd (kd.wrap (m.tdiv n))) none
   | .rem=>cB (vI kd (m.tmod n)) none
   |_=>none))=some (av,no)):no=none∧cE P o a w (bB P T S pl St w St av):=by
 obtain ⟨k,r1,e1,hA⟩:=aG h;clear h
 obtain ⟨k',r2,e2,hB⟩:=aG hA;clear hA
 obtain ⟨hk,h⟩:=lA hB;clear hB
 obtain rfl:=aF4 hk
 have g1:=qA hs hx hF;rw[e1]at g1;have h1:=g1.of_int
 have g2:=qA hs hy hF;rw[e2]at g2;have h2:=g2.of_int
 clear g1 g2 e1 e2 hk
 generalize (at_ r1 0).uA=m at*
 generalize (at_ r2 0).uA=n at*
 by_cases hn:n=0
 ·simp[hn]at h
 ·rw[if_neg hn]at h
  split at h<;>first
   |(simp at h;done)
   |(simp only[cB,Option.some.injEq,Prod.mk.injEq]at h
     obtain ⟨rfl,rfl⟩:=h
     refine ⟨rfl,mA (w':=w) ?_ (.same hs (aNa _ _))⟩
     simp[execOp,ho,h1,h2,eqGuard,binOp,Op.intDiv,hn])
theorem bFL {op:BinOp} {t u:TypeId} {av:AV} {no:Option Obj} (ho:o.op= .binOp op t x y u) (hx:oA P T x ax=true) (hy:oA P T y ay=true)
 (h:(asI (ax.uM F St) fun kd m=>asI (ay.uM F St) fun _ n=>if n<0 then none else match op with
   | .shl=>cB (vI kd (kd.wrap (m*2^(min n.toNat kd.bits)))) none
   | .shr=>cB (vI kd (m.fdiv (2^(min n.toNat kd.bits)))) none
   |_=>none)=some (av,no)):no=none∧cE P o a w (bB P T S pl St w St av):=by
 obtain ⟨k,r1,e1,hA⟩:=aG h;clear h
 obtain ⟨k',r2,e2,h⟩:=aG hA;clear hA
 have g1:=qA hs hx hF;rw[e1]at g1;have h1:=g1.of_int
 have g2:=qA hs hy hF;rw[e2]at g2;have h2:=g2.of_int
 clear g1 g2 e1 e2
 generalize (at_ r1 0).uA=m at*
 generalize (at_ r2 0).uA=n at*
 by_cases hn:n<0
 ·simp[hn]at h
 ·rw[if_neg hn]at h
  split at h<;>first
   |(simp at h;done)
   |(simp only[cB,Option.some.injEq,Prod.mk.injEq]at h
     obtain ⟨rfl,rfl⟩:=h
     refine ⟨rfl,mA (w':=w) ?_ (.same hs (aNa _ _))⟩
     simp[execOp,ho,h1,h2,eqGuard,binOp,Op.shift,hn])
theorem bDe {t u:TypeId} {av:AV} {no:Option Obj} (ho:o.op= .binOp .add t x y u) (hx:oA P T x ax=true) (hy:oA P T y ay=true)
 (h:(asS (ax.uM F St) fun m=>asS (ay.uM F St) fun n=>if m.length+n.length≤1099511627776 then cB (vS (m++n)) none else none)=some (av,no)):
 no=none∧cE P o a w (bB P T S pl St w St av):=by
 obtain ⟨r1,e1,hA⟩:=jT h;clear h
 obtain ⟨r2,e2,hB⟩:=jT hA;clear hA
 obtain ⟨hl,h⟩:=jD hB;clear hB
 have g1:=qA hs hx hF;rw[e1]at g1;obtain ⟨b1,h1,q1⟩:=g1.aFm
 have g2:=qA hs hy hF;rw[e2]at g2;obtain ⟨b2,h2,q2⟩:=g2.aFm
 rw[←q1,←q2]at h hl
 simp only[cB,Option.some.injEq,Prod.mk.injEq]at h
 obtain ⟨rfl,rfl⟩:=h
 have hsz:b1.size+b2.size≤1099511627776:=by
  rw[bsize,bsize]at hl;exact hl
 refine ⟨rfl,mA (v:= .string (b1++b2)) (w':=w) ?_ (.same hs ?_)⟩
 ·have hn:¬(((b1.size+b2.size:Nat):Int)>IntKind.i64.max):=by simp[IntKind.max,IntKind.signed,IntKind.bits];omega
  simp only[execOp,ho,h1,h2,eqGuard,binOp,Op.stringOp]
  rw[if_neg hn]
  simp
 ·have:(b1++b2).data.toList=b1.data.toList++b2.data.toList:=by simp
  rw[←this];exact bDa _
theorem bDf {op:BinOp} {t u:TypeId} {av:AV} {no:Option Obj} (ho:o.op= .binOp op t x y u) (hx:oA P T x ax=true) (hy:oA P T y ay=true)
 (h:(asS (ax.uM F St) fun m=>asS (ay.uM F St) fun n=>aXc op m n fun b=>cB (vB b) none)=some (av,no)):
 no=none∧cE P o a w (bB P T S pl St w St av):=by
 obtain ⟨r1,e1,hA⟩:=jT h;clear h
 obtain ⟨r2,e2,h⟩:=jT hA;clear hA
 have g1:=qA hs hx hF;rw[e1]at g1;obtain ⟨b1,h1,q1⟩:=g1.aFm
 have g2:=qA hs hy hF;rw[e2]at g2;obtain ⟨b2,h2,q2⟩:=g2.aFm
 rw[←q1,←q2]at h
 unfold aXc at h
 split at h<;>first
  |(simp at h;done)
  |(simp only[cB,Option.some.injEq,Prod.mk.injEq]at h
    obtain ⟨rfl,rfl⟩:=h
    refine ⟨rfl,mA (w':=w) ?_ (.same hs (aWb _))⟩
    simp[execOp,ho,h1,h2,eqGuard,binOp,Op.stringOp,ByteArray.toList_eq])
theorem bFM {t:TypeId} {av:AV} {no:Option Obj} (ho:o.op= .unOp .not t x) (hx:oA P T x ax=true)
 (h:(asB (ax.uM F St) fun m=>cB (vB (!m)) none)=some (av,no)):no=none∧cE P o a w (bB P T S pl St w St av):=by
 obtain ⟨r1,e1,hA⟩:=aZV h;clear h
 have g1:=qA hs hx hF;rw[e1]at g1;have h1:=g1.of_bool
 simp only[cB,Option.some.injEq,Prod.mk.injEq]at hA
 obtain ⟨rfl,rfl⟩:=hA
 refine ⟨rfl,mA (w':=w) ?_ (.same hs (aWb _))⟩
 simp[execOp,ho,h1,Op.unary]
theorem bDg {t:TypeId} {av:AV} {no:Option Obj} (ho:o.op= .unOp .xor t x) (hx:oA P T x ax=true)
 (h:(asI (ax.uM F St) fun kd m=>cB (vI kd (bitsOf .xor kd (if kd.signed then -1 else kd.max) m)) none)=some (av,no)):no=none∧cE P o a w (bB P T S pl St w St av):=by
 obtain ⟨k,r1,e1,hA⟩:=aG h;clear h
 have g1:=qA hs hx hF;rw[e1]at g1;have h1:=g1.of_int
 simp only[cB,Option.some.injEq,Prod.mk.injEq]at hA
 obtain ⟨rfl,rfl⟩:=hA
 refine ⟨rfl,mA (w':=w) ?_ (.same hs (aNa _ _))⟩
 simp[execOp,ho,h1,Op.unary,Op.intBits,bitsOf]
theorem bFN {s t:TypeId} {k:IntKind} {av:AV} {no:Option Obj} (ho:o.op= .convert s t x) (ht:P.underlying t=some (.int k)) (hsu:(P.underlying s).isSome=true) (hx:oA P T x ax=true)
 (h:(asI (ax.uM F St) fun _ m=>cB (vI k (k.wrap m)) none)=some (av,no)):no=none∧cE P o a w (bB P T S pl St w St av):=by
 obtain ⟨k',r1,e1,hA⟩:=aG h;clear h
 have g1:=qA hs hx hF;rw[e1]at g1;have h1:=g1.of_int
 simp only[cB,Option.some.injEq,Prod.mk.injEq]at hA
 obtain ⟨rfl,rfl⟩:=hA
 refine ⟨rfl,mA (w':=w) ?_ (.same hs (aNa _ _))⟩
 obtain ⟨d,hd⟩:=Option.isSome_iff_exists.1 hsu
 simp[execOp,ho,h1,convert,run_underlying ht,run_underlying hd,Conv.intToInt]
theorem bDh {t ty:TypeId} {av:AV} {no:Option Obj} (ho:o.op= .call {callee:= .builtin .len,args:=#[x],argTypes:=#[t]}) (ht:P.underlying t=some .string) (hx:oA P T x ax=true)
 (h:(asS (ax.uM F St) fun s=>cB (vI .i64 s.length) none)=some (av,no)):no=none∧cE P o a w (bB P T S pl St w St av):=by
 obtain ⟨r1,e1,hA⟩:=jT h;clear h
 have g1:=qA hs hx hF;rw[e1]at g1;obtain ⟨b1,h1,q1⟩:=g1.aFm
 rw[←q1,bsize]at hA
 simp only[cB,Option.some.injEq,Prod.mk.injEq]at hA
 obtain ⟨rfl,rfl⟩:=hA
 refine ⟨rfl,mA (w':=w) ?_ (.same hs (aNa _ _))⟩
 simp[execOp,ho,h1,resolve,invoke,builtin,Builtin.len_,run_underlying ht,goInt]
end
end Go.Ev
namespace Go.Ev
variable {P:Program} {T:Nat→yF} {S S':yA} {pl wD:Pl} {St dD:Ev.St} {F:Fr} {a:Act} {w w':World}
def kD (pl:Pl) (St:Ev.St) (wD:Pl) (dD:Ev.St):Prop:=
 ∀id o,St[id]? =some o→o≠ .fresh→∃o',dD[id]? =some o'∧o'≠ .fresh∧
  (∀l row,o'= .var l row→(∃l0 r0,o= .var l0 r0)∧wD.blk id=pl.blk id)∧
  (∀c vs,o'= .cells c vs→(∃c0 v0,o= .cells c0 v0)∧wD.blk id=pl.blk id)∧
  (∀v l c,o'= .arr v l c→∃v0 c0,o= .arr v0 l c0∧v0≤v∧(v0=v→wD.blk id=pl.blk id∧wD.cap id=pl.cap id∧(c= .bA→c0= .bA)∧
    ∀rows,c= .sl rows→∃cH,c0= .sl cH∧cH.length=rows.length))∧
  (∀v e l c,o'= .zA v e l c→∃v0 c0,o= .zA v0 e l c0∧v0≤v∧(v0=v→wD.blk id=pl.blk id∧wD.cap id=pl.cap id∧(c= .bA→c0= .bA)∧
    ∀rows,c= .sl rows→∃cH,c0= .sl cH∧cH.length=rows.length))∧
  (∀kl vl es,o'= .map kl vl es→(∃kl0 vl0 es0,o= .map kl0 vl0 es0)∧wD.blk id=pl.blk id)∧
  (∀l c i av,o'= .vE l c i av→∃c0 i0 av0,o= .vE l c0 i0 av0∧(c= .bA→c0= .bA)∧∀rows,c= .sl rows→∃cH,c0= .sl cH∧cH.length=rows.length∧wD.blk id=pl.blk id∧wD.cap id=pl.cap id)
theorem kD.same {id:Nat} {o:Obj} (hb:wD.blk id=pl.blk id) (hc:wD.cap id=pl.cap id):
 (∀l row,o= .var l row→(∃l0 r0,o= .var l0 r0)∧wD.blk id=pl.blk id)∧
 (∀c vs,o= .cells c vs→(∃c0 v0,o= .cells c0 v0)∧wD.blk id=pl.blk id)∧
 (∀v l c,o= .arr v l c→∃v0 c0,o= .arr v0 l c0∧v0≤v∧(v0=v→wD.blk id=pl.blk id∧wD.cap id=pl.cap id∧(c= .bA→c0= .bA)∧
   ∀rows,c= .sl rows→∃cH,c0= .sl cH∧cH.length=rows.length))∧
 (∀v e l c,o= .zA v e l c→∃v0 c0,o= .zA v0 e l c0∧v0≤v∧(v0=v→wD.blk id=pl.blk id∧wD.cap id=pl.cap id∧(c= .bA→c0= .bA)∧
   ∀rows,c= .sl rows→∃cH,c0= .sl cH∧cH.length=rows.length))∧
 (∀kl vl es,o= .map kl vl es→(∃kl0 vl0 es0,o= .map kl0 vl0 es0)∧wD.blk id=pl.blk id)∧
 (∀l c i av,o= .vE l c i av→∃c0 i0 av0,o= .vE l c0 i0 av0∧(c= .bA→c0= .bA)∧∀rows,c= .sl rows→∃cH,c0= .sl cH∧cH.length=rows.length∧wD.blk id=pl.blk id∧wD.cap id=pl.cap id):=
 ⟨fun l r h=>⟨⟨l,r,h⟩,hb⟩,fun c vs h=>⟨⟨c,vs,h⟩,hb⟩,
  fun v l c h=>⟨v,c,h,Nat.le_refl _,fun _=>⟨hb,hc,fun h=>h,fun rows h=>⟨rows,h,rfl⟩⟩⟩,
  fun v e l c h=>⟨v,c,h,Nat.le_refl _,fun _=>⟨hb,hc,fun h=>h,fun rows h=>⟨rows,h,rfl⟩⟩⟩,fun a b c h=>⟨⟨a,b,c,h⟩,hb⟩,fun l c i av h=>⟨c,i,av,h,fun h=>h,fun rows h=>⟨rows,h,rfl,hb,hc⟩⟩⟩
theorem kD.refl (pl:Pl) (St:Ev.St):kD pl St pl St:=fun id o h hf=>⟨o,h,hf,kD.same rfl rfl⟩
theorem iB.keep (hk:kD pl St wD dD) (hS:S.le S') {av:AV} {v:Value} (h:iB P T S pl St av v):iB P T S' wD dD av v:=by
 induction h with
 |undef=>exact .undef
 |und=>exact .und
 |d h=>exact .d (h.mono hS)
 |ptr h0 h1 h2 h3 h4=>
  obtain ⟨o',g1,g2,k1,k2,k3,k5,k4⟩:=hk _ _ h1 h2
  refine .ptr h0 g1 g2 (fun l row e=> ?_) (fun c vs e=> ?_)
  ·obtain ⟨⟨l0,r0,e0⟩,hb⟩:=k1 l row e;rw[hb];exact h3 _ _ e0
  ·obtain ⟨⟨l0,r0,e0⟩,hb⟩:=k2 c vs e;rw[hb];exact h4 _ _ e0
 |zL h0 h1 h2 hv h3=>
  obtain ⟨o',g1,g2,k1,k2,k3,k5,k4⟩:=hk _ _ h1 h2
  refine .zL h0 g1 g2 (fun v l c e=> ?_) (fun l c e=> ?_)
  ·obtain ⟨v0,c0,e0,hle,_⟩:=k3 v l c e;exact Nat.le_trans (hv _ _ _ e0) hle
  ·obtain ⟨v0,c0,e0,hle,hr⟩:=k3 _ l c e
   have:=hv _ _ _ e0
   obtain rfl:v0=_:=Nat.le_antisymm hle this
   rw[(hr rfl).1];exact h3 _ _ e0
 |whole h0 h1 h2 hv h3 h4=>
  obtain ⟨o',g1,g2,k1,k2,k3,k5,k4⟩:=hk _ _ h1 h2
  refine .whole h0 g1 g2 (fun v l c e=> ?_) (fun l e=> ?_) (fun l rows e=> ?_)
  ·obtain ⟨v0,c0,e0,hle,_⟩:=k3 v l c e;exact Nat.le_trans (hv _ _ _ e0) hle
  ·obtain ⟨v0,c0,e0,hle,hr⟩:=k3 _ l _ e
   have:=hv _ _ _ e0
   obtain rfl:v0=_:=Nat.le_antisymm hle this
   obtain ⟨_,_,q,_⟩:=hr rfl
   exact h3 l (by rw[e0,q rfl])
  ·obtain ⟨v0,c0,e0,hle,hr⟩:=k3 _ l _ e
   have:=hv _ _ _ e0
   obtain rfl:v0=_:=Nat.le_antisymm hle this
   obtain ⟨q1,q2,_,q⟩:=hr rfl
   obtain ⟨cH,e1,e2⟩:=q rows rfl
   rw[q1,q2,←e2];exact h4 l cH (by rw[e0,e1])
 |own h0 h1 h2 hv h3 h4=>
  obtain ⟨o',g1,g2,k1,k2,k3,k5,k4⟩:=hk _ _ h1 h2
  refine .own h0 g1 g2 (fun v l c e=> ?_) (fun l rows e=> ?_) (fun l e=> ?_)
  ·obtain ⟨v0,c0,e0,hle,_⟩:=k3 v l c e;exact Nat.le_trans (hv _ _ _ e0) hle
  ·obtain ⟨v0,c0,e0,hle,hr⟩:=k3 _ l _ e
   have:=hv _ _ _ e0
   obtain rfl:v0=_:=Nat.le_antisymm hle this
   obtain ⟨q1,q2,_,q⟩:=hr rfl
   obtain ⟨cH,e1,e2⟩:=q rows rfl
   rw[q1,q2,←e2];exact h3 l cH (by rw[e0,e1])
  ·obtain ⟨v0,c0,e0,hle,hr⟩:=k3 _ l _ e
   have:=hv _ _ _ e0
   obtain rfl:v0=_:=Nat.le_antisymm hle this
   obtain ⟨_,_,q,_⟩:=hr rfl
   exact h4 l (by rw[e0,q rfl])
 |fn vs _ ih=>exact .fn vs ih
 |tup vs _ ih=>exact .tup vs ih
 |map h0 h1 h2 h3=>
  obtain ⟨o',g1,g2,k1,k2,k3,k5,k4⟩:=hk _ _ h1 h2
  refine .map h0 g1 g2 (fun kl vl es e=> ?_)
  obtain ⟨⟨a,b,c,e0⟩,hb⟩:=k4.1 kl vl es e;rw[hb];exact h3 _ _ _ e0
 |vE h0 h1 h2 h3 h4=>
  obtain ⟨o',g1,g2,k1,k2,k3,k5,k4⟩:=hk _ _ h1 h2
  refine .vE h0 g1 g2 (fun l i av e=> ?_) (fun l rows i av e=> ?_)
  ·obtain ⟨a,b,c,e0,en,_⟩:=k4.2 l _ i av e;obtain rfl:=en rfl;exact h3 _ _ _ e0
  ·obtain ⟨a,b,c,e0,_,en⟩:=k4.2 l _ i av e
   obtain ⟨cH,rfl,e2,hb,hc⟩:=en rows rfl
   rw[hb,hc,←e2];exact h4 _ _ _ _ e0
 |aKU h0 h1 h2 h3=>
  obtain ⟨o',g1,g2,k1,k2,k3,k5,k4⟩:=hk _ _ h1 h2
  refine .aKU h0 g1 g2 (fun l rows i av e=> ?_)
  obtain ⟨a,b,c,e0,_,en⟩:=k4.2 l _ i av e
  obtain ⟨cH,rfl,e2,hb,hc⟩:=en rows rfl
  rw[hb];exact h3 _ _ _ _ e0
 |agg vs h0 _ ih=>exact .agg vs h0 ih
 |sw h0 h1 h2 hv h3 h4=>
  obtain ⟨o',g1,g2,k1,k2,k3,k5,k4⟩:=hk _ _ h1 h2
  refine .sw h0 g1 g2 (fun v e l c e1=> ?_) (fun e l e1=> ?_) (fun e l rows e1=> ?_)
  ·obtain ⟨v0,c0,e0,hle,_⟩:=k5 v e l c e1;exact Nat.le_trans (hv _ _ _ _ e0) hle
  ·obtain ⟨v0,c0,e0,hle,hr⟩:=k5 _ e l _ e1
   have:=hv _ _ _ _ e0
   obtain rfl:v0=_:=Nat.le_antisymm hle this
   obtain ⟨_,_,q,_⟩:=hr rfl
   exact h3 e l (by rw[e0,q rfl])
  ·obtain ⟨v0,c0,e0,hle,hr⟩:=k5 _ e l _ e1
   have:=hv _ _ _ _ e0
   obtain rfl:v0=_:=Nat.le_antisymm hle this
   obtain ⟨q1,q2,_,q⟩:=hr rfl
   obtain ⟨cH,e3,e2⟩:=q rows rfl
   rw[q1,q2,←e2];exact h4 e l cH (by rw[e0,e3])
theorem n9.a4R (hk:kD pl St wD dD) (hS:S.le S') {id v:Nat} {e:TypeId} {l:L} {c:C} (hb:wD.blk id=pl.blk id) (hc:wD.cap id=pl.cap id)
 (hw:(Obj.zA v e l c).has=true→w'.heap[pl.blk id]? =w.heap[pl.blk id]?) (h:n9 P T S pl St w id (.zA v e l c)):n9 P T S' wD dD w' id (.zA v e l c):=by
 rcases h with h |⟨rows,cur,e',i,hcr,h1,h2,h3,h4,h5,h6,h7,h8,h9⟩
 ·exact .inl h
 ·subst hcr
  exact .inr ⟨rows,cur,e',i,rfl,by rw[hb,hw rfl];exact h1,h2,h3,h4,by rw[hc];exact h5,by rw[hc];exact h6,by rw[hc];exact h7,fun i r hr=>(h8 i r hr).mono hS,fun p hp=>by rw[hb];exact hS _ _ _ (h9 p hp)⟩
theorem n9.keep (hk:kD pl St wD dD) (hS:S.le S') {id:Nat} {o:Obj} (hb:wD.blk id=pl.blk id) (hc:wD.cap id=pl.cap id)
 (hw:o.has=true→w'.heap[pl.blk id]? =w.heap[pl.blk id]?) (h:n9 P T S pl St w id o):n9 P T S' wD dD w' id o:=by
 cases o with
 |fresh=>trivial
 |dead=>trivial
 |var l row=>
  obtain ⟨cur,e,h1,h2⟩:=h
  exact ⟨cur,e,by rw[hb,hw rfl];exact h1,h2.mono hS⟩
 |cells c vs=>
  obtain ⟨cur,e,h1,h2,h3,h4⟩:=h
  exact ⟨cur,e,by rw[hb,hw rfl];exact h1,h2,fun i av hi=>(h3 i av hi).keep hk hS,h4⟩
 |arr v l c=>
  rcases h with h |⟨rows,cur,e,i,hcr,h1,h2,h3,h4,h5,h6,h7,h8⟩
  ·exact .inl h
  ·subst hcr
   exact .inr ⟨rows,cur,e,i,rfl,by rw[hb,hw rfl];exact h1,h2,h3,h4,by rw[hc];exact h5,by rw[hc];exact h6,by rw[hc];exact h7,fun i r hr=>(h8 i r hr).mono hS⟩
 |zA v e l c=>exact h.a4R hk hS hb hc hw
 |map kl vl es=>
  obtain ⟨oW,clock,h1,h2,h3⟩:=h
  exact ⟨oW,clock,by rw[hb,hw rfl];exact h1,h2,fun i k v hi=>let ⟨en,a,b,c⟩:=h3 i k v hi;⟨en,a,b.mono hS,c.mono hS⟩⟩
 |vE l c i av=>
  rcases h with h |⟨rows,cur,e,inf,hcr,h1,h2,h3,h4,h5,h6,h7,h8,h9⟩
  ·exact .inl h
  ·subst hcr
   exact .inr ⟨rows,cur,e,inf,rfl,by rw[hb,hw rfl];exact h1,h2,h3,h4,by rw[hc];exact h5,by rw[hc];exact h6,by rw[hc];exact h7,fun j r hj hr=>(h8 j r hj hr).mono hS,fun hi=>⟨(h9 hi).1,(h9 hi).2.1.keep hk hS,(h9 hi).2.2⟩⟩
theorem mW.upd {i:Nat} {o':Obj} (hs:mW P T S pl St w) (hi:i<St.length) (hk:kD pl St wD (St.set i o')) (hS:S.le S')
 (hpl:∀j,j≠i→wD.blk j=pl.blk j∧wD.cap j=pl.cap j)
 (aWc:∀j o,j≠i→St[j]? =some o→o.has=true→w'.heap[pl.blk j]? =w.heap[pl.blk j]?)
 (a6p:∀b o v,S' b o=some v→w'.cell? ⟨b,o,none⟩=some v)
 (aOu:n9 P T S' wD (St.set i o') w' i o')
 (hap:o'.has=true→∀off,o'.sn≤off→S' (wD.blk i) off=none)
 (bIK:∀j o,j≠i→St[j]? =some o→o.has=true→∀off,o.sn≤off→S' (pl.blk j) off=none)
 (hinj:o'.has=true→∀j o,j≠i→St[j]? =some o→o.has=true→pl.blk j≠wD.blk i)
 (hgl:∀g,g<w.heap.size→(∀j o,St[j]? =some o→o.has=true→pl.blk j≠g)→w'.heap[g]? =w.heap[g]? ∧(o'.has=true→wD.blk i≠g)):mW P T S' wD (St.set i o') w':=by
 have get:∀j o,(St.set i o')[j]? =some o→(j=i∧o=o')∨(j≠i∧St[j]? =some o):=by
  intro j o h
  by_cases hj:j=i
  ·subst hj;simp[hi]at h;exact .inl ⟨rfl,h.symm⟩
  ·rw[List.getElem?_set_ne (Ne.symm hj)]at h;exact .inr ⟨hj,h⟩
 refine ⟨a6p,fun j o h=> ?_,fun j o h ho=> ?_,fun j k o o2 h1 h2 ho ho2 hb=> ?_, ?_,fun g t l row e=> ?_⟩
 ·rcases get j o h with ⟨rfl,rfl⟩|⟨hj,h⟩
  ·exact aOu
  ·exact (hs.objs j o h).keep hk hS (hpl j hj).1 (hpl j hj).2 (aWc j o hj h)
 ·rcases get j o h with ⟨rfl,rfl⟩|⟨hj,h⟩
  ·exact hap ho
  ·rw[(hpl j hj).1];exact bIK j o hj h ho
 ·rcases get j o h1 with ⟨rfl,rfl⟩|⟨hj,h1⟩
  ·rcases get k o2 h2 with ⟨rfl,rfl⟩|⟨hk2,h2⟩
   ·rfl
   ·rw[(hpl k hk2).1]at hb;exact absurd hb.symm (hinj ho k o2 hk2 h2 ho2)
  ·rcases get k o2 h2 with ⟨rfl,rfl⟩|⟨hk2,h2⟩
   ·rw[(hpl j hj).1]at hb;exact absurd hb (hinj ho2 j o hj (by assumption) ho)
   ·rw[(hpl j hj).1,(hpl k hk2).1]at hb;exact hs.inj j k o o2 h1 h2 ho ho2 hb
 ·exact hs.fR.mono hS
 ·obtain ⟨⟨cs,e1,z,g1,g2⟩,g3⟩:=hs.glo g t l row e
  have hlt:g<w.heap.size:=(Array.getElem?_eq_some_iff.1 g1).1
  obtain ⟨q1,q2⟩:=hgl g hlt g3
  refine ⟨⟨cs,e1,z,q1.trans g1,g2⟩,fun j o h ho=> ?_⟩
  rcases get j o h with ⟨rfl,rfl⟩|⟨hj,h⟩
  ·exact q2 ho
  ·rw[(hpl j hj).1];exact g3 j o h ho
theorem mW.frame (hs:mW P T S pl St w) (hS:S.le S')
 (aWc:∀j o,St[j]? =some o→o.has=true→w'.heap[pl.blk j]? =w.heap[pl.blk j]?)
 (a6p:∀b o v,S' b o=some v→w'.cell? ⟨b,o,none⟩=some v)
 (hap:∀j o,St[j]? =some o→o.has=true→∀off,o.sn≤off→S' (pl.blk j) off=none)
 (hgl:∀g,g<w.heap.size→(∀j o,St[j]? =some o→o.has=true→pl.blk j≠g)→w'.heap[g]? =w.heap[g]?):mW P T S' pl St w':=
 ⟨a6p,fun j o h=>(hs.objs j o h).keep (.refl _ _) hS rfl rfl (aWc j o h),hap,hs.inj,hs.fR.mono hS,fun g t l row e=>by
   obtain ⟨⟨cs,e1,z,g1,g2⟩,g3⟩:=hs.glo g t l row e
   exact ⟨⟨cs,e1,z,(hgl g (Array.getElem?_eq_some_iff.1 g1).1 g3).trans g1,g2⟩,g3⟩⟩
theorem kD.fresh {i:Nat} {o':Obj} (hi:St[i]? =some .fresh) (hpl:∀j,j≠i→wD.blk j=pl.blk j∧wD.cap j=pl.cap j):kD pl St wD (St.set i o'):=by
 intro id o h hf
 have hne:id≠i:=fun e=>by subst e;rw[hi]at h;exact hf (Option.some.inj h).symm
 exact ⟨o,by rw[List.getElem?_set_ne (Ne.symm hne)];exact h,hf,kD.same (hpl id hne).1 (hpl id hne).2⟩
def Pl.at (pl:Pl) (i b c:Nat):Pl:=⟨fun j=>if j=i then b else pl.blk j,fun j=>if j=i then c else pl.cap j⟩
theorem Pl.qZ (pl:Pl) (i b c j:Nat) (h:j≠i):(pl.at i b c).blk j=pl.blk j∧(pl.at i b c).cap j=pl.cap j:=by simp[Pl.at,h]
theorem Pl.lD (pl:Pl) (i b c:Nat):(pl.at i b c).blk i=b:=by simp[Pl.at]
theorem Pl.bG (pl:Pl) (i b c:Nat):(pl.at i b c).cap i=c:=by simp[Pl.at]
theorem mW.aAZ (hs:mW P T S pl St w) {j:Nat} {o:Obj} (h:St[j]? =some o) (ho:o.has=true):pl.blk j<w.heap.size:=by
 have:=hs.objs j o h
 cases o with
 |fresh=>simp[Obj.has]at ho
 |dead=>simp[Obj.has]at ho
 |var l row=>obtain ⟨cur,e,h1,_⟩:=this;exact (Array.getElem?_eq_some_iff.1 h1).1
 |cells c vs=>obtain ⟨cur,e,h1,_⟩:=this;exact (Array.getElem?_eq_some_iff.1 h1).1
 |arr v l c=>
  rcases this with rfl |⟨rows,cur,e,i,hcr,h1,_⟩
  ·simp[Obj.has]at ho
  ·exact (Array.getElem?_eq_some_iff.1 h1).1
 |zA v e l c=>
  rcases this with rfl |⟨rows,cur,e',i,hcr,h1,_⟩
  ·simp[Obj.has]at ho
  ·exact (Array.getElem?_eq_some_iff.1 h1).1
 |map kl vl es=>obtain ⟨oW,clock,h1,_⟩:=this;exact (Array.getElem?_eq_some_iff.1 h1).1
 |vE l c i av=>
  rcases this with rfl |⟨rows,cur,e,inf,hcr,h1,_⟩
  ·simp[Obj.has]at ho
  ·exact (Array.getElem?_eq_some_iff.1 h1).1
theorem mW.aD4 (hs:mW P T S pl St w) {b o:Nat} {v:Value} (h:S b o=some v):b<w.heap.size:=
 World.block_lt_of_cell? w ⟨b,o,none⟩ (hs.yM b o v h)
theorem aNb {i:Nat} {o':Obj} {ob:Go.Obj} {cap:Nat} {av:AV} {v:Value} (hs:mW P T S pl St w) (hi:St[i]? =some .fresh)
 (aOu:n9 P T S (pl.at i w.heap.size cap) (St.set i o') (w.alloc ob) i o')
 (hv:iB P T S (pl.at i w.heap.size cap) (St.set i o') av v):bB P T S pl St w (St.set i o') av v (w.alloc ob):=by
 have hlt:i<St.length:=(List.getElem?_eq_some_iff.1 hi).1
 have hk:kD pl St (pl.at i w.heap.size cap) (St.set i o'):= .fresh hi (pl.qZ i _ _)
 refine ⟨S,pl.at i w.heap.size cap, ?_,⟨rfl,rfl,rfl,by simp,fun b hb _=>Go.RowKit.Below.heap_alloc w ob b hb,S.le_refl,fun _ _ _ _=>rfl⟩,hv,fun _ _ h=>h.keep hk S.le_refl, ?_⟩
 ·refine hs.upd hlt hk S.le_refl (pl.qZ i _ _) (fun j o _ h ho=>Go.RowKit.Below.heap_alloc w ob _ (hs.aAZ h ho)) (fun b o v h=> ?_) aOu (fun _ off _=> ?_) (fun j o _ h ho=>hs.apart j o h ho) (fun _ j o _ h ho=> ?_) (fun g hg _=>⟨Go.RowKit.Below.heap_alloc w ob _ hg,fun _=>by rw[Pl.lD];omega⟩)
  ·rw[World.cell?_alloc_lt w ob ⟨b,o,none⟩ (show (⟨b,o,none⟩:Addr).block<w.heap.size from hs.aD4 h)];exact hs.yM _ _ _ h
  ·rw[Pl.lD]
   cases hS:S w.heap.size off with
   |none=>rfl
   |some v=>exact absurd (hs.aD4 hS) (by omega)
  ·rw[Pl.lD];have:=hs.aAZ h ho;omega
 ·rintro b ⟨id,o,h,ho,hb⟩
  by_cases hid:id=i
  ·subst hid;rw[Pl.lD]at hb;exact .inr (by omega)
  ·rw[List.getElem?_set_ne (Ne.symm hid)]at h
   rw[(pl.qZ i _ _ id hid).1]at hb
   exact .inl ⟨id,o,h,ho,hb⟩
def yA.more (S:yA) (b:Nat) (cs:List Value):yA:=fun b' o=>if b'=b then cs[o]? else S b' o
theorem yA.aT7 {b:Nat} {cs:List Value} (h:∀o,S b o=none):S.le (S.more b cs):=by
 intro x o v hv
 simp only[yA.more]
 by_cases hx:x=b
 ·subst hx;rw[h o]at hv;cases hv
 ·rw[if_neg hx];exact hv
theorem aK0 {cs:Array Value} {e:TypeId} {fr:Nat×Nat} {av:AV} {v:Value} {w':World} (hs:mW P T S pl St w)
 (hw:w'.os=w.os∧w'.tape=w.tape∧w'.output=w.output) (hold:∀k,k<w.heap.size→w'.heap[k]? =w.heap[k]?) (hsz:w'.heap.size=w.heap.size+1)
 (hnew:w'.heap[w.heap.size]? =some (.cells cs e fr)) (n:Nat)
 (hv:iB P T (S.more w.heap.size (cs.toList.take n)) pl St av v):bB P T S pl St w St av v w':=by
 have hnone:∀o,S w.heap.size o=none:=fun o=>by
  cases hS:S w.heap.size o with
  |none=>rfl
  |some v=>exact absurd (hs.aD4 hS) (by omega)
 have hle:=yA.aT7 (cs:=cs.toList.take n) hnone
 refine ⟨_,pl, ?_,⟨hw.1,hw.2.1,hw.2.2,by omega,fun b hb _=>hold b hb,hle,fun b o hb _=> ?_⟩,hv,fun _ _ h=>h.keep (.refl _ _) hle,fun _ h=> .inl h⟩
 ·refine hs.frame hle (fun j o h ho=>hold _ (hs.aAZ h ho)) (fun b o v h=> ?_) (fun j o h ho off hoff=> ?_) (fun g hg _=>hold g hg)
  ·simp only[yA.more]at h
   split at h
   ·rename_i hb;subst hb
    rw[cell_of_row w' _ _ _ _ _ hnew]
    rw[List.getElem?_take]at h
    split at h
    ·simpa using h
    ·cases h
   ·have hlt:=hs.aD4 h
    have:=hs.yM _ _ _ h
    rw[World.cell?_of_block (w:=w) (w':=w') (hold b hlt)];exact this
  ·simp only[yA.more]
   rw[if_neg (by have:=hs.aAZ h ho;omega)]
   exact hs.apart j o h ho off hoff
 ·simp only[yA.more];rw[if_neg (by omega)]
end Go.Ev
namespace Go.Ev
variable {E:Env} {P:Program} {T:Nat→yF} {S S':yA} {pl wD:Pl} {St dD:Ev.St} {F:Fr} {a:Act} {w w':World}
theorem iB.single {av:AV} {v:Value} (h:iB P T S pl St av v) (hs:av.single=true):v.oneCell'=true∧v.cells=#[v]:=by
 have key:∀v:Value,v.oneCell'=true→v.cells=#[v]:=fun v h=>by cases v<;>first |rfl |simp[Value.oneCell']at h
 cases h with
 |undef=>simp[AV.single]at hs
 |und=>simp[AV.single]at hs
 | @d l row v h=>
   cases l with
   |one k=>obtain ⟨c,rfl,hr⟩:=h;exact hr.wB
   |agg ks=>simp[AV.single]at hs
 |ptr h0=>exact ⟨h0,key _ h0⟩
 |zL h0=>exact ⟨h0,key _ h0⟩
 |whole h0=>exact ⟨h0,key _ h0⟩
 |own h0=>exact ⟨h0,key _ h0⟩
 |fn=>exact ⟨rfl,rfl⟩
 |tup=>simp[AV.single]at hs
 |map h0=>exact ⟨h0,key _ h0⟩
 |vE h0=>exact ⟨h0,key _ h0⟩
 |aKU h0=>exact ⟨h0,key _ h0⟩
 |sw h0=>exact ⟨h0,key _ h0⟩
 |agg=>simp[AV.single]at hs
theorem aNc:∀(ks:List K) (r:Row) (i:Nat),(cellsOf ks r i).length=ks.length
 |[],_,_=>rfl
 |k::ks,r,i=>by simp[cellsOf,aNc ks r (i+1)]
theorem aSE:∀(ks:List K) (r:Row) (i j:Nat),(cellsOf ks r i)[j]? =(ks[j]?).map fun k=> .d (.one k) (Ev.nrm (.one k) [at_ r (i+j)])
 |[],_,_,_=>by simp[cellsOf]
 |k::ks,r,i,0=>by simp[cellsOf]
 |k::ks,r,i,j+1=>by
  simp only[cellsOf,List.getElem?_cons_succ]
  rw[aSE ks r (i+1) j]
  simp only[Nat.add_assoc,Nat.add_comm 1 j]
theorem iB.aB0 {av:AV} {v:Value} {vs:List AV} (h:iB P T S pl St av v) (hc:Ev.aB0 av=some vs):
 v.cells.size=vs.length∧(∀i u,vs[i]? =some u→iB P T S pl St u (v.cells.getD i Go.undef))∧∀i,i<v.cells.size→(v.cells.getD i Go.undef).oneCell'=true:=by
 have one:∀av:AV,iB P T S pl St av v→av.single=true→some [av]=some vs→v.cells.size=vs.length∧(∀i u,vs[i]? =some u→iB P T S pl St u (v.cells.getD i Go.undef))∧∀i,i<v.cells.size→(v.cells.getD i Go.undef).oneCell'=true:=by
  intro av h hs e
  simp only[Option.some.injEq]at e
  subst e
  obtain ⟨h1,h2⟩:=h.single hs
  rw[h2]
  refine ⟨rfl,fun i u hi=> ?_,fun i hi=> ?_⟩
  ·cases i with
   |zero=>simp at hi;subst hi;simpa using h
   |succ i=>simp at hi
  ·cases i with
   |zero=>simpa using h1
   |succ i=>simp at hi
 cases av with
 |agg yL=>
  simp only[Ev.aB0,Option.some.injEq]at hc
  subst hc
  cases h with
  |agg vals h1 h2=>
   simp only[Value.cells]
   have hg:∀i,i<yL.length→((List.range yL.length).map vals).toArray.getD i Go.undef=vals i:=fun i hi=>by
    have:=aKZ vals yL.length i hi
    simpa using this
   refine ⟨by simp,fun i u hi=> ?_,fun i hi=> ?_⟩
   ·rw[hg i (List.getElem?_eq_some_iff.1 hi).1];exact h2 i u hi
   ·rw[hg i (by simpa using hi)];exact h1 i (by simpa using hi)
 |d l r=>
  simp only[Ev.aB0,Option.some.injEq]at hc
  subst hc
  have hr:=h.aBR.cells
  have hsz:v.cells.size=l.ks.length:=by have:=hr.mL;simpa using this
  have hcell:∀i k,l.ks[i]? =some k→gO P T S k (v.cells.getD i Go.undef) (at_ r i):=fun i k hk=>by
   have:=hr.cell i k hk
   simpa[List.getD_eq_getElem?_getD]using this
  refine ⟨by rw[aNc,hsz],fun i u hi=> ?_,fun i hi=> ?_⟩
  ·rw[aSE,Nat.zero_add]at hi
   obtain ⟨k,hk,rfl⟩:=Option.map_eq_some_iff.1 hi
   have:=hcell i k hk
   rw[aO8 this]
   exact .d ⟨_,rfl,this⟩
  ·have hk:i<l.ks.length:=by rw[←hsz];exact hi
   exact (hcell i _ (List.getElem?_eq_getElem hk)).wB.1
 |undef=>simp[Ev.aB0,AV.single]at hc
 |und=>simp[Ev.aB0,AV.single]at hc
 |tup=>simp[Ev.aB0,AV.single]at hc
 |ptr=>exact one _ h rfl hc
 |zL=>exact one _ h rfl hc
 |whole=>exact one _ h rfl hc
 |own=>exact one _ h rfl hc
 |fn=>exact one _ h rfl hc
 |map=>exact one _ h rfl hc
 |vE=>exact one _ h rfl hc
 |aKU=>exact one _ h rfl hc
 |sw=>exact one _ h rfl hc
theorem iB.aT8 {id off:Nat} {l:L} {row:Row} {b:Nat} (h:St[id]? =some (.var l row)) (hb:pl.blk id=b):iB P T S pl St (.ptr id off) (.pointer (some ⟨b,off,none⟩)):=
 .ptr rfl h (by simp) (fun _ _ _=>by rw[hb]) (fun _ _ h=>by simp at h)
theorem iB.aOb {id off:Nat} {c:Bool} {vs:List AV} {b:Nat} (h:St[id]? =some (.cells c vs)) (hb:pl.blk id=b):iB P T S pl St (.ptr id off) (.pointer (some ⟨b,off,none⟩)):=
 .ptr rfl h (by simp) (fun _ _ h=>by simp at h) (fun _ _ _=>by rw[hb])
def aF5 (P:Program) (t:TypeId) (l:L):Bool:=
 (match aIf P t with |some l'=>L.beq l' l |none=>false)&&(match P.info? t with |some i=>Nat.beq i.size l.n |none=>false)
theorem aC {t:TypeId} {l:L} (h:aF5 P t l=true):Lay P t l:=by
 simp only[aF5,Bool.and_eq_true]at h
 obtain ⟨h1,h2⟩:=h
 split at h1
 ·rename_i l' e
  rw[←L.beq_eq h1]
  split at h2
  ·rename_i i ei
   refine ⟨e,i,ei, ?_⟩
   rw[Nat.eq_of_beq_eq_true h2,L.beq_eq h1]
  ·simp at h2
 ·simp at h1
theorem Lay.inj {t:TypeId} {l l':L} (h:Lay P t l) (h':Lay P t l'):l=l':=by
 have:=h.1.symm.trans h'.1;simpa using this
theorem Lay.agg {t:TypeId} {l:L} (h:Lay P t l) (w:World):(isAgg t).run P w= .ok (match l with | .one _=>false | .agg _=>true) w:=by
 have h1:=h.1
 unfold aIf at h1
 cases hu:P.underlying t with
 |none=>rw[hu]at h1;simp[wU,hu]at h1
 |some d=>
  rw[hu]at h1
  cases d<;>simp only[isAgg,Sem.run_bind,run_underlying hu,Result.andThen_ok,Sem.run_pure]at h1⊢<;>
   first
    |(cases hk:wU P 30 t with
       |none=>rw[hk]at h1;simp at h1
       |some ks=>rw[hk]at h1;simp at h1;subst h1;rfl)
    |(split at h1
      ·simp at h1;subst h1;rfl
      ·simp at h1)
theorem Lay.size {t:TypeId} {l:L} (h:Lay P t l) (w:World):(sizeOf t).run P w= .ok l.n w:=by
 obtain ⟨i,hi,hs⟩:=h.2
 simp[sizeOf,typeInfo,hi,hs]
def mkV (l:L) (f:Nat→Value):Value:=match l with | .one _=>f 0 | .agg ks=> .agg ((List.range ks.length).map f).toArray
theorem cF.mk {l:L} {row:Row} {f:Nat→Value} (hl:row.length=l.n) (h:∀j k,l.ks[j]? =some k→gO P T S k (f j) (at_ row j)):cF P T S l (mkV l f) row:=by
 cases l with
 |one k=>
  match row,hl with
  |[c],_=>exact ⟨c,rfl,by have:=h 0 k rfl;simpa[at_,Ev.mkV]using this⟩
 |agg ks=>
  refine ⟨_,rfl,by simp,hl,fun j k hk=> ?_⟩
  have hj:j<ks.length:=(List.getElem?_eq_some_iff.1 hk).1
  have:=h j k hk
  simpa[List.getD_eq_getElem?_getD,hj]using this
theorem yC.mkV {l:L} {row:Row} {cs:List Value} (h:yC P T S l.ks cs row):cF P T S l (mkV l fun j=>cs.getD j undef) row:=
 .mk h.aBQ h.cell
theorem add_eq (a:Addr) (h:a.spot=none) (j:Nat):a.add j=⟨a.block,a.off+j,none⟩:=by
 unfold Addr.add
 cases a;simp at h;subst h
 split<;>simp_all
theorem xU {t:TypeId} {l:L} (h:Lay P t l) (a:Addr) (ha:a.spot=none) (w:World) (f:Nat→Value) (hl:0<l.n)
 (hc:∀j,j<l.n→w.cell? ⟨a.block,a.off+j,none⟩=some (f j)):(loadVar t a).run P w= .ok (mkV l f) w:=by
 have hag:=h.agg w
 unfold loadVar
 cases l with
 |one k=>
  have h0:=hc 0 (by simpa using hl)
  have e:a=⟨a.block,a.off+0,none⟩:=by cases a;simp at ha;subst ha;rfl
  rw[Sem.run_bind,hag]
  simp only[Result.andThen_ok,Bool.false_eq_true,if_false]
  rw[e,run_load,h0];rfl
 |agg ks=>
  rw[Sem.run_bind,hag]
  simp only[Result.andThen_ok,if_true,Sem.run_bind,h.size w]
  rw[run_loadCells w a _ f (fun j hj=>by rw[add_eq a ha];exact hc j hj)]
  simp[Ev.mkV,L.n,L.ks]
theorem a9z {t:TypeId} {l:L} {b off:Nat} {cs:List Value} {row:Row} (hl:Lay P t l) (hr:yC P T S l.ks cs row)
 (hS:∀j,j<l.n→S b (off+j)=some (cs.getD j undef)):gO P T S (.ref t) (.pointer (some ⟨b,off,none⟩)) (.dp row):=
 .ref (fun j=>cs.getD j undef) hl hr.aBQ rfl hS hr.cell
theorem aO9 (t:TypeId) (v:Value) (w:World):(Instr.box t v).run P w= .ok (.pointer (some ⟨w.heap.size,0,none⟩)) (w.alloc (.cells v.cells t)):=by
 simp[Instr.box,newVar,newRow]
section
variable {o:Oper} {x y c:Operand} {ax ay ac:rD} {base:Nat}
variable (hs:mW P T S pl St w) (hF:wX P T S pl St F a.tmps)
include hs hF
theorem bDi {l:L} {t:TypeId} {av:AV} {no:Option Obj} (ho:o.op= .box t x) (hl:aF5 P t l=true) (hx:oA P T x ax=true)
 (h:(asD (ax.uM F St) fun l' r=>check (L.beq l l') (cB (.d (.one (.ref t)) [.dp r]) none))=some (av,no)):no=none∧cE P o a w (bB P T S pl St w St av):=by
 obtain ⟨l',r,e,hA⟩:=zM h;clear h
 obtain ⟨hb,hB⟩:=lA hA;clear hA
 obtain rfl:=L.beq_eq hb
 simp only[cB,Option.some.injEq,Prod.mk.injEq]at hB
 obtain ⟨rfl,rfl⟩:=hB
 have hv:=qA hs hx hF;rw[e]at hv
 have hr:=hv.aBR.cells
 have hlen:(a.eval x).cells.size=l.n:=by have:=hr.mL;simpa[L.n]using this
 refine ⟨rfl,mA (v:= .pointer (some ⟨w.heap.size,0,none⟩)) (w':=w.alloc (.cells (a.eval x).cells t)) (by simp[execOp,ho,aO9]) ?_⟩
 refine aK0 hs ⟨rfl,rfl,rfl⟩ (fun k hk=>Go.RowKit.Below.heap_alloc w _ k hk) (by simp) (heap_alloc_new w _) l.n ?_
 refine .d ⟨_,rfl,a9z (aC hl) (hr.mono (yA.aT7 fun o=> ?_)) (fun j hj=> ?_)⟩
 ·cases hS:S w.heap.size o with
  |none=>rfl
  |some v=>exact absurd (hs.aD4 hS) (by omega)
 ·simp only[yA.more,if_true,Nat.zero_add]
  rw[List.getElem?_take,if_pos hj]
  have:j<(a.eval x).cells.toList.length:=by simpa[hlen]using hj
  simp[List.getD_eq_getElem?_getD,List.getElem?_eq_getElem this]
theorem bDj {l:L} {t:TypeId} {id:Nat} {ob:Obj} {av:AV} {no:Option Obj} (ho:o.op= .box t x) (hx:oA P T x ax=true) (oB:St[base+id]? =some ob)
 (h:(uD ob (asD (ax.uM F St) fun l' r=>check (L.beq l l') (cB (.ptr (base+id) 0) (some (.var l r)))))=some (av,no)):
 ∃o',no=some o'∧cE P o a w (bB P T S pl St w (St.set (base+id) o') av):=by
 unfold uD at h
 split at h
 ·obtain ⟨l',r,e,hA⟩:=zM h;clear h
  obtain ⟨hb,hB⟩:=lA hA;clear hA
  obtain rfl:=L.beq_eq hb
  simp only[cB,Option.some.injEq,Prod.mk.injEq]at hB
  obtain ⟨rfl,rfl⟩:=hB
  have hv:=qA hs hx hF;rw[e]at hv
  have hr:=hv.aBR.cells
  have hlt:base+id<St.length:=(List.getElem?_eq_some_iff.1 oB).1
  refine ⟨_,rfl,mA (v:= .pointer (some ⟨w.heap.size,0,none⟩)) (w':=w.alloc (.cells (a.eval x).cells t)) (by simp[execOp,ho,aO9]) ?_⟩
  refine aNb (cap:=0) hs oB ⟨_,t,by rw[Pl.lD];exact heap_alloc_new w _,hr⟩ ?_
  exact .aT8 (List.getElem?_set_self hlt) (by rw[Pl.lD])
 ·simp at h
theorem bDk {t:TypeId} {id:Nat} {ob:Obj} {av:AV} {no:Option Obj} (ho:o.op= .box t x) (hx:oA P T x ax=true) (oB:St[base+id]? =some ob)
 (h:rG E F St ob (.a18 id ax) base cB=some (av,no)):
 ∃o',no=some o'∧cE P o a w (bB P T S pl St w (St.set (base+id) o') av):=by
 simp only[rG]at h
 unfold uD at h
 split at h
 ·split at h
  ·rename_i vs hcv
   simp only[cB,Option.some.injEq,Prod.mk.injEq]at h
   obtain ⟨rfl,rfl⟩:=h
   have hv:=sC hs hx hF
   have hlt:base+id<St.length:=(List.getElem?_eq_some_iff.1 oB).1
   have hk:kD pl St (pl.at (base+id) w.heap.size 0) (St.set (base+id) (.cells false vs)):= .fresh oB (pl.qZ _ _ _)
   obtain ⟨c1,c2,c3⟩:=hv.aB0 hcv
   refine ⟨_,rfl,mA (v:= .pointer (some ⟨w.heap.size,0,none⟩)) (w':=w.alloc (.cells (a.eval x).cells t)) (by simp[execOp,ho,aO9]) ?_⟩
   refine aNb (cap:=0) hs oB ⟨_,t,by rw[Pl.lD];exact heap_alloc_new w _,c1,fun i av hi=>(c2 i av hi).keep hk S.le_refl,c3⟩ ?_
   exact .aOb (List.getElem?_set_self hlt) (by rw[Pl.lD])
  ·simp at h
 ·simp at h
theorem a6q {l:L} {t:TypeId} {id:Nat} {z:Row} {zv:Value} {i:TypeInfo} {ob:Obj} {av:AV} {no:Option Obj} (ho:o.op= .alloc t) (hi:P.info? t=some i) (hz:i.zero=some zv)
 (hc:aAt l zv z=true) (oB:St[base+id]? =some ob)
 (h:(uD ob (cB (.ptr (base+id) 0) (some (.var l z))))=some (av,no)):
 ∃o',no=some o'∧cE P o a w (bB P T S pl St w (St.set (base+id) o') av):=by
 unfold uD at h
 split at h
 ·simp only[cB,Option.some.injEq,Prod.mk.injEq]at h
  obtain ⟨rfl,rfl⟩:=h
  have hr:=(pM (P:=P) (T:=T) (S:=S) hc).cells
  have hlt:base+id<St.length:=(List.getElem?_eq_some_iff.1 oB).1
  refine ⟨_,rfl,mA (v:= .pointer (some ⟨w.heap.size,0,none⟩)) (w':=w.alloc (.cells zv.cells t)) (by simp[execOp,ho,Instr.alloc,zeroValue,typeInfo,hi,hz,newVar,newRow]) ?_⟩
  refine aNb (cap:=0) hs oB ⟨_,t,by rw[Pl.lD];exact heap_alloc_new w _,hr⟩ ?_
  exact .aT8 (List.getElem?_set_self hlt) (by rw[Pl.lD])
 ·simp at h
omit hs hF in
theorem aK1:∀zs:List (Option (K×C)),(zsV zs).length=zs.length
 |[]=>rfl
 |some (k,c)::r=>by simp[zsV,aK1 r]
 |none::r=>by simp[zsV,aK1 r]
def aRw:List (Option (K×C))→List Value→Bool
 |[],[]=>true
 |some (k,c)::r,v::vs=>aUA k v c&&aRw r vs
 |none::r,v::vs=>(match v with | .agg _=>false | .tuple _=>false |_=>true)&&aRw r vs
 |_,_=>false
omit hs hF in
theorem aK2:∀{zs:List (Option (K×C))} {vs:List Value},aRw zs vs=true→vs.length=zs.length∧(∀i u,(zsV zs)[i]? =some u→iB P T S pl St u (vs.getD i undef))∧∀i,i<vs.length→(vs.getD i undef).oneCell'=true
 |[],[],_=>⟨rfl,fun i u h=>by simp[zsV]at h,fun i h=>by simp at h⟩
 |some (k,c)::r,v::vs,h=>by
  simp only[aRw,Bool.and_eq_true]at h
  obtain ⟨h1,h2,h3⟩:=aK2 h.2
  have hk:=aKY (P:=P) (T:=T) (S:=S) h.1
  refine ⟨by simp[h1],fun i u hi=> ?_,fun i hi=> ?_⟩
  ·cases i with
   |zero=>simp[zsV]at hi;subst hi;exact .d ⟨_,rfl,hk⟩
   |succ i=>simpa using h2 i u (by simpa[zsV]using hi)
  ·cases i with
   |zero=>simpa using hk.wB.1
   |succ i=>simpa using h3 i (by simpa using hi)
 |none::r,v::vs,h=>by
  simp only[aRw,Bool.and_eq_true]at h
  obtain ⟨h1,h2,h3⟩:=aK2 h.2
  refine ⟨by simp[h1],fun i u hi=> ?_,fun i hi=> ?_⟩
  ·cases i with
   |zero=>simp[zsV]at hi;subst hi;exact .undef
   |succ i=>simpa using h2 i u (by simpa[zsV]using hi)
  ·cases i with
   |zero=>
    have:=h.1
    cases v<;>first |rfl |simp at this
   |succ i=>simpa using h3 i (by simpa using hi)
 |[],_::_,h=>by simp[aRw]at h
 |some _::_,[],h=>by simp[aRw]at h
 |none::_,[],h=>by simp[aRw]at h
theorem a6r {t:TypeId} {id:Nat} {zs:List (Option (K×C))} {zv:Value} {i:TypeInfo} {ob:Obj} {av:AV} {no:Option Obj} (ho:o.op= .alloc t) (hi:P.info? t=some i) (hz:i.zero=some zv)
 (hc:aRw zs zv.cells.toList=true) (oB:St[base+id]? =some ob)
 (h:rG E F St ob (.aO5 id zs) base cB=some (av,no)):
 ∃o',no=some o'∧cE P o a w (bB P T S pl St w (St.set (base+id) o') av):=by
 simp only[rG]at h
 unfold uD at h
 split at h
 ·simp only[cB,Option.some.injEq,Prod.mk.injEq]at h
  obtain ⟨rfl,rfl⟩:=h
  have hlt:base+id<St.length:=(List.getElem?_eq_some_iff.1 oB).1
  refine ⟨_,rfl,mA (v:= .pointer (some ⟨w.heap.size,0,none⟩)) (w':=w.alloc (.cells zv.cells t)) (by simp[execOp,ho,Instr.alloc,zeroValue,typeInfo,hi,hz,newVar,newRow]) ?_⟩
  obtain ⟨c1,c2,c3⟩:=aK2 (P:=P) (T:=T) (S:=S) (pl:=pl.at (base+id) w.heap.size 0) (St:=St.set (base+id) (.cells false (zsV zs))) hc
  refine aNb (cap:=0) hs oB ⟨_,t,by rw[Pl.lD];exact heap_alloc_new w _,by rw[aK1,←c1];simp,fun i av hi=>by simpa[List.getD_eq_getElem?_getD]using c2 i av hi,fun i hi=>by simpa[List.getD_eq_getElem?_getD]using c3 i (by simpa using hi)⟩ ?_
  exact .aOb (List.getElem?_set_self hlt) (by rw[Pl.lD])
 ·simp at h
end
end Go.Ev
namespace Go.Ev
variable {E:Env} {P:Program} {T:Nat→yF} {S S':yA} {pl wD:Pl} {St dD:Ev.St} {F:Fr} {a:Act} {w w':World}
theorem Lay.pos {t:TypeId} {l:L} (h:aF5 P t l=true) (hn:Nat.blt 0 l.n=true):Lay P t l∧0<l.n:=⟨aC h,by simpa using hn⟩
theorem iB.a2h {t:TypeId} {row:Row} {v:Value} (h:iB P T S pl St (.d (.one (.ref t)) row) v) (hd:(at_ row 0).xA=true):
 ∃(l:L) (a:Addr) (f:Nat→Value),v= .pointer (some a)∧Lay P t l∧(at_ row 0).fA.length=l.n∧a.spot=none∧(∀j,j<l.n→S a.block (a.off+j)=some (f j))∧
  (∀j k,l.ks[j]? =some k→gO P T S k (f j) (at_ (at_ row 0).fA j)):=by
 obtain ⟨c,rfl,hr⟩:=h.aBR
 have hat:at_ [c] 0=c:=rfl
 rw[hat]at hd⊢
 cases hr with
 |ref f h1 h2 h3 h4 h5=>exact ⟨_,_,f,rfl,h1,h2,h3,h4,h5⟩
 |aTm=>simp[C.xA]at hd
theorem iB.aUC {id off:Nat} {l:L} {row:Row} {v:Value} (h:iB P T S pl St (.ptr id off) v) (ho:St[id]? =some (.var l row)):v= .pointer (some ⟨pl.blk id,off,none⟩):=by
 cases h with
 |ptr h0 h1 h2 h3 h4=>rw[ho]at h1;obtain rfl:=Option.some.inj h1;exact h3 _ _ rfl
theorem iB.sO {id off:Nat} {c:Bool} {vs:List AV} {v:Value} (h:iB P T S pl St (.ptr id off) v) (ho:St[id]? =some (.cells c vs)):v= .pointer (some ⟨pl.blk id,off,none⟩):=by
 cases h with
 |ptr h0 h1 h2 h3 h4=>rw[ho]at h1;obtain rfl:=Option.some.inj h1;exact h4 _ _ rfl
theorem iB.aP8 {id bO idx off:Nat} {l:L} {c:C} {v:Value} (h:iB P T S pl St (.zL id bO idx off) v) (ho:St[id]? =some (.arr bO l c)):v= .pointer (some ⟨pl.blk id,idx*l.n+off,none⟩):=by
 cases h with
 |zL h0 h1 h2 hv h3=>rw[ho]at h1;obtain rfl:=Option.some.inj h1;exact h3 _ _ rfl
theorem eE {A:Type} {o:Obj} {v:Nat} {k:L→C→Option A} {r:A} (h:vU o v k=some r):∃l c,o= .arr v l c∧k l c=some r:=by
 unfold vU at h
 split at h
 ·obtain ⟨hb,h2⟩:=lA h
  obtain rfl:=Nat.eq_of_beq_eq_true hb
  exact ⟨_,_,rfl,h2⟩
 ·simp at h
theorem aXg {A:Type} {l l':L} {off:Nat} {r:Row} {k:Row→Option A} {x:A} (h:part l l' off r k=some x):
 ∃row,k (nrm l row)=some x∧row=(if off=0∧l=l' then r else sub r off l.n)∧(¬(off=0∧l=l')→l.ks=(l'.ks.drop off).take l.n):=by
 unfold part at h
 split at h
 ·rename_i hb
  simp only[Bool.and_eq_true]at hb
  have h1:=Nat.eq_of_beq_eq_true hb.1
  have h2:=L.beq_eq hb.2
  exact ⟨r,h,by rw[if_pos ⟨h1,h2⟩],fun hn=>absurd ⟨h1,h2⟩ hn⟩
 ·rename_i hb
  obtain ⟨hk,h⟩:=lA h
  by_cases hc:off=0∧l=l'
  ·obtain ⟨rfl,rfl⟩:=hc
   exfalso
   have hll:L.beq l l=true:=by
    have key:∀ks:List K,aEN ks ks=true:=fun ks=>by
     induction ks with
     |nil=>rfl
     |cons k ks ih=>simp[aEN,ih];cases k<;>simp[K.beq]
    cases l with
    |one k=>simp only[L.beq];cases k<;>simp[K.beq]
    |agg ks=>exact key ks
   rw[hll]at hb;simp at hb
  ·exact ⟨sub r off l.n,h,by rw[if_neg hc],fun _=>aEO hk⟩
theorem yC.part {l l':L} {cs:List Value} {r:Row} {off:Nat} (hn:0<l.n) (h:yC P T S l'.ks cs r) (hk:¬(off=0∧l=l')→l.ks=(l'.ks.drop off).take l.n):
 cF P T S l (Ev.mkV l fun j=>cs.getD (off+j) undef) (if off=0∧l=l' then r else Ev.sub r off l.n)∧off+l.n≤cs.length:=by
 by_cases hc:off=0∧l=l'
 ·rw[if_pos hc]
  obtain ⟨rfl,rfl⟩:=hc
  refine ⟨by simpa using h.mkV, ?_⟩
  rw[h.mL];simp[L.n]
 ·rw[if_neg hc]
  have hk':=hk hc
  have hs:=h.sub l.ks off hk'
  have hlen:l.n≤l'.ks.length - off:=by
   have:=congrArg List.length hk';simp[L.n]at this⊢;omega
  constructor
  ·refine .mk (by simpa[L.n]using hs.aBQ) (fun j k hj=> ?_)
   have hjl:j<l.ks.length:=(List.getElem?_eq_some_iff.1 hj).1
   have:=hs.cell j k hj
   have e:((cs.drop off).take l.ks.length).getD j undef=cs.getD (off+j) undef:=by
    simp[List.getD_eq_getElem?_getD,hjl]
   rw[e]at this;exact this
  ·rw[h.mL];omega
theorem aRx {w:World} {b off:Nat} {cur:Array Value} {e:TypeId} {fr:Nat×Nat} (h:w.heap[b]? =some (.cells cur e fr)) (hlt:off<cur.size):
 w.cell? ⟨b,off,none⟩=some (cur.toList.getD off undef):=by
 rw[cell_of_row w b off cur e fr h]
 simp[List.getD_eq_getElem?_getD,hlt]
theorem aOK {t:TypeId} {l:L} (hl:Lay P t l) (hn:0<l.n) {w:World} {b off:Nat} {cur:Array Value} {e:TypeId} {fr:Nat×Nat} (h:w.heap[b]? =some (.cells cur e fr))
 (hfit:off+l.n≤cur.size):(Instr.loadAt t (.pointer (some ⟨b,off,none⟩))).run P w= .ok (Ev.mkV l fun j=>cur.toList.getD (off+j) undef) w:=by
 have:=xU hl ⟨b,off,none⟩ rfl w (fun j=>cur.toList.getD (off+j) undef) hn (fun j hj=>aRx h (by simp only;omega))
 simpa[Instr.loadAt,Instr.sureAddr]using this
theorem qW {s:Sem Value} {v:Value} {w w':World} (h:s.run P w= .ok v w'):(do pure (.value (←s)):Sem Next).run P w= .ok (.value v) w':=by
 rw[Sem.run_bind,h];rfl
theorem bAN {s:Sem Unit} {w w':World} (h:s.run P w= .ok () w'):(do s;pure .skip:Sem Next).run P w= .ok .skip w':=by
 rw[Sem.run_bind,h];rfl
theorem aJ3 {o:Oper} {t:TypeId} {x:Operand} {v:Value} {w w':World} (ho:o.op= .load t x) (h:(Instr.loadAt t (a.eval x)).run P w= .ok v w'):(execOp a.eval o).run P w= .ok (.value v) w':=by
 simp only[execOp,ho];exact qW h
section
variable {o:Oper} {x y c:Operand} {ax ay ac:rD} {base:Nat}
variable (hs:mW P T S pl St w) (hF:wX P T S pl St F a.tmps)
include hs hF
theorem bIL {l:L} {t:TypeId} {ob:Obj} {av:AV} {no:Option Obj} (ho:o.op= .load t x) (hl:aF5 P t l=true) (hn:Nat.blt 0 l.n=true) (hx:oA P T x ax=true)
 (oB:∀id,tJ (ax.ev F)=some id→St[id]? =some ob)
 (h:rG E F St ob (.ld l t ax) base cB=some (av,no)):no=none∧cE P o a w (bB P T S pl St w St av):=by
 obtain ⟨hL,hp⟩:=Lay.pos hl hn
 have hv:=sC hs hx hF
 simp only[rG]at h
 split at h
 ·
  rename_i t' r e
  obtain ⟨hb,hB⟩:=lA h
  obtain rfl:=Nat.eq_of_beq_eq_true hb
  obtain ⟨hdp,hB⟩:=jD hB
  simp only[cB,Option.some.injEq,Prod.mk.injEq]at hB
  obtain ⟨rfl,rfl⟩:=hB
  rw[e]at hv
  obtain ⟨l',ad,f,e1,h1,h2,h3,h4,h5⟩:=hv.a2h hdp
  obtain rfl:=hL.inj h1
  have hr:cF P T S l (Ev.mkV l f) (at_ r 0).fA:= .mk h2 h5
  refine ⟨rfl,mA (v:=Ev.mkV l f) (w':=w) ?_ (.same hs (.d (by rw[hr.nrm];exact hr)))⟩
  have:=xU hL ad h3 w f hp (fun j hj=>hs.yM _ _ _ (h4 j hj))
  refine aJ3 ho ?_
  rw[e1];simpa[Instr.loadAt,Instr.sureAddr]using this
 ·
  rename_i id off e
  have oB:=oB id (by rw[e];rfl)
  rw[e]at hv
  split at h
  ·rename_i l' r
   have e1:=hv.aUC oB
   obtain ⟨cur,e2,hh,hr⟩:=hs.objs _ _ oB
   obtain ⟨row,h1,h2,h3⟩:=aXg h
   simp only[cB,Option.some.injEq,Prod.mk.injEq]at h1
   obtain ⟨rfl,rfl⟩:=h1
   obtain ⟨q1,q2⟩:=hr.part hp h3
   rw[←h2]at q1
   have:=aOK hL hp hh (off:=off) (by simpa using q2)
   exact ⟨rfl,mA (w':=w) (aJ3 ho (by rw[e1];exact this)) (.same hs (.d (by rw[q1.nrm];exact q1)))⟩
  ·simp at h
 ·
  rename_i id bO idx off e
  have oB:=oB id (by rw[e];rfl)
  rw[e]at hv
  obtain ⟨l',c,rfl,hA⟩:=eE h
  obtain ⟨hlt,hB⟩:=jD hA
  have e1:=hv.aP8 oB
  rcases hs.objs _ _ oB with rfl |⟨rows,cur,e2,i,rfl,hh,q1,q2,q3,q4,q5,q6,q7⟩
  ·simp[C.rows]at hlt
  ·simp only[C.rows]at hlt hB
   obtain ⟨row,h1,h2,h3⟩:=aXg hB
   simp only[cB,Option.some.injEq,Prod.mk.injEq]at h1
   obtain ⟨rfl,rfl⟩:=h1
   have hrow:rows[idx]? =some (aA rows idx):=by simp[aA,List.getD_eq_getElem?_getD,hlt]
   obtain ⟨g1,g2⟩:=(q7 idx _ hrow).part hp h3
   rw[←h2]at g1
   have hle:(idx+1)*l'.n≤pl.cap id*l'.n:=Nat.mul_le_mul_right _ (by omega)
   have aWa:(idx+1)*l'.n=idx*l'.n+l'.n:=Nat.succ_mul _ _
   have hg2:off+l.n≤l'.n:=by
    have:=g2;simp at this;omega
   have hfit:idx*l'.n+off+l.n≤cur.size:=by rw[q6];omega
   have:=aOK hL hp hh (off:=idx*l'.n+off) hfit
   have ev:(Ev.mkV l fun j=>cur.toList.getD (idx*l'.n+off+j) undef)=Ev.mkV l fun j=>((cur.toList.drop (idx*l'.n)).take l'.n).getD (off+j) undef:=by
    cases l with
    |one k=>
     have bDn:off<l'.n:=by
      have:(L.one k).n=1:=rfl
      omega
     simp[Ev.mkV,List.getD_eq_getElem?_getD,bDn]
    |agg ks=>
     simp only[Ev.mkV]
     congr 2
     apply List.map_congr_left
     intro j hj
     have hj:j<ks.length:=by simpa using hj
     have:off+j<l'.n:=by simp only[L.n,L.ks]at hg2⊢;omega
     simp[List.getD_eq_getElem?_getD,this,Nat.add_assoc]
   rw[ev]at this
   exact ⟨rfl,mA (w':=w) (aJ3 ho (by rw[e1];exact this)) (.same hs (.d (by rw[g1.nrm];exact g1)))⟩
 ·simp at h
end
end Go.Ev
