/-
  What the abstract machine's data, values and objects mean in the model's memory.
-/
import Derived.Test.YtdhebofenihjmaaGreatDoorEvA
import Derived.Below
import Derived.Laws.AppendOwn
import Derived.Laws.Small
import Derived.WalkKit
set_option linter.all false
namespace Go.Ev
abbrev yA:=Nat→Nat→Option Value
def aG1 (g:TypeId→Option (List K)):List Field→Option (List K)
 |[]=>some []
 |f::fs=>match g f.type,aG1 g fs with
  |some a,some b=>some (a++b)
  |_,_=>none
def wU (P:Program):Nat→TypeId→Option (List K)
 |0,_=>none
 |n+1,t=>match P.underlying t with
  |some .bool=>some [.bool]
  |some (.int k)=>some [.int k]
  |some .string=>some [.str]
  |some (.slice e)=>some [.sl e]
  |some (.func ..)=>some [.fn t]
  |some (.pointer e)=>some [.ref e]
  |some (.interface _)=>some [.ifc]
  |some (.struct fs)=>aG1 (wU P n) fs.toList
  |some (.array m e)=>(wU P n e).map fun ks=>(List.replicate m ks).flatten
  |_=>none
def aIf (P:Program) (t:TypeId):Option L:=
 match P.underlying t with
 |some (.struct _)=>(wU P 30 t).map .agg
 |some (.array ..)=>(wU P 30 t).map .agg
 |_=>match wU P 30 t with |some [k]=>some (.one k)|_=>none
def Lay (P:Program) (t:TypeId) (l:L):Prop:=aIf P t=some l∧∃i,P.info? t=some i∧i.size=l.n
def yF.sig:yF→Option (List L×List L)
 | .none=> .none
 | .cmp=> .none
 | .ixb=> .none
 | .fR _ _ _=> .none
 | .imp _=> .none
 | .code f=>some (f.ps,f.rs)
 | .given ps rs _=>some (ps,rs)
def aDq (P:Program):List TypeId→Option (List L)
 |[]=>some []
 |t::ts=>match aIf P t,aDq P ts with |some l,some ls=>some (l::ls)|_,_=>none
def bFJ (P:Program) (T:Nat→yF) (t:TypeId) (f:Nat) (ks:List K):Prop:=
 ∃pt rt v ps rs,P.underlying t=some (.func pt rt v)∧aDq P pt.toList=some ps∧aDq P rt.toList=some rs∧
  (T f).sig=some (ps++ks.map .one,rs)
inductive gO (P:Program) (T:Nat→yF) (S:yA):K→Value→C→Prop
 |int {k n}:gO P T S (.int k) (.int k n) (.int n)
 |bool {b}:gO P T S .bool (.bool b) (.bool b)
 |str {b:ByteArray}:gO P T S .str (.string b) (.str b.data.toList)
 |bA {e}:gO P T S (.sl e) (.slice none 0 0) .bA
 |sl {e l rows a len cap} (f:Nat→Nat→Value):Lay P e l→rows.length=len→len≤cap→(∀r∈rows,r.length=l.n)→(len≠0→a.spot=none)→
   (∀i j,i<len→j<l.n→S a.block (a.off+i*l.n+j)=some (f i j))→
   (∀i j k,i<len→l.ks[j]? =some k→gO P T S k (f i j) (at_ (aA rows i) j))→gO P T S (.sl e) (.slice (some a) len cap) (.sl rows)
 |aM5 {t}:gO P T S (.fn t) .nilFunc .aM5
 |fn {t f ks cs} (vs:Nat→Value):bFJ P T t f ks→cs.length=ks.length→
   (∀i k,ks[i]? =some k→gO P T S k (vs i) (at_ cs i))→gO P T S (.fn t) (.func (.func f) #[] ((List.range ks.length).map vs).toArray) (.fn f cs)
 |ref {t l a row} (f:Nat→Value):Lay P t l→row.length=l.n→a.spot=none→
   (∀j,j<l.n→S a.block (a.off+j)=some (f j))→(∀j k,l.ks[j]? =some k→gO P T S k (f j) (at_ row j))→gO P T S (.ref t) (.pointer (some a)) (.dp row)
 |aTm {t}:gO P T S (.ref t) (.pointer none) .aTm
 |aYu:gO P T S .ifc .nilIface .aYu
 |anyI {t v}:gO P T S .ifc (.iface t v) .anyI
section
variable {P:Program} {T:Nat→yF} {S S':yA}
def yA.le (S S':yA):Prop:=∀b o v,S b o=some v→S' b o=some v
theorem yA.le_refl (S:yA):S.le S:=fun _ _ _ h=>h
theorem yA.le_trans {a b c:yA} (h:a.le b) (k:b.le c):a.le c:=fun x y v e=>k x y v (h x y v e)
theorem gO.mono (h:S.le S') {k:K} {v:Value} {c:C} (r:gO P T S k v c):gO P T S' k v c:=by
 induction r with
 |int=>exact .int
 |bool=>exact .bool
 |str=>exact .str
 |bA=>exact .bA
 |sl f h1 h2 h3 h4 h5 h6 _ ih=>exact .sl f h1 h2 h3 h4 h5 (fun i j hi hj=>h _ _ _ (h6 i j hi hj)) ih
 |aM5=>exact .aM5
 |fn vs h1 h2 _ ih=>exact .fn vs h1 h2 ih
 |ref f h1 h2 h3 h4 _ ih=>exact .ref f h1 h2 h3 (fun j hj=>h _ _ _ (h4 j hj)) ih
 |aTm=>exact .aTm
 |aYu=>exact .aYu
 |anyI=>exact .anyI
structure yC (P:Program) (T:Nat→yF) (S:yA) (ks:List K) (cs:List Value) (row:Row):Prop where
 mL:cs.length=ks.length
 aBQ:row.length=ks.length
 cell:∀j k,ks[j]? =some k→gO P T S k (cs.getD j undef) (at_ row j)
theorem yC.mono (h:S.le S') {ks cs row} (r:yC P T S ks cs row):yC P T S' ks cs row:=
 ⟨r.mL,r.aBQ,fun j k hk=>(r.cell j k hk).mono h⟩
def cF (P:Program) (T:Nat→yF) (S:yA) (l:L) (v:Value) (row:Row):Prop:=
 match l with
 | .one k=>∃c,row=[c]∧gO P T S k v c
 | .agg ks=>∃cs:Array Value,v= .agg cs∧yC P T S ks cs.toList row
theorem cF.mono (h:S.le S') {l v row} (r:cF P T S l v row):cF P T S' l v row:=by
 cases l with
 |one k=>obtain ⟨c,hc,hr⟩:=r;exact ⟨c,hc,hr.mono h⟩
 |agg ks=>obtain ⟨c,hc,hr⟩:=r;exact ⟨c,hc,hr.mono h⟩
theorem gO.wB {k:K} {v:Value} {c:C} (r:gO P T S k v c):v.oneCell'=true∧v.cells=#[v]:=by
 cases r<;>exact ⟨rfl,rfl⟩
theorem cF.cells {l v row} (r:cF P T S l v row):yC P T S l.ks v.cells.toList row:=by
 cases l with
 |one k=>
  obtain ⟨c,rfl,hr⟩:=r
  rw[hr.wB.2]
  refine ⟨rfl,rfl,fun j k' hk=> ?_⟩
  cases j with
  |zero=>simp[L.ks]at hk;subst hk;exact hr
  |succ j=>simp[L.ks]at hk
 |agg ks=>
  obtain ⟨cs,rfl,hr⟩:=r
  exact hr
theorem cF.a6m {k:K} {v:Value} {row:Row} (r:cF P T S (.one k) v row):gO P T S k v (at_ row 0):=by
 obtain ⟨c,rfl,hr⟩:=r;exact hr
theorem aO8 {k:K} {v:Value} {c:C} (r:gO P T S k v c):nrm (.one k) [c]=[c]:=by
 cases r<;>rfl
theorem cF.nrm {l v row} (r:cF P T S l v row):nrm l row=row:=by
 cases l with
 |one k=>obtain ⟨c,rfl,hr⟩:=r;exact aO8 hr
 |agg ks=>rfl
theorem aF4 {a b:IntKind} (h:Nat.beq (IntKind.tag a) (IntKind.tag b)=true):a=b:=by
 cases a<;>cases b<;>first |rfl |simp[IntKind.tag]at h
theorem K.beq_eq:∀{a b:K},K.beq a b=true→a=b
 | .int a,.int b,h=>by rw[aF4 h]
 | .bool,.bool,_=>rfl
 | .str,.str,_=>rfl
 | .sl a,.sl b,h=>by rw[Nat.eq_of_beq_eq_true h]
 | .fn a,.fn b,h=>by rw[Nat.eq_of_beq_eq_true h]
 | .ref a,.ref b,h=>by rw[Nat.eq_of_beq_eq_true h]
 | .ifc,.ifc,_=>rfl
theorem aEO:∀{a b:List K},aEN a b=true→a=b
 |[],[],_=>rfl
 |[],_::_,h=>by simp[aEN]at h
 |_::_,[],h=>by simp[aEN]at h
 |a::x,b::y,h=>by
  simp only[aEN,Bool.and_eq_true]at h
  rw[K.beq_eq h.1,aEO h.2]
theorem L.beq_eq {a b:L} (h:L.beq a b=true):a=b:=by
 cases a<;>cases b<;>simp[L.beq]at h
 ·rw[K.beq_eq h]
 ·rw[aEO h]
theorem a6n (r:Row) (off n j:Nat) (h:j<n):at_ (sub r off n) j=at_ r (off+j):=by
 induction n generalizing off j with
 |zero=>omega
 |succ n ih=>
  cases j with
  |zero=>simp[sub,Ev.at_]
  |succ j=>
   have:=ih (off+1) j (by omega)
   simp only[sub,Ev.at_]at this⊢
   simpa[Nat.add_assoc,Nat.add_comm 1 j]using this
theorem aUz (r:Row) (off n:Nat):(sub r off n).length=n:=by
 induction n generalizing off with
 |zero=>rfl
 |succ n ih=>simp[sub,ih]
theorem a2f (r s:Row) (off m i n:Nat):(put r off m s i n).length=n:=by
 induction n generalizing i with
 |zero=>rfl
 |succ n ih=>simp[put,ih]
theorem bC8 (r s:Row) (off m i n j:Nat) (h:j<n):
 at_ (put r off m s i n) j=if off≤i+j∧i+j<off+m then at_ s (i+j - off)else at_ r (i+j):=by
 induction n generalizing i j with
 |zero=>omega
 |succ n ih=>
  cases j with
  |zero=>
   simp only[put,Ev.at_,List.getD_cons_zero,Nat.add_zero]
   cases hb:Nat.ble off i&&Nat.blt i (off+m)with
   |true=>
    simp only[Bool.and_eq_true,Nat.ble_eq,Nat.blt_eq]at hb
    rw[if_pos hb]
   |false=>
    rw[if_neg]
    intro hc
    have:(Nat.ble off i&&Nat.blt i (off+m))=true:=by simp only[Bool.and_eq_true,Nat.ble_eq,Nat.blt_eq];exact hc
    rw[this]at hb;exact absurd hb (by simp)
  |succ j=>
   have:=ih (i+1) j (by omega)
   simp only[put,Ev.at_]at this⊢
   simp only[List.getD_cons_succ]
   rw[this]
   simp only[Nat.add_assoc,Nat.add_comm 1 j]
theorem yC.sub {ks:List K} {cs:List Value} {row:Row} (r:yC P T S ks cs row) (ks':List K) (off:Nat) (h:ks'=(ks.drop off).take ks'.length):
 yC P T S ks' ((cs.drop off).take ks'.length) (sub row off ks'.length):=by
 have hl:ks'.length≤ks.length - off:=by
  have:=congrArg List.length h;simp at this;omega
 refine ⟨by simp[r.mL];omega,aUz _ _ _,fun j k hk=> ?_⟩
 have hj:j<ks'.length:=(List.getElem?_eq_some_iff.1 hk).1
 rw[a6n _ _ _ _ hj]
 have hk':ks[off+j]? =some k:=by
  rw[h]at hk;simp[hj]at hk;exact hk
 have:=r.cell (off+j) k hk'
 have e:((cs.drop off).take ks'.length).getD j undef=cs.getD (off+j) undef:=by
  simp[List.getD_eq_getElem?_getD,hj]
 rw[e];exact this
end
structure Pl where
 blk:Nat→Nat
 cap:Nat→Nat
inductive iB (P:Program) (T:Nat→yF) (S:yA) (pl:Pl) (St:St):AV→Value→Prop
 |undef {v}:iB P T S pl St .undef v
 |und:iB P T S pl St .und undef
 |d {l row v}:cF P T S l v row→iB P T S pl St (.d l row) v
 |ptr {id off o v}:v.oneCell'=true→St[id]? =some o→o≠ .fresh→(∀l row,o= .var l row→v= .pointer (some ⟨pl.blk id,off,none⟩))→
   (∀c vs,o= .cells c vs→v= .pointer (some ⟨pl.blk id,off,none⟩))→iB P T S pl St (.ptr id off) v
 |zL {id bO idx off o v}:v.oneCell'=true→St[id]? =some o→o≠ .fresh→(∀v l c,o= .arr v l c→bO≤v)→(∀l c,o= .arr bO l c→v= .pointer (some ⟨pl.blk id,idx*l.n+off,none⟩))→iB P T S pl St (.zL id bO idx off) v
 |whole {id bO o v}:v.oneCell'=true→St[id]? =some o→o≠ .fresh→(∀v l c,o= .arr v l c→bO≤v)→
   (∀l,o= .arr bO l .bA→v= .slice none 0 0)→
   (∀l rows,o= .arr bO l (.sl rows)→v= .slice (some ⟨pl.blk id,0,none⟩) rows.length (pl.cap id))→iB P T S pl St (.whole id bO) v
 |own {id bO off len o v}:v.oneCell'=true→St[id]? =some o→o≠ .fresh→(∀v l c,o= .arr v l c→bO≤v)→
   (∀l rows,o= .arr bO l (.sl rows)→∃a,v= .slice (some a) len (pl.cap id - off)∧off+len≤rows.length∧rows.length≤pl.cap id∧(len≠0∨off=0→a=⟨pl.blk id,off*l.n,none⟩))→
   (∀l,o≠ .arr bO l .bA)→iB P T S pl St (.own id bO off len) v
 |fn {f caps} (vs:Nat→Value):(∀i av,caps[i]? =some av→iB P T S pl St av (vs i))→iB P T S pl St (.fn f caps) (.func (.func f) #[] ((List.range caps.length).map vs).toArray)
 |tup {yL} (vs:Nat→Value):(∀i av,yL[i]? =some av→iB P T S pl St av (vs i))→iB P T S pl St (.tup yL) (.tuple ((List.range yL.length).map vs).toArray)
 |map {id o v}:v.oneCell'=true→St[id]? =some o→o≠ .fresh→(∀kl vl es,o= .map kl vl es→v= .map (some (pl.blk id)))→iB P T S pl St (.map id) v
 |sw {id bO o v}:v.oneCell'=true→St[id]? =some o→o≠ .fresh→(∀v e l c,o= .zA v e l c→bO≤v)→
   (∀e l,o= .zA bO e l .bA→v= .slice none 0 0)→
   (∀e l rows,o= .zA bO e l (.sl rows)→v= .slice (some ⟨pl.blk id,0,none⟩) rows.length (pl.cap id))→iB P T S pl St (.sw id bO) v
 |vE {id o v}:v.oneCell'=true→St[id]? =some o→o≠ .fresh→(∀l i av,o= .vE l .bA i av→v= .slice none 0 0)→(∀l rows i av,o= .vE l (.sl rows) i av→v= .slice (some ⟨pl.blk id,0,none⟩) rows.length (pl.cap id))→iB P T S pl St (.vE id) v
 |aKU {id idx o v}:v.oneCell'=true→St[id]? =some o→o≠ .fresh→(∀l rows i av,o= .vE l (.sl rows) i av→v= .pointer (some ⟨pl.blk id,idx*l.n,none⟩))→iB P T S pl St (.aKU id idx) v
 |agg {yL} (vs:Nat→Value):(∀i,i<yL.length→(vs i).oneCell'=true)→(∀i av,yL[i]? =some av→iB P T S pl St av (vs i))→iB P T S pl St (.agg yL) (.agg ((List.range yL.length).map vs).toArray)
def Obj.has:Obj→Bool
 | .fresh=>false
 | .dead=>false
 | .var .. =>true
 | .cells .. =>true
 | .arr _ _ .bA=>false
 | .arr .. =>true
 | .map .. =>true
 | .zA _ _ _ .bA=>false
 | .zA .. =>true
 | .vE _ .bA _ _=>false
 | .vE .. =>true
def Obj.sn:Obj→Nat
 | .zA _ _ l c=>c.rows.length*l.n
 |_=>0
def Bo (oW:Array MapEntry) (clock:Nat):Prop:=clock=oW.size∧∀(i:Nat) (en:MapEntry),oW[i]? =some en→en.born=i
def n9 (P:Program) (T:Nat→yF) (S:yA) (pl:Pl) (St:St) (w:World) (id:Nat):Obj→Prop
 | .fresh=>True
 | .dead=>True
 | .var l row=>∃cur e,w.heap[pl.blk id]? =some (.cells cur e (0,0))∧yC P T S l.ks cur.toList row
 | .cells _ vs=>∃cur e,w.heap[pl.blk id]? =some (.cells cur e (0,0))∧cur.size=vs.length∧(∀i av,vs[i]? =some av→iB P T S pl St av (cur.getD i undef))∧∀i,i<cur.size→(cur.getD i undef).oneCell'=true
 | .arr _ l c=>c= .bA∨∃rows cur e i,c= .sl rows∧w.heap[pl.blk id]? =some (.cells cur e (0,0))∧Lay P e l∧P.info? e=some i∧0<l.n∧rows.length≤pl.cap id∧pl.cap id≤maxLen∧
     cur.size=pl.cap id*l.n∧∀i r,rows[i]? =some r→yC P T S l.ks ((cur.toList.drop (i*l.n)).take l.n) r
 | .zA _ e l c=>c= .bA∨∃rows cur e' i,c= .sl rows∧w.heap[pl.blk id]? =some (.cells cur e' (0,0))∧Lay P e l∧P.info? e=some i∧0<l.n∧rows.length≤pl.cap id∧pl.cap id≤maxLen∧
     cur.size=pl.cap id*l.n∧(∀i r,rows[i]? =some r→yC P T S l.ks ((cur.toList.drop (i*l.n)).take l.n) r)∧∀p,p<rows.length*l.n→S (pl.blk id) p=some (cur.getD p undef)
 | .vE l c i av=>c= .bA∨∃rows cur e inf,c= .sl rows∧w.heap[pl.blk id]? =some (.cells cur e (0,0))∧Lay P e l∧P.info? e=some inf∧0<l.n∧rows.length≤pl.cap id∧pl.cap id≤maxLen∧cur.size=pl.cap id*l.n∧
     (∀j r,j≠i→rows[j]? =some r→yC P T S l.ks ((cur.toList.drop (j*l.n)).take l.n) r)∧(i<rows.length→l.n=1∧iB P T S pl St av (cur.getD i undef)∧(cur.getD i undef).oneCell'=true)
 | .map kl vl es=>∃oW clock,w.heap[pl.blk id]? =some (.map oW clock)∧(oW.size=es.length∧Bo oW clock)∧
     ∀(i:Nat) (k v:Row),es[i]? =some (k,v)→∃en:MapEntry,oW[i]? =some en∧cF P T S kl en.key k∧cF P T S vl en.val v
def oZ:Nat:=1000000
def hO (P:Program) (T:Nat→yF) (S:yA):Prop:=∀g t l row,T (oZ+g)= .fR t l row→gO P T S (.ref t) (.pointer (some ⟨g,0,none⟩)) (.dp row)
theorem hO.mono {P:Program} {T:Nat→yF} {S S':yA} (h:S.le S') (g:hO P T S):hO P T S':=fun a b c d e=>(g a b c d e).mono h
def xM (T:Nat→yF) (w:World):Prop:=∀g t l row,T (oZ+g)= .fR t l row→∃cs e z,w.heap[g]? =some (.cells cs e z)∧cs.size=l.n
def Glo (T:Nat→yF) (pl:Pl) (St:St) (w:World):Prop:=∀g t l row,T (oZ+g)= .fR t l row→
 (∃cs e z,w.heap[g]? =some (.cells cs e z)∧cs.size=l.n)∧∀id o,St[id]? =some o→o.has=true→pl.blk id≠g
structure mW (P:Program) (T:Nat→yF) (S:yA) (pl:Pl) (St:St) (w:World):Prop where
 yM:∀b o v,S b o=some v→w.cell? ⟨b,o,none⟩=some v
 objs:∀id o,St[id]? =some o→n9 P T S pl St w id o
 apart:∀id o,St[id]? =some o→o.has=true→∀off,o.sn≤off→S (pl.blk id) off=none
 inj:∀i j o o',St[i]? =some o→St[j]? =some o'→o.has=true→o'.has=true→pl.blk i=pl.blk j→i=j
 fR:hO P T S
 glo:Glo T pl St w
theorem mW.gsz {P:Program} {T:Nat→yF} {S:yA} {pl:Pl} {St:St} {w:World} (h:mW P T S pl St w):xM T w:=fun g t l row e=>(h.glo g t l row e).1
def wX (P:Program) (T:Nat→yF) (S:yA) (pl:Pl) (St:St) (F:Fr) (tmps:Array Value):Prop:=
 ∀t,iB P T S pl St (F.get t) (tmps.getD t undef)
structure Grow (own:Nat→Prop) (S0:yA) (w0:World) (S:yA) (w:World):Prop where
 os:w.os=w0.os
 tape:w.tape=w0.tape
 output:w.output=w0.output
 size:w0.heap.size≤w.heap.size
 block:∀b,b<w0.heap.size→¬own b→w.heap[b]? =w0.heap[b]?
 mono:S0.le S
 new:∀b o,b<w0.heap.size→¬own b→S b o=S0 b o
theorem Grow.refl (own:Nat→Prop) (S:yA) (w:World):Grow own S w S w:=⟨rfl,rfl,rfl,Nat.le_refl _,fun _ _ _=>rfl,S.le_refl,fun _ _ _ _=>rfl⟩
theorem Grow.trans {own bFK:Nat→Prop} {S0 S S':yA} {w0 w w':World} (h:Grow own S0 w0 S w) (k:Grow bFK S w S' w')
 (ho:∀b,b<w0.heap.size→bFK b→own b):Grow own S0 w0 S' w':=
 ⟨k.os.trans h.os,k.tape.trans h.tape,k.output.trans h.output,Nat.le_trans h.size k.size,
   fun b hb hn=>(k.block b (Nat.lt_of_lt_of_le hb h.size) (fun x=>hn (ho b hb x))).trans (h.block b hb hn),
   yA.le_trans h.mono k.mono,
   fun b o hb hn=>(k.new b o (Nat.lt_of_lt_of_le hb h.size) (fun x=>hn (ho b hb x))).trans (h.new b o hb hn)⟩
def nW (pl:Pl) (St:St) (b:Nat):Prop:=∃id o,St[id]? =some o∧o.has=true∧o.cst=false∧pl.blk id=b
end Go.Ev
