/-
  What the abstract machine's data, values and objects mean in the model's memory.
-/
import Derived.Test.YtgiibefjiloafaaGreatDoorEvA
import Derived.Below
import Derived.Laws.AppendOwn
import Derived.Laws.Small
import Derived.WalkKit
set_option linter.all false
namespace Go.Ev
abbrev Stab:=Nat→Nat→Option Value
def foldKinds (g:TypeId→Option (List K)):List Field→Option (List K)
 |[]=>some []
 |f::fs=>match g f.type,foldKinds g fs with
  |some a,some b=>some (a++b)
  |_,_=>none
def kindsOf (P:Program):Nat→TypeId→Option (List K)
 |0,_=>none
 |n+1,t=>match P.underlying t with
  |some .bool=>some [.bool]
  |some (.int k)=>some [.int k]
  |some .string=>some [.str]
  |some (.slice e)=>some [.sl e]
  |some (.func ..)=>some [.fn t]
  |some (.pointer e)=>some [.ref e]
  |some (.interface _)=>some [.ifc]
  |some (.struct fs)=>foldKinds (kindsOf P n) fs.toList
  |some (.array m e)=>(kindsOf P n e).map fun ks=>(List.replicate m ks).flatten
  |_=>none
def layOf (P:Program) (t:TypeId):Option L:=
 match P.underlying t with
 |some (.struct _)=>(kindsOf P 30 t).map .agg
 |some (.array ..)=>(kindsOf P 30 t).map .agg
 |_=>match kindsOf P 30 t with |some [k]=>some (.one k)|_=>none
def Lay (P:Program) (t:TypeId) (l:L):Prop:=layOf P t=some l∧∃i,P.info? t=some i∧i.size=l.n
def AFn.sig:AFn→Option (List L×List L)
 | .none=> .none
 | .cmp=> .none
 | .ixb=> .none
 | .glob _ _ _=> .none
 | .imp _=> .none
 | .code f=>some (f.ps,f.rs)
 | .given ps rs _=>some (ps,rs)
def laysOf (P:Program):List TypeId→Option (List L)
 |[]=>some []
 |t::ts=>match layOf P t,laysOf P ts with |some l,some ls=>some (l::ls)|_,_=>none
def FnOk (P:Program) (T:Nat→AFn) (t:TypeId) (f:Nat) (ks:List K):Prop:=
 ∃pt rt v ps rs,P.underlying t=some (.func pt rt v)∧laysOf P pt.toList=some ps∧laysOf P rt.toList=some rs∧
  (T f).sig=some (ps++ks.map .one,rs)
inductive Rep (P:Program) (T:Nat→AFn) (S:Stab):K→Value→C→Prop
 |int {k n}:Rep P T S (.int k) (.int k n) (.int n)
 |bool {b}:Rep P T S .bool (.bool b) (.bool b)
 |str {b:ByteArray}:Rep P T S .str (.string b) (.str b.data.toList)
 |nils {e}:Rep P T S (.sl e) (.slice none 0 0) .nils
 |sl {e l rows a len cap} (f:Nat→Nat→Value):Lay P e l→rows.length=len→len≤cap→(∀r∈rows,r.length=l.n)→(len≠0→a.spot=none)→
   (∀i j,i<len→j<l.n→S a.block (a.off+i*l.n+j)=some (f i j))→
   (∀i j k,i<len→l.ks[j]? =some k→Rep P T S k (f i j) (at_ (rowsAt rows i) j))→Rep P T S (.sl e) (.slice (some a) len cap) (.sl rows)
 |nilfn {t}:Rep P T S (.fn t) .nilFunc .nilfn
 |fn {t f ks cs} (vs:Nat→Value):FnOk P T t f ks→cs.length=ks.length→
   (∀i k,ks[i]? =some k→Rep P T S k (vs i) (at_ cs i))→Rep P T S (.fn t) (.func (.func f) #[] ((List.range ks.length).map vs).toArray) (.fn f cs)
 |ref {t l a row} (f:Nat→Value):Lay P t l→row.length=l.n→a.spot=none→
   (∀j,j<l.n→S a.block (a.off+j)=some (f j))→(∀j k,l.ks[j]? =some k→Rep P T S k (f j) (at_ row j))→Rep P T S (.ref t) (.pointer (some a)) (.dp row)
 |nilp {t}:Rep P T S (.ref t) (.pointer none) .nilp
 |nilI:Rep P T S .ifc .nilIface .nilI
 |anyI {t v}:Rep P T S .ifc (.iface t v) .anyI
section
variable {P:Program} {T:Nat→AFn} {S S':Stab}
def Stab.le (S S':Stab):Prop:=∀b o v,S b o=some v→S' b o=some v
theorem Stab.le_refl (S:Stab):S.le S:=fun _ _ _ h=>h
theorem Stab.le_trans {a b c:Stab} (h:a.le b) (k:b.le c):a.le c:=fun x y v e=>k x y v (h x y v e)
theorem Rep.mono (h:S.le S') {k:K} {v:Value} {c:C} (r:Rep P T S k v c):Rep P T S' k v c:=by
 induction r with
 |int=>exact .int
 |bool=>exact .bool
 |str=>exact .str
 |nils=>exact .nils
 |sl f h1 h2 h3 h4 h5 h6 _ ih=>exact .sl f h1 h2 h3 h4 h5 (fun i j hi hj=>h _ _ _ (h6 i j hi hj)) ih
 |nilfn=>exact .nilfn
 |fn vs h1 h2 _ ih=>exact .fn vs h1 h2 ih
 |ref f h1 h2 h3 h4 _ ih=>exact .ref f h1 h2 h3 (fun j hj=>h _ _ _ (h4 j hj)) ih
 |nilp=>exact .nilp
 |nilI=>exact .nilI
 |anyI=>exact .anyI
structure RepR (P:Program) (T:Nat→AFn) (S:Stab) (ks:List K) (cs:List Value) (row:Row):Prop where
 clen:cs.length=ks.length
 rlen:row.length=ks.length
 cell:∀j k,ks[j]? =some k→Rep P T S k (cs.getD j undef) (at_ row j)
theorem RepR.mono (h:S.le S') {ks cs row} (r:RepR P T S ks cs row):RepR P T S' ks cs row:=
 ⟨r.clen,r.rlen,fun j k hk=>(r.cell j k hk).mono h⟩
def RepL (P:Program) (T:Nat→AFn) (S:Stab) (l:L) (v:Value) (row:Row):Prop:=
 match l with
 | .one k=>∃c,row=[c]∧Rep P T S k v c
 | .agg ks=>∃cs:Array Value,v= .agg cs∧RepR P T S ks cs.toList row
theorem RepL.mono (h:S.le S') {l v row} (r:RepL P T S l v row):RepL P T S' l v row:=by
 cases l with
 |one k=>obtain ⟨c,hc,hr⟩:=r;exact ⟨c,hc,hr.mono h⟩
 |agg ks=>obtain ⟨c,hc,hr⟩:=r;exact ⟨c,hc,hr.mono h⟩
theorem Rep.not_agg {k:K} {v:Value} {c:C} (r:Rep P T S k v c):v.oneCell'=true∧v.cells=#[v]:=by
 cases r<;>exact ⟨rfl,rfl⟩
theorem RepL.cells {l v row} (r:RepL P T S l v row):RepR P T S l.ks v.cells.toList row:=by
 cases l with
 |one k=>
  obtain ⟨c,rfl,hr⟩:=r
  rw[hr.not_agg.2]
  refine ⟨rfl,rfl,fun j k' hk=> ?_⟩
  cases j with
  |zero=>simp[L.ks]at hk;subst hk;exact hr
  |succ j=>simp[L.ks]at hk
 |agg ks=>
  obtain ⟨cs,rfl,hr⟩:=r
  exact hr
theorem RepL.of_one {k:K} {v:Value} {row:Row} (r:RepL P T S (.one k) v row):Rep P T S k v (at_ row 0):=by
 obtain ⟨c,rfl,hr⟩:=r;exact hr
theorem nrm_of_rep {k:K} {v:Value} {c:C} (r:Rep P T S k v c):nrm (.one k) [c]=[c]:=by
 cases r<;>rfl
theorem RepL.nrm {l v row} (r:RepL P T S l v row):nrm l row=row:=by
 cases l with
 |one k=>obtain ⟨c,rfl,hr⟩:=r;exact nrm_of_rep hr
 |agg ks=>rfl
theorem tag_inj {a b:IntKind} (h:Nat.beq (IntKind.tag a) (IntKind.tag b)=true):a=b:=by
 cases a<;>cases b<;>first |rfl |simp[IntKind.tag]at h
theorem K.beq_eq:∀{a b:K},K.beq a b=true→a=b
 | .int a, .int b,h=>by rw[tag_inj h]
 | .bool, .bool,_=>rfl
 | .str, .str,_=>rfl
 | .sl a, .sl b,h=>by rw[Nat.eq_of_beq_eq_true h]
 | .fn a, .fn b,h=>by rw[Nat.eq_of_beq_eq_true h]
 | .ref a, .ref b,h=>by rw[Nat.eq_of_beq_eq_true h]
 | .ifc, .ifc,_=>rfl
theorem ksBeq_eq:∀{a b:List K},ksBeq a b=true→a=b
 |[],[],_=>rfl
 |[],_::_,h=>by simp[ksBeq]at h
 |_::_,[],h=>by simp[ksBeq]at h
 |a::x,b::y,h=>by
  simp only[ksBeq,Bool.and_eq_true]at h
  rw[K.beq_eq h.1,ksBeq_eq h.2]
theorem L.beq_eq {a b:L} (h:L.beq a b=true):a=b:=by
 cases a<;>cases b<;>simp[L.beq]at h
 ·rw[K.beq_eq h]
 ·rw[ksBeq_eq h]
theorem at_sub (r:Row) (off n j:Nat) (h:j<n):at_ (sub r off n) j=at_ r (off+j):=by
 induction n generalizing off j with
 |zero=>omega
 |succ n ih=>
  cases j with
  |zero=>simp[sub,Ev.at_]
  |succ j=>
   have:=ih (off+1) j (by omega)
   simp only[sub,Ev.at_]at this⊢
   simpa[Nat.add_assoc,Nat.add_comm 1 j]using this
theorem length_sub (r:Row) (off n:Nat):(sub r off n).length=n:=by
 induction n generalizing off with
 |zero=>rfl
 |succ n ih=>simp[sub,ih]
theorem length_put (r s:Row) (off m i n:Nat):(put r off m s i n).length=n:=by
 induction n generalizing i with
 |zero=>rfl
 |succ n ih=>simp[put,ih]
theorem at_put (r s:Row) (off m i n j:Nat) (h:j<n):
 at_ (put r off m s i n) j=if off≤i+j∧i+j<off+m then at_ s (i+j - off)else at_ r (i+j):=by
 induction n generalizing i j with
 |zero=>omega
 |succ n ih=>
  cases j with
  |zero=>
   simp only[put,Ev.at_,List.getD_cons_zero,Nat.add_zero]
   cases hb:Nat.ble off i&&Nat.blt i (off+m)with
   |true=>
    simp only[Bool.and_eq_true,Nat.ble_eq,Nat.blt_eq]at hb
    rw[if_pos hb]
   |false=>
    rw[if_neg]
    intro hc
    have:(Nat.ble off i&&Nat.blt i (off+m))=true:=by simp only[Bool.and_eq_true,Nat.ble_eq,Nat.blt_eq];exact hc
    rw[this]at hb;exact absurd hb (by simp)
  |succ j=>
   have:=ih (i+1) j (by omega)
   simp only[put,Ev.at_]at this⊢
   simp only[List.getD_cons_succ]
   rw[this]
   simp only[Nat.add_assoc,Nat.add_comm 1 j]
theorem RepR.sub {ks:List K} {cs:List Value} {row:Row} (r:RepR P T S ks cs row) (ks':List K) (off:Nat) (h:ks'=(ks.drop off).take ks'.length):
 RepR P T S ks' ((cs.drop off).take ks'.length) (sub row off ks'.length):=by
 have hl:ks'.length≤ks.length - off:=by
  have:=congrArg List.length h;simp at this;omega
 refine ⟨by simp[r.clen];omega,length_sub _ _ _,fun j k hk=> ?_⟩
 have hj:j<ks'.length:=(List.getElem?_eq_some_iff.1 hk).1
 rw[at_sub _ _ _ _ hj]
 have hk':ks[off+j]? =some k:=by
  rw[h]at hk;simp[hj]at hk;exact hk
 have:=r.cell (off+j) k hk'
 have e:((cs.drop off).take ks'.length).getD j undef=cs.getD (off+j) undef:=by
  simp[List.getD_eq_getElem?_getD,hj]
 rw[e];exact this
end
structure Pl where
 blk:Nat→Nat
 cap:Nat→Nat
inductive RelV (P:Program) (T:Nat→AFn) (S:Stab) (pl:Pl) (St:St):AV→Value→Prop
 |undef {v}:RelV P T S pl St .undef v
 |und:RelV P T S pl St .und undef
 |d {l row v}:RepL P T S l v row→RelV P T S pl St (.d l row) v
 |ptr {id off o v}:v.oneCell'=true→St[id]? =some o→o≠ .fresh→(∀l row,o= .var l row→v= .pointer (some ⟨pl.blk id,off,none⟩))→
   (∀c vs,o= .cells c vs→v= .pointer (some ⟨pl.blk id,off,none⟩))→RelV P T S pl St (.ptr id off) v
 |aptr {id ver idx off o v}:v.oneCell'=true→St[id]? =some o→o≠ .fresh→(∀v l c,o= .arr v l c→ver≤v)→(∀l c,o= .arr ver l c→v= .pointer (some ⟨pl.blk id,idx*l.n+off,none⟩))→RelV P T S pl St (.aptr id ver idx off) v
 |whole {id ver o v}:v.oneCell'=true→St[id]? =some o→o≠ .fresh→(∀v l c,o= .arr v l c→ver≤v)→
   (∀l,o= .arr ver l .nils→v= .slice none 0 0)→
   (∀l rows,o= .arr ver l (.sl rows)→v= .slice (some ⟨pl.blk id,0,none⟩) rows.length (pl.cap id))→RelV P T S pl St (.whole id ver) v
 |own {id ver off len o v}:v.oneCell'=true→St[id]? =some o→o≠ .fresh→(∀v l c,o= .arr v l c→ver≤v)→
   (∀l rows,o= .arr ver l (.sl rows)→∃a,v= .slice (some a) len (pl.cap id - off)∧off+len≤rows.length∧rows.length≤pl.cap id∧(len≠0∨off=0→a=⟨pl.blk id,off*l.n,none⟩))→
   (∀l,o≠ .arr ver l .nils)→RelV P T S pl St (.own id ver off len) v
 |fn {f caps} (vs:Nat→Value):(∀i av,caps[i]? =some av→RelV P T S pl St av (vs i))→RelV P T S pl St (.fn f caps) (.func (.func f) #[] ((List.range caps.length).map vs).toArray)
 |tup {avs} (vs:Nat→Value):(∀i av,avs[i]? =some av→RelV P T S pl St av (vs i))→RelV P T S pl St (.tup avs) (.tuple ((List.range avs.length).map vs).toArray)
 |map {id o v}:v.oneCell'=true→St[id]? =some o→o≠ .fresh→(∀kl vl es,o= .map kl vl es→v= .map (some (pl.blk id)))→RelV P T S pl St (.map id) v
 |sw {id ver o v}:v.oneCell'=true→St[id]? =some o→o≠ .fresh→(∀v e l c,o= .sarr v e l c→ver≤v)→
   (∀e l,o= .sarr ver e l .nils→v= .slice none 0 0)→
   (∀e l rows,o= .sarr ver e l (.sl rows)→v= .slice (some ⟨pl.blk id,0,none⟩) rows.length (pl.cap id))→RelV P T S pl St (.sw id ver) v
 |hol {id o v}:v.oneCell'=true→St[id]? =some o→o≠ .fresh→(∀l i av,o= .hol l .nils i av→v= .slice none 0 0)→(∀l rows i av,o= .hol l (.sl rows) i av→v= .slice (some ⟨pl.blk id,0,none⟩) rows.length (pl.cap id))→RelV P T S pl St (.hol id) v
 |hptr {id idx o v}:v.oneCell'=true→St[id]? =some o→o≠ .fresh→(∀l rows i av,o= .hol l (.sl rows) i av→v= .pointer (some ⟨pl.blk id,idx*l.n,none⟩))→RelV P T S pl St (.hptr id idx) v
 |agg {avs} (vs:Nat→Value):(∀i,i<avs.length→(vs i).oneCell'=true)→(∀i av,avs[i]? =some av→RelV P T S pl St av (vs i))→RelV P T S pl St (.agg avs) (.agg ((List.range avs.length).map vs).toArray)
def Obj.has:Obj→Bool
 | .fresh=>false
 | .dead=>false
 | .var .. =>true
 | .cells .. =>true
 | .arr _ _ .nils=>false
 | .arr .. =>true
 | .map .. =>true
 | .sarr _ _ _ .nils=>false
 | .sarr .. =>true
 | .hol _ .nils _ _=>false
 | .hol .. =>true
def Obj.sn:Obj→Nat
 | .sarr _ _ l c=>c.rows.length*l.n
 |_=>0
def Bo (ens:Array MapEntry) (clock:Nat):Prop:=clock=ens.size∧∀(i:Nat) (en:MapEntry),ens[i]? =some en→en.born=i
def ObjIs (P:Program) (T:Nat→AFn) (S:Stab) (pl:Pl) (St:St) (w:World) (id:Nat):Obj→Prop
 | .fresh=>True
 | .dead=>True
 | .var l row=>∃cur e,w.heap[pl.blk id]? =some (.cells cur e (0,0))∧RepR P T S l.ks cur.toList row
 | .cells _ vs=>∃cur e,w.heap[pl.blk id]? =some (.cells cur e (0,0))∧cur.size=vs.length∧(∀i av,vs[i]? =some av→RelV P T S pl St av (cur.getD i undef))∧∀i,i<cur.size→(cur.getD i undef).oneCell'=true
 | .arr _ l c=>c= .nils∨∃rows cur e i,c= .sl rows∧w.heap[pl.blk id]? =some (.cells cur e (0,0))∧Lay P e l∧P.info? e=some i∧0<l.n∧rows.length≤pl.cap id∧pl.cap id≤maxLen∧
     cur.size=pl.cap id*l.n∧∀i r,rows[i]? =some r→RepR P T S l.ks ((cur.toList.drop (i*l.n)).take l.n) r
 | .sarr _ e l c=>c= .nils∨∃rows cur e' i,c= .sl rows∧w.heap[pl.blk id]? =some (.cells cur e' (0,0))∧Lay P e l∧P.info? e=some i∧0<l.n∧rows.length≤pl.cap id∧pl.cap id≤maxLen∧
     cur.size=pl.cap id*l.n∧(∀i r,rows[i]? =some r→RepR P T S l.ks ((cur.toList.drop (i*l.n)).take l.n) r)∧∀p,p<rows.length*l.n→S (pl.blk id) p=some (cur.getD p undef)
 | .hol l c i av=>c= .nils∨∃rows cur e inf,c= .sl rows∧w.heap[pl.blk id]? =some (.cells cur e (0,0))∧Lay P e l∧P.info? e=some inf∧0<l.n∧rows.length≤pl.cap id∧pl.cap id≤maxLen∧cur.size=pl.cap id*l.n∧
     (∀j r,j≠i→rows[j]? =some r→RepR P T S l.ks ((cur.toList.drop (j*l.n)).take l.n) r)∧(i<rows.length→l.n=1∧RelV P T S pl St av (cur.getD i undef)∧(cur.getD i undef).oneCell'=true)
 | .map kl vl es=>∃ens clock,w.heap[pl.blk id]? =some (.map ens clock)∧(ens.size=es.length∧Bo ens clock)∧
     ∀(i:Nat) (k v:Row),es[i]? =some (k,v)→∃en:MapEntry,ens[i]? =some en∧RepL P T S kl en.key k∧RepL P T S vl en.val v
def gbase:Nat:=1000000
def GlobOk (P:Program) (T:Nat→AFn) (S:Stab):Prop:=∀g t l row,T (gbase+g)= .glob t l row→Rep P T S (.ref t) (.pointer (some ⟨g,0,none⟩)) (.dp row)
theorem GlobOk.mono {P:Program} {T:Nat→AFn} {S S':Stab} (h:S.le S') (g:GlobOk P T S):GlobOk P T S':=fun a b c d e=>(g a b c d e).mono h
def GlobSz (T:Nat→AFn) (w:World):Prop:=∀g t l row,T (gbase+g)= .glob t l row→∃cs e z,w.heap[g]? =some (.cells cs e z)∧cs.size=l.n
def Glo (T:Nat→AFn) (pl:Pl) (St:St) (w:World):Prop:=∀g t l row,T (gbase+g)= .glob t l row→
 (∃cs e z,w.heap[g]? =some (.cells cs e z)∧cs.size=l.n)∧∀id o,St[id]? =some o→o.has=true→pl.blk id≠g
structure Sim (P:Program) (T:Nat→AFn) (S:Stab) (pl:Pl) (St:St) (w:World):Prop where
 stab:∀b o v,S b o=some v→w.cell? ⟨b,o,none⟩=some v
 objs:∀id o,St[id]? =some o→ObjIs P T S pl St w id o
 apart:∀id o,St[id]? =some o→o.has=true→∀off,o.sn≤off→S (pl.blk id) off=none
 inj:∀i j o o',St[i]? =some o→St[j]? =some o'→o.has=true→o'.has=true→pl.blk i=pl.blk j→i=j
 glob:GlobOk P T S
 glo:Glo T pl St w
theorem Sim.gsz {P:Program} {T:Nat→AFn} {S:Stab} {pl:Pl} {St:St} {w:World} (h:Sim P T S pl St w):GlobSz T w:=fun g t l row e=>(h.glo g t l row e).1
def RelF (P:Program) (T:Nat→AFn) (S:Stab) (pl:Pl) (St:St) (F:Fr) (tmps:Array Value):Prop:=
 ∀t,RelV P T S pl St (F.get t) (tmps.getD t undef)
structure Grow (own:Nat→Prop) (S0:Stab) (w0:World) (S:Stab) (w:World):Prop where
 os:w.os=w0.os
 tape:w.tape=w0.tape
 output:w.output=w0.output
 size:w0.heap.size≤w.heap.size
 block:∀b,b<w0.heap.size→¬own b→w.heap[b]? =w0.heap[b]?
 mono:S0.le S
 new:∀b o,b<w0.heap.size→¬own b→S b o=S0 b o
theorem Grow.refl (own:Nat→Prop) (S:Stab) (w:World):Grow own S w S w:=⟨rfl,rfl,rfl,Nat.le_refl _,fun _ _ _=>rfl,S.le_refl,fun _ _ _ _=>rfl⟩
theorem Grow.trans {own own':Nat→Prop} {S0 S S':Stab} {w0 w w':World} (h:Grow own S0 w0 S w) (k:Grow own' S w S' w')
 (ho:∀b,b<w0.heap.size→own' b→own b):Grow own S0 w0 S' w':=
 ⟨k.os.trans h.os,k.tape.trans h.tape,k.output.trans h.output,Nat.le_trans h.size k.size,
   fun b hb hn=>(k.block b (Nat.lt_of_lt_of_le hb h.size) (fun x=>hn (ho b hb x))).trans (h.block b hb hn),
   Stab.le_trans h.mono k.mono,
   fun b o hb hn=>(k.new b o (Nat.lt_of_lt_of_le hb h.size) (fun x=>hn (ho b hb x))).trans (h.new b o hb hn)⟩
def Owns (pl:Pl) (St:St) (b:Nat):Prop:=∃id o,St[id]? =some o∧o.has=true∧o.cst=false∧pl.blk id=b
end Go.Ev
