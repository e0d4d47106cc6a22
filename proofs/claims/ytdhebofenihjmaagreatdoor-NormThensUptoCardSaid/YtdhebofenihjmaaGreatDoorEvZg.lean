/-
  The library's numerals, as a function that is given.
-/
import Derived.Test.YtdhebofenihjmaaGreatDoorEvZa
import Derived.Lib.LaidTab
import Derived.Lib.ItoaNum
import Derived.Shelf.Strconv.Itoa3
set_option linter.all false
namespace Go.Ev
variable {P:Program} {T:Nat→yF} {w:World}
def aXQ:List Row→Option (List Row)
 |[[.int n]]=>if -9223372036854775808≤n∧n≤9223372036854775807 then some [[.str (Lib.itoa n)]]else none
 |_=>none
theorem bD4 {S:yA} (hst:tD S w) (hgl:hO P T S) (hgz:xM T w) {g:Nat} {t:TypeId} {l:L} {row:Row} (hT:T (oZ+g)= .fR t l row) (hl:l.ks=List.replicate row.length (.int .u64)) (hL:Lay P t l)
 {name:String} (hn:P.globalNamed name=some g) {zs:List Int} (hz:row=zs.map .int):Lib.TabIs P w name .u64 zs:=by
 obtain ⟨cs,e,z,h1,h2⟩:=hgz g t l row hT
 have hr:=hgl g t l row hT
 unfold Lib.TabIs World.var?
 rw[hn]
 simp only[Option.bind_some,h1]
 generalize hv:Value.pointer (some ⟨g,0,none⟩)=v at hr
 generalize hd:C.dp row=c at hr
 cases hr with
 |ref f q1 q2 q3 q4 q5=>
  cases hv
  cases hd
  obtain rfl:=hL.inj q1
  congr 1
  have hn':l.n=zs.length:=by simp[L.n,hl,hz]
  apply Array.ext'
  refine List.ext_getElem (by simp[h2,hn']) fun j a1 a2=> ?_
  have hj:j<zs.length:=by simpa using a2
  have hs:=hst _ _ _ (q4 j (by omega))
  rw[Nat.zero_add,cell_of_row w _ _ _ _ _ h1]at hs
  have hk:l.ks[j]? =some (.int .u64):=by rw[hl,List.getElem?_replicate,if_pos (by simp[hz];exact hj)]
  have hf:=q5 j _ hk
  have hat:at_ row j= .int zs[j]:=by simp[hz,at_,List.getD_eq_getElem?_getD,hj]
  rw[hat]at hf
  generalize hfj:f j=u at hf hs
  cases hf
  have:cs.toList[j]? =some (.int .u64 zs[j]):=by simpa using hs
  rw[List.getElem?_eq_getElem a1]at this
  simpa using this
 |aTm=>cases hd
theorem aVd {f g:Nat} {t:TypeId} {l:L} {row:Row} (he:∀args w,(callFunc f args).run P w= .ok (.enter f args) w) (hT:T (oZ+g)= .fR t l row) (hl:l.ks=List.replicate row.length (.int .u64)) (hL:Lay P t l)
 (hn:P.globalNamed "internal/strconv.uint64pow10" =some g) (hz:row=Lib.pow10Tab.map .int)
 (hc:∀(n:Int), -9223372036854775808≤n→n≤9223372036854775807→∀w,Lib.TabIs P w "internal/strconv.uint64pow10" .u64 Lib.pow10Tab→
   Calls P f #[.int .i64 n] w fun e w'=>e= .returned (.string ⟨(Lib.itoa n).toArray⟩)∧∃k os,w'=Go.Sort.grow (w.drewN k) os):aIn P T f [.one (.int .i64)] [.one .str] aXQ:=by
 intro rows out h S w vs hst hgl hgz hargs
 refine ⟨he _ _, ?_⟩
 unfold aXQ at h
 split at h
 ·rename_i n
  split at h
  ·rename_i hb
   simp only[Option.some.injEq]at h
   subst h
   obtain ⟨h1,h2,h3⟩:=hargs
   obtain ⟨v,rfl⟩:∃v,vs=[v]:=by
    match vs,h1 with
    |[v],_=>exact ⟨v,rfl⟩
   have hv:=h3 0 _ rfl
   obtain ⟨c,hc1,hr⟩:=hv
   have:c= .int n:=by
    have e0:aA [[C.int n]] 0=[C.int n]:=rfl
    rw[e0]at hc1
    simpa using hc1.symm
   subst this
   have hr':v= .int .i64 n:=by
    simp only[List.getD_cons_zero]at hr
    cases hr;rfl
   subst hr'
   refine (hc n hb.1 hb.2 w (bD4 hst hgl hgz hT hl hL hn hz)).mono ?_
   rintro e w' ⟨rfl,k,os,rfl⟩
   have hold:∀b,b<w.heap.size→(Go.Sort.grow (w.drewN k) os).heap[b]? =w.heap[b]? :=fun b hb=>by
    simp[Go.Sort.grow,World.drewN,Array.getElem?_append,hb]
   refine ⟨[.string ⟨(Lib.itoa n).toArray⟩],S,rfl,⟨rfl,rfl,rfl,by simp[Go.Sort.grow,World.drewN],fun b hb _=>hold b hb,S.le_refl,fun _ _ _ _=>rfl⟩,fun b o u hs=> ?_,⟨rfl,rfl,fun i l hi=> ?_⟩⟩
   ·have:=hst b o u hs
    have hlt:b<w.heap.size:=World.block_lt_of_cell? w ⟨b,o,none⟩ this
    rw[World.cell?_of_block (w:=w) (hold b hlt)];exact this
   ·match i,hi with
    |0,hi=>
     simp only[List.getElem?_cons_zero,Option.some.injEq]at hi
     subst hi
     refine ⟨.str (Lib.itoa n),rfl, ?_⟩
     have:=gO.str (P:=P) (T:=T) (S:=S) (b:=⟨(Lib.itoa n).toArray⟩)
     simpa using this
  ·simp at h
 ·simp at h
end Go.Ev
