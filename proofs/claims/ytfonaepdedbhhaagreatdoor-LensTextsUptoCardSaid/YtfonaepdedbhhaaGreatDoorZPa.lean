/-
  Printing words: a blank ahead of each but the first.
-/
import Derived.Test.YtfonaepdedbhhaaGreatDoorZS
import Derived.Test.YtfonaepdedbhhaaGreatDoorZY
set_option linter.all false
set_option maxRecDepth 100000
namespace Go.Ev.oO
def aMI (b w:Bytes):Bytes:=if b=[]then w else b++32::w
def gD (b:Bytes) (ws:List Bytes):Bytes:=ws.foldl aMI b
def pO (ws:List Bytes):Nat:=(ws.map fun w=>w.length+1).sum
theorem aUm (b w:Bytes):(aMI b w).length≤b.length+(w.length+1):=by
 unfold aMI;split
 ·rename_i h;subst h;simp
 ·simp only[List.length_append,List.length_cons];omega
theorem aCN:∀(ws:List Bytes) (b:Bytes),(gD b ws).length≤b.length+pO ws
 |[],b=>by simp[gD,pO]
 |w::ws,b=>by
  have h1:=aUm b w
  have h2:=aCN ws (aMI b w)
  simp only[gD,pO,List.foldl_cons,List.map_cons,List.sum_cons]at h2⊢
  omega
theorem zF (b:Bytes) (u v:List Bytes):gD b (u++v)=gD (gD b u) v:=List.foldl_append
theorem aLq (b w:Bytes) (ws:List Bytes):gD b (w::ws)=gD (aMI b w) ws:=rfl
theorem uX (u v:List Bytes):pO (u++v)=pO u+pO v:=by simp[pO]
theorem wG (w:Bytes) (v:List Bytes):pO (w::v)=w.length+1+pO v:=by simp[pO]
def Txt (o:C) (b:Bytes):Prop:=o.rows=b.map yD
theorem a1N (ws:List Bytes) (hn:ws.length≤big):∀(j i:Nat) (b:Bytes) (o:C),i+j=ws.length→Txt o b→b.length+pO (ws.drop i)≤1099511627776/16→
 ∃o',cE (bA T) (.sl (ws.map iB)) (ws.length:Int) (i:Int) o=some (0,[.r [o']])∧Txt o' (gD b (ws.drop i))
 |0,i,b,o,hi,ho,hb=>by
  rw[bZ];unfold uM
  obtain rfl:i=ws.length:=by omega
  rw[if_neg (by simp)]
  exact ⟨o,rfl,by simpa[gD]using ho⟩
 |j+1,i,b,o,hi,ho,hb=>by
  have hlt:i<ws.length:=by omega
  rw[bZ];unfold uM
  rw[if_pos (by simp;omega),if_pos (by constructor;omega;show (i:Int)<((ws.map iB).length:Int);simp;omega)]
  have hd:ws.drop i=ws[i]::ws.drop (i+1):=List.drop_eq_getElem_cons hlt
  rw[hd,wG]at hb
  have hw:(at_ (aA (C.sl (ws.map iB)).rows (i:Int).toNat) 0).mD=ws[i]:=by
   show (at_ (aA (ws.map iB) (i:Int).toNat) 0).mD=_
   rw[Int.toNat_natCast,fC _ _ _ hlt];rfl
  rw[hw,hd,aLq]
  have hl:o.rows.length=b.length:=by rw[ho,List.length_map]
  have hal:=aUm b ws[i]
  have step:∀o2:C,o2.rows++ws[i].map yD=(aMI b ws[i]).map yD→o2.rows.length≤b.length+1→
   ∃o',((if ((gC 4 [PV.r [.str ws[i]], .r [.sl (ws.map iB)], .r [.int (ws.length:Int)], .r [.int (i:Int)], .r [o2]]).rows).length+(gS 0 [PV.r [.str ws[i]], .r [.sl (ws.map iB)], .r [.int (ws.length:Int)], .r [.int (i:Int)], .r [o2]]).length≤1099511627776 then
    cE (bA T) (gC 1 [PV.r [.str ws[i]], .r [.sl (ws.map iB)], .r [.int (ws.length:Int)], .r [.int (i:Int)], .r [o2]]) (gI 2 [PV.r [.str ws[i]], .r [.sl (ws.map iB)], .r [.int (ws.length:Int)], .r [.int (i:Int)], .r [o2]]) (Go.IntKind.i64.wrap ((gI 3 [PV.r [.str ws[i]], .r [.sl (ws.map iB)], .r [.int (ws.length:Int)], .r [.int (i:Int)], .r [o2]])+1)) (pE (gC 4 [PV.r [.str ws[i]], .r [.sl (ws.map iB)], .r [.int (ws.length:Int)], .r [.int (i:Int)], .r [o2]]) ((gS 0 [PV.r [.str ws[i]], .r [.sl (ws.map iB)], .r [.int (ws.length:Int)], .r [.int (i:Int)], .r [o2]]).map yD))
   else none)=some (0,[.r [o']]))∧Txt o' (gD (aMI b ws[i]) (ws.drop (i+1))):=by
   intro o2 h1 h2
   rw[if_pos (by show o2.rows.length+ws[i].length≤_;omega)]
   have hwr:Go.IntKind.i64.wrap ((i:Int)+1)=((i+1:Nat):Int):=lC (by omega)
   have ih:=a1N ws hn j (i+1) (aMI b ws[i]) (pE o2 (ws[i].map yD)) (by omega) (by show (pE _ _).rows=_;rw[mE];exact h1) (by omega)
   show ∃o',cE (bA T) (.sl (ws.map iB)) (ws.length:Int) (Go.IntKind.i64.wrap ((i:Int)+1)) (pE o2 (ws[i].map yD))=some (0,[.r [o']])∧_
   rw[hwr]
   exact ih
  by_cases hb0:b=[]
  ·subst hb0
   rw[if_neg (by simp[hl])]
   exact step o (by rw[ho];rfl) (by omega)
  ·have hpos:0<b.length:=List.length_pos_iff.2 hb0
   rw[if_pos (by simp[hl];omega),if_pos (by show (o.rows.length+1)*1≤140737488355328;omega)]
   refine step (pE o [[.int 32]]) ?_ (by rw[mE];simp[hl])
   rw[mE,ho]
   simp[aMI,hb0,yD]
theorem aZz (ws:List Bytes) (hn:ws.length≤big) (b:Bytes) (o:C) (ho:Txt o b) (hb:b.length+pO ws≤1099511627776/16):
 ∃o',(bA T).ic gA [.r [.sl (ws.map iB)], .r [o]]=some [.r [o']]∧Txt o' (gD b ws):=by
 rw[aIF];unfold oZ
 obtain ⟨o',h1,h2⟩:=a1N ws hn ws.length 0 b o (by omega) ho (by simpa using hb)
 have h1':cE (bA T) (.sl (ws.map iB)) ((C.sl (ws.map iB)).rows.length:Int) 0 o=some (0,[.r [o']]):=by
  have:(C.sl (ws.map iB)).rows.length=ws.length:=by show (ws.map iB).length=_;simp
  rw[this];exact h1
 rw[h1']
 exact ⟨o',rfl,by simpa using h2⟩
end Go.Ev.oO
namespace Go.Ev.oO
open Go.Proofs.Bld (qb cH fZ aGX aDo)
def aJJ:List UInt8:=[48,49,50,51,52,53,54,55,56,57,97,98,99,100,101,102]
def a9K (n:Nat):Bool:=((n:Int).fdiv (2^(min 4 (Go.IntKind.bits .u8)))==((n/16:Nat):Int))&&(bitsOf .and .u8 (n:Int) 15==((n % 16:Nat):Int))
theorem a9L:(List.range 256).all a9K=true:=by kernel_rfl
theorem nib (n:Nat) (h:n<256):(n:Int).fdiv (2^(min 4 (Go.IntKind.bits .u8)))=((n/16:Nat):Int)∧bitsOf .and .u8 (n:Int) 15=((n % 16:Nat):Int):=by
 have h1:=List.all_eq_true.1 a9L n (List.mem_range.2 h)
 have h2:=Bool.and_eq_true_iff.1 h1
 exact ⟨eq_of_beq h2.1,eq_of_beq h2.2⟩
def a9M (n:Nat):Bool:=aJJ.getD n 0==fZ n
theorem a9N:(List.range 16).all a9M=true:=by kernel_rfl
theorem dig (n:Nat) (h:n<16):aJJ.getD n 0=fZ n:=eq_of_beq (List.all_eq_true.1 a9N n (List.mem_range.2 h))
def aVF (n:Nat):Prop:=32<n∧n<127∧n≠34∧n≠92
instance (n:Nat):Decidable (aVF n):=by unfold aVF;infer_instance
theorem aTg (s:Bytes) (hs:s.length≤4294967296):∀(j i:Nat) (o:C),i+j=s.length→Txt o (34::(s.take i).flatMap qb)→
 ∃o',kQ (bA T) s (s.length:Int) (i:Int) o=some (0,[.r [o']])∧Txt o' (34::s.flatMap qb)
 |0,i,o,hi,ho=>by
  rw[aHr];unfold aDi
  obtain rfl:i=s.length:=by omega
  rw[if_neg (by simp)]
  exact ⟨o,rfl,by simpa using ho⟩
 |j+1,i,o,hi,ho=>by
  have hlt:i<s.length:=by omega
  rw[aHr];unfold aDi
  rw[if_pos (by simp;omega),if_pos (by constructor<;>omega)]
  obtain ⟨c,hc⟩:∃c,c=s[i]:=⟨_,rfl⟩
  have hg:s.getD (i:Int).toNat 0=c:=by rw[Int.toNat_natCast,List.getD_eq_getElem?_getD,List.getElem?_eq_getElem hlt,hc];rfl
  rw[hg]
  obtain ⟨n,hn⟩:∃n:Nat,n=c.toNat:=⟨_,rfl⟩
  have hn2:n<256:=by rw[hn];exact c.toNat_lt
  rw[←hn]
  have hlen:o.rows.length≤1+3*i:=by
   rw[ho,List.length_map,List.length_cons]
   have:=aDo (s.take i)
   rw[List.length_take]at this
   omega
  have hnext:34::(s.take (i+1)).flatMap qb=(34::(s.take i).flatMap qb)++qb c:=by
   rw[List.take_succ,List.flatMap_append,List.getElem?_eq_getElem hlt,←hc]
   simp
  have hwr:Go.IntKind.i64.wrap ((i:Int)+1)=((i+1:Nat):Int):=yF (by omega) (by omega)
  have key:∀q:Bool,(let K1:Bool→Option (Nat×List PV):=fun q2=>
   let K3:Bool→Option (Nat×List PV):=fun q4=>
    let K5:Bool→Option (Nat×List PV):=fun q6=>
     some (0,[.r [.str s], .r [.int (n:Int)], .r [.int (s.length:Int)], .r [.int (i:Int)], .r [.bool q6], .r [o]])
    if q4=true then K5 true else K5 ((n:Int)==92)
   if q2=true then K3 true else K3 ((n:Int)==34)
   if (decide ((n:Int)<33))=true then K1 true else K1 (decide ((n:Int)>126)))=some (0,[.r [.str s], .r [.int (n:Int)], .r [.int (s.length:Int)], .r [.int (i:Int)], .r [.bool (!decide (aVF n))], .r [o]]):=by
   intro _
   by_cases h1:n<33
   ·have:¬aVF n:=fun h=>by have:=h.1;omega
    simp[this,show (n:Int)<33 by omega]
   ·by_cases h2:126<n
    ·have:¬aVF n:=fun h=>by have:=h.2.1;omega
     simp[this,show ¬(n:Int)<33 by omega,show (126:Int)<n by omega]
    ·by_cases h3:n=34
     ·subst h3;rfl
     ·by_cases h4:n=92
      ·subst h4;rfl
      ·have:aVF n:=⟨by omega,by omega,h3,h4⟩
       simp[this,show ¬(n:Int)<33 by omega,show ¬(126:Int)<n by omega,show ¬(n:Int)=34 by omega,show ¬(n:Int)=92 by omega]
  rw[key true]
  by_cases hp:aVF n
  ·have hq:qb c=[c]:=by unfold qb;rw[if_pos];rw[←hn];exact hp
   simp only[hp,decide_true,Bool.not_true]
   obtain ⟨o',g1,g2⟩:=aTg s hs j (i+1) (pE o [[.int (n:Int)]]) (by omega) (by
    show (pE _ _).rows=_
    rw[mE,ho,hnext,hq,hn];simp[yD])
   refine ⟨o', ?_,g2⟩
   show (Option.bind (if (o.rows.length+1)*1≤140737488355328 then (some (0,[.r [.str s], .r [.int (s.length:Int)], .r [.int (i:Int)], .r [pE o [[.int (n:Int)]]]]):Option (Nat×List PV))else none) _)=_
   rw[if_pos (by omega)]
   show kQ (bA T) s (s.length:Int) (Go.IntKind.i64.wrap ((i:Int)+1)) _=_
   rw[hwr];exact g1
  ·have hq:qb c=[92,fZ (n/16),fZ (n % 16)]:=by unfold qb;rw[if_neg,←hn];rfl;rw[←hn];exact hp
   simp only[hp,decide_false,Bool.not_false]
   obtain ⟨e1,e2⟩:=nib n hn2
   obtain ⟨o',g1,g2⟩:=aTg s hs j (i+1) (pE o [[.int 92],[.int ((fZ (n/16)).toNat:Int)],[.int ((fZ (n % 16)).toNat:Int)]]) (by omega) (by
    show (pE _ _).rows=_
    rw[mE,ho,hnext,hq];simp[yD])
   refine ⟨o', ?_,g2⟩
   show (Option.bind (if (0:Int)≤((n:Int).fdiv (2^(min 4 (Go.IntKind.bits .u8))))∧((n:Int).fdiv (2^(min 4 (Go.IntKind.bits .u8))))<(aJJ.length:Int)then
    if (0:Int)≤(bitsOf .and .u8 (n:Int) 15)∧(bitsOf .and .u8 (n:Int) 15)<(aJJ.length:Int)then
     if (o.rows.length+3)*1≤140737488355328 then
      (some (0,[.r [.str s], .r [.int (s.length:Int)], .r [.int (i:Int)], .r [pE o [[.int 92],[.int ((aJJ.getD (((n:Int).fdiv (2^(min 4 (Go.IntKind.bits .u8)))).toNat) 0).toNat:Int)],[.int ((aJJ.getD ((bitsOf .and .u8 (n:Int) 15).toNat) 0).toNat:Int)]]]]):Option (Nat×List PV))
     else none
    else none
    else none) _)=_
   have hl:(aJJ.length:Int)=16:=rfl
   rw[e1,e2,hl,if_pos ⟨by omega,by omega⟩,if_pos ⟨by omega,by omega⟩,if_pos (by omega),Int.toNat_natCast,Int.toNat_natCast,dig _ (by omega),dig _ (by omega)]
   show kQ (bA T) s (s.length:Int) (Go.IntKind.i64.wrap ((i:Int)+1)) _=_
   rw[hwr];exact g1
theorem aEA (b:Bytes):bytesOf (b.map yD)=b:=by
 unfold bytesOf
 rw[List.map_map]
 conv=>rhs;rw[←List.map_id b]
 refine List.map_congr_left fun c _=> ?_
 show UInt8.ofNat ((c.toNat:Int)).toNat=c
 rw[Int.toNat_natCast];simp
theorem aLr (s:Bytes) (hs:s.length≤4294967296):(bA T).pc aBz [[.str s]]=some [[.str (cH s)]]:=by
 rw[aRo];unfold aLg
 obtain ⟨o',h1,h2⟩:=aTg s hs s.length 0 (.sl [[.int 34]]) (by omega) rfl
 have h1':kQ (bA T) s (s.length:Int) 0 (.sl ([[.int 34]]:List Row))=some (0,[.r [o']]):=h1
 rw[h1']
 show (if (o'.rows.length+1)*1≤140737488355328 then some [[C.str (bytesOf ((pE o' ([[.int 34]]:List Row)).rows))]]else none)=_
 have hl:o'.rows.length≤1+3*s.length:=by
  rw[h2,List.length_map,List.length_cons]
  have:=aDo s
  omega
 rw[if_pos (by omega),mE,h2]
 have e:(34::s.flatMap qb).map yD++[[C.int 34]]=(cH s).map yD:=by simp[cH,yD]
 rw[e,aEA]
theorem aJK (s:Bytes) (hs:s.length≤4294967296):(bA T).pc zP [[.str s]]=some [[.str (cH s)]]:=by
 refine (aJ7 T (rfl:T zP= .given _ _ (aZr cH 4294967296)) _).trans ?_
 exact if_pos hs
end Go.Ev.oO
namespace Go.Ev.oO
open Go.Proofs.Bld (fZ)
def hx (u:Nat):Bytes:=if h:u<16 then [fZ u]else hx (u/16)++[fZ (u % 16)]
 termination_by u
 decreasing_by omega
def dg:Nat→Nat→Bytes
 |0,_=>[]
 |k+1,u=>dg k (u/16)++[fZ (u % 16)]
theorem aQa {u:Nat} (h:u<16):hx u=[fZ u]:=by rw[hx,dif_pos h]
theorem aZA {u:Nat} (h:¬u<16):hx u=hx (u/16)++[fZ (u % 16)]:=by rw[hx,dif_neg h]
theorem aIH:∀k u,(dg k u).length=k
 |0,_=>rfl
 |k+1,u=>by simp[dg,aIH k]
theorem aWJ:∀k,dg k 0=List.replicate k 48
 |0=>rfl
 |k+1=>by
  rw[dg,Nat.zero_div,aWJ k,List.replicate_succ']
  rfl
theorem aVG:∀k u,1≤k→u<16^k→(hx u).length≤k∧List.replicate (k - (hx u).length) 48++hx u=dg k u
 |0,_,h,_=>absurd h (by omega)
 |k+1,u,_,hu=>by
  by_cases h:u<16
  ·rw[aQa h,dg,show u/16=0 by omega,aWJ,show u % 16=u by omega]
   exact ⟨by simp,by simp⟩
  ·have hk:1≤k:=by
    rcases Nat.eq_zero_or_pos k with h0 |h0
    ·subst h0;omega
    ·exact h0
   have hd:u/16<16^k:=by
    rw[Nat.pow_succ]at hu
    exact Nat.div_lt_of_lt_mul (by omega)
   obtain ⟨h1,h2⟩:=aVG k (u/16) hk hd
   rw[aZA h,dg,←h2]
   refine ⟨by simp;omega, ?_⟩
   rw[List.length_append,List.length_singleton,show k+1 - ((hx (u/16)).length+1)=k - (hx (u/16)).length by omega,List.append_assoc]
theorem a1O:∀(k u j:Nat),j<k→(dg k u)[j]? =some (fZ (u/16^(k - 1 - j)% 16))
 |0,_,_,h=>absurd h (by omega)
 |k+1,u,j,h=>by
  rw[dg]
  by_cases hj:j<k
  ·rw[List.getElem?_append_left (by rw[aIH];exact hj),a1O k (u/16) j hj,Nat.div_div_eq_div_mul,←Nat.pow_succ',show (k - 1 - j).succ=k+1 - 1 - j by omega]
  ·rw[List.getElem?_append_right (by rw[aIH];omega),aIH,show j - k=0 by omega,show k+1 - 1 - j=0 by omega]
   simp
end Go.Ev.oO
namespace Go.Ev.oO
open Go.Proofs.Bld (fZ)
def cellOf (b:UInt8):C:= .int b.toNat
theorem aUn (r:Row) (hr:r.length=65) (off:Nat) (ho:off<65) (c:C):(put r off 1 [c] 0 65).length=65∧(put r off 1 [c] 0 65).drop off=c::r.drop (off+1):=by
 refine ⟨aKJ _ _ _ _ _ _, ?_⟩
 have hg:∀j,j<65→at_ (put r off 1 [c] 0 65) j=if j=off then c else at_ r j:=by
  intro j hj
  rw[aYl _ _ _ _ _ _ _ hj,Nat.zero_add]
  by_cases h:j=off
  ·subst h;simp[at_]
  ·simp[h];omega
 have hp:=aKJ r [c] off 1 0 65
 refine List.ext_getElem (by simp[hp,hr];omega) fun j h1 h2=> ?_
 have hj:off+j<65:=by simp[hp]at h1;omega
 have h3:=hg (off+j) hj
 simp only[at_,List.getD_eq_getElem?_getD]at h3
 rw[List.getElem?_eq_getElem (by rw[hp];exact hj)]at h3
 rw[List.getElem_drop]
 cases j with
 |zero=>simpa using h3
 |succ j=>
  rw[if_neg (by omega),List.getElem?_eq_getElem (by omega)]at h3
  simp only[Option.getD_some]at h3
  rw[List.getElem_cons_succ,List.getElem_drop,h3]
  congr 1;omega
theorem wrap_u64 {n:Nat} (h:n<18446744073709551616):Go.IntKind.u64.wrap (n:Int)=n:=by
 rw[IntKind.wrap_u64];omega
theorem a1P (u:Nat) (h:u<18446744073709551616):bitsOf .and .u64 (u:Int) 15=((u % 16:Nat):Int):=by
 unfold bitsOf
 have e1:(BitVec.ofInt (Go.IntKind.bits .u64) (u:Int)).toNat=u:=by
  show (BitVec.ofInt 64 (u:Int)).toNat=u
  rw[BitVec.ofInt_natCast,BitVec.toNat_ofNat];omega
 have e2:(BitVec.ofInt (Go.IntKind.bits .u64) 15).toNat=15:=rfl
 simp only[BitVec.toNat_and,e1,e2]
 have:u&&&15=u % 16:=Nat.and_two_pow_sub_one_eq_mod u 4
 rw[this]
 exact wrap_u64 (by omega)
theorem a9P (u:Nat):(u:Int).fdiv (2^(min 4 (Go.IntKind.bits .u64)))=((u/16:Nat):Int):=by
 have:(2:Int)^(min 4 (Go.IntKind.bits .u64))=((16:Nat):Int):=rfl
 rw[this];exact (Int.ofNat_fdiv u 16).symm
def aHv:Bytes:=[48,49,50,51,52,53,54,55,56,57,97,98,99,100,101,102,103,104,105,106,107,108,109,110,111,112,113,114,115,116,117,118,119,120,121,122]
def a7d (n:Nat):Bool:=aHv.getD n 0==fZ n
theorem a7e:(List.range 16).all a7d=true:=by kernel_rfl
theorem a7f (n:Nat) (h:n<16):aHv.getD n 0=fZ n:=eq_of_beq (List.all_eq_true.1 a7e n (List.mem_range.2 h))
theorem k65 (j:Nat) (h:j<65):(List.replicate 65 (K.int .u8))[j]? =some (.int .u8):=by rw[List.getElem?_replicate,if_pos h]
theorem a9Q (v0 v4:C) (v2 v3:Bool) (v5:Bytes):∀(fuel u i:Nat) (r:Row) (acc:Bytes),u≤fuel→u<18446744073709551616→r.length=65→r.drop i=acc.map cellOf→(hx u).length≤i→i≤65→
 ∃(i' u':Nat) (r':Row) (acc':Bytes),eE (bA T) v0 (u:Int) v2 v3 v4 v5 (i:Int) 4 16 15 r=some (0,[.r [v0], .r [.int (u':Int)], .r [.bool v2], .r [.bool v3], .r [v4], .r [.str v5], .r [.int (i':Int)], .r r'])
  ∧u'<16∧1≤i'∧i'≤65∧r'.length=65∧hx u++acc=fZ u'::acc'∧r'.drop i'=acc'.map cellOf:=by
 intro fuel
 induction fuel with
 |zero=>
  intro u i r acc hu h64 hr hd hl hi
  obtain rfl:u=0:=by omega
  rw[jL];unfold fE
  rw[aQa (by omega)]at hl⊢
  exact ⟨i,0,r,acc,rfl,by omega,by simpa using hl,hi,hr,rfl,hd⟩
 |succ fuel ih=>
  intro u i r acc hu h64 hr hd hl hi
  rw[jL];unfold fE
  by_cases hs:u<16
  ·rw[if_neg (by simp;omega)]
   rw[aQa hs]at hl⊢
   exact ⟨i,u,r,acc,rfl,hs,by simpa using hl,hi,hr,rfl,hd⟩
  ·rw[if_pos (by simp;omega),a1P u h64,if_pos ⟨by omega,by show ((u % 16:Nat):Int)<36;omega⟩]
   rw[aZA hs]at hl⊢
   rw[List.length_append,List.length_singleton]at hl
   have hw:Go.IntKind.i64.wrap ((i:Int) - 1)=((i - 1:Nat):Int):=by
    rw[show (i:Int) - 1=((i - 1:Nat):Int) by omega];exact yF (by omega) (by omega)
   rw[hw,if_pos ⟨by omega,by omega⟩,Int.toNat_natCast,Int.toNat_natCast,Nat.mul_one,Nat.zero_add,aFc (k65 (i - 1) (by omega)),if_neg (by omega)]
   obtain ⟨p1,p2⟩:=aUn r hr (i - 1) (by omega) (.int ((aHv.getD (u % 16) 0).toNat:Int))
   obtain ⟨i',u',r',acc',g1,g2⟩:=ih (u/16) (i - 1) (put r (i - 1) 1 [.int ((aHv.getD (u % 16) 0).toNat:Int)] 0 65) (fZ (u % 16)::acc) (by omega) (by omega) p1 (by
    rw[p2,show i - 1+1=i by omega,hd,a7f _ (by omega)];rfl) (by omega) (by omega)
   refine ⟨i',u',r',acc', ?_, ?_⟩
   ·rw[←g1,←a9P];rfl
   ·rw[List.append_assoc];exact g2
end Go.Ev.oO
namespace Go.Ev.oO
open Go.Proofs.Bld (cH qb aDo)
def aCO:List Bytes:=[[117,110,105,116],[98,111,111,108],[105,110,116],[102,108,111,97,116],[100,97,121],[116,101,120,116],[114,101,99,111,114,100],[99,104,111,105,99,101],[108,105,115,116],[109,97,112],[110,97,109,101,100],[109,97,114,107]]
def kw (k:Int):Bytes:=aCO.getD k.toNat []
def u64 (n:Int):Nat:=(Go.IntKind.u64.wrap n).toNat
def fnm (k:Int) (nm:Bytes):List Bytes:=if k=9 then [cH nm]else if k=8 then []else [nm]
mutual
def vw:wA→List Bytes
 | .mk k n s _ fs=>kw k::(if k=0 then []else if k=3 then [dg 16 (u64 n)]else if k=5 then [cH s]else if 6≤k∧k≤9 then [40]::(fw k fs++[[41]])else [Lib.itoa n])
def fw (k:Int):List (Bytes×wA)→List Bytes
 |[]=>[]
 |(nm,v)::r=>fnm k nm++(vw v++fw k r)
end
theorem aWK (v:wA):vw v=kw v.k::(if v.k=0 then []else if v.k=3 then [dg 16 (u64 v.n)]else if v.k=5 then [cH v.s]else if 6≤v.k∧v.k≤9 then [40]::(fw v.k v.fs++[[41]])else [Lib.itoa v.n]):=by
 cases v;simp only[vw];rfl
theorem a3Z (k:Int):(kw k).length≤6:=by
 have:aCO.all (fun w=>decide (w.length≤6))=true:=by decide
 unfold kw
 rw[List.getD_eq_getElem?_getD]
 cases h:aCO[k.toNat]? with
 |none=>simp
 |some w=>exact of_decide_eq_true (List.all_eq_true.1 this w (List.mem_of_getElem? h))
theorem aNN (s:Bytes):(cH s).length≤3*s.length+2:=by
 have:=aDo s
 simp only[cH,List.length_cons,List.length_append,List.length_nil];omega
theorem jK:pO []=0:=rfl
theorem a1d (k:Int) (nm:Bytes):pO (fnm k nm)≤3*nm.length+3:=by
 have:=aNN nm
 unfold fnm;split
 ·rw[wG,jK];omega
 ·split
  ·rw[jK];omega
  ·rw[wG,jK];omega
theorem aJL {n:Int} (h:tZ n):(Lib.itoa n).length≤21:=Lib.itoa_length_le n h.1 h.2
mutual
theorem aQb:∀v:wA,v.wf→pO (vw v)≤32*v.xC
 | .mk k n s b fs,h=>by
   simp only[wA.wf]at h
   have h1:=aZB k fs h.2.2
   have h2:=a3Z k
   have h3:=aNN s
   have h4:=aJL h.2.1
   have h5:=aIH 16 (u64 n)
   simp only[vw,wA.xC,wG]
   split
   ·rw[jK];omega
   ·split
    ·rw[wG,jK];omega
    ·split
     ·rw[wG,jK];omega
     ·split
      ·rw[wG,uX,wG,jK];simp only[List.length_cons,List.length_nil];omega
      ·rw[wG,jK];omega
theorem aZB (k:Int):∀fs:List (Bytes×wA),wA.wfs fs→pO (fw k fs)≤32*wA.tG fs
 |[],_=>by simp[fw,jK]
 |(nm,v)::r,h=>by
  simp only[wA.wfs]at h
  have h1:=aQb v h.1
  have h2:=aZB k r h.2
  have h3:=a1d k nm
  simp only[fw,uX,wA.tG];omega
end
theorem aQc (ws:List Bytes):ws.length≤pO ws:=by
 induction ws with
 |nil=>simp[jK]
 |cons w r ih=>rw[wG,List.length_cons];omega
theorem aVH (n:Int):u64 n<18446744073709551616:=by
 unfold u64;rw[IntKind.wrap_u64];omega
theorem aZC (n:Int):Go.IntKind.u64.wrap n=(u64 n:Int):=by
 unfold u64;rw[IntKind.wrap_u64];omega
theorem aUo:∀(ws:List Bytes) (b:Bytes),b≠[]→gD b ws=b++Lib.joinTail [32] ws
 |[],b,_=>by simp[gD,Lib.joinTail]
 |w::ws,b,h=>by
  have h1:aMI b w≠[]:=by unfold aMI;rw[if_neg h];simp
  rw[aLq,aUo ws _ h1,aMI,if_neg h]
  simp[Lib.joinTail]
theorem aVI (w:Bytes) (ws:List Bytes) (h:w≠[]):Lib.join (w::ws) [32]=gD [] (w::ws):=by
 have e:aMI [] w=w:=by simp[aMI]
 rw[Lib.join_cons,aLq,e,aUo ws w h]
end Go.Ev.oO
namespace Go.Ev.oO
open Go.Proofs.Bld (fZ)
theorem a9R:(bA T).pc cP [[.int 16]]=some [[.int 4]]:=(rC T).2 ⟨10,by kernel_rfl⟩
theorem a7g:(bA T).pc kI [[.int 16]]=some [[.bool true]]:=(rC T).2 ⟨10,by kernel_rfl⟩
theorem aUp:∀acc:Bytes,bytesOf ((acc.map cellOf).map fun c=>[c])=acc:=by
 intro acc
 have:=aEA acc
 rw[List.map_map]
 exact this
theorem a1e (u:Nat) (h:u<18446744073709551616):(bA T).ic kH [.r [.fA], .r [.int (u:Int)], .r [.int 16], .r [.bool false], .r [.bool false]]=some [.r [.fA], .r [.str (hx u)]]:=by
 have hlen:(hx u).length≤16:=(aVG 16 u (by omega) (by omega)).1
 rw[aAt];unfold jI
 refine jF.eq ?_
 refine .bind (R:=fun r=>r=(0,[.r [.fA], .r [.int (u:Int)], .r [.int 16], .r [.bool false], .r [.bool false], .r [.fA], .r [.str []], .r [.bool false]])) (.as rfl (.some rfl)) ?_
 rintro r rfl
 refine .bind (R:=fun r=>r=(0,[.r [.fA], .r [.int (u:Int)], .r [.int 16], .r [.bool false], .r [.bool false], .r [.fA], .r [.str []]])) (.as rfl (.some rfl)) ?_
 rintro r rfl
 refine .bind (R:=fun r=>r=(0,[.r [.fA], .r [.int (u:Int)], .r [.int 16], .r [.bool false], .r [.bool false], .r [.fA], .r [.str []], .r [.int 65], .r (List.replicate 65 (C.int 0))])) (.as rfl (.some rfl)) ?_
 rintro r rfl
 refine .lA a7g ?_
 obtain ⟨i',u',r',acc',g1,g2,g3,g4,g5,g6,g7⟩:=a9Q (v0:= .fA) (v4:= .fA) (v2:=false) (v3:=false) (v5:=[]) u u 65 (List.replicate 65 (C.int 0)) [] (Nat.le_refl _) h rfl rfl (by omega) (by omega)
 have hw:Go.IntKind.i64.wrap ((i':Int) - 1)=((i' - 1:Nat):Int):=by
  rw[show (i':Int) - 1=((i' - 1:Nat):Int) by omega];exact yF (by omega) (by omega)
 obtain ⟨p1,p2⟩:=aUn r' g5 (i' - 1) (by omega) (.int ((aHv.getD u' 0).toNat:Int))
 refine .bind (R:=fun r=>r=(0,[.r [.fA], .r [.bool false], .r [.bool false], .r [.fA], .r [.str []], .r [.int ((i' - 1:Nat):Int)], .r (put r' (i' - 1) 1 [.int ((aHv.getD u' 0).toNat:Int)] 0 65)])) ?_ ?_
 ·refine .as (if_pos rfl) (.lA a9R (.lA g1 ?_))
  simp only[sC,kC,wC,oC,tC,uC,fD,dD,oD,cD,hw]
  refine .pos ⟨by omega,by show (u':Int)<36;omega⟩ (.pos ⟨by omega,by omega⟩ ?_)
  rw[Int.toNat_natCast,Nat.mul_one,Nat.zero_add,aFc (k65 (i' - 1) (by omega))]
  exact .some rfl
 rintro r rfl
 simp only[sC,kC,wC,oC,tC,uC,fD,dD,oD,cD]
 refine .as (if_neg (by decide)) (.as (if_neg (by decide)) (.pos ⟨by omega,by omega,rfl⟩ (.some ?_)))
 rw[Int.toNat_natCast,p2,show i' - 1+1=i' by omega,g7,a7f _ g2]
 have:hx u=fZ u'::acc':=by rw[←g6,List.append_nil]
 rw[this]
 have:=aUp (fZ u'::acc')
 rw[List.map_cons]at this
 exact congrArg (fun b=>[PV.r [.fA],PV.r [.str b]]) this
theorem aZD (n:Int):(bA T).pc lX [[.int (Go.IntKind.u64.wrap n)],[.int 16]]=some [[.str (hx (u64 n))]]:=by
 rw[aI3];unfold aAq
 have h:(bA T).pc iK [[.int (Go.IntKind.u64.wrap n)],[.int 16]]=some [[.str (hx (u64 n))]]:=by
  rw[aCM];unfold zM
  rw[aZC]
  refine jF.eq (.as (if_neg (by decide)) (.lA (a1e _ (aVH n)) (.some rfl)))
 exact jF.eq (.lA h (.some rfl))
theorem a7h:∀k:Nat,Lib.repeatL [48] k=List.replicate k 48
 |0=>rfl
 |k+1=>by rw[Lib.repeatL,a7h k,List.replicate_succ];rfl
theorem aZE (k:Nat) (h:k≤16):(bA T).pc aCI [[.str [48]],[.int (k:Int)]]=some [[.str (List.replicate k 48)]]:=by
 refine (aJ7 T (rfl:T aCI= .given _ _ aXF) _).trans ?_
 refine (if_pos ⟨rfl,by omega,by omega⟩).trans ?_
 rw[Int.toNat_natCast,a7h]
theorem aZF (n:Int):(hx (u64 n)).length≤16∧List.replicate (16 - (hx (u64 n)).length) 48++hx (u64 n)=dg 16 (u64 n):=aVG 16 _ (by omega) (by have:=aVH n;omega)
end Go.Ev.oO
namespace Go.Ev.oO
open Go.Proofs.Bld (cH fZ)
abbrev aJM:Nat:=1099511627776/16
theorem yH (ws:List Bytes) (hn:ws.length≤2) (b:Bytes) (o:C) (ho:Txt o b) (hb:b.length+pO ws≤aJM):
 jF (fun r=>∃o',r=[PV.r [o']]∧Txt o' (gD b ws)) ((bA T).ic gA [.r [.sl (ws.map iB)], .r [o]]):=by
 obtain ⟨o',h1,h2⟩:=aZz ws (by unfold big;omega) b o ho hb
 exact ⟨_,h1,o',rfl,h2⟩
theorem a9S (u i:Nat) (h:i<16):(u:Int).fdiv (2^(min (((4*(15 - i):Nat):Int)).toNat (Go.IntKind.bits .u64)))=((u/16^(15 - i):Nat):Int):=by
 have e1:min (((4*(15 - i):Nat):Int)).toNat (Go.IntKind.bits .u64)=4*(15 - i):=by
  rw[Int.toNat_natCast];show min (4*(15 - i)) 64=_;omega
 have e2:(2:Int)^(4*(15 - i))=((16^(15 - i):Nat):Int):=by
  rw[Int.natCast_pow,show ((16:Nat):Int)=2^4 from rfl,←Int.pow_mul]
 rw[e1,e2];exact (Int.ofNat_fdiv u _).symm
theorem a1Q (v0:Row) (n:Int) (h0:(at_ v0 1).vA=n) (v3:C):∀(j i:Nat) (c:C),i+j=16→c.rows=((dg 16 (u64 n)).take i++List.replicate j 0).map yD→
 ∃c',oJ (bA T) (.dp v0) 16 (i:Int) v3 c=some (0,[.r [v3], .r [c']])∧c'.rows=(dg 16 (u64 n)).map yD
 |0,i,c,hi,hc=>by
  rw[iW];unfold pJ
  obtain rfl:i=16:=by omega
  rw[if_neg (by decide)]
  refine ⟨c,rfl, ?_⟩
  rw[hc,List.take_of_length_le (by rw[aIH];omega)];simp
 |j+1,i,c,hi,hc=>by
  rw[iW];unfold pJ
  have hlt:i<16:=by omega
  have hu:=aVH n
  have w1:Go.IntKind.i64.wrap (60 - (Go.IntKind.i64.wrap (4*(i:Int))))=((4*(15 - i):Nat):Int):=by
   rw[yF (n:=4*(i:Int)) (by omega) (by omega),yF (by omega) (by omega)];omega
  have hlen:c.rows.length=16:=by rw[hc];simp[aIH];omega
  have hd:u64 n/16^(15 - i)<18446744073709551616:=Nat.lt_of_le_of_lt (Nat.div_le_self _ _) hu
  have hwr:Go.IntKind.i64.wrap ((i:Int)+1)=((i+1:Nat):Int):=yF (by omega) (by omega)
  have hat:at_ (C.dp v0).cA 1=at_ v0 1:=rfl
  rw[if_pos (by simp;omega),if_pos (show (C.dp v0).jB=true from rfl),hat,h0,aZC,w1,if_neg (by omega),a9S _ _ hlt,a1P _ hd]
  have a9T:=a1O 16 (u64 n) i hlt
  rw[if_pos ⟨by omega,by show ((u64 n/16^(15 - i)% 16:Nat):Int)<16;omega⟩,if_pos ⟨by omega,by rw[hlen];omega⟩,if_pos (by rw[hlen];omega),hwr,Int.toNat_natCast,Int.toNat_natCast,show ([48,49,50,51,52,53,54,55,56,57,97,98,99,100,101,102]:List UInt8)=aJJ from rfl,dig _ (by omega)]
  refine a1Q v0 n h0 v3 j (i+1) _ (by omega) ?_
  show c.rows.set i [C.int ((fZ (u64 n/16^(15 - i)% 16)).toNat:Int)]=_
  have e:[C.int ((fZ (u64 n/16^(15 - i)% 16)).toNat:Int)]=yD (fZ (u64 n/16^(15 - i)% 16)):=rfl
  rw[e,hc,←List.map_set,List.set_append_right _ _ (by simp[aIH];omega),List.take_succ,a9T]
  have:i - ((dg 16 (u64 n)).take i).length=0:=by simp[aIH];omega
  rw[this,List.replicate_succ,List.set_cons_zero]
  simp
theorem a1R (p:Bytes×wA):([at_ (nD p) 1,at_ (nD p) 2,at_ (nD p) 3,at_ (nD p) 4]:Row)=p.2.row:=rfl
theorem a7i (p:Bytes×wA):(at_ (nD p) 0).mD=p.1:=rfl
def aQd (v:wA):Prop:=∀(b:Bytes) (o:C),Txt o b→b.length+pO (vw v)≤aJM→
 jF (fun r=>∃o',r=[PV.r [o']]∧Txt o' (gD b (vw v))) ((bA T).ic zE [.r v.row, .r [o]])
theorem aZG (k:Int) (hk:6≤k∧k≤9) (v0:Row) (h0:(at_ v0 0).vA=k) (fs:List (Bytes×wA)) (c:C) (hc:c.rows=fs.map nD) (hN:fs.length≤big) (hS:∀p∈fs,p.1.length≤4294967296) (aBZ:∀p∈fs,aQd p.2):
 ∀(j i:Nat) (b:Bytes) (o:C),i+j=fs.length→Txt o b→b.length+pO (fw k (fs.drop i))≤aJM→
 jF (fun r=>∃o',r=(0,[PV.r [o']])∧Txt o' (gD b (fw k (fs.drop i)))) (qJ (bA T) (.dp v0) c (fs.length:Int) (i:Int) o)
 |0,i,b,o,hi,ho,hb=>by
  rw[jW];unfold rJ
  obtain rfl:i=fs.length:=by omega
  refine .ite (fun h=>absurd h rQ) fun _=> .some ⟨o,rfl, ?_⟩
  rw[List.drop_length];exact ho
 |j+1,i,b,o,hi,ho,hb=>by
  rw[jW];unfold rJ
  have hlt:i<fs.length:=by omega
  obtain ⟨p,hp⟩:∃p,p=fs[i]:=⟨_,rfl⟩
  have hd:fs.drop i=p::fs.drop (i+1):=by rw[hp];exact List.drop_eq_getElem_cons hlt
  have hmem:p∈fs:=by rw[hp];exact List.getElem_mem hlt
  have hfw:fw k (fs.drop i)=fnm k p.1++(vw p.2++fw k (fs.drop (i+1))):=by rw[hd];obtain ⟨a,v⟩:=p;rfl
  rw[hfw,uX,uX]at hb
  have hrow:aA c.rows (i:Int).toNat=nD p:=by rw[hc,Int.toNat_natCast,hp];exact fC _ _ _ hlt
  refine .pos (dec_lt hlt) ?_
  have ha1:=aCN (fnm k p.1) b
  refine .bind (R:=fun r=>∃o',r=(0,[.r [.dp v0], .r [c], .r [.int (fs.length:Int)], .r [.int (i:Int)], .r [o']])∧Txt o' (gD (gD b (fnm k p.1)) (vw p.2))) ?_ ?_
  ·refine .pos (vX (by rw[hc];simpa using hlt)) (.pos rfl ?_)
   rw[hrow]
   refine .bind (R:=fun r=>∃o',r=(0,[.r [.dp v0], .r [c], .r [.int (fs.length:Int)], .r [.int (i:Int)], .r [o'], .r (nD p)])∧Txt o' (gD b (fnm k p.1))) ?_ ?_
   ·refine .bind (R:=fun r=>r=(0,[.r [.dp v0], .r [c], .r [.int (fs.length:Int)], .r [.int (i:Int)], .r [.int k], .r [.bool (decide (k=6∨k=7))], .r [o], .r (nD p)])) ?_ ?_
    ·have e:(at_ (C.dp v0).cA 0).vA=k:=h0
     rw[e]
     refine .ite (fun h=> .some ?_) fun h=> .some ?_
     ·have:k=6:=by simpa using h
      subst this;rfl
     ·have h6:¬k=6:=by simpa using h
      have:(k==7)=decide (k=6∨k=7):=by simp[h6];rfl
      rw[this]
    ·rintro r rfl
     simp only[sC,kC,wC,oC,tC,uC,fD,dD,oD,cD]
     by_cases h67:k=6∨k=7
     ·rw[decide_eq_true h67]
      have hf:fnm k p.1=[p.1]:=by unfold fnm;rw[if_neg (by omega),if_neg (by omega)]
      refine .as (if_pos rfl) ?_
      rw[hf]
      refine .bind (yH [p.1] (by simp) b o ho (by rw[hf]at hb;omega)) ?_
      rintro r ⟨o',rfl,h2⟩
      exact .some ⟨o',rfl,h2⟩
     ·rw[decide_eq_false h67]
      refine .as (if_neg (by decide)) ?_
      by_cases h9:k=9
      ·subst h9
       have hf:fnm 9 p.1=[cH p.1]:=by unfold fnm;rw[if_pos rfl]
       refine .as (if_pos rfl) (.lA (aLr _ (hS p hmem)) ?_)
       rw[hf]
       refine .bind (yH [cH p.1] (by simp) b o ho (by rw[hf]at hb;omega)) ?_
       rintro r ⟨o',rfl,h2⟩
       exact .some ⟨o',rfl,h2⟩
      ·have hf:fnm k p.1=[]:=by unfold fnm;rw[if_neg h9,if_pos (by omega)]
       rw[hf]
       refine .as (if_neg (by simpa using h9)) (.some ⟨o,rfl,ho⟩)
   ·rintro r ⟨o',rfl,h2⟩
    simp only[sC,kC,wC,oC,tC,uC,fD,dD,oD,cD,a1R]
    refine .bind (aBZ p hmem _ _ h2 (by omega)) ?_
    rintro r ⟨o2,rfl,h3⟩
    exact .some ⟨o2,rfl,h3⟩
  ·rintro r ⟨o2,rfl,h3⟩
   simp only[sC,kC,wC,oC,tC,uC,fD,dD,oD,cD,lC (show i≤big by omega)]
   have ha2:=aCN (vw p.2) (gD b (fnm k p.1))
   rw[hfw,zF,zF]
   exact aZG k hk v0 h0 fs c hc hN hS aBZ j (i+1) _ o2 (by omega) h3 (by omega)
theorem aKa (v:wA) (h:VOk v) (hw:v.wf) (hb:v.xC≤big):aQd v:=by
 intro b o ho hl
 have aBZ:∀p∈v.fs,aQd p.2:=fun p hp=>by
  have:=wA.oP hp
  have hbk:=wA.aA5 hp
  refine aKa p.2 ?_ (wA.aM1 hw hp) (by omega)
  cases h with
  |mk _ _ _ _ _ hf=>exact hf p hp
 have hS:∀p∈v.fs,p.1.length≤4294967296:=fun p hp=>by have:=wA.aA5 hp;unfold big at hb;omega
 have hN:v.fs.length≤big:=by have:=v.aEO;omega
 have hs:v.s.length≤4294967296:=by have:=v.aM;unfold big at hb;omega
 have hn:=wA.aOv hw
 have ek:(at_ v.row 0).vA=v.k:=rfl
 have en:(at_ v.row 1).vA=v.n:=rfl
 have es:(at_ v.row 2).mD=v.s:=rfl
 have hkk:0≤v.k∧v.k<12∧v.k≠10:=by cases h;exact ⟨by assumption,by assumption,by assumption⟩
 obtain ⟨hk0,hk1,hk2⟩:=hkk
 rw[aGI];unfold dV
 rw[ek]
 rw[aWK]at hl⊢
 by_cases h0:v.k=0
 ·rw[h0]at hl⊢
  refine .as (if_pos rfl) ?_
  refine .bind (yH [kw 0] (by simp) b o ho hl) ?_
  rintro r ⟨o',rfl,h2⟩
  exact .some ⟨o',rfl,h2⟩
 rw[if_neg h0]at hl⊢
 refine .as (if_neg (by simpa using h0)) ?_
 refine .bind (R:=fun r=>r=(0,[.r [.dp v.row], .r [.int v.k], .r [.bool (decide (v.k=1∨v.k=2∨v.k=4∨v.k=11))], .r [o]])) ?_ ?_
 ·refine .ite (fun e=> .some ?_) fun e1=> .ite (fun e=> .some ?_) fun e2=> .ite (fun e=> .some ?_) fun e4=> .some ?_
  ·have e:v.k=1:=by simpa using e
   rw[e];rfl
  ·have e:v.k=2:=by simpa using e
   rw[e];rfl
  ·have e:v.k=4:=by simpa using e
   rw[e];rfl
  ·have e1:¬v.k=1:=by simpa using e1
   have e2:¬v.k=2:=by simpa using e2
   have e4:¬v.k=4:=by simpa using e4
   have:(v.k==11)=decide (v.k=1∨v.k=2∨v.k=4∨v.k=11):=by simp[e1,e2,e4];rfl
   rw[this]
 rintro r rfl
 simp only[sC,kC,wC,oC,tC,uC,fD,dD,oD,cD,vC,ek,en,es]
 by_cases aZn:v.k=1∨v.k=2∨v.k=4∨v.k=11
 ·rw[decide_eq_true aZn]
  refine .as (if_pos rfl) (.pos rfl (.pos ⟨hk0,hk1⟩ (.pos rfl (.lA (lP hn) ?_))))
  rw[if_neg (by omega),if_neg (by omega),if_neg (by omega)]at hl⊢
  have hword:(at_ ([.str [], .str ([98,111,111,108]:List UInt8), .str ([105,110,116]:List UInt8), .str [], .str ([100,97,121]:List UInt8), .str [], .str [], .str [], .str [], .str [], .str [], .str ([109,97,114,107]:List UInt8)]:Row) ((v.k.toNat)*1)).mD=kw v.k:=by
   rcases aZn with e |e |e |e<;>rw[e]<;>rfl
  rw[hword]
  refine .bind (yH [kw v.k,Lib.itoa v.n] (by simp) b o ho hl) ?_
  rintro r ⟨o',rfl,h2⟩
  exact .some ⟨o',rfl,h2⟩
 rw[decide_eq_false aZn]
 refine .as (if_neg (by decide)) ?_
 by_cases h3:v.k=3
 ·rw[h3]at hl⊢
  rw[if_pos (show (3:Int)=3 from rfl)]at hl⊢
  refine .as (if_pos rfl) (.pos (by omega) ?_)
  obtain ⟨c',g1,g2⟩:=a1Q v.row v.n rfl o 16 0 (.sl (List.replicate 16 ([.int 0]:Row))) rfl (by rfl)
  refine .lA g1 ?_
  simp only[sC,kC,g2,aEA]
  refine .bind (yH [kw 3,dg 16 (u64 v.n)] (by simp) b o ho hl) ?_
  rintro r ⟨o',rfl,h2⟩
  exact .some ⟨o',rfl,h2⟩
 rw[if_neg h3]at hl⊢
 refine .as (if_neg (by simpa using h3)) ?_
 by_cases h5:v.k=5
 ·rw[h5]at hl⊢
  refine .as (if_pos rfl) (.pos rfl (.lA (aLr _ hs) ?_))
  rw[if_pos rfl]at hl⊢
  refine .bind (yH [kw 5,cH v.s] (by simp) b o ho hl) ?_
  rintro r ⟨o',rfl,h2⟩
  exact .some ⟨o',rfl,h2⟩
 rw[if_neg h5]at hl⊢
 have hrg:6≤v.k∧v.k≤9:=by omega
 rw[if_pos hrg]at hl⊢
 refine .as (if_neg (by simpa using h5)) (.pos rfl (.pos ⟨hk0,by omega⟩ ?_))
 have hword:(at_ ([.str [], .str [], .str [], .str [], .str [], .str [], .str ([114,101,99,111,114,100]:List UInt8), .str ([99,104,111,105,99,101]:List UInt8), .str ([108,105,115,116]:List UInt8), .str ([109,97,112]:List UInt8)]:Row) ((v.k.toNat)*1)).mD=kw v.k:=by
  have:v.k=6∨v.k=7∨v.k=8∨v.k=9:=by omega
  rcases this with e |e |e |e<;>rw[e]<;>rfl
 rw[hword]
 have hl0:pO (kw v.k::[40]::(fw v.k v.fs++[[41]]))=pO [kw v.k,[40]]+(pO (fw v.k v.fs)+pO [[41]]):=by
  simp only[wG,uX,jK];omega
 rw[hl0]at hl
 have ha1:=aCN [kw v.k,[40]] b
 refine .bind (yH [kw v.k,[40]] (by simp) b o ho (by omega)) ?_
 rintro r ⟨o1,rfl,t1⟩
 refine .pos rfl ?_
 have ef:at_ v.row 3=v.fc:=rfl
 have efl:v.fc.rows.length=v.fs.length:=by rw[wA.wQ,List.length_map]
 rw[ef,efl]
 have aMK:=aZG v.k hrg v.row rfl v.fs v.fc v.wQ hN hS aBZ v.fs.length 0 (gD b [kw v.k,[40]]) o1 (by omega) t1 (by rw[List.drop_zero];omega)
 rw[List.drop_zero]at aMK
 refine .bind aMK ?_
 rintro r ⟨o2,rfl,t2⟩
 have ha2:=aCN (fw v.k v.fs) (gD b [kw v.k,[40]])
 refine .bind (yH [[41]] (by simp) _ o2 t2 (by omega)) ?_
 rintro r ⟨o3,rfl,t3⟩
 refine .some ⟨o3,rfl, ?_⟩
 have:kw v.k::[40]::(fw v.k v.fs++[[41]])=[kw v.k,[40]]++(fw v.k v.fs++[[41]]):=rfl
 rw[this,zF,zF]
 exact t3
 termination_by SizeOf.sizeOf v
end Go.Ev.oO
namespace Go.Ev.oO
open Go.Proofs.Bld (cH qb aDo)
def opT:Nat→Fl×Bytes×Bytes
 |0=>(⟨false,false,false,false,false,false,false,false,0⟩,[115,97,109,101],[])
 |1=>(⟨false,false,false,false,false,false,false,false, -1⟩,[116,104,101,110],[43])
 |2=>(⟨true,false,false,false,false,false,false,false,1⟩,[97,116],[110,49])
 |3=>(⟨true,true,false,false,false,false,false,false,0⟩,[114,101,110,97,109,101],[110,116])
 |4=>(⟨true,false,false,false,false,false,true,false,0⟩,[100,114,111,112],[110,118])
 |5=>(⟨true,false,false,false,false,false,true,false,0⟩,[97,100,100],[110,118])
 |6=>(⟨false,true,true,false,false,false,false,false,0⟩,[110,101,115,116],[116,115])
 |7=>(⟨true,false,false,false,false,false,false,false,0⟩,[102,108,97,116],[110])
 |8=>(⟨true,false,false,true,false,false,false,false,0⟩,[109,111,118,101],[110,105])
 |9=>(⟨true,true,true,false,false,true,false,false,0⟩,[115,112,108,105,116],[110,116,115,112])
 |10=>(⟨true,true,false,false,false,true,false,false,0⟩,[103,108,117,101],[110,116,112])
 |11=>(⟨false,false,false,false,false,false,false,true,0⟩,[108,111,111,107],[108])
 |12=>(⟨false,false,false,false,true,false,false,false,0⟩,[110,117,109,98,101,114],[98])
 |13=>(⟨true,false,false,false,false,false,false,false,1⟩,[101,97,99,104],[110,49])
 |14=>(⟨false,false,true,false,false,false,false,false, -1⟩,[99,97,115,101],[115,43])
 |15=>(⟨true,false,false,false,false,false,true,false,0⟩,[115,101,108,101,99,116],[110,118])
 |16=>(⟨true,false,false,false,false,false,false,false,0⟩,[116,97,103],[110])
 |17=>(⟨true,false,false,false,false,false,false,false,0⟩,[117,110,116,97,103],[110])
 |18=>(⟨false,false,false,false,false,false,true,false,0⟩,[102,105,108,108],[118])
 |_=>(⟨false,false,false,false,false,false,false,false,0⟩,[],[])
theorem aVJ:∀n:Nat,n<19→aFd (n:Int) (opT n).1 (opT n).2.1 (opT n).2.2
 |0,_=>op0
 |1,_=>op1
 |2,_=>op2
 |3,_=>op3
 |4,_=>op4
 |5,_=>op5
 |6,_=>op6
 |7,_=>op7
 |8,_=>op8
 |9,_=>op9
 |10,_=>a7k
 |11,_=>a7l
 |12,_=>a7m
 |13,_=>a7n
 |14,_=>a7o
 |15,_=>a7p
 |16,_=>a7q
 |17,_=>a7r
 |18,_=>a7s
 |n+19,h=>absurd h (by omega)
theorem a1S:∀n:Nat,n<19→(opT n).2.1≠[]∧(opT n).2.1.length≤8
 |0,_=>by decide
 |1,_=>by decide
 |2,_=>by decide
 |3,_=>by decide
 |4,_=>by decide
 |5,_=>by decide
 |6,_=>by decide
 |7,_=>by decide
 |8,_=>by decide
 |9,_=>by decide
 |10,_=>by decide
 |11,_=>by decide
 |12,_=>by decide
 |13,_=>by decide
 |14,_=>by decide
 |15,_=>by decide
 |16,_=>by decide
 |17,_=>by decide
 |18,_=>by decide
 |n+19,h=>absurd h (by omega)
def lnm (op:Int) (s:Bytes):Bytes:=if op=9 then cH s else s
def pws:List (wA×wA)→List Bytes
 |[]=>[]
 |p::r=>vw p.1++(vw p.2++pws r)
def jD (b:Bool) (ws:List Bytes):List Bytes:=if b=true then ws else []
def par (ws:List Bytes):List Bytes:=[40]::(ws++[[41]])
mutual
def lw:cB→List Bytes
 | .mk op name tt _ names n low high sep v _ pairs _ kids=>
   let f:=(opT op.toNat).1
   (opT op.toNat).2.1::(jD f.n [if name=[]then [45]else name]++(jD f.t [tt]++(jD f.i [Lib.itoa n]++(jD f.b [Lib.itoa low,Lib.itoa high]++(jD f.p [Lib.itoa sep]++(jD f.s (par (names.map (lnm op)))++(jD f.v (vw v)++(jD f.l (par (pws pairs))++jD (f.k !=0) (par (lws kids))))))))))
def lws:List cB→List Bytes
 |[]=>[]
 |l::r=>lw l++lws r
end
theorem lw_eq (l:cB):lw l=(opT l.op.toNat).2.1::(jD (opT l.op.toNat).1.n [if l.name=[]then [45]else l.name]++(jD (opT l.op.toNat).1.t [l.to]++(jD (opT l.op.toNat).1.i [Lib.itoa l.n]++(jD (opT l.op.toNat).1.b [Lib.itoa l.low,Lib.itoa l.high]++(jD (opT l.op.toNat).1.p [Lib.itoa l.sep]++(jD (opT l.op.toNat).1.s (par (l.names.map (lnm l.op)))++(jD (opT l.op.toNat).1.v (vw l.v)++(jD (opT l.op.toNat).1.l (par (pws l.pairs))++jD ((opT l.op.toNat).1.k !=0) (par (lws l.kids)))))))))):=by
 cases l;simp only[lw];rfl
theorem aEB (b:Bool) (ws:List Bytes):pO (jD b ws)≤pO ws:=by
 cases b
 ·exact Nat.zero_le _
 ·exact Nat.le_refl _
theorem a1f (ws:List Bytes):pO (par ws)=pO ws+4:=by
 unfold par;rw[wG,uX,wG,jK];simp only[List.length_cons,List.length_nil];omega
theorem a1g (op:Int) (s:Bytes):(lnm op s).length≤3*s.length+2:=by
 unfold lnm;split
 ·exact aNN s
 ·omega
theorem aUq (op:Int):∀l:List Bytes,pO (l.map (lnm op))≤3*tJ l
 |[]=>by simp[jK]
 |s::r=>by
  have h1:=a1g op s
  have h2:=aUq op r
  rw[List.map_cons,wG];simp only[tJ];omega
theorem aWL:∀l:List (wA×wA),(∀p∈l,p.1.wf∧p.2.wf)→pO (pws l)≤32*jN l
 |[],_=>by simp[pws,jK]
 |p::r,h=>by
  have h0:=h p (by simp)
  have h1:=aQb p.1 h0.1
  have h2:=aQb p.2 h0.2
  have h3:=aWL r fun q hq=>h q (by simp[hq])
  simp only[pws,uX,jN];omega
mutual
theorem aZH:∀l:cB,l.wf→0≤l.op→l.op<19→(∀k∈nodes l,0≤k.op∧k.op<19)→pO (lw l)≤256*l.xC
 | .mk op name tt nb names n low high sep v pb pairs kb kids,h,h0,h1,hk=>by
   simp only[cB.wf]at h
   obtain ⟨w0,w1,w2,w3,w4,w5,w6,w7⟩:=h
   simp only[cB.op]at h0 h1
   have g0:=(a1S op.toNat (by omega)).2
   have g1:=aEB (opT op.toNat).1.n [if name=[]then [45]else name]
   have g2:=aEB (opT op.toNat).1.t [tt]
   have g3:=aEB (opT op.toNat).1.i [Lib.itoa n]
   have g4:=aEB (opT op.toNat).1.b [Lib.itoa low,Lib.itoa high]
   have g5:=aEB (opT op.toNat).1.p [Lib.itoa sep]
   have g6:=aEB (opT op.toNat).1.s (par (names.map (lnm op)))
   have g7:=aEB (opT op.toNat).1.v (vw v)
   have g8:=aEB (opT op.toNat).1.l (par (pws pairs))
   have g9:=aEB ((opT op.toNat).1.k !=0) (par (lws kids))
   rw[a1f]at g6 g8 g9
   have b1:(if name=[]then ([45]:Bytes)else name).length≤name.length+1:=by split<;>simp
   have b3:=aJL w1
   have b4:=aJL w2
   have b4':=aJL w3
   have b5:=aJL (n:=sep) ⟨by omega,by omega⟩
   have b6:=aUq op names
   have b7:=aQb v w5
   have b8:=aWL pairs w6
   have b9:=aWM kids w7 fun k hk'=>hk k (by simp only[nodes,List.mem_cons];exact .inr hk')
   simp only[wG,jK]at g1 g2 g3 g4 g5
   simp only[lw,cB.xC,wG,uX]
   omega
theorem aWM:∀ls:List cB,cB.wfs ls→(∀k∈aC ls,0≤k.op∧k.op<19)→pO (lws ls)≤256*cB.tG ls
 |[],_,_=>by simp[lws,jK]
 |l::r,h,hk=>by
  simp only[cB.wfs]at h
  have hl:=hk l (by rw[aC,nodes_eq];simp)
  have h1:=aZH l h.1 hl.1 hl.2 fun k hk'=>hk k (by rw[aC];exact List.mem_append_left _ hk')
  have h2:=aWM r h.2 fun k hk'=>hk k (by rw[aC];exact List.mem_append_right _ hk')
  simp only[lws,uX,cB.tG];omega
end
structure a33 (l:cB):Prop where
 h0:0≤l.op
 h1:l.op<19
 v:(opT l.op.toNat).1.v=true→VOk l.v
 p:l.op=11→∀p∈l.pairs,VOk p.1∧VOk p.2
theorem aQe (k0 k1:Int):∀(r pre:List (wA×wA)),(∀p∈r,p.1.xC≤big∧p.2.xC≤big)→dU k0 k1 pre r=0→∀p∈r,VOk p.1∧VOk p.2
 |[],_,_,_=>fun p hp=>by simp at hp
 |q::r,pre,hb,h=>by
  rw[dU]at h
  have one:∀{k0:Int} {seen:List wA} {v:wA},v.xC≤big→vQ k0 seen v=0→VOk v:=by
   intro k0 seen v hb h
   unfold vQ at h
   by_cases h0:aB0 v=0
   ·exact aZI hb h0
   ·simp only[ne_eq,h0,not_false_eq_true,if_true]at h
  by_cases h1:vQ k0 (pre.map Prod.fst) q.1=0
  ·rw[if_neg (by simp[h1])]at h
   by_cases h2:vQ k1 (pre.map Prod.snd) q.2=0
   ·rw[if_neg (by simp[h2])]at h
    intro p hp
    rcases List.mem_cons.1 hp with rfl |hp
    ·have:=hb p (by simp)
     exact ⟨one this.1 h1,one this.2 h2⟩
    ·exact aQe k0 k1 r _ (fun p hp=>hb p (by simp[hp])) h p hp
   ·rw[if_pos h2]at h;exact absurd h h2
  ·rw[if_pos h1]at h;exact absurd h h1
theorem aXN (l:List (wA×wA)) (hl:aEC l) (h:aLt l=0):∀p∈l,VOk p.1∧VOk p.2:=by
 cases l with
 |nil=>intro p hp;simp at hp
 |cons q r=>
  rw[aLt]at h
  split at h
  ·omega
  ·exact aQe _ _ _ _ (fun p hp=>⟨hl.xC p hp 0,hl.xC p hp 1⟩) h
theorem a7t (l:cB) (h:dP l) (h0:aAM l=0):a33 l:=by
 by_cases hr:0≤l.op∧l.op<19
 ·obtain ⟨n,hn⟩:∃n:Nat,l.op=n:=⟨l.op.toNat,by omega⟩
  have hok:=aVJ n (by omega)
  rw[←hn]at hok
  have hs:=aR8 l h _ _ _ hr.1 hr.2 hok
  have hv:aAM l=aR9 l (opT n).1:=by unfold aAM;rw[hs]
  rw[hv]at h0
  unfold aR9 at h0
  have ht:l.op.toNat=n:=by omega
  split at h0
  ·omega
  ·split at h0
   ·omega
   ·split at h0
    ·omega
    ·have hsp:aIW l=0→l.op=11→∀p∈l.pairs,VOk p.1∧VOk p.2:=by
      intro hs e
      unfold aIW at hs
      rw[if_neg (by omega),if_neg (by omega)]at hs
      unfold aFe at hs
      rw[if_neg (by omega),if_neg (by omega),if_neg (by omega),if_pos e]at hs
      exact aXN _ h.pairs hs
     by_cases hf:(opT n).1.v=true
     ·rw[if_pos hf]at h0
      by_cases hc:aB0 l.v=0
      ·rw[if_neg (by simp[hc])]at h0
       exact ⟨hr.1,hr.2,fun _=>aZI h.v hc,hsp h0⟩
      ·rw[if_pos hc]at h0;exact absurd h0 hc
     ·rw[if_neg hf]at h0
      exact ⟨hr.1,hr.2,fun e=>absurd (ht▸e) hf,hsp h0⟩
 ·exfalso
  have:(bA T).pc dX [l.row]=some [[.int 1]]:=by
   rw[aIE];unfold aG6
   refine jF.eq (.bind (R:=fun r=>r=(0,[.r [.dp l.row], .r [.bool true]])) ?_ ?_)
   ·refine .ite (fun e=> .some rfl) fun e=> .some ?_
    have e':¬l.op<0:=fun x=>e (decide_eq_true x)
    have:decide ((at_ l.row 0).vA≥19)=true:=decide_eq_true (show l.op≥19 by omega)
    rw[this]
   ·rintro r rfl;exact .some rfl
  have:aAM l=1:=by unfold aAM;rw[this]
  omega
theorem aSa:∀(ls:List cB),cN ls=0→∀k∈ls,aAM k=0
 |[],_,k,hk=>by simp at hk
 |l::r,h,k,hk=>by
  rw[cN]at h
  by_cases h0:aAM l=0
  ·rw[if_neg (by simp[h0])]at h
   rcases List.mem_cons.1 hk with rfl |hk
   ·exact h0
   ·exact aSa r h k hk
  ·rw[if_pos h0]at h;exact absurd h h0
def aKD (l:cB):Prop:=∀k∈nodes l,a33 k
theorem aZJ (l:cB) (h:dP l) (h0:eV l=0):aKD l:=by
 unfold eV at h0
 split at h0
 ·omega
 ·exact fun k hk=>a7t k (aQf l h k hk) (aSa _ h0 k hk)
theorem aKD.self {l:cB} (h:aKD l):a33 l:=h l (by rw[nodes_eq];simp)
theorem aML:∀{ls:List cB} {x k:cB},x∈ls→k∈nodes x→k∈aC ls
 |y::r,x,k,hx,hk=>by
  rw[aC]
  rcases List.mem_cons.1 hx with rfl |hx
  ·exact List.mem_append_left _ hk
  ·exact List.mem_append_right _ (aML hx hk)
theorem aKD.kid {l x:cB} (h:aKD l) (hx:x∈l.kids):aKD x:=fun k hk=>h k (by rw[nodes_eq];exact List.mem_cons_of_mem _ (aML hx hk))
theorem aKD.len {l:cB} (h:aKD l) (hl:dP l):pO (lw l)≤256*l.xC:=aZH l hl.wf h.self.h0 h.self.h1 fun k hk=>⟨(h k hk).h0,(h k hk).h1⟩
end Go.Ev.oO
namespace Go.Ev.oO
open Go.Proofs.Bld (cH fZ)
theorem aUr:(bA T).pc hY [[.str [117,110,105,116,32,98,111,111,108,32,105,110,116,32,102,108,111,97,116,32,100,97,121,32,116,101,120,116,32,114,101,99,111,114,100,32,99,104,111,105,99,101,32,108,105,115,116,32,109,97,112,32,110,97,109,101,100,32,109,97,114,107]]]=some [[.sl (aCO.map iB)]]:=(rC T).2 ⟨200,by kernel_rfl⟩
def Wds (ws:List Bytes) (r:List Row):Prop:=∃c,r=[[c]]∧c.rows=ws.map iB
theorem aII (c:C) (ws:List Bytes) (hc:c.rows=ws.map iB) (hb:ws.length+2≤8796093022208):jF (Wds (par ws)) ((bA T).pc iL [[c]]):=by
 rw[aLp];unfold aDU
 have hl:c.rows.length=ws.length:=by rw[hc,List.length_map]
 refine .pos (by show (1+c.rows.length)*16≤_;omega) (.pos (by rw[mE,List.length_append];show (1+c.rows.length+1)*16≤_;omega) (.some ⟨_,rfl, ?_⟩))
 ·rw[mE,mE,hc];simp[par,iB,C.rows]
theorem a1T (k:Int) (hk:6≤k∧k≤9) (v0:Row) (h0:(at_ v0 0).vA=k) (w:Bytes) (fs:List (Bytes×wA)) (c:C) (hc:c.rows=fs.map nD) (hN:fs.length≤big) (hS:∀p∈fs,p.1.length≤4294967296) (aBZ:∀p∈fs,jF (Wds (vw p.2)) ((bA T).pc qB [p.2.row])):
 ∀(j i:Nat) (ws:List Bytes) (o:C),i+j=fs.length→o.rows=ws.map iB→ws.length+(fw k (fs.drop i)).length≤8796093022208→
 jF (fun r=>∃o',r=(0,[PV.r [.str w], .r [o']])∧o'.rows=(ws++fw k (fs.drop i)).map iB) (aN (bA T) (.dp v0) w c (fs.length:Int) (i:Int) o)
 |0,i,ws,o,hi,ho,hb=>by
  rw[cZ];unfold bN
  obtain rfl:i=fs.length:=by omega
  refine .ite (fun h=>absurd h rQ) fun _=> .some ⟨o,rfl, ?_⟩
  rw[List.drop_length];simpa[fw]using ho
 |j+1,i,ws,o,hi,ho,hb=>by
  rw[cZ];unfold bN
  have hlt:i<fs.length:=by omega
  obtain ⟨p,hp⟩:∃p,p=fs[i]:=⟨_,rfl⟩
  have hd:fs.drop i=p::fs.drop (i+1):=by rw[hp];exact List.drop_eq_getElem_cons hlt
  have hmem:p∈fs:=by rw[hp];exact List.getElem_mem hlt
  have hfw:fw k (fs.drop i)=fnm k p.1++(vw p.2++fw k (fs.drop (i+1))):=by rw[hd];obtain ⟨a,v⟩:=p;rfl
  rw[hfw,List.length_append,List.length_append]at hb
  have hrow:aA c.rows (i:Int).toNat=nD p:=by rw[hc,Int.toNat_natCast,hp];exact fC _ _ _ hlt
  have hlo:o.rows.length=ws.length:=by rw[ho,List.length_map]
  refine .pos (dec_lt hlt) (.pos (vX (by rw[hc];simpa using hlt)) (.pos rfl ?_))
  rw[hrow]
  have e:(at_ (C.dp v0).cA 0).vA=k:=h0
  rw[e,a7i]
  refine .bind (R:=fun r=>∃o',r=(0,[.r [.dp v0], .r [.str w], .r [c], .r [.int (fs.length:Int)], .r [.int (i:Int)], .r [o'], .r (nD p)])∧o'.rows=(ws++fnm k p.1).map iB) ?_ ?_
  ·refine .ite (fun h9=> ?_) fun h9=> .ite (fun h8=> ?_) fun h8=> ?_
   ·have h9:k=9:=by simpa using h9
    have hf:fnm k p.1=[cH p.1]:=by unfold fnm;rw[if_pos h9]
    rw[hf]at hb⊢
    refine .lA (aJK _ (hS p hmem)) (.pos (by show (o.rows.length+1)*16≤_;simp only[List.length_singleton]at hb;omega) (.some ⟨_,rfl, ?_⟩))
    rw[mE,ho];simp[iB]
   ·have h9:¬k=9:=by simpa using h9
    have h8:k=8:=by simpa using h8
    have hf:fnm k p.1=[]:=by unfold fnm;rw[if_neg h9,if_pos h8]
    rw[hf]
    exact .some ⟨o,rfl,by simpa using ho⟩
   ·have h9:¬k=9:=by simpa using h9
    have h8:¬k=8:=by simpa using h8
    have hf:fnm k p.1=[p.1]:=by unfold fnm;rw[if_neg h9,if_neg h8]
    rw[hf]at hb⊢
    refine .pos (by show (o.rows.length+1)*16≤_;simp only[List.length_singleton]at hb;omega) (.some ⟨_,rfl, ?_⟩)
    rw[mE,ho];simp[iB]
  ·rintro r ⟨o1,rfl,h1⟩
   simp only[sC,kC,wC,oC,tC,uC,fD,dD,oD,cD,a1R]
   refine .bind (aBZ p hmem) ?_
   rintro r ⟨c2,rfl,h2⟩
   have hl1:o1.rows.length=ws.length+(fnm k p.1).length:=by rw[h1,List.length_map,List.length_append]
   have hl2:c2.rows.length=(vw p.2).length:=by rw[h2,List.length_map]
   refine .pos (by show (o1.rows.length+c2.rows.length)*16≤_;omega) ?_
   rw[lC (show i≤big by omega)]
   have ih:=a1T k hk v0 h0 w fs c hc hN hS aBZ j (i+1) (ws++fnm k p.1++vw p.2) (pE o1 c2.rows) (by omega) (by rw[mE,h1,h2,←List.map_append]) (by simp only[List.length_append];omega)
   have e2:ws++fw k (fs.drop i)=ws++fnm k p.1++vw p.2++fw k (fs.drop (i+1)):=by rw[hfw];simp only[List.append_assoc]
   rw[e2]
   exact ih
theorem aMM (v:wA) (h:VOk v) (hw:v.wf) (hb:v.xC≤big):jF (Wds (vw v)) ((bA T).pc qB [v.row]):=by
 have aBZ:∀p∈v.fs,jF (Wds (vw p.2)) ((bA T).pc qB [p.2.row]):=fun p hp=>by
  have:=wA.oP hp
  have hbk:=wA.aA5 hp
  refine aMM p.2 ?_ (wA.aM1 hw hp) (by omega)
  cases h with
  |mk _ _ _ _ _ hf=>exact hf p hp
 have hS:∀p∈v.fs,p.1.length≤4294967296:=fun p hp=>by have:=wA.aA5 hp;unfold big at hb;omega
 have hN:v.fs.length≤big:=by have:=v.aEO;omega
 have hs:v.s.length≤4294967296:=by have:=v.aM;unfold big at hb;omega
 have hn:=wA.aOv hw
 have hl:=aQb v hw
 have ek:(at_ v.row 0).vA=v.k:=rfl
 have en:(at_ v.row 1).vA=v.n:=rfl
 have es:(at_ v.row 2).mD=v.s:=rfl
 have hkk:0≤v.k∧v.k<12∧v.k≠10:=by cases h;exact ⟨by assumption,by assumption,by assumption⟩
 obtain ⟨hk0,hk1,hk2⟩:=hkk
 rw[aIG];unfold pZ
 refine .lA aUr ?_
 have ew:(at_ (aA ((at_ (aA [[C.sl (aCO.map iB)]] 0) 0).rows) (v.k.toNat)) 0).mD=kw v.k:=by
  have hx:v.k.toNat<aCO.length:=by show v.k.toNat<12;omega
  show (at_ (aA (aCO.map iB) v.k.toNat) 0).mD=_
  rw[fC _ _ _ hx];unfold kw
  rw[List.getD_eq_getElem?_getD,List.getElem?_eq_getElem hx];rfl
 rw[ek,ew]
 refine .pos ⟨hk0,by show v.k<12;omega⟩ ?_
 rw[aWK]at hl⊢
 refine .bind (R:=fun r=>(v.k≠1∧v.k≠2∧v.k≠4∧v.k≠11∧∃c,r=(1,[.r [c]])∧c.rows=(vw v).map iB)∨((v.k=1∨v.k=2∨v.k=4∨v.k=11)∧r=(0,[.r [.dp v.row], .r [.str (kw v.k)]]))) ?_ ?_
 ·rw[aWK]
  refine .ite (fun h0=> ?_) fun h0=> .ite (fun h3=> ?_) fun h3=> .ite (fun h5=> ?_) fun h5=> ?_
  ·have h0:v.k=0:=by simpa using h0
   refine .some (.inl ⟨by omega,by omega,by omega,by omega,_,rfl, ?_⟩)
   rw[if_pos h0];rfl
  ·have h0:¬v.k=0:=by simpa using h0
   have h3:v.k=3:=by simpa using h3
   rw[if_neg h0,if_pos h3]
   obtain ⟨p1,p2⟩:=aZF v.n
   have hw:Go.IntKind.i64.wrap (16 - ((hx (u64 v.n)).length:Int))=((16 - (hx (u64 v.n)).length:Nat):Int):=by
    rw[show (16:Int) - ((hx (u64 v.n)).length:Int)=((16 - (hx (u64 v.n)).length:Nat):Int) by omega];exact yF (by omega) (by omega)
   rw[en]
   refine .lA (aZD v.n) ?_
   have e1:(at_ (aA [[C.str (hx (u64 v.n))]] 0) 0).mD=hx (u64 v.n):=rfl
   rw[e1,hw]
   refine .lA (aZE _ (by omega)) ?_
   have e2:(at_ (aA [[C.str (List.replicate (16 - (hx (u64 v.n)).length) 48)]] 0) 0).mD=List.replicate (16 - (hx (u64 v.n)).length) 48:=rfl
   rw[e2,p2]
   refine .pos (by rw[List.length_replicate];omega) (.some (.inl ⟨by omega,by omega,by omega,by omega,_,rfl,rfl⟩))
  ·have h0:¬v.k=0:=by simpa using h0
   have h3:¬v.k=3:=by simpa using h3
   have h5:v.k=5:=by simpa using h5
   rw[if_neg h0,if_neg h3,if_pos h5,es]
   exact .lA (aJK _ hs) (.some (.inl ⟨by omega,by omega,by omega,by omega,_,rfl,rfl⟩))
  ·have h0:¬v.k=0:=by simpa using h0
   have h3:¬v.k=3:=by simpa using h3
   have h5:¬v.k=5:=by simpa using h5
   rw[if_neg h0,if_neg h3,if_neg h5]at hl⊢
   refine .bind (R:=fun r=>r=(0,[.r [.dp v.row], .r [.str (kw v.k)], .r [.bool (decide (6≤v.k∧v.k≤9))]])) ?_ ?_
   ·refine .ite (fun e=> .some ?_) fun e6=> .ite (fun e=> .some ?_) fun e7=> .ite (fun e=> .some ?_) fun e8=> .some ?_
    ·have e:v.k=6:=by simpa using e
     rw[e];rfl
    ·have e:v.k=7:=by simpa using e
     rw[e];rfl
    ·have e:v.k=8:=by simpa using e
     rw[e];rfl
    ·have e6:¬v.k=6:=by simpa using e6
     have e7:¬v.k=7:=by simpa using e7
     have e8:¬v.k=8:=by simpa using e8
     have:(v.k==9)=decide (6≤v.k∧v.k≤9):=by
      by_cases h9:v.k=9
      ·rw[h9];rfl
      ·rw[decide_eq_false (by omega)];simpa using h9
     rw[this]
   rintro r rfl
   simp only[sC,kC,wC,oC,tC,uC,fD,dD,oD,cD,vC]
   by_cases hrg:6≤v.k∧v.k≤9
   ·rw[decide_eq_true hrg]
    rw[if_pos hrg]at hl⊢
    refine .as (if_pos rfl) (.pos rfl ?_)
    have ef:at_ v.row 3=v.fc:=rfl
    have efl:v.fc.rows.length=v.fs.length:=by rw[wA.wQ,List.length_map]
    have hc:=aQc (fw v.k v.fs)
    have hl0:pO (kw v.k::[40]::(fw v.k v.fs++[[41]]))=pO [kw v.k,[40]]+(pO (fw v.k v.fs)+pO [[41]]):=by
     simp only[wG,uX,jK];omega
    rw[hl0]at hl
    have bCO:(fw v.k v.fs).length+4≤8796093022208:=by unfold big at hb;omega
    rw[ef,efl]
    have aMK:=a1T v.k hrg v.row rfl (kw v.k) v.fs v.fc v.wQ hN hS aBZ v.fs.length 0 [] .fA (by omega) rfl (by rw[List.drop_zero];simp only[List.length_nil];omega)
    rw[List.drop_zero,List.nil_append]at aMK
    refine .bind aMK ?_
    rintro r ⟨o2,rfl,t2⟩
    refine .bind (aII o2 _ t2 (by omega)) ?_
    rintro r ⟨c2,rfl,h2⟩
    have hl2:c2.rows.length=(fw v.k v.fs).length+2:=by rw[h2,List.length_map];simp[par]
    refine .pos (by show (1+c2.rows.length)*16≤_;omega) (.some (.inl ⟨by omega,by omega,by omega,by omega,_,rfl, ?_⟩))
    rw[mE]
    show ([[C.str (kw v.k)]]:List Row)++c2.rows=_
    rw[h2];rfl
   ·rw[decide_eq_false hrg]
    refine .as (if_neg (by decide)) (.some (.inr ⟨by omega,rfl⟩))
 ·rintro r (⟨n1,n2,n4,n11,c,rfl,hc⟩|⟨hn1,rfl⟩)
  ·rw[←aWK]
   exact .some ⟨c,rfl,hc⟩
  ·rw[if_neg (by omega),if_neg (by omega),if_neg (by omega),if_neg (by omega)]
   refine .pos rfl (.lA (lP hn) (.some ⟨_,rfl,rfl⟩))
 termination_by SizeOf.sizeOf v
end Go.Ev.oO
namespace Go.Ev.oO
open Go.Proofs.Bld (cH fZ)
theorem dN {b:Bytes} {ws rest:List Bytes} (h:b.length+pO (ws++rest)≤aJM):b.length+pO ws≤aJM∧(gD b ws).length+pO rest≤aJM:=by
 have:=aCN ws b
 rw[uX]at h
 exact ⟨by omega,by omega⟩
theorem aWN (op:Int) (v0 v1:C) (v0r:Row) (h0:v0= .dp v0r) (hop:(at_ v0r 0).vA=op) (c:C) (l:List Bytes) (hc:c.rows=l.map iB) (hN:l.length≤big) (hS:∀s∈l,s.length≤4294967296):
 ∀(j i:Nat) (b:Bytes) (o:C),i+j=l.length→Txt o b→b.length+pO ((l.drop i).map (lnm op))≤aJM→
 jF (fun r=>∃o',r=(0,[PV.r [v0], .r [v1], .r [o']])∧Txt o' (gD b ((l.drop i).map (lnm op)))) (vG (bA T) v0 v1 c (l.length:Int) (i:Int) o)
 |0,i,b,o,hi,ho,hb=>by
  rw[qX];unfold bL
  obtain rfl:i=l.length:=by omega
  refine .ite (fun h=>absurd h rQ) fun _=> .some ⟨o,rfl, ?_⟩
  rw[List.drop_length];exact ho
 |j+1,i,b,o,hi,ho,hb=>by
  rw[qX];unfold bL
  have hlt:i<l.length:=by omega
  obtain ⟨s,hs⟩:∃s,s=l[i]:=⟨_,rfl⟩
  have hmem:s∈l:=by rw[hs];exact List.getElem_mem hlt
  have hd:(l.drop i).map (lnm op)=[lnm op s]++(l.drop (i+1)).map (lnm op):=by rw[List.drop_eq_getElem_cons hlt,←hs];rfl
  rw[hd]at hb⊢
  obtain ⟨b1,b2⟩:=dN hb
  have hrow:(at_ (aA c.rows (i:Int).toNat) 0).mD=s:=by rw[hc,Int.toNat_natCast,fC _ _ _ hlt,←hs];rfl
  rw[hrow]
  refine .pos (dec_lt hlt) (.pos (vX (by rw[hc];simpa using hlt)) (.pos (by rw[h0];rfl) ?_))
  have e:(at_ v0.cA 0).vA=op:=by rw[h0];exact hop
  rw[e,lC (show i≤big by omega)]
  have nx:∀o1:C,Txt o1 (gD b [lnm op s])→jF (fun r=>∃o',r=(0,[PV.r [v0], .r [v1], .r [o']])∧Txt o' (gD b ([lnm op s]++(l.drop (i+1)).map (lnm op)))) (vG (bA T) v0 v1 c (l.length:Int) ((i+1:Nat):Int) o1):=fun o1 h1=>by
   rw[zF]
   exact aWN op v0 v1 v0r h0 hop c l hc hN hS j (i+1) _ o1 (by omega) h1 b2
  refine .ite (fun h9=> ?_) fun h9=> ?_
  ·have h9:op=9:=by simpa using h9
   have hl:lnm op s=cH s:=by unfold lnm;rw[if_pos h9]
   rw[hl]at b1 nx⊢
   refine .lA (aLr _ (hS s hmem)) (.bind (yH [cH s] (by simp) b o ho b1) ?_)
   rintro r ⟨o1,rfl,h1⟩
   exact nx o1 h1
  ·have h9:¬op=9:=by simpa using h9
   have hl:lnm op s=s:=by unfold lnm;rw[if_neg h9]
   rw[hl]at b1 nx⊢
   refine .bind (yH [s] (by simp) b o ho b1) ?_
   rintro r ⟨o1,rfl,h1⟩
   exact nx o1 h1
theorem aWO (p:wA×wA):([at_ (tA p) 0,at_ (tA p) 1,at_ (tA p) 2,at_ (tA p) 3]:Row)=p.1.row:=rfl
theorem aWP (p:wA×wA):([at_ (tA p) 4,at_ (tA p) 5,at_ (tA p) 6,at_ (tA p) 7]:Row)=p.2.row:=rfl
theorem aWQ (v0 v1 c:C) (l:List (wA×wA)) (hc:c.rows=l.map tA) (hN:l.length≤big) (hS:∀p∈l,aQd p.1∧aQd p.2):
 ∀(j i:Nat) (b:Bytes) (o:C),i+j=l.length→Txt o b→b.length+pO (pws (l.drop i))≤aJM→
 jF (fun r=>∃o',r=(0,[PV.r [v0], .r [v1], .r [o']])∧Txt o' (gD b (pws (l.drop i)))) (cL (bA T) v0 v1 c (l.length:Int) (i:Int) o)
 |0,i,b,o,hi,ho,hb=>by
  rw[rX];unfold dL
  obtain rfl:i=l.length:=by omega
  refine .ite (fun h=>absurd h rQ) fun _=> .some ⟨o,rfl, ?_⟩
  rw[List.drop_length];exact ho
 |j+1,i,b,o,hi,ho,hb=>by
  rw[rX];unfold dL
  have hlt:i<l.length:=by omega
  obtain ⟨s,hs⟩:∃s,s=l[i]:=⟨_,rfl⟩
  have hmem:s∈l:=by rw[hs];exact List.getElem_mem hlt
  have hd:pws (l.drop i)=vw s.1++(vw s.2++pws (l.drop (i+1))):=by rw[List.drop_eq_getElem_cons hlt,←hs];rfl
  rw[hd]at hb⊢
  obtain ⟨b1,b2⟩:=dN hb
  obtain ⟨b3,b4⟩:=dN b2
  have hrow:aA c.rows (i:Int).toNat=tA s:=by rw[hc,Int.toNat_natCast,fC _ _ _ hlt,←hs]
  rw[hrow,aWO,aWP]
  refine .pos (dec_lt hlt) (.pos (vX (by rw[hc];simpa using hlt)) ?_)
  rw[lC (show i≤big by omega),zF,zF]
  refine .bind ((hS s hmem).1 b o ho b1) ?_
  rintro r ⟨o1,rfl,h1⟩
  refine .bind ((hS s hmem).2 _ o1 h1 b3) ?_
  rintro r ⟨o2,rfl,h2⟩
  exact aWQ v0 v1 c l hc hN hS j (i+1) _ o2 (by omega) h2 b4
def a1h (l:cB):Prop:=∀(b:Bytes) (o:C),Txt o b→b.length+pO (lw l)≤aJM→
 jF (fun r=>∃o',r=[PV.r [o']]∧Txt o' (gD b (lw l))) ((bA T).ic vM [.r l.row, .r [o]])
theorem aWR (c:C) (l:List cB) (hc:c.rows=l.map cB.row) (hN:l.length≤big) (hS:∀p∈l,a1h p):
 ∀(j i:Nat) (b:Bytes) (o:C),i+j=l.length→Txt o b→b.length+pO (lws (l.drop i))≤aJM→
 jF (fun r=>∃o',r=(0,[PV.r [o']])∧Txt o' (gD b (lws (l.drop i)))) (eL (bA T) c (l.length:Int) (i:Int) o)
 |0,i,b,o,hi,ho,hb=>by
  rw[sX];unfold fL
  obtain rfl:i=l.length:=by omega
  refine .ite (fun h=>absurd h rQ) fun _=> .some ⟨o,rfl, ?_⟩
  rw[List.drop_length];exact ho
 |j+1,i,b,o,hi,ho,hb=>by
  rw[sX];unfold fL
  have hlt:i<l.length:=by omega
  obtain ⟨s,hs⟩:∃s,s=l[i]:=⟨_,rfl⟩
  have hmem:s∈l:=by rw[hs];exact List.getElem_mem hlt
  have hd:lws (l.drop i)=lw s++lws (l.drop (i+1)):=by rw[List.drop_eq_getElem_cons hlt,←hs];rfl
  rw[hd]at hb⊢
  obtain ⟨b1,b2⟩:=dN hb
  have hrow:aA c.rows (i:Int).toNat=s.row:=by rw[hc,Int.toNat_natCast,fC _ _ _ hlt,←hs]
  rw[hrow]
  refine .pos (dec_lt hlt) (.pos (vX (by rw[hc];simpa using hlt)) ?_)
  rw[lC (show i≤big by omega),zF]
  refine .bind (hS s hmem b o ho b1) ?_
  rintro r ⟨o1,rfl,h1⟩
  exact aWR c l hc hN hS j (i+1) _ o1 (by omega) h1 b2
theorem aTh (ws:List Bytes):par ws=[[40]]++(ws++[[41]]):=rfl
def Stp (l:cB) (f:Fl) (b:Bytes) (ws:List Bytes) (r:Nat×List PV):Prop:=∃o',r=(0,[PV.r [.dp l.row], .r [.dp f.row], .r [o']])∧Txt o' (gD b ws)
theorem aXO (l:cB) (h:dP l) (f:Fl) (hv:f.v=true→aQd l.v) (hp:f.l=true→∀p∈l.pairs,aQd p.1∧aQd p.2) (hk:∀k∈l.kids,a1h k) (b:Bytes) (o:C) (ho:Txt o b)
 (hb:b.length+pO (jD f.s (par (l.names.map (lnm l.op)))++(jD f.v (vw l.v)++(jD f.l (par (pws l.pairs))++jD (f.k !=0) (par (lws l.kids)))))≤aJM):
 jF (fun r=>∃o',r=[PV.r [o']]∧Txt o' (gD b (jD f.s (par (l.names.map (lnm l.op)))++(jD f.v (vw l.v)++(jD f.l (par (pws l.pairs))++jD (f.k !=0) (par (lws l.kids))))))) ((bA T).ic yM [.r l.row, .r f.row, .r [o]]):=by
 obtain ⟨b1,c1⟩:=dN hb
 obtain ⟨b2,c2⟩:=dN c1
 obtain ⟨b3,b4⟩:=dN c2
 have hNs:=sJ l.nb (l.names.map iB)
 have hPs:=sJ l.pb (l.pairs.map tA)
 have hnS:∀s∈l.names,s.length≤4294967296:=fun s hs=>by
  have:=aHJ hs;have:=l.aM;have:=h.xC;unfold big at this;omega
 rw[aHs];unfold eX
 rw[zF,zF,zF]
 refine .bind (R:=Stp l f b (jD f.s (par (l.names.map (lnm l.op))))) ?_ ?_
 ·rw[fl2,eA]
  cases hs:f.s with
  |false=>exact .as (if_neg (by decide)) (.some ⟨o,rfl,ho⟩)
  |true=>
   rw[hs]at b1
   have e0:jD true (par (l.names.map (lnm l.op)))=par (l.names.map (lnm l.op)):=rfl
   rw[e0,aTh (l.names.map (lnm l.op))]at b1⊢
   obtain ⟨d1,d2⟩:=dN b1
   obtain ⟨d3,d4⟩:=dN d2
   refine .as (if_pos rfl) (.bind (yH [[40]] (by simp) b o ho d1) ?_)
   rintro r ⟨o1,rfl,h1⟩
   have ec:at_ l.row 3=slC l.nb (l.names.map iB):=rfl
   rw[ec,hNs,List.length_map]
   have hl:=aWN l.op (.dp l.row) (.dp f.row) l.row rfl rfl _ l.names hNs h.names hnS l.names.length 0 _ o1 (by omega) h1 (by rw[List.drop_zero];exact d3)
   rw[List.drop_zero]at hl
   refine .bind hl ?_
   rintro r ⟨o2,rfl,h2⟩
   refine .bind (yH [[41]] (by simp) _ o2 h2 d4) ?_
   rintro r ⟨o3,rfl,h3⟩
   refine .some ⟨o3,rfl, ?_⟩
   rw[zF,zF];exact h3
 rintro r ⟨o1,rfl,h1⟩
 simp only[sC,kC,wC,oC,tC,uC,fD,dD,oD,cD]
 refine .pos rfl ?_
 refine .bind (R:=Stp l f (gD b (jD f.s (par (l.names.map (lnm l.op))))) (jD f.v (vw l.v))) ?_ ?_
 ·rw[vC,fl6,eA]
  cases hs:f.v with
  |false=>exact .as (if_neg (by decide)) (.some ⟨o1,rfl,h1⟩)
  |true=>
   rw[hs]at b2
   refine .as (if_pos rfl) (.pos rfl ?_)
   have hrow:([at_ (C.dp l.row).cA 8,at_ (C.dp l.row).cA 9,at_ (C.dp l.row).cA 10,at_ (C.dp l.row).cA 11]:Row)=l.v.row:=rfl
   rw[hrow]
   refine .bind (hv hs _ o1 h1 b2) ?_
   rintro r ⟨o2,rfl,h2⟩
   exact .some ⟨o2,rfl,h2⟩
 rintro r ⟨o2,rfl,h2⟩
 simp only[sC,kC,wC,oC,tC,uC,fD,dD,oD,cD]
 refine .pos rfl ?_
 refine .bind (R:=Stp l f (gD (gD b (jD f.s (par (l.names.map (lnm l.op))))) (jD f.v (vw l.v))) (jD f.l (par (pws l.pairs)))) ?_ ?_
 ·rw[vC,fl7,eA]
  cases hs:f.l with
  |false=>exact .as (if_neg (by decide)) (.some ⟨o2,rfl,h2⟩)
  |true=>
   rw[hs]at b3
   have e0:jD true (par (pws l.pairs))=par (pws l.pairs):=rfl
   rw[e0,aTh (pws l.pairs)]at b3⊢
   obtain ⟨d1,d2⟩:=dN b3
   obtain ⟨d3,d4⟩:=dN d2
   refine .as (if_pos rfl) (.bind (yH [[40]] (by simp) _ o2 h2 d1) ?_)
   rintro r ⟨o3,rfl,h3⟩
   refine .pos rfl ?_
   have ec:at_ (C.dp l.row).cA 12=slC l.pb (l.pairs.map tA):=rfl
   rw[ec,hPs,List.length_map]
   have hl:=aWQ (.dp l.row) (.dp f.row) _ l.pairs hPs h.pairs.len (hp hs) l.pairs.length 0 _ o3 (by omega) h3 (by rw[List.drop_zero];exact d3)
   rw[List.drop_zero]at hl
   refine .bind hl ?_
   rintro r ⟨o4,rfl,h4⟩
   refine .bind (yH [[41]] (by simp) _ o4 h4 d4) ?_
   rintro r ⟨o5,rfl,h5⟩
   refine .some ⟨o5,rfl, ?_⟩
   rw[zF,zF];exact h5
 rintro r ⟨o3,rfl,h3⟩
 simp only[sC,kC,wC,oC,tC,uC,fD,dD,oD,cD]
 refine .pos rfl ?_
 rw[vC,fl8,rA]
 cases hs:(f.k !=0)with
 |false=>exact .as (if_neg (by decide)) (.some ⟨o3,rfl,h3⟩)
 |true=>
  rw[hs]at b4
  have e0:jD true (par (lws l.kids))=par (lws l.kids):=rfl
  rw[e0,aTh (lws l.kids)]at b4⊢
  obtain ⟨d1,d2⟩:=dN b4
  obtain ⟨d3,d4⟩:=dN d2
  refine .as (if_pos rfl) (.bind (yH [[40]] (by simp) _ o3 h3 d1) ?_)
  rintro r ⟨o4,rfl,h4⟩
  refine .pos rfl ?_
  have ec:at_ (C.dp l.row).cA 13=l.kc:=rfl
  rw[ec,cB.yS,List.length_map]
  have hl:=aWR l.kc l.kids l.yS h.kids hk l.kids.length 0 _ o4 (by omega) h4 (by rw[List.drop_zero];exact d3)
  rw[List.drop_zero]at hl
  refine .bind hl ?_
  rintro r ⟨o5,rfl,h5⟩
  refine .bind (yH [[41]] (by simp) _ o5 h5 d4) ?_
  rintro r ⟨o6,rfl,h6⟩
  refine .some ⟨o6,rfl, ?_⟩
  rw[zF,zF];exact h6
theorem aWS {l:cB} (h:l.wf):tZ l.n∧tZ l.low∧tZ l.high∧(0≤l.sep∧l.sep≤255):=by
 cases l;simp only[cB.wf]at h;exact ⟨h.2.1,h.2.2.1,h.2.2.2.1,h.2.2.2.2.1⟩
theorem aXP (n:Nat) (h:n<19):(bA T).pc aJA [[.int (n:Int)]]=some [[.str (opT n).2.1]]:=by
 rw[aTe];unfold aNv
 rw[if_pos ⟨by omega,by omega⟩]
 have:n=0∨n=1∨n=2∨n=3∨n=4∨n=5∨n=6∨n=7∨n=8∨n=9∨n=10∨n=11∨n=12∨n=13∨n=14∨n=15∨n=16∨n=17∨n=18:=by omega
 rcases this with rfl |rfl |rfl |rfl |rfl |rfl |rfl |rfl |rfl |rfl |rfl |rfl |rfl |rfl |rfl |rfl |rfl |rfl |rfl<;>rfl
theorem a1U (n:Nat) (h:n<19) (e:(opT n).1.l=true):n=11:=by
 have:n=0∨n=1∨n=2∨n=3∨n=4∨n=5∨n=6∨n=7∨n=8∨n=9∨n=10∨n=11∨n=12∨n=13∨n=14∨n=15∨n=16∨n=17∨n=18:=by omega
 rcases this with rfl |rfl |rfl |rfl |rfl |rfl |rfl |rfl |rfl |rfl |rfl |rfl |rfl |rfl |rfl |rfl |rfl |rfl |rfl<;>first |rfl |exact absurd e (by decide)
def Stq (l:cB) (f:Fl) (b:Bytes) (ws:List Bytes) (r:Nat×List PV):Prop:=∃o',r=(0,[PV.r [.dp l.row], .r [o'], .r f.row])∧Txt o' (gD b ws)
theorem aQg (l:cB) (h:dP l) (ha:aKD l):a1h l:=by
 intro b o ho hb
 have hk:∀k∈l.kids,a1h k:=fun k hk=>by
  have:=cB.oP hk
  exact aQg k (h.kid hk) (ha.kid hk)
 have hnd:=ha.self
 obtain ⟨n,hn⟩:∃n:Nat,l.op=n:=⟨l.op.toNat,by have:=hnd.h0;omega⟩
 have aXQ:n<19:=by have:=hnd.h1;omega
 have hnn:l.op.toNat=n:=by omega
 have hok:=aVJ n aXQ
 rw[lw_eq,hnn]at hb⊢
 have hv0:=hnd.v
 rw[hnn]at hv0
 have hlf:(opT n).1.l=true→l.op=11:=fun e=>by have:=a1U n aXQ e;omega
 have hw:=aXP n aXQ
 generalize opT n=fw at hb hok hv0 hlf hw⊢
 obtain ⟨f,w,u⟩:=fw
 simp only at hb hok hv0 hlf hw⊢
 have hv:f.v=true→aQd l.v:=fun e=>aKa _ (hv0 e) (cB.a2u h.wf) h.v
 have hp:f.l=true→∀p∈l.pairs,aQd p.1∧aQd p.2:=fun e p hp=>by
  obtain ⟨g1,g2⟩:=hnd.p (hlf e) p hp
  have hw:=cB.aSz h.wf hp
  exact ⟨aKa _ g1 hw.1 (h.pairs.xC p hp 0),aKa _ g2 hw.2 (h.pairs.xC p hp 1)⟩
 obtain ⟨w1,w2,w3,w4⟩:=aWS h.wf
 rw[show w::(jD f.n [if l.name=[]then [45]else l.name]++(jD f.t [l.to]++(jD f.i [Lib.itoa l.n]++(jD f.b [Lib.itoa l.low,Lib.itoa l.high]++(jD f.p [Lib.itoa l.sep]++(jD f.s (par (l.names.map (lnm l.op)))++(jD f.v (vw l.v)++(jD f.l (par (pws l.pairs))++jD (f.k !=0) (par (lws l.kids))))))))))=[w]++(jD f.n [if l.name=[]then [45]else l.name]++(jD f.t [l.to]++(jD f.i [Lib.itoa l.n]++(jD f.b [Lib.itoa l.low,Lib.itoa l.high]++(jD f.p [Lib.itoa l.sep]++(jD f.s (par (l.names.map (lnm l.op)))++(jD f.v (vw l.v)++(jD f.l (par (pws l.pairs))++jD (f.k !=0) (par (lws l.kids))))))))))from rfl]at hb⊢
 have hrs:=fun (b:Bytes) (o:C)=>aXO l h f hv hp hk b o
 generalize hR:(jD f.s (par (l.names.map (lnm l.op)))++(jD f.v (vw l.v)++(jD f.l (par (pws l.pairs))++jD (f.k !=0) (par (lws l.kids)))))=R at hb hrs⊢
 obtain ⟨b0,c0⟩:=dN hb
 obtain ⟨b1,c1⟩:=dN c0
 obtain ⟨b2,c2⟩:=dN c1
 obtain ⟨b3,c3⟩:=dN c2
 obtain ⟨b4,c4⟩:=dN c3
 obtain ⟨b5,c5⟩:=dN c4
 rw[aHt];unfold fX
 simp only[zF]
 have eop:(at_ l.row 0).vA=(n:Int):=hn
 rw[eop]
 refine .lA hw (.bind (yH [w] (by simp) b o ho b0) ?_)
 rintro r ⟨o0,rfl,h0⟩
 refine .lA hok.table ?_
 have et:aA [f.row] 0=f.row:=rfl
 rw[et]
 refine .bind (R:=Stq l f (gD b [w]) (jD f.n [if l.name=[]then [45]else l.name])) ?_ ?_
 ·rw[fl0,eA]
  cases hs:f.n with
  |false=>exact .as (if_neg (by decide)) (.some ⟨o0,rfl,h0⟩)
  |true=>
   rw[hs]at b1
   have en:(at_ l.row 1).mD=l.name:=rfl
   rw[en]
   refine .as (if_pos rfl) (.ite (fun he=> ?_) fun he=> ?_)
   ·have he:l.name=[]:=by simpa using he
    rw[if_pos he]at b1⊢
    refine .bind (yH [[45]] (by simp) _ o0 h0 b1) ?_
    rintro r ⟨o1,rfl,h1⟩
    exact .some ⟨o1,rfl,h1⟩
   ·have he:¬l.name=[]:=by simpa using he
    rw[if_neg he]at b1⊢
    refine .bind (yH [l.name] (by simp) _ o0 h0 b1) ?_
    rintro r ⟨o1,rfl,h1⟩
    exact .some ⟨o1,rfl,h1⟩
 rintro r ⟨o1,rfl,h1⟩
 simp only[sC,kC,wC,oC,tC,uC,fD,dD,oD,cD]
 refine .bind (R:=Stq l f (gD (gD b [w]) (jD f.n [if l.name=[]then [45]else l.name])) (jD f.t [l.to])) ?_ ?_
 ·rw[fl1,eA]
  cases hs:f.t with
  |false=>exact .as (if_neg (by decide)) (.some ⟨o1,rfl,h1⟩)
  |true=>
   rw[hs]at b2
   have en:(at_ (C.dp l.row).cA 2).mD=l.to:=rfl
   rw[en]
   refine .as (if_pos rfl) (.pos rfl (.bind (yH [l.to] (by simp) _ o1 h1 b2) ?_))
   rintro r ⟨o2,rfl,h2⟩
   exact .some ⟨o2,rfl,h2⟩
 rintro r ⟨o2,rfl,h2⟩
 simp only[sC,kC,wC,oC,tC,uC,fD,dD,oD,cD]
 refine .bind (R:=Stq l f (gD (gD (gD b [w]) (jD f.n [if l.name=[]then [45]else l.name])) (jD f.t [l.to])) (jD f.i [Lib.itoa l.n])) ?_ ?_
 ·rw[fl3,eA]
  cases hs:f.i with
  |false=>exact .as (if_neg (by decide)) (.some ⟨o2,rfl,h2⟩)
  |true=>
   rw[hs]at b3
   refine .as (if_pos rfl) (.pos rfl (.lA (lP w1) (.bind (yH [Lib.itoa l.n] (by simp) _ o2 h2 b3) ?_)))
   rintro r ⟨o3,rfl,h3⟩
   exact .some ⟨o3,rfl,h3⟩
 rintro r ⟨o3,rfl,h3⟩
 simp only[sC,kC,wC,oC,tC,uC,fD,dD,oD,cD]
 refine .bind (R:=Stq l f (gD (gD (gD (gD b [w]) (jD f.n [if l.name=[]then [45]else l.name])) (jD f.t [l.to])) (jD f.i [Lib.itoa l.n])) (jD f.b [Lib.itoa l.low,Lib.itoa l.high])) ?_ ?_
 ·rw[fl4,eA]
  cases hs:f.b with
  |false=>exact .as (if_neg (by decide)) (.some ⟨o3,rfl,h3⟩)
  |true=>
   rw[hs]at b4
   refine .as (if_pos rfl) (.pos rfl (.lA (lP w2) (.pos rfl (.lA (lP w3) (.bind (yH [Lib.itoa l.low,Lib.itoa l.high] (by simp) _ o3 h3 b4) ?_)))))
   rintro r ⟨o4,rfl,h4⟩
   exact .some ⟨o4,rfl,h4⟩
 rintro r ⟨o4,rfl,h4⟩
 simp only[sC,kC,wC,oC,tC,uC,fD,dD,oD,cD]
 rw[fl5,eA]
 cases hs:f.p with
 |false=>
  rw[hs]at c5
  refine .as (if_neg (by decide)) (.pos rfl (.bind (hrs _ o4 h4 c5) ?_))
  rintro r ⟨o6,rfl,h6⟩
  exact .some ⟨o6,rfl,h6⟩
 |true=>
  rw[hs]at b5 c5
  have es:(at_ (C.dp l.row).cA 7).vA=l.sep:=rfl
  rw[es,yF w4.1 (by omega)]
  refine .as (if_pos rfl) (.pos rfl (.lA (lP (n:=l.sep) ⟨by omega,by omega⟩) (.bind (yH [Lib.itoa l.sep] (by simp) _ o4 h4 b5) ?_)))
  rintro r ⟨o5,rfl,h5⟩
  refine .pos rfl (.bind (hrs _ o5 h5 c5) ?_)
  rintro r ⟨o6,rfl,h6⟩
  exact .some ⟨o6,rfl,h6⟩
 termination_by SizeOf.sizeOf l
end Go.Ev.oO
namespace Go.Ev.oO
open Go.Proofs.Bld (cH fZ)
theorem aZL (op:Int) (v0r:Row) (w:Bytes) (c5:C) (hop:(at_ v0r 0).vA=op) (c:C) (l:List Bytes) (hc:c.rows=l.map iB) (hN:l.length≤big) (hS:∀s∈l,s.length≤4294967296):
 ∀(j i:Nat) (ws:List Bytes) (o:C),i+j=l.length→o.rows=ws.map iB→ws.length+((l.drop i).map (lnm op)).length≤8796093022208→
 jF (fun r=>∃o',r=(0,[PV.r [.dp v0r], .r [.str w], .r [c5], .r [o']])∧o'.rows=(ws++(l.drop i).map (lnm op)).map iB) (aQ (bA T) (.dp v0r) w c (l.length:Int) (i:Int) c5 o)
 |0,i,b,o,hi,ho,hb=>by
  rw[aDz];unfold cW
  obtain rfl:i=l.length:=by omega
  refine .ite (fun h=>absurd h rQ) fun _=> .some ⟨o,rfl, ?_⟩
  rw[List.drop_length];simpa using ho
 |j+1,i,b,o,hi,ho,hb=>by
  rw[aDz];unfold cW
  have hlt:i<l.length:=by omega
  obtain ⟨s,hs⟩:∃s,s=l[i]:=⟨_,rfl⟩
  have hmem:s∈l:=by rw[hs];exact List.getElem_mem hlt
  have hd:(l.drop i).map (lnm op)=[lnm op s]++(l.drop (i+1)).map (lnm op):=by rw[List.drop_eq_getElem_cons hlt,←hs];rfl
  rw[hd,List.length_append,List.length_singleton]at hb
  have hlo:o.rows.length=b.length:=by rw[ho,List.length_map]
  have hrow:(at_ (aA c.rows (i:Int).toNat) 0).mD=s:=by rw[hc,Int.toNat_natCast,fC _ _ _ hlt,←hs];rfl
  rw[hrow]
  refine .pos (dec_lt hlt) (.pos (vX (by rw[hc];simpa using hlt)) (.pos rfl ?_))
  have e:(at_ (C.dp v0r).cA 0).vA=op:=hop
  rw[e,lC (show i≤big by omega),hd,←List.append_assoc]
  have nx:jF (fun r=>∃o',r=(0,[PV.r [.dp v0r], .r [.str w], .r [c5], .r [o']])∧o'.rows=(b++[lnm op s]++(l.drop (i+1)).map (lnm op)).map iB) (aQ (bA T) (.dp v0r) w c (l.length:Int) ((i+1:Nat):Int) c5 (pE o [[.str (lnm op s)]])):=
   aZL op v0r w c5 hop c l hc hN hS j (i+1) (b++[lnm op s]) _ (by omega) (by rw[mE,ho];simp[iB]) (by simp only[List.length_append,List.length_singleton];omega)
  refine .ite (fun h9=> ?_) fun h9=> ?_
  ·have h9:op=9:=by simpa using h9
   have hl:lnm op s=cH s:=by unfold lnm;rw[if_pos h9]
   rw[hl]at nx⊢
   exact .lA (aJK _ (hS s hmem)) (.pos (by show (o.rows.length+1)*16≤_;omega) nx)
  ·have h9:¬op=9:=by simpa using h9
   have hl:lnm op s=s:=by unfold lnm;rw[if_neg h9]
   rw[hl]at nx⊢
   exact .pos (by show (o.rows.length+1)*16≤_;omega) nx
theorem aZM (v0:C) (w:Bytes) (c5:C) (c:C) (l:List (wA×wA)) (hc:c.rows=l.map tA) (hN:l.length≤big) (hS:∀p∈l,jF (Wds (vw p.1)) ((bA T).pc qB [p.1.row])∧jF (Wds (vw p.2)) ((bA T).pc qB [p.2.row])):
 ∀(j i:Nat) (ws:List Bytes) (o:C),i+j=l.length→o.rows=ws.map iB→ws.length+(pws (l.drop i)).length≤8796093022208→
 jF (fun r=>∃o',r=(0,[PV.r [v0], .r [.str w], .r [c5], .r [o']])∧o'.rows=(ws++pws (l.drop i)).map iB) (dW (bA T) v0 w c (l.length:Int) (i:Int) c5 o)
 |0,i,b,o,hi,ho,hb=>by
  rw[aDA];unfold eW
  obtain rfl:i=l.length:=by omega
  refine .ite (fun h=>absurd h rQ) fun _=> .some ⟨o,rfl, ?_⟩
  rw[List.drop_length];simpa[pws]using ho
 |j+1,i,b,o,hi,ho,hb=>by
  rw[aDA];unfold eW
  have hlt:i<l.length:=by omega
  obtain ⟨s,hs⟩:∃s,s=l[i]:=⟨_,rfl⟩
  have hmem:s∈l:=by rw[hs];exact List.getElem_mem hlt
  have hd:pws (l.drop i)=vw s.1++(vw s.2++pws (l.drop (i+1))):=by rw[List.drop_eq_getElem_cons hlt,←hs];rfl
  rw[hd,List.length_append,List.length_append]at hb
  have hlo:o.rows.length=b.length:=by rw[ho,List.length_map]
  have hrow:aA c.rows (i:Int).toNat=tA s:=by rw[hc,Int.toNat_natCast,fC _ _ _ hlt,←hs]
  rw[hrow,aWO,aWP]
  refine .pos (dec_lt hlt) (.pos (vX (by rw[hc];simpa using hlt)) ?_)
  rw[lC (show i≤big by omega),hd]
  refine .bind (hS s hmem).1 ?_
  rintro r ⟨c1,rfl,h1⟩
  have hl1:c1.rows.length=(vw s.1).length:=by rw[h1,List.length_map]
  refine .pos (by show (o.rows.length+c1.rows.length)*16≤_;omega) ?_
  refine .bind (hS s hmem).2 ?_
  rintro r ⟨c2,rfl,h2⟩
  have hl2:c2.rows.length=(vw s.2).length:=by rw[h2,List.length_map]
  refine .pos (by rw[mE,List.length_append];show (o.rows.length+c1.rows.length+c2.rows.length)*16≤_;omega) ?_
  have e2:b++(vw s.1++(vw s.2++pws (l.drop (i+1))))=b++vw s.1++vw s.2++pws (l.drop (i+1)):=by simp only[List.append_assoc]
  rw[e2]
  exact aZM v0 w c5 c l hc hN hS j (i+1) (b++vw s.1++vw s.2) (pE (pE o c1.rows) c2.rows) (by omega) (by rw[mE,mE,ho,h1,h2];simp only[List.map_append]) (by simp only[List.length_append];omega)
def a34 (l:cB):Prop:=(lw l).length≤8796093022208→jF (Wds (lw l)) ((bA T).pc rY [l.row])
theorem aZN (c3:C) (c:C) (l:List cB) (hc:c.rows=l.map cB.row) (hN:l.length≤big) (hS:∀p∈l,a34 p):
 ∀(j i:Nat) (ws:List Bytes) (o:C),i+j=l.length→o.rows=ws.map iB→ws.length+(lws (l.drop i)).length≤8796093022208→
 jF (fun r=>∃o',r=(0,[PV.r [c3], .r [o']])∧o'.rows=(ws++lws (l.drop i)).map iB) (fW (bA T) c (l.length:Int) (i:Int) c3 o)
 |0,i,b,o,hi,ho,hb=>by
  rw[aDB];unfold gW
  obtain rfl:i=l.length:=by omega
  refine .ite (fun h=>absurd h rQ) fun _=> .some ⟨o,rfl, ?_⟩
  rw[List.drop_length];simpa[lws]using ho
 |j+1,i,b,o,hi,ho,hb=>by
  rw[aDB];unfold gW
  have hlt:i<l.length:=by omega
  obtain ⟨s,hs⟩:∃s,s=l[i]:=⟨_,rfl⟩
  have hmem:s∈l:=by rw[hs];exact List.getElem_mem hlt
  have hd:lws (l.drop i)=lw s++lws (l.drop (i+1)):=by rw[List.drop_eq_getElem_cons hlt,←hs];rfl
  rw[hd,List.length_append]at hb
  have hlo:o.rows.length=b.length:=by rw[ho,List.length_map]
  have hrow:aA c.rows (i:Int).toNat=s.row:=by rw[hc,Int.toNat_natCast,fC _ _ _ hlt,←hs]
  rw[hrow]
  refine .pos (dec_lt hlt) (.pos (vX (by rw[hc];simpa using hlt)) ?_)
  rw[lC (show i≤big by omega),hd,←List.append_assoc]
  refine .bind (hS s hmem (by omega)) ?_
  rintro r ⟨c1,rfl,h1⟩
  have hl1:c1.rows.length=(lw s).length:=by rw[h1,List.length_map]
  refine .pos (by show (o.rows.length+c1.rows.length)*16≤_;omega) ?_
  exact aZN c3 c l hc hN hS j (i+1) (b++lw s) (pE o c1.rows) (by omega) (by rw[mE,ho,h1,List.map_append]) (by simp only[List.length_append];omega)
theorem aED {b ws rest:List Bytes} (h:b.length+(ws++rest).length≤8796093022208):b.length+ws.length≤8796093022208∧(b++ws).length+rest.length≤8796093022208:=by
 simp only[List.length_append]at h⊢
 exact ⟨by omega,by omega⟩
theorem aFO {o:C} {W ws:List Bytes} {rows:List Row} (h:o.rows=W.map iB) (hr:rows=ws.map iB):(pE o rows).rows=(W++ws).map iB:=by rw[mE,h,hr,List.map_append]
def Stw (l:cB) (u:Bytes) (ws:List Bytes) (r:Nat×List PV):Prop:=∃o',r=(0,[PV.r [.dp l.row], .r [.str u], .r [o']])∧o'.rows=ws.map iB
theorem aUs (l:cB) (h:dP l) (ha:aKD l):a34 l:=by
 intro hb
 have hk:∀k∈l.kids,a34 k:=fun k hk=>by
  have:=cB.oP hk
  exact aUs k (h.kid hk) (ha.kid hk)
 have hnd:=ha.self
 obtain ⟨n,hn⟩:∃n:Nat,l.op=n:=⟨l.op.toNat,by have:=hnd.h0;omega⟩
 have aXQ:n<19:=by have:=hnd.h1;omega
 have hnn:l.op.toNat=n:=by omega
 have hok:=aVJ n aXQ
 rw[lw_eq,hnn]at hb⊢
 have hv0:=hnd.v
 rw[hnn]at hv0
 have hlf:(opT n).1.l=true→l.op=11:=fun e=>by have:=a1U n aXQ e;omega
 generalize opT n=fw at hb hok hv0 hlf⊢
 obtain ⟨f,w,u⟩:=fw
 simp only at hb hok hv0 hlf⊢
 have hv:f.v=true→jF (Wds (vw l.v)) ((bA T).pc qB [l.v.row]):=fun e=>aMM _ (hv0 e) (cB.a2u h.wf) h.v
 have hp:f.l=true→∀p∈l.pairs,jF (Wds (vw p.1)) ((bA T).pc qB [p.1.row])∧jF (Wds (vw p.2)) ((bA T).pc qB [p.2.row]):=fun e p hp=>by
  obtain ⟨g1,g2⟩:=hnd.p (hlf e) p hp
  have hw:=cB.aSz h.wf hp
  exact ⟨aMM _ g1 hw.1 (h.pairs.xC p hp 0),aMM _ g2 hw.2 (h.pairs.xC p hp 1)⟩
 obtain ⟨w1,w2,w3,w4⟩:=aWS h.wf
 have hNs:=sJ l.nb (l.names.map iB)
 have hPs:=sJ l.pb (l.pairs.map tA)
 have hnS:∀s∈l.names,s.length≤4294967296:=fun s hs=>by
  have:=aHJ hs;have:=l.aM;have:=h.xC;unfold big at this;omega
 rw[show w::(jD f.n [if l.name=[]then [45]else l.name]++(jD f.t [l.to]++(jD f.i [Lib.itoa l.n]++(jD f.b [Lib.itoa l.low,Lib.itoa l.high]++(jD f.p [Lib.itoa l.sep]++(jD f.s (par (l.names.map (lnm l.op)))++(jD f.v (vw l.v)++(jD f.l (par (pws l.pairs))++jD (f.k !=0) (par (lws l.kids))))))))))=[]++([w]++(jD f.n [if l.name=[]then [45]else l.name]++(jD f.t [l.to]++(jD f.i [Lib.itoa l.n]++(jD f.b [Lib.itoa l.low,Lib.itoa l.high]++(jD f.p [Lib.itoa l.sep]++(jD f.s (par (l.names.map (lnm l.op)))++(jD f.v (vw l.v)++(jD f.l (par (pws l.pairs))++jD (f.k !=0) (par (lws l.kids)))))))))))from rfl]at hb⊢
 rw[List.length_append]at hb
 obtain ⟨b0,c0⟩:=aED hb
 obtain ⟨b1,c1⟩:=aED c0
 obtain ⟨b2,c2⟩:=aED c1
 obtain ⟨b3,c3⟩:=aED c2
 obtain ⟨b4,c4⟩:=aED c3
 obtain ⟨b5,c5⟩:=aED c4
 obtain ⟨b6,c6⟩:=aED c5
 obtain ⟨b7,c7⟩:=aED c6
 obtain ⟨b8,b9⟩:=aED c7
 rw[aMH];unfold aE8
 simp only[←List.append_assoc]
 have eop:(at_ l.row 0).vA=(n:Int):=hn
 rw[eop]
 refine .lA hok.used ?_
 have e0:(at_ (aA [[C.str w],[C.str u]] 0) 0).mD=w:=rfl
 have e1:(at_ (aA [[C.str w],[C.str u]] 1) 0).mD=u:=rfl
 rw[e0,e1]
 refine .lA (kK u 110) ?_
 have q:(at_ (aA [[C.bool (hasB u 110)]] 0) 0).lK=f.n:=hok.n
 rw[q]
 have r0:(C.sl ([[.str w]]:List Row)).rows=([]++[w]:List Bytes).map iB:=rfl
 refine .bind (R:=Stw l u (([]++[w])++jD f.n [if l.name=[]then [45]else l.name])) ?_ ?_
 ·cases hs:f.n with
  |false=>exact .as (if_neg (by decide)) (.some ⟨_,rfl,by rw[r0];rfl⟩)
  |true=>
   have en:(at_ l.row 1).mD=l.name:=rfl
   rw[en]
   refine .as (if_pos rfl) (.ite (fun he=> ?_) fun he=> ?_)
   ·have he:l.name=[]:=by simpa using he
    exact .pos (by show (1+1)*16≤140737488355328;omega) (.some ⟨_,rfl,by rw[if_pos he,mE,r0];rfl⟩)
   ·have he:¬l.name=[]:=by simpa using he
    exact .pos (by show (1+1)*16≤140737488355328;omega) (.some ⟨_,rfl,by rw[if_neg he,mE,r0];rfl⟩)
 rintro r ⟨o1,rfl,h1⟩
 simp only[sC,kC,wC,oC,tC,uC,fD,dD,oD,cD]
 have l1:o1.rows.length=(([]++[w])++jD f.n [if l.name=[]then [45]else l.name]).length:=by rw[h1,List.length_map]
 refine .lA (kK u 116) ?_
 have q:(at_ (aA [[C.bool (hasB u 116)]] 0) 0).lK=f.t:=hok.t
 rw[q]
 refine .bind (R:=Stw l u ((([]++[w])++jD f.n [if l.name=[]then [45]else l.name])++jD f.t [l.to])) ?_ ?_
 ·cases hs:f.t with
  |false=>exact .as (if_neg (by decide)) (.some ⟨o1,rfl,by rw[h1];simp[jD]⟩)
  |true=>
   rw[hs]at b2
   refine .as (if_pos rfl) (.pos rfl ?_)
   have en:(at_ (C.dp l.row).cA 2).mD=l.to:=rfl
   rw[en]
   exact .pos (by show (o1.rows.length+1)*16≤140737488355328;rw[l1];rw[show (jD true [l.to]).length=1 from rfl]at b2;omega) (.some ⟨_,rfl,aFO h1 rfl⟩)
 rintro r ⟨o2,rfl,h2⟩
 simp only[sC,kC,wC,oC,tC,uC,fD,dD,oD,cD]
 have l2:o2.rows.length=((([]++[w])++jD f.n [if l.name=[]then [45]else l.name])++jD f.t [l.to]).length:=by rw[h2,List.length_map]
 refine .lA (kK u 105) ?_
 have q:(at_ (aA [[C.bool (hasB u 105)]] 0) 0).lK=f.i:=hok.i
 rw[q]
 refine .bind (R:=Stw l u (((([]++[w])++jD f.n [if l.name=[]then [45]else l.name])++jD f.t [l.to])++jD f.i [Lib.itoa l.n])) ?_ ?_
 ·cases hs:f.i with
  |false=>exact .as (if_neg (by decide)) (.some ⟨o2,rfl,by rw[h2];simp[jD]⟩)
  |true=>
   rw[hs]at b3
   refine .as (if_pos rfl) (.pos rfl ?_)
   refine .lA (lP w1) ?_
   exact .pos (by show (o2.rows.length+1)*16≤140737488355328;rw[l2];rw[show (jD true [Lib.itoa l.n]).length=1 from rfl]at b3;omega) (.some ⟨_,rfl,aFO h2 rfl⟩)
 rintro r ⟨o3,rfl,h3⟩
 simp only[sC,kC,wC,oC,tC,uC,fD,dD,oD,cD]
 have l3:o3.rows.length=(((([]++[w])++jD f.n [if l.name=[]then [45]else l.name])++jD f.t [l.to])++jD f.i [Lib.itoa l.n]).length:=by rw[h3,List.length_map]
 refine .lA (kK u 98) ?_
 have q:(at_ (aA [[C.bool (hasB u 98)]] 0) 0).lK=f.b:=hok.b
 rw[q]
 refine .bind (R:=Stw l u ((((([]++[w])++jD f.n [if l.name=[]then [45]else l.name])++jD f.t [l.to])++jD f.i [Lib.itoa l.n])++jD f.b [Lib.itoa l.low,Lib.itoa l.high])) ?_ ?_
 ·cases hs:f.b with
  |false=>exact .as (if_neg (by decide)) (.some ⟨o3,rfl,by rw[h3];simp[jD]⟩)
  |true=>
   rw[hs]at b4
   refine .as (if_pos rfl) (.pos rfl ?_)
   refine .lA (lP w2) (.pos rfl (.lA (lP w3) ?_))
   exact .pos (by show (o3.rows.length+2)*16≤140737488355328;rw[l3];rw[show (jD true [Lib.itoa l.low,Lib.itoa l.high]).length=2 from rfl]at b4;omega) (.some ⟨_,rfl,aFO h3 rfl⟩)
 rintro r ⟨o4,rfl,h4⟩
 simp only[sC,kC,wC,oC,tC,uC,fD,dD,oD,cD]
 have l4:o4.rows.length=((((([]++[w])++jD f.n [if l.name=[]then [45]else l.name])++jD f.t [l.to])++jD f.i [Lib.itoa l.n])++jD f.b [Lib.itoa l.low,Lib.itoa l.high]).length:=by rw[h4,List.length_map]
 refine .lA (kK u 112) ?_
 have q:(at_ (aA [[C.bool (hasB u 112)]] 0) 0).lK=f.p:=hok.p
 rw[q]
 refine .bind (R:=Stw l u (((((([]++[w])++jD f.n [if l.name=[]then [45]else l.name])++jD f.t [l.to])++jD f.i [Lib.itoa l.n])++jD f.b [Lib.itoa l.low,Lib.itoa l.high])++jD f.p [Lib.itoa l.sep])) ?_ ?_
 ·cases hs:f.p with
  |false=>exact .as (if_neg (by decide)) (.some ⟨o4,rfl,by rw[h4];simp[jD]⟩)
  |true=>
   rw[hs]at b5
   refine .as (if_pos rfl) (.pos rfl ?_)
   have es:(at_ (C.dp l.row).cA 7).vA=l.sep:=rfl
   rw[es,yF w4.1 (by omega)]
   refine .lA (lP (n:=l.sep) ⟨by omega,by omega⟩) ?_
   exact .pos (by show (o4.rows.length+1)*16≤140737488355328;rw[l4];rw[show (jD true [Lib.itoa l.sep]).length=1 from rfl]at b5;omega) (.some ⟨_,rfl,aFO h4 rfl⟩)
 rintro r ⟨o5,rfl,h5⟩
 simp only[sC,kC,wC,oC,tC,uC,fD,dD,oD,cD]
 have l5:o5.rows.length=(((((([]++[w])++jD f.n [if l.name=[]then [45]else l.name])++jD f.t [l.to])++jD f.i [Lib.itoa l.n])++jD f.b [Lib.itoa l.low,Lib.itoa l.high])++jD f.p [Lib.itoa l.sep]).length:=by rw[h5,List.length_map]
 refine .lA (kK u 115) ?_
 have q:(at_ (aA [[C.bool (hasB u 115)]] 0) 0).lK=f.s:=hok.s
 rw[q]
 refine .bind (R:=Stw l u ((((((([]++[w])++jD f.n [if l.name=[]then [45]else l.name])++jD f.t [l.to])++jD f.i [Lib.itoa l.n])++jD f.b [Lib.itoa l.low,Lib.itoa l.high])++jD f.p [Lib.itoa l.sep])++jD f.s (par (l.names.map (lnm l.op))))) ?_ ?_
 ·cases hs:f.s with
  |false=>exact .as (if_neg (by decide)) (.some ⟨o5,rfl,by rw[h5];simp[jD]⟩)
  |true=>
   rw[hs]at b6
   refine .as (if_pos rfl) (.pos rfl ?_)
   have e0:jD true (par (l.names.map (lnm l.op)))=par (l.names.map (lnm l.op)):=rfl
   have lp:(par (l.names.map (lnm l.op))).length=(l.names.map (lnm l.op)).length+2:=by simp[par]
   rw[e0,lp]at b6
   have ec:at_ (C.dp l.row).cA 3=slC l.nb (l.names.map iB):=rfl
   rw[ec]
   rw[hNs,List.length_map]
   have hl:=aZL l.op l.row u o5 rfl _ l.names hNs h.names hnS l.names.length 0 [] .fA (by omega) rfl (by rw[List.drop_zero];simp only[List.length_nil];omega)
   rw[List.drop_zero,List.nil_append]at hl
   refine .bind hl ?_
   rintro r ⟨c1,rfl,g1⟩
   refine .bind (aII c1 _ g1 (by omega)) ?_
   rintro r ⟨c2,rfl,g2⟩
   have lc:c2.rows.length=(l.names.map (lnm l.op)).length+2:=by rw[g2,List.length_map,lp]
   exact .pos (by show (o5.rows.length+c2.rows.length)*16≤140737488355328;rw[l5,lc];omega) (.some ⟨_,rfl,aFO h5 g2⟩)
 rintro r ⟨o6,rfl,h6⟩
 simp only[sC,kC,wC,oC,tC,uC,fD,dD,oD,cD]
 have l6:o6.rows.length=((((((([]++[w])++jD f.n [if l.name=[]then [45]else l.name])++jD f.t [l.to])++jD f.i [Lib.itoa l.n])++jD f.b [Lib.itoa l.low,Lib.itoa l.high])++jD f.p [Lib.itoa l.sep])++jD f.s (par (l.names.map (lnm l.op)))).length:=by rw[h6,List.length_map]
 refine .lA (kK u 118) ?_
 have q:(at_ (aA [[C.bool (hasB u 118)]] 0) 0).lK=f.v:=hok.v
 rw[q]
 refine .bind (R:=Stw l u (((((((([]++[w])++jD f.n [if l.name=[]then [45]else l.name])++jD f.t [l.to])++jD f.i [Lib.itoa l.n])++jD f.b [Lib.itoa l.low,Lib.itoa l.high])++jD f.p [Lib.itoa l.sep])++jD f.s (par (l.names.map (lnm l.op))))++jD f.v (vw l.v))) ?_ ?_
 ·cases hs:f.v with
  |false=>exact .as (if_neg (by decide)) (.some ⟨o6,rfl,by rw[h6];simp[jD]⟩)
  |true=>
   rw[hs]at b7
   refine .as (if_pos rfl) (.pos rfl ?_)
   have hrow:([at_ (C.dp l.row).cA 8,at_ (C.dp l.row).cA 9,at_ (C.dp l.row).cA 10,at_ (C.dp l.row).cA 11]:Row)=l.v.row:=rfl
   rw[hrow]
   refine .bind (hv hs) ?_
   rintro r ⟨c2,rfl,g2⟩
   have lc:c2.rows.length=(vw l.v).length:=by rw[g2,List.length_map]
   have e0:jD true (vw l.v)=vw l.v:=rfl
   rw[e0]at b7
   exact .pos (by show (o6.rows.length+c2.rows.length)*16≤140737488355328;rw[l6,lc];omega) (.some ⟨_,rfl,aFO h6 g2⟩)
 rintro r ⟨o7,rfl,h7⟩
 simp only[sC,kC,wC,oC,tC,uC,fD,dD,oD,cD]
 have l7:o7.rows.length=(((((((([]++[w])++jD f.n [if l.name=[]then [45]else l.name])++jD f.t [l.to])++jD f.i [Lib.itoa l.n])++jD f.b [Lib.itoa l.low,Lib.itoa l.high])++jD f.p [Lib.itoa l.sep])++jD f.s (par (l.names.map (lnm l.op))))++jD f.v (vw l.v)).length:=by rw[h7,List.length_map]
 refine .lA (kK u 108) ?_
 have q:(at_ (aA [[C.bool (hasB u 108)]] 0) 0).lK=f.l:=hok.l
 rw[q]
 refine .bind (R:=Stw l u ((((((((([]++[w])++jD f.n [if l.name=[]then [45]else l.name])++jD f.t [l.to])++jD f.i [Lib.itoa l.n])++jD f.b [Lib.itoa l.low,Lib.itoa l.high])++jD f.p [Lib.itoa l.sep])++jD f.s (par (l.names.map (lnm l.op))))++jD f.v (vw l.v))++jD f.l (par (pws l.pairs)))) ?_ ?_
 ·cases hs:f.l with
  |false=>exact .as (if_neg (by decide)) (.some ⟨o7,rfl,by rw[h7];simp[jD]⟩)
  |true=>
   rw[hs]at b8
   refine .as (if_pos rfl) (.pos rfl ?_)
   have e0:jD true (par (pws l.pairs))=par (pws l.pairs):=rfl
   have lp:(par (pws l.pairs)).length=(pws l.pairs).length+2:=by simp[par]
   rw[e0,lp]at b8
   have ec:at_ (C.dp l.row).cA 12=slC l.pb (l.pairs.map tA):=rfl
   rw[ec]
   rw[hPs,List.length_map]
   have hl:=aZM (.dp l.row) u o7 _ l.pairs hPs h.pairs.len (hp hs) l.pairs.length 0 [] .fA (by omega) rfl (by rw[List.drop_zero];simp only[List.length_nil];omega)
   rw[List.drop_zero,List.nil_append]at hl
   refine .bind hl ?_
   rintro r ⟨c1,rfl,g1⟩
   refine .bind (aII c1 _ g1 (by omega)) ?_
   rintro r ⟨c2,rfl,g2⟩
   have lc:c2.rows.length=(pws l.pairs).length+2:=by rw[g2,List.length_map,lp]
   exact .pos (by show (o7.rows.length+c2.rows.length)*16≤140737488355328;rw[l7,lc];omega) (.some ⟨_,rfl,aFO h7 g2⟩)
 rintro r ⟨o8,rfl,h8⟩
 simp only[sC,kC,wC,oC,tC,uC,fD,dD,oD,cD]
 have l8:o8.rows.length=((((((((([]++[w])++jD f.n [if l.name=[]then [45]else l.name])++jD f.t [l.to])++jD f.i [Lib.itoa l.n])++jD f.b [Lib.itoa l.low,Lib.itoa l.high])++jD f.p [Lib.itoa l.sep])++jD f.s (par (l.names.map (lnm l.op))))++jD f.v (vw l.v))++jD f.l (par (pws l.pairs))).length:=by rw[h8,List.length_map]
 refine .bind (R:=fun r=>r=(0,[.r [.dp l.row], .r [.bool (f.k !=0)], .r [o8]])) ?_ ?_
 ·refine .lA (kK u 49) ?_
  have q:(at_ (aA [[C.bool (hasB u 49)]] 0) 0).lK=(f.k==1):=hok.k1
  have q2:(at_ (aA [[C.bool (hasB u 43)]] 0) 0).lK=(f.k== -1):=hok.k2
  rw[q]
  have hkk:=hok.k
  generalize f.k=kk at hkk q q2⊢
  rcases hkk with rfl |rfl |rfl
  ·refine .as (if_neg (by decide)) (.lA (kK u 43) ?_)
   rw[q2];exact .some rfl
  ·exact .as (if_pos rfl) (.some rfl)
  ·refine .as (if_neg (by decide)) (.lA (kK u 43) ?_)
   rw[q2];exact .some rfl
 rintro r rfl
 simp only[sC,kC,wC,oC,tC,uC,fD,dD,oD,cD]
 cases hs:(f.k !=0)with
 |false=>exact .as (if_neg (by decide)) (.some ⟨o8,rfl,by rw[h8];simp[jD]⟩)
 |true=>
  rw[hs]at b9
  have e0:jD true (par (lws l.kids))=par (lws l.kids):=rfl
  have lp:(par (lws l.kids)).length=(lws l.kids).length+2:=by simp[par]
  rw[e0,lp]at b9
  refine .as (if_pos rfl) (.pos rfl ?_)
  have ec:at_ (C.dp l.row).cA 13=l.kc:=rfl
  rw[ec,cB.yS,List.length_map]
  have hl:=aZN o8 l.kc l.kids l.yS h.kids hk l.kids.length 0 [] .fA (by omega) rfl (by rw[List.drop_zero];simp only[List.length_nil];omega)
  rw[List.drop_zero,List.nil_append]at hl
  refine .bind hl ?_
  rintro r ⟨c1,rfl,g1⟩
  refine .bind (aII c1 _ g1 (by omega)) ?_
  rintro r ⟨c2,rfl,g2⟩
  have lc:c2.rows.length=(lws l.kids).length+2:=by rw[g2,List.length_map,lp]
  exact .pos (by show (o8.rows.length+c2.rows.length)*16≤140737488355328;rw[l8,lc];omega) (.some ⟨_,rfl,aFO h8 g2⟩)
 termination_by SizeOf.sizeOf l
end Go.Ev.oO
namespace Go.Ev.oO
noncomputable def aWT (l:cB):List Row:=if eV l≠0 then [[.str []],[.int (eV l)]]else if 4000<(gD [] (lw l)).length then [[.str []],[.int 2]]else [[.str (gD [] (lw l))],[.int 0]]
theorem aXR (l:cB) (h:dP l) (hb:l.xC≤134217728):(bA T).pc aJE [l.row]=some (aWT l):=by
 rw[aTf];unfold aNw aWT
 refine jF.eq (.lA (aVK l h) ?_)
 have e0:(at_ (aA [[C.int (eV l)]] 0) 0).vA=eV l:=rfl
 rw[e0]
 by_cases h0:eV l=0
 ·rw[if_neg (show ¬eV l≠0 by simp[h0])]
  refine .as (if_neg (by simp[h0])) ?_
  have ha:=aZJ l h h0
  have hl:=ha.len h
  refine .bind (aQg l h ha [] .fA rfl (by show 0+pO (lw l)≤68719476736;omega)) ?_
  rintro r ⟨o,rfl,ho⟩
  have e1:o.rows.length=(gD [] (lw l)).length:=by rw[ho,List.length_map]
  have e2:(gC 0 [PV.r [o]])=o:=rfl
  rw[e2,e1]
  by_cases h4:4000<(gD [] (lw l)).length
  ·rw[if_pos h4]
   exact .as (if_pos (decide_eq_true (show ((gD [] (lw l)).length:Int)>4000 by omega))) (.some rfl)
  ·rw[if_neg h4]
   refine .as (if_neg (by simp;omega)) (.some ?_)
   rw[ho,aEA]
 ·rw[if_pos (show eV l≠0 from h0)]
  exact .as (if_pos (by simpa using h0)) (.some rfl)
theorem aZO (ws:List Bytes) {c:C} (hc:c.rows=ws.map iB):aFY c=ws:=by
 unfold aFY
 rw[hc,List.map_map]
 conv=>rhs;rw[←List.map_id ws]
 exact List.map_congr_left fun a _=>rfl
theorem aVL (l:cB) (h:dP l) (hb:l.xC≤134217728):(bA T).pc aDV [l.row]=some (aWT l):=by
 rw[aNM];unfold aGG aWT
 refine jF.eq (.lA (aUt l h) ?_)
 have e0:(at_ (aA [[C.int (eV l)]] 0) 0).vA=eV l:=rfl
 rw[e0]
 by_cases h0:eV l=0
 ·rw[if_neg (show ¬eV l≠0 by simp[h0])]
  refine .as (if_neg (by simp[h0])) ?_
  have ha:=aZJ l h h0
  have hl:=ha.len h
  have hc:=aQc (lw l)
  refine .bind (aUs l h ha (by omega)) ?_
  rintro r ⟨c,rfl,hc⟩
  have hlen:=aCN (lw l) []
  have hj:Lib.join (lw l) [32]=gD [] (lw l):=by
   rw[lw_eq]
   exact aVI _ _ (a1S _ (by have:=ha.self.h0;have:=ha.self.h1;omega)).1
  have e2:at_ (aA [[c]] 0) 0=c:=rfl
  have hs:=aZO _ hc
  have a7w:(bA T).pc aE9 [[c],[.str [32]]]=some [[.str (gD [] (lw l))]]:=by
   refine (aJ7 T (rfl:T aE9= .given _ _ aR4) _).trans ?_
   refine (if_pos ⟨by rw[hc,List.length_map];omega,by rw[hs,hj];simp only[List.length_nil]at hlen;omega⟩).trans ?_
   rw[hs,hj]
  rw[e2]
  refine .lA a7w ?_
  have e1:(at_ (aA [[C.str (gD [] (lw l))]] 0) 0).mD=gD [] (lw l):=rfl
  rw[e1]
  by_cases h4:4000<(gD [] (lw l)).length
  ·rw[if_pos h4]
   exact .as (if_pos (decide_eq_true (show ((gD [] (lw l)).length:Int)>4000 by omega))) (.some rfl)
  ·rw[if_neg h4]
   exact .as (if_neg (by simp;omega)) (.some rfl)
 ·rw[if_pos (show eV l≠0 from h0)]
  exact .as (if_pos (by simpa using h0)) (.some rfl)
theorem law (l:cB) (hw:l.wf) (hb:l.xC≤134217728):(bA T).pc 3 [l.row]=some [[.bool true]]:=by
 have h:dP l:=⟨hw,by unfold big;omega⟩
 refine (aI4 l.row).trans ?_
 unfold aAr
 refine jF.eq (.lA aUu ?_)
 refine .as (if_neg (by decide)) (.lA (aXR l h hb) (.lA (aVL l h hb) ?_))
 refine .as (if_pos (by simp)) ?_
 refine .some ?_
 show[[C.bool (_==_)]]=_
 rw[beq_self_eq_true]
end Go.Ev.oO
