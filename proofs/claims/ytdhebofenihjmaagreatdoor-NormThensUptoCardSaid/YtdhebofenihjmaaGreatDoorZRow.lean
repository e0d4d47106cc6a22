/-
  claplaw3.NormThens returns true for all lenses a, b, where what is read is of bulk at most 1048576: norm.Then answers as clapref3.Then does: the same error, an equal lens.
-/
import Derived.Test.YtdhebofenihjmaaGreatDoorCards
import Derived.Test.YtdhebofenihjmaaGreatDoorTie
import Derived.WalkKit
import Derived.ProofKit
import Derived.OpenShut
import Derived.Deep.DeepHandedRow
import Derived.Deep.DeepWitnessRowRef
import Derived.Deep.DeepLaidRun
import Derived.Lib.LaidTab
import Derived.Test.YtdhebofenihjmaaGreatDoorZP
set_option linter.all false
namespace Go.Proofs.YtdhebofenihjmaaGreatDoor.a5B
open Go.ChangeShapes Go.WideShapes Go.ChangeAt Go.RowKit Go.Ev
theorem own:ownKnob Tryz.prog.godebug=none:=by kernel_rfl
theorem mixed:Tryz.prog.follows .mixedOrders=true:=by kernel_rfl
theorem kids:Kids Tryz.prog (·<Tryz.prog.types.size):=kids_rows (by kernel_rfl) (by kernel_rfl)
theorem full:∀t e,t<Tryz.prog.types.size→Tryz.prog.underlying t=some (.slice e)→0<Tryz.prog.cellsOf e:=slices_full_of Tryz.prog (by kernel_rfl)
theorem bHd:bDq Tryz.prog 3 5 9 25 23 75:=⟨by kernel_rfl,by kernel_rfl,by kernel_rfl,by kernel_rfl,by kernel_rfl,by kernel_rfl⟩
theorem bCt:bAP Tryz.prog 3 5 9 25 29 22 49 26 27:=⟨by kernel_rfl,by kernel_rfl,by kernel_rfl,by kernel_rfl,by kernel_rfl⟩
theorem aEL:aK3 Tryz.prog [29,3,9,22,5,25,23,75,26,49,27,117,209,146,214,215]=true:=by kernel_rfl
theorem bJQ:aDq Tryz.prog Tryz.f3.params.toList=some [.agg [.int .i64,.str,.str,.sl 9,.int .i64,.int .i64,.int .i64,.int .u8,.int .i64,.int .i64,.str,.sl 75,.sl 49,.sl 29],.agg [.int .i64,.str,.str,.sl 9,.int .i64,.int .i64,.int .i64,.int .u8,.int .i64,.int .i64,.str,.sl 75,.sl 49,.sl 29]]:=by kernel_rfl
theorem nT0:Tryz.prog.globalNamed "strings.asciiSpace" =some 0:=by kernel_rfl
theorem nT3:Tryz.prog.globalNamed "internal/strconv.uint64pow10" =some 3:=by kernel_rfl
theorem nT4:Tryz.prog.globalNamed "math/bits.deBruijn32tab" =some 4:=by kernel_rfl
theorem nT5:Tryz.prog.globalNamed "math/bits.deBruijn64tab" =some 5:=by kernel_rfl
theorem bJR (g:Nat):dJ.T2 (oZ+g)=dJ.gl.getD g .none:=by
 unfold dJ.T2 dJ.TW aTv
 have:Nat.blt (oZ+g) oZ=false:=by
  cases h:Nat.blt (oZ+g) oZ
  ·rfl
  ·have:=Nat.le_of_ble_eq_true h;omega
 rw[this,Nat.add_sub_cancel_left]
 rfl
set_option maxRecDepth 100000 in
theorem bHe {w:World} (hL:laidMet Tryz.prog Rows.normThensUptoRow.laid w):hO Tryz.prog dJ.T2 (yA.full w)∧xM dJ.T2 w:=by
 have key:∀g t l row,dJ.T2 (oZ+g)= .fR t l row→gO Tryz.prog dJ.T2 (yA.full w) (.ref t) (.pointer (some ⟨g,0,none⟩)) (.dp row)∧∃cs e z,w.heap[g]? =some (.cells cs e z)∧cs.size=l.n:=by
  intro g t l row h
  rw[bJR]at h
  match g,h with
  |0,h=>
   obtain ⟨h1,h2,h3⟩:=yF.fR.inj (show yF.fR 117 (.agg (List.replicate 256 (.int .u8))) mX= .fR t l row from h)
   subst h1 h2 h3
   have hm:("strings.asciiSpace",Rows.laid_strings_asciiSpace)∈Rows.normThensUptoRow.laid:= .tail _ (.tail _ (.tail _ (.tail _ (.head _))))
   exact ⟨aQy (t:=117) (l:=(.agg (List.replicate 256 (.int .u8)))) kids aEL hL hm nT0 (by kernel_rfl) (by decide) (aC (by kernel_rfl)),aUi (t:=117) (l:=(.agg (List.replicate 256 (.int .u8)))) dJ.T2 kids aEL hL hm nT0 (by kernel_rfl) (by decide) (aC (by kernel_rfl))⟩
  |1,h=>cases h
  |2,h=>cases h
  |3,h=>
   obtain ⟨h1,h2,h3⟩:=yF.fR.inj (show yF.fR 209 (.agg (List.replicate 20 (.int .u64))) lF= .fR t l row from h)
   subst h1 h2 h3
   have hm:("internal/strconv.uint64pow10",Rows.laid_internal_strconv_uint64pow10)∈Rows.normThensUptoRow.laid:= .tail _ (.tail _ (.head _))
   exact ⟨aQy (t:=209) (l:=(.agg (List.replicate 20 (.int .u64)))) kids aEL hL hm nT3 (by kernel_rfl) (by decide) (aC (by kernel_rfl)),aUi (t:=209) (l:=(.agg (List.replicate 20 (.int .u64)))) dJ.T2 kids aEL hL hm nT3 (by kernel_rfl) (by decide) (aC (by kernel_rfl))⟩
  |4,h=>
   obtain ⟨h1,h2,h3⟩:=yF.fR.inj (show yF.fR 214 (.agg (List.replicate 32 (.int .u8))) u5= .fR t l row from h)
   subst h1 h2 h3
   have hm:("math/bits.deBruijn32tab",Rows.laid_math_bits_deBruijn32tab)∈Rows.normThensUptoRow.laid:= .head _
   exact ⟨aQy (t:=214) (l:=(.agg (List.replicate 32 (.int .u8)))) kids aEL hL hm nT4 (by kernel_rfl) (by decide) (aC (by kernel_rfl)),aUi (t:=214) (l:=(.agg (List.replicate 32 (.int .u8)))) dJ.T2 kids aEL hL hm nT4 (by kernel_rfl) (by decide) (aC (by kernel_rfl))⟩
  |5,h=>
   obtain ⟨h1,h2,h3⟩:=yF.fR.inj (show yF.fR 215 (.agg (List.replicate 64 (.int .u8))) j6= .fR t l row from h)
   subst h1 h2 h3
   have hm:("math/bits.deBruijn64tab",Rows.laid_math_bits_deBruijn64tab)∈Rows.normThensUptoRow.laid:= .tail _ (.head _)
   exact ⟨aQy (t:=215) (l:=(.agg (List.replicate 64 (.int .u8)))) kids aEL hL hm nT5 (by kernel_rfl) (by decide) (aC (by kernel_rfl)),aUi (t:=215) (l:=(.agg (List.replicate 64 (.int .u8)))) dJ.T2 kids aEL hL hm nT5 (by kernel_rfl) (by decide) (aC (by kernel_rfl))⟩
  |g+6,h=>cases h
 exact ⟨fun g t l row h=>(key g t l row h).1,fun g t l row h=>(key g t l row h).2⟩
mutual
theorem aZD {H:Type}:∀(d:DataW H),iR d≤Rows.uptoBulk d
 | .lit (.string _)=>by simp only[iR,Rows.uptoBulk];omega
 | .lit (.bool _)=>by simp only[iR,Rows.uptoBulk];omega
 | .lit (.int _ _)=>by simp only[iR,Rows.uptoBulk];omega
 | .lit (.float _ _)=>by simp only[iR,Rows.uptoBulk];omega
 | .lit .nil=>by simp only[iR,Rows.uptoBulk];omega
 | .nil=>by simp only[iR,Rows.uptoBulk];omega
 | .ptr d=>by simp only[iR,Rows.uptoBulk];omega
 | .slice es sp=>by have:=aVI es;simp only[iR,Rows.uptoBulk];omega
 | .agg ps=>by have:=aVI ps;simp only[iR,Rows.uptoBulk];omega
 | .iface _ d=>by simp only[iR,Rows.uptoBulk];omega
 | .map _=>by simp only[iR,Rows.uptoBulk];omega
 | .held _=>by simp only[iR,Rows.uptoBulk];omega
theorem aVI {H:Type}:∀(l:List (DataW H)),aB3 l≤Rows.uptoBulkAll l
 |[]=>by simp only[aB3,Rows.uptoBulkAll];omega
 |d::r=>by have:=aZD d;have:=aVI r;simp only[aB3,Rows.uptoBulkAll];omega
end
set_option maxRecDepth 100000 in
theorem contract (H:Type) (enc:TypeId×Value→H) (W:World) (base:Nat) (args:Array Value) (ds gs:List (DataW H)) (before:List MemPlace)
 (hval:∀(j:Nat) t v,Tryz.f3.params[j]? =some t→args[j]? =some v→Value.okWide Tryz.prog W .any base t v)
 (hW:DataW.Whole enc Tryz.prog Tryz.f3.params.toList Rows.normThensSpec.vars false W args.toList ds gs before) (hk:Rows.uptoSmall H (ds++gs)=true) (hL:laidMet Tryz.prog Rows.normThensUptoRow.laid W):
 Calls Tryz.prog 3 args W fun e W'=>∃v,e= .returned v∧Rows.normThensSpec.post enc Tryz.prog Tryz.f3 false true false false W args v W':=by
 have hin:∀t∈Tryz.f3.params.toList,t∈[29,3,9,22,5,25,23,75,26,49,27,117,209,146,214,215]:=of_decide_eq_true (by kernel_rfl)
 have hfit:=aSF aEL hin hW.choose_spec.choose_spec.1
 have hgs:gs=[]:=(trodVars_none hW.choose_spec.choose_spec.2.1).1
 subst hgs
 obtain ⟨hl,hf⟩:=hfit
 have hp:Tryz.f3.params.toList=[29,29]:=by kernel_rfl
 rw[hp]at hl hf
 obtain ⟨d0,d1,rfl⟩:∃a b,ds=[a,b]:=by
  match ds,hl with
  |[a,b],_=>exact ⟨a,b,rfl⟩
 obtain ⟨n0,h0⟩:=hf 0 _ _ rfl rfl
 obtain ⟨n1,h1⟩:=hf 1 _ _ rfl rfl
 obtain ⟨a,ra,wa,ba⟩:=aZY bHd bCt n0 d0 h0
 obtain ⟨b,rb,wb,bb⟩:=aZY bHd bCt n1 d1 h1
 have a3t:=of_decide_eq_true hk
 simp only[List.append_nil,Rows.uptoBulkAll]at a3t
 have hb0:=aZD d0
 have hb1:=aZD d1
 obtain ⟨g1,g2⟩:=bHe hL
 refine aY0 (T:=dJ.T2) mixed dJ.bEj kids full aEL hin bJQ (by kernel_rfl) (by kernel_rfl) (by kernel_rfl:Tryz.prog.underlying 4=some .bool) rfl g1 g2 hval hW (fun _=>rfl) ?_
 simp only[List.map_cons,List.map_nil,ra,rb]
 exact dJ.law a b wa wb (by unfold dJ.big;omega)
def a8v (cs:Array Value):Obj→Obj
 | .cells _ t frozen=> .cells cs t frozen
 |o=>o
def bHf:Array Value:=#[.int .u64 1,.int .u64 10,.int .u64 100,.int .u64 1000,.int .u64 10000,.int .u64 100000,.int .u64 1000000,.int .u64 10000000,.int .u64 100000000,.int .u64 1000000000,.int .u64 10000000000,.int .u64 100000000000,.int .u64 1000000000000,.int .u64 10000000000000,.int .u64 100000000000000,.int .u64 1000000000000000,.int .u64 10000000000000000,.int .u64 100000000000000000,.int .u64 1000000000000000000,.int .u64 10000000000000000000]
def bHg:Array Value:=#[.int .u8 0,.int .u8 1,.int .u8 28,.int .u8 2,.int .u8 29,.int .u8 14,.int .u8 24,.int .u8 3,.int .u8 30,.int .u8 22,.int .u8 20,.int .u8 15,.int .u8 25,.int .u8 17,.int .u8 4,.int .u8 8,.int .u8 31,.int .u8 27,.int .u8 13,.int .u8 23,.int .u8 21,.int .u8 19,.int .u8 16,.int .u8 7,.int .u8 26,.int .u8 12,.int .u8 18,.int .u8 6,.int .u8 11,.int .u8 5,.int .u8 10,.int .u8 9]
def bHh:Array Value:=#[.int .u8 0,.int .u8 1,.int .u8 56,.int .u8 2,.int .u8 57,.int .u8 49,.int .u8 28,.int .u8 3,.int .u8 61,.int .u8 58,.int .u8 42,.int .u8 50,.int .u8 38,.int .u8 29,.int .u8 17,.int .u8 4,.int .u8 62,.int .u8 47,.int .u8 59,.int .u8 36,.int .u8 45,.int .u8 43,.int .u8 51,.int .u8 22,.int .u8 53,.int .u8 39,.int .u8 33,.int .u8 30,.int .u8 24,.int .u8 18,.int .u8 12,.int .u8 5,.int .u8 63,.int .u8 55,.int .u8 48,.int .u8 27,.int .u8 60,.int .u8 41,.int .u8 37,.int .u8 16,.int .u8 46,.int .u8 35,.int .u8 44,.int .u8 21,.int .u8 52,.int .u8 32,.int .u8 23,.int .u8 11,.int .u8 54,.int .u8 26,.int .u8 40,.int .u8 15,.int .u8 34,.int .u8 20,.int .u8 31,.int .u8 10,.int .u8 25,.int .u8 14,.int .u8 19,.int .u8 9,.int .u8 13,.int .u8 8,.int .u8 7,.int .u8 6]
def bHi:Array Value:=((List.replicate 9 (Value.int .u8 0)++List.replicate 5 (Value.int .u8 1))++(List.replicate 18 (Value.int .u8 0)++[Value.int .u8 1])++List.replicate 223 (Value.int .u8 0)).toArray
def bHj:Array Value:=#[.int .u16 9,.int .u16 13,.int .u16 1,.int .u16 32,.int .u16 133,.int .u16 101,.int .u16 160,.int .u16 5760,.int .u16 5600,.int .u16 8192,.int .u16 8202,.int .u16 1,.int .u16 8232,.int .u16 8233,.int .u16 1,.int .u16 8239,.int .u16 8287,.int .u16 48,.int .u16 12288,.int .u16 12288,.int .u16 1]
noncomputable def aSy (os:Os):World:=
 let N:=(World.settled Tryz.prog os).heap.size
 let w:=World.holding Tryz.prog os ⟨#[.cells bHj 178,.cells #[.slice (some ⟨N,0,none⟩) 7 7,.slice none 0 0,.int .i64 2] 175],#[],[]⟩
 {w with heap:=((((w.heap.modify 0 (a8v bHi)).modify 3 (a8v bHf)).modify 4 (a8v bHg)).modify 5 (a8v bHh)).modify 1 (a8v #[.pointer (some ⟨N+1,0,none⟩)])}
def zero:Value:= .agg #[.int .i64 0,.string "".toUTF8,.string "".toUTF8,.slice none 0 0,.int .i64 0,.int .i64 0,.int .i64 0,.int .u8 0,.int .i64 0,.int .i64 0,.string "".toUTF8,.slice none 0 0,.slice none 0 0,.slice none 0 0]
def bCu {H:Type}:DataW H:= .agg [.lit (.int .i64 0),.lit (.string []),.lit (.string []),.nil,.lit (.int .i64 0),.lit (.int .i64 0),.lit (.int .i64 0),.lit (.int .u8 0),.agg [.lit (.int .i64 0),.lit (.int .i64 0),.lit (.string []),.nil],.nil,.nil]
def a4k:Array Value:=#[zero,zero]
theorem a8w (os:Os):laidMet Tryz.prog Rows.normThensUptoRow.laid ((aSy os).forCall (fun _ _=>0) ⟨#[],a4k,[]⟩).memory:=
 laidMet_of_run3 10 (by kernel_rfl) (by kernel_rfl) (by kernel_rfl)
theorem reads (os:Os) {H:Type} (enc:TypeId×Value→H):∃places,DataW.whole enc Tryz.prog ((aSy os).forCall (fun _ _=>0) ⟨#[],a4k,[]⟩).memory Tryz.f3.params.toList Rows.normThensSpec.vars false a4k.toList 8=some ([bCu,bCu],[],places):=
 ⟨[],by kernel_rfl⟩
set_option maxRecDepth 100000 in
theorem a2Y (os:Os) (started:os.Started) (H:Type) (enc:TypeId×Value→H) (F:Stop.Interp):
 ReturnsInHanded {} Tryz.checked os 3 .any ((Rows.OpenSpec.upto Rows.normThensSpec).preRow enc Tryz.prog Tryz.f3 Rows.normThensUptoRow.domain false Rows.normThensUptoRow.laid) (((Rows.OpenSpec.upto Rows.normThensSpec).at F).post enc Tryz.prog Tryz.f3 false true false false):=by
 obtain ⟨places,hx⟩:=reads os enc
 refine returnsInHanded_of_row (C:=Tryz.checked) (s:=Rows.OpenSpec.upto Rows.normThensSpec) own started (by kernel_rfl) Tryz.func3
  (witness_row_atRef (enc:=enc) (C:=Tryz.checked) false (aSy os) a4k rfl (by kernel_rfl) (by kernel_rfl) (by kernel_rfl)
    (OpenSpec.preRow_of_cond 8 hx (by kernel_rfl) (fun k hk=>by cases hk;kernel_rfl) (by kernel_rfl) (a8w os))) ?_
 intro W base args ds gs before hval hW _ aXP _ hL _ _
 exact contract H enc W base args ds gs before hval hW (aXP _ rfl) hL
theorem a8x:Rows.NormThensUptoSaid:=
 OpenClaim.holds_of_cond 3 Tryz.f3 rfl rfl rfl rfl rfl rfl rfl ⟨rfl,rfl,rfl,rfl,rfl⟩ rfl rfl rfl rfl rfl (by kernel_rfl) Tryz.func3 (by kernel_rfl)
  (of_decide_eq_true (by kernel_rfl)) (by unfold Func.isWrapper;first |(rw[if_pos (by decide+kernel)];kernel_rfl)|(rw[if_neg (by decide+kernel)];exact ⟨rfl,rfl⟩))
  (fun os started H enc _ F=>by rw[OpenClaim.pre_eq_preRow];exact a2Y os started H enc F)
theorem plain (f:FuncId) (fn:Func) (hf:Tryz.pinned.checked.prog.funcNamed "clapperbridge/claplaw3.NormThens" =some f) (hfn:Tryz.pinned.checked.prog.funcs[f]? =some fn):
 false=Tryz.pinned.checked.prog.looks []∧∀(j:Nat) t,fn.params[j]? =some t→Tryz.pinned.checked.prog.wantsStandIn t=false:=by
 obtain rfl:f=3:=Option.some.inj ((show Tryz.prog.funcNamed "clapperbridge/claplaw3.NormThens" =some 3 by kernel_rfl).symm.trans hf)|>.symm
 obtain rfl:fn=Tryz.f3:=(Option.some.inj (Tryz.func3.symm.trans hfn)).symm
 refine ⟨by kernel_rfl,fun j t ht=> ?_⟩
 have h:=Array.mem_of_getElem? ht
 have hall:∀t∈Tryz.f3.params.toList,Tryz.prog.wantsStandIn t=false:=of_decide_eq_true (by kernel_rfl)
 exact hall t (by simpa using h)
theorem bHk:Rows.NormThensUptoCardSaid:=
 Claim7.holds_tied_plain_at .later [] _ _ _ _ a8x (fun _ h=>by cases h) (by kernel_rfl) (fun _ h=>by cases h) normThensUpto_row_tie rfl ⟨rfl,rfl⟩ (by kernel_rfl) rfl plain (by kernel_rfl)
end Go.Proofs.YtdhebofenihjmaaGreatDoor.a5B
