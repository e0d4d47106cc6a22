/-
  claplaw3.TypingHas returns true for all schemas, types and values, where what is read is of bulk at most 1048576: typing.Has reports what types.Has does, for valid values.
-/
import Derived.Test.YtgiibefjiloafaaGreatDoorCards
import Derived.Test.YtgiibefjiloafaaGreatDoorTie
import Derived.WalkKit
import Derived.ProofKit
import Derived.OpenShut
import Derived.Deep.DeepHandedRow
import Derived.Deep.DeepWitnessRowRef
import Derived.Deep.DeepLaidRun
import Derived.Lib.LaidTab
import Derived.Test.YtgiibefjiloafaaGreatDoorZTc
set_option linter.all false
namespace Go.Proofs.YtgiibefjiloafaaGreatDoor.typingHas
open Go.ChangeShapes Go.WideShapes Go.ChangeAt Go.RowKit Go.Ev
theorem own:ownKnob Tryz.prog.godebug=none:=by kernel_rfl
theorem mixed:Tryz.prog.follows .mixedOrders=true:=by kernel_rfl
theorem kids:Kids Tryz.prog (·<Tryz.prog.types.size):=kids_rows (by kernel_rfl) (by kernel_rfl)
theorem full:∀t e,t<Tryz.prog.types.size→Tryz.prog.underlying t=some (.slice e)→0<Tryz.prog.cellsOf e:=slices_full_of Tryz.prog (by kernel_rfl)
theorem apiT:ApiT Tryz.prog 3 5 9 29 27 59:=⟨by kernel_rfl,by kernel_rfl,by kernel_rfl,by kernel_rfl,by kernel_rfl,by kernel_rfl⟩
theorem typT:TypeT Tryz.prog 3 9 26 24 55:=⟨by kernel_rfl,by kernel_rfl,by kernel_rfl,by kernel_rfl,by kernel_rfl⟩
theorem scT:Tryz.prog.underlying 23=some (.slice 64):=by kernel_rfl
theorem defT:isStruct Tryz.prog 64 [9,26]=true:=by kernel_rfl
theorem plainTs:plainT Tryz.prog [23,64,26,24,55,29,27,59,3,5,9,185,135,234,235]=true:=by kernel_rfl
theorem lays:laysOf Tryz.prog Tryz.f3.params.toList=some [.one (.sl 64), .agg [.int .i64, .str, .int .i64, .int .i64, .str, .sl 55], .agg [.int .i64, .int .i64, .str, .sl 59]]:=by kernel_rfl
theorem nT3:Tryz.prog.globalNamed "internal/strconv.uint64pow10" =some 0:=by kernel_rfl
theorem nT4:Tryz.prog.globalNamed "math/bits.deBruijn32tab" =some 1:=by kernel_rfl
theorem nT5:Tryz.prog.globalNamed "math/bits.deBruijn64tab" =some 2:=by kernel_rfl
theorem T_gl (g:Nat):Zzt.T (gbase+g)=Zzt.gl.getD g .none:=by
 unfold Zzt.T tabG
 have:Nat.blt (gbase+g) gbase=false:=by
  cases h:Nat.blt (gbase+g) gbase
  ·rfl
  ·have:=Nat.le_of_ble_eq_true h;omega
 rw[this,Nat.add_sub_cancel_left]
 rfl
set_option maxRecDepth 100000 in
theorem globs {w:World} (hL:laidMet Tryz.prog Rows.typingHasUptoRow.laid w):GlobOk Tryz.prog Zzt.T (Stab.full w)∧GlobSz Zzt.T w:=by
 have key:∀g t l row,Zzt.T (gbase+g)= .glob t l row→Rep Tryz.prog Zzt.T (Stab.full w) (.ref t) (.pointer (some ⟨g,0,none⟩)) (.dp row)∧∃cs e z,w.heap[g]? =some (.cells cs e z)∧cs.size=l.n:=by
  intro g t l row h
  rw[T_gl]at h
  match g,h with
  |0,h=>
   obtain ⟨h1,h2,h3⟩:=AFn.glob.inj (show AFn.glob 185 (.agg (List.replicate 20 (.int .u64))) g_internal_strconv_uint64pow10= .glob t l row from h)
   subst h1 h2 h3
   have hm:("internal/strconv.uint64pow10",Rows.laid_internal_strconv_uint64pow10)∈Rows.typingHasUptoRow.laid:= .tail _ (.tail _ (.head _))
   exact ⟨glob_rep (t:=185) (l:=(.agg (List.replicate 20 (.int .u64)))) kids plainTs hL hm nT3 (by kernel_rfl) (by decide) (layB_sound (by kernel_rfl)),glob_sz (t:=185) (l:=(.agg (List.replicate 20 (.int .u64)))) Zzt.T kids plainTs hL hm nT3 (by kernel_rfl) (by decide) (layB_sound (by kernel_rfl))⟩
  |1,h=>
   obtain ⟨h1,h2,h3⟩:=AFn.glob.inj (show AFn.glob 234 (.agg (List.replicate 32 (.int .u8))) g_math_bits_deBruijn32tab= .glob t l row from h)
   subst h1 h2 h3
   have hm:("math/bits.deBruijn32tab",Rows.laid_math_bits_deBruijn32tab)∈Rows.typingHasUptoRow.laid:= .head _
   exact ⟨glob_rep (t:=234) (l:=(.agg (List.replicate 32 (.int .u8)))) kids plainTs hL hm nT4 (by kernel_rfl) (by decide) (layB_sound (by kernel_rfl)),glob_sz (t:=234) (l:=(.agg (List.replicate 32 (.int .u8)))) Zzt.T kids plainTs hL hm nT4 (by kernel_rfl) (by decide) (layB_sound (by kernel_rfl))⟩
  |2,h=>
   obtain ⟨h1,h2,h3⟩:=AFn.glob.inj (show AFn.glob 235 (.agg (List.replicate 64 (.int .u8))) g_math_bits_deBruijn64tab= .glob t l row from h)
   subst h1 h2 h3
   have hm:("math/bits.deBruijn64tab",Rows.laid_math_bits_deBruijn64tab)∈Rows.typingHasUptoRow.laid:= .tail _ (.head _)
   exact ⟨glob_rep (t:=235) (l:=(.agg (List.replicate 64 (.int .u8)))) kids plainTs hL hm nT5 (by kernel_rfl) (by decide) (layB_sound (by kernel_rfl)),glob_sz (t:=235) (l:=(.agg (List.replicate 64 (.int .u8)))) Zzt.T kids plainTs hL hm nT5 (by kernel_rfl) (by decide) (layB_sound (by kernel_rfl))⟩
  |g+3,h=>cases h
 exact ⟨fun g t l row h=>(key g t l row h).1,fun g t l row h=>(key g t l row h).2⟩
mutual
theorem bulk_le {H:Type}:∀(d:DataW H),bulkD d≤Rows.uptoBulk d
 | .lit (.string _)=>by simp only[bulkD,Rows.uptoBulk];omega
 | .lit (.bool _)=>by simp only[bulkD,Rows.uptoBulk];omega
 | .lit (.int _ _)=>by simp only[bulkD,Rows.uptoBulk];omega
 | .lit (.float _ _)=>by simp only[bulkD,Rows.uptoBulk];omega
 | .lit .nil=>by simp only[bulkD,Rows.uptoBulk];omega
 | .nil=>by simp only[bulkD,Rows.uptoBulk];omega
 | .ptr d=>by simp only[bulkD,Rows.uptoBulk];omega
 | .slice es sp=>by have:=bulks_le es;simp only[bulkD,Rows.uptoBulk];omega
 | .agg ps=>by have:=bulks_le ps;simp only[bulkD,Rows.uptoBulk];omega
 | .iface _ d=>by simp only[bulkD,Rows.uptoBulk];omega
 | .map _=>by simp only[bulkD,Rows.uptoBulk];omega
 | .held _=>by simp only[bulkD,Rows.uptoBulk];omega
theorem bulks_le {H:Type}:∀(l:List (DataW H)),bulksD l≤Rows.uptoBulkAll l
 |[]=>by simp only[bulksD,Rows.uptoBulkAll];omega
 |d::r=>by have:=bulk_le d;have:=bulks_le r;simp only[bulksD,Rows.uptoBulkAll];omega
end
set_option maxRecDepth 100000 in
theorem contract (H:Type) (enc:TypeId×Value→H) (W:World) (base:Nat) (args:Array Value) (ds gs:List (DataW H)) (before:List MemPlace)
 (hval:∀(j:Nat) t v,Tryz.f3.params[j]? =some t→args[j]? =some v→Value.okWide Tryz.prog W .any base t v)
 (hW:DataW.Whole enc Tryz.prog Tryz.f3.params.toList Rows.typingHasSpec.vars false W args.toList ds gs before) (hk:Rows.uptoSmall H (ds++gs)=true) (hL:laidMet Tryz.prog Rows.typingHasUptoRow.laid W):
 Calls Tryz.prog 3 args W fun e W'=>∃v,e= .returned v∧Rows.typingHasSpec.post enc Tryz.prog Tryz.f3 false true false false W args v W':=by
 have hin:∀t∈Tryz.f3.params.toList,t∈[23,64,26,24,55,29,27,59,3,5,9,185,135,234,235]:=of_decide_eq_true (by kernel_rfl)
 have hfit:=trodAll_fit plainTs hin hW.choose_spec.choose_spec.1
 have hgs:gs=[]:=(trodVars_none hW.choose_spec.choose_spec.2.1).1
 subst hgs
 obtain ⟨hl,hf⟩:=hfit
 have hp:Tryz.f3.params.toList=[23,26,29]:=by kernel_rfl
 rw[hp]at hl hf
 obtain ⟨d0,d1,d2,rfl⟩:∃a b c,ds=[a,b,c]:=by
  match ds,hl with
  |[a,b,c],_=>exact ⟨a,b,c,rfl⟩
 obtain ⟨n0,h0⟩:=hf 0 _ _ rfl rfl
 obtain ⟨n1,h1⟩:=hf 1 _ _ rfl rfl
 obtain ⟨n2,h2⟩:=hf 2 _ _ rfl rfl
 obtain ⟨b,l,ra,ba⟩:=fit_schema typT scT defT h0
 obtain ⟨t,rt,bt⟩:=fit_typ typT n1 d1 h1
 obtain ⟨v,rv,wv,bv⟩:=fit_val apiT n2 d2 h2
 have hbulk:=of_decide_eq_true hk
 simp only[List.append_nil,Rows.uptoBulkAll]at hbulk
 have hb0:=bulk_le d0
 have hb1:=bulk_le d1
 have hb2:=bulk_le d2
 have hS:Zzt.ScOk (slC b (l.map prtRow)) l:=⟨slC_rows b _,by have:=Typ.bulks_len l;unfold Zzt.big;omega,fun d hd=>by have:=Typ.bulks_mem hd;unfold Zzt.big;omega⟩
 obtain ⟨g1,g2⟩:=globs hL
 refine contract_ofG (T:=Zzt.T) mixed Zzt.tabOk kids full plainTs hin lays (by kernel_rfl) (by kernel_rfl) (by kernel_rfl:Tryz.prog.underlying 4=some .bool) rfl g1 g2 hval hW (fun _=>rfl) ?_
 simp only[List.map_cons,List.map_nil,ra,rt,rv]
 exact Zzt.law _ l hS t (by unfold Zzt.big;omega) v (by unfold Zzt.big;omega)
def setC (cs:Array Value):Obj→Obj
 | .cells _ t frozen=> .cells cs t frozen
 |o=>o
def tab10:Array Value:=#[.int .u64 1, .int .u64 10, .int .u64 100, .int .u64 1000, .int .u64 10000, .int .u64 100000, .int .u64 1000000, .int .u64 10000000, .int .u64 100000000, .int .u64 1000000000, .int .u64 10000000000, .int .u64 100000000000, .int .u64 1000000000000, .int .u64 10000000000000, .int .u64 100000000000000, .int .u64 1000000000000000, .int .u64 10000000000000000, .int .u64 100000000000000000, .int .u64 1000000000000000000, .int .u64 10000000000000000000]
def tab32:Array Value:=#[.int .u8 0, .int .u8 1, .int .u8 28, .int .u8 2, .int .u8 29, .int .u8 14, .int .u8 24, .int .u8 3, .int .u8 30, .int .u8 22, .int .u8 20, .int .u8 15, .int .u8 25, .int .u8 17, .int .u8 4, .int .u8 8, .int .u8 31, .int .u8 27, .int .u8 13, .int .u8 23, .int .u8 21, .int .u8 19, .int .u8 16, .int .u8 7, .int .u8 26, .int .u8 12, .int .u8 18, .int .u8 6, .int .u8 11, .int .u8 5, .int .u8 10, .int .u8 9]
def tab64:Array Value:=#[.int .u8 0, .int .u8 1, .int .u8 56, .int .u8 2, .int .u8 57, .int .u8 49, .int .u8 28, .int .u8 3, .int .u8 61, .int .u8 58, .int .u8 42, .int .u8 50, .int .u8 38, .int .u8 29, .int .u8 17, .int .u8 4, .int .u8 62, .int .u8 47, .int .u8 59, .int .u8 36, .int .u8 45, .int .u8 43, .int .u8 51, .int .u8 22, .int .u8 53, .int .u8 39, .int .u8 33, .int .u8 30, .int .u8 24, .int .u8 18, .int .u8 12, .int .u8 5, .int .u8 63, .int .u8 55, .int .u8 48, .int .u8 27, .int .u8 60, .int .u8 41, .int .u8 37, .int .u8 16, .int .u8 46, .int .u8 35, .int .u8 44, .int .u8 21, .int .u8 52, .int .u8 32, .int .u8 23, .int .u8 11, .int .u8 54, .int .u8 26, .int .u8 40, .int .u8 15, .int .u8 34, .int .u8 20, .int .u8 31, .int .u8 10, .int .u8 25, .int .u8 14, .int .u8 19, .int .u8 9, .int .u8 13, .int .u8 8, .int .u8 7, .int .u8 6]
noncomputable def laidWorld (os:Os):World:=
 let w:=World.holding Tryz.prog os ⟨#[],#[],[]⟩
 {w with heap:=((w.heap.modify 0 (setC tab10)).modify 1 (setC tab32)).modify 2 (setC tab64)}
def zeroW:Value:= .agg #[.int .i64 0, .int .i64 0, .string "".toUTF8, .slice none 0 0]
def zeroWD {H:Type}:DataW H:= .agg [.lit (.int .i64 0), .lit (.int .i64 0), .lit (.string []), .nil]
def zeroT:Value:= .agg #[.int .i64 0, .string "".toUTF8, .int .i64 0, .int .i64 0, .string "".toUTF8, .slice none 0 0]
def zeroTD {H:Type}:DataW H:= .agg [.lit (.int .i64 0), .lit (.string []), .lit (.int .i64 0), .lit (.int .i64 0), .lit (.string []), .nil]
def wargs:Array Value:=#[.slice none 0 0,zeroT,zeroW]
theorem laid_met (os:Os):laidMet Tryz.prog Rows.typingHasUptoRow.laid ((laidWorld os).forCall (fun _ _=>0) ⟨#[],wargs,[]⟩).memory:=
 laidMet_of_run3 10 (by kernel_rfl) (by kernel_rfl) (by kernel_rfl)
theorem reads (os:Os) {H:Type} (enc:TypeId×Value→H):∃places,DataW.whole enc Tryz.prog ((laidWorld os).forCall (fun _ _=>0) ⟨#[],wargs,[]⟩).memory Tryz.f3.params.toList Rows.typingHasSpec.vars false wargs.toList 8=some ([.nil,zeroTD,zeroWD],[],places):=
 ⟨[],by kernel_rfl⟩
set_option maxRecDepth 100000 in
theorem liftedUpto (os:Os) (started:os.Started) (H:Type) (enc:TypeId×Value→H) (F:Stop.Interp):
 ReturnsInHanded {} Tryz.checked os 3 .any ((Rows.OpenSpec.upto Rows.typingHasSpec).preRow enc Tryz.prog Tryz.f3 Rows.typingHasUptoRow.domain false Rows.typingHasUptoRow.laid) (((Rows.OpenSpec.upto Rows.typingHasSpec).at F).post enc Tryz.prog Tryz.f3 false true false false):=by
 obtain ⟨places,hx⟩:=reads os enc
 refine returnsInHanded_of_row (C:=Tryz.checked) (s:=Rows.OpenSpec.upto Rows.typingHasSpec) own started (by kernel_rfl) Tryz.func3
  (witness_row_atRef (enc:=enc) (C:=Tryz.checked) false (laidWorld os) wargs rfl (by kernel_rfl) (by kernel_rfl) (by kernel_rfl)
    (OpenSpec.preRow_of_cond 8 hx (by kernel_rfl) (fun k hk=>by cases hk;kernel_rfl) (by kernel_rfl) (laid_met os))) ?_
 intro W base args ds gs before hval hW _ hcond _ hL _ _
 exact contract H enc W base args ds gs before hval hW (hcond _ rfl) hL
theorem saidUpto:Rows.TypingHasUptoSaid:=
 OpenClaim.holds_of_cond 3 Tryz.f3 rfl rfl rfl rfl rfl rfl rfl ⟨rfl,rfl,rfl,rfl,rfl⟩ rfl rfl rfl rfl rfl (by kernel_rfl) Tryz.func3 (by kernel_rfl)
  (of_decide_eq_true (by kernel_rfl)) (by unfold Func.isWrapper;first |(rw[if_pos (by decide+kernel)];kernel_rfl)|(rw[if_neg (by decide+kernel)];exact ⟨rfl,rfl⟩))
  (fun os started H enc _ F=>by rw[OpenClaim.pre_eq_preRow];exact liftedUpto os started H enc F)
theorem plain (f:FuncId) (fn:Func) (hf:Tryz.pinned.checked.prog.funcNamed "clapperbridge/claplaw3.TypingHas" =some f) (hfn:Tryz.pinned.checked.prog.funcs[f]? =some fn):
 false=Tryz.pinned.checked.prog.looks []∧∀(j:Nat) t,fn.params[j]? =some t→Tryz.pinned.checked.prog.wantsStandIn t=false:=by
 obtain rfl:f=3:=Option.some.inj ((show Tryz.prog.funcNamed "clapperbridge/claplaw3.TypingHas" =some 3 by kernel_rfl).symm.trans hf)|>.symm
 obtain rfl:fn=Tryz.f3:=(Option.some.inj (Tryz.func3.symm.trans hfn)).symm
 refine ⟨by kernel_rfl,fun j t ht=> ?_⟩
 have h:=Array.mem_of_getElem? ht
 have hall:∀t∈Tryz.f3.params.toList,Tryz.prog.wantsStandIn t=false:=of_decide_eq_true (by kernel_rfl)
 exact hall t (by simpa using h)
theorem cardUpto:Rows.TypingHasUptoCardSaid:=
 Claim7.holds_tied_plain_at .later [] _ _ _ _ saidUpto (fun _ h=>by cases h) (by kernel_rfl) (fun _ h=>by cases h) typingHasUpto_row_tie rfl ⟨rfl,rfl⟩ (by kernel_rfl) rfl plain (by kernel_rfl)
end Go.Proofs.YtgiibefjiloafaaGreatDoor.typingHas
