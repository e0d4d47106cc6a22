/-
  A part of the proof: what the functions of the program compute.
-/
import Derived.Test.YtgiibefjiloafaaGreatDoorZNum
set_option linter.all false
set_option maxRecDepth 100000
namespace Go.Ev
def pattern_reader_sequence_i2_h0:Shape:={slots:=[(0, .ptr 0 0),(2, .ptr 3 0),(3, .ptr 4 0)],objs:=bS3,m:=3}
def pattern_reader_sequence_i2_o0:List (Exit'×Shape):=[(.exit 0,{slots:=[(2, .ptr 3 0),(3, .ptr 4 0)],objs:=bS3,m:=3})]
def pattern_reader_sequence_i2_c0:ACode:=(.seq (.seq (.join [(.normal,{slots:=[(0, .ptr 0 0),(2, .ptr 3 0),(3, .ptr 4 0),(17, .d lB)],objs:=bS3,m:=3})] (.region [] [oq 6 (.mov (.t 0)),
 oq 7 (.icall 220 182 (pattern_reader_more_i3_en) (pattern_reader_more_i3_ex) [0,1,2] 0 none [(.t 6)]),
 oq 8 (.mov (.t 7)),
 ⟨some 9, .mov (.t 0),some (8,true),[]⟩,
 ⟨some 10, .icall 221 183 (pattern_reader_peek_i4_en) (pattern_reader_peek_i4_ex) [0,1,2] 0 none [(.t 9)],some (8,true),[]⟩,
 ⟨some 11, .icmp .neq (.t 10) (.c lU [.int 124]),some (8,true),[]⟩,
 oq 12 (.pick (.t 8) (.t 11) (.c lB [.bool false])),
 oq 13 (.mov (.t 12)),
 ⟨some 14, .mov (.t 0),some (13,true),[]⟩,
 ⟨some 15, .icall 221 183 (pattern_reader_peek_i4_en) (pattern_reader_peek_i4_ex) [0,1,2] 0 none [(.t 14)],some (13,true),[]⟩,
 ⟨some 16, .icmp .neq (.t 15) (.c lU [.int 41]),some (13,true),[]⟩,
 oq 17 (.pick (.t 13) (.t 16) (.c lB [.bool false]))] false 0))
 (.cond (.t 17) .skip
 (.exit 0)))
 (.block 1 (.seq (.region [] [oq 18 (.mov (.t 0)),
 oq 19 (.icall 222 186 (pattern_reader_item_i5_en) (pattern_reader_item_i5_ex) [0,1,2] 0 none [(.t 18)]),
 oq 4 (.allocO 0 lA4 [.bool false, .int 0, .int 0, .int 0, .int 0, .int 0, .int 0, .int 0, .int 0]),
 ⟨none, .st lA4 (.t 4) (.t 19),none,[]⟩] false 1)
 (.seq (.region [] [oq 20 (.mov (.t 0)),
 oq 21 (.fad 5 4 172 170 (.t 3)),
 oq 22 (.ld lA3 170 (.t 21)),
 oq 23 (.fad 1 4 172 170 (.t 4)),
 oq 24 (.ld lA3 170 (.t 23)),
 oq 25 (.icall 231 187 (pattern_reader_link_i14_en) (pattern_reader_link_i14_ex) [0,1,2] 0 none [(.t 20),(.t 22),(.t 24)])] false 0)
 (.seq (.seq (.region [] [oq 26 (.fad 0 1 172 4 (.t 3)),
 oq 27 (.ld lB 4 (.t 26))] false 0)
 (.join [(.normal,{slots:=[(0, .ptr 0 0),(2, .ptr 3 0),(3, .ptr 4 0),(4, .ptr 5 0)],objs:=bS5,m:=3})] (.cond (.t 27) (.region [] [oq 28 (.fad 1 4 172 170 (.t 3)),
 oq 29 (.fad 1 4 172 170 (.t 4)),
 oq 30 (.ld lA3 170 (.t 29)),
 oq 31 (.icall 233 164 (pattern_set_join_i16_en) (pattern_set_join_i16_ex) [4] 0 none [(.t 28),(.t 30)])] false 0)
 .skip)))
 (.seq (.seq (.region [] [oq 32 (.fad 0 1 172 4 (.t 4)),
 oq 33 (.ld lB 4 (.t 32)),
 oq 34 (.not (.t 33))] false 0)
 (.join [(.normal,{slots:=[(0, .ptr 0 0),(2, .ptr 3 0),(3, .ptr 4 0),(4, .ptr 5 0)],objs:=bS5,m:=3})] (.cond (.t 34) (.region [] [oq 35 (.bld lA3 [.int 0, .int 0, .int 0, .int 0] []),
 oq 36 (.fad 5 4 172 170 (.t 3)),
 ⟨none, .st lA3 (.t 36) (.t 35),none,[]⟩] false 0)
 .skip)))
 (.seq (.region [] [oq 37 (.fad 5 4 172 170 (.t 3)),
 oq 38 (.fad 5 4 172 170 (.t 4)),
 oq 39 (.ld lA3 170 (.t 38)),
 oq 40 (.icall 234 164 (pattern_set_join_i17_en) (pattern_set_join_i17_ex) [4] 0 none [(.t 37),(.t 39)])] false 0)
 (.region [] [oq 41 (.fad 0 1 172 4 (.t 3)),
 oq 42 (.ld lB 4 (.t 41)),
 oq 43 (.mov (.t 42)),
 ⟨some 44, .fad 0 1 172 4 (.t 4),some (43,true),[]⟩,
 ⟨some 45, .ld lB 4 (.t 44),some (43,true),[]⟩,
 oq 46 (.pick (.t 43) (.t 45) (.c lB [.bool false])),
 oq 47 (.fad 0 1 172 4 (.t 3)),
 ⟨none, .st lB (.t 47) (.t 46),none,[]⟩] false 0))))))))
noncomputable def pattern_reader_sequence_i2_l0 (E:Env) (v0:List UInt8) (v1:Int) (v2:Bool) (v3:Int) (v4:Int) (v5:Int) (v6:Int) (v7:Int) (v8:Int) (v9:Int) (v10:Int) (v11:Bool) (v12:C) (v13:C) (v14:Row) (v15:Row):Option (Nat×List PV):=E.fix (stepOf E pattern_reader_sequence_i2_c0 pattern_reader_sequence_i2_h0 pattern_reader_sequence_i2_o0) [.r [.str v0], .r [.int v1], .r [.bool v2], .r [.int v3], .r [.int v4], .r [.int v5], .r [.int v6], .r [.int v7], .r [.int v8], .r [.int v9], .r [.int v10], .r [.bool v11], .r [v12], .r [v13], .r v14, .r v15]
noncomputable def pattern_reader_sequence_i2_b0 (E:Env) (X:List UInt8→Int→Bool→Int→Int→Int→Int→Int→Int→Int→Int→Bool→C→C→Row→Row→Option (Nat×List PV)) (v0:List UInt8) (v1:Int) (v2:Bool) (v3:Int) (v4:Int) (v5:Int) (v6:Int) (v7:Int) (v8:Int) (v9:Int) (v10:Int) (v11:Bool) (v12:C) (v13:C) (v14:Row) (v15:Row):Option (Nat×List PV):=
 ((E.ic pattern_reader_more_i3_n [.r [.str v0], .r [.int v1], .r [.bool v2], .r [.int v3], .r [.int v4], .r [.int v5], .r [.int v6], .r [.int v7], .r [.int v8], .r [.int v9], .r [.int v10], .r [.bool v11], .r [v12], .r [v13]]).bind fun y1=>
 if (gB 0 y1)=true then
 (E.ic pattern_reader_peek_i4_n [.r [.str (gS 1 y1)], .r [.int (gI 2 y1)], .r [.bool (gB 3 y1)], .r [.int (gI 4 y1)], .r [.int (gI 5 y1)], .r [.int (gI 6 y1)], .r [.int (gI 7 y1)], .r [.int (gI 8 y1)], .r [.int (gI 9 y1)], .r [.int (gI 10 y1)], .r [.int (gI 11 y1)], .r [.bool (gB 12 y1)], .r [gC 13 y1], .r [gC 14 y1]]).bind fun y9=>
 if ((gI 0 y9) !=124)=true then
 (E.ic pattern_reader_peek_i4_n [.r [.str (gS 1 y9)], .r [.int (gI 2 y9)], .r [.bool (gB 3 y9)], .r [.int (gI 4 y9)], .r [.int (gI 5 y9)], .r [.int (gI 6 y9)], .r [.int (gI 7 y9)], .r [.int (gI 8 y9)], .r [.int (gI 9 y9)], .r [.int (gI 10 y9)], .r [.int (gI 11 y9)], .r [.bool (gB 12 y9)], .r [gC 13 y9], .r [gC 14 y9]]).bind fun y13=>
 some (0,[.r [.bool ((gI 0 y13) !=41)], .r [.str (gS 1 y13)], .r [.int (gI 2 y13)], .r [.bool (gB 3 y13)], .r [.int (gI 4 y13)], .r [.int (gI 5 y13)], .r [.int (gI 6 y13)], .r [.int (gI 7 y13)], .r [.int (gI 8 y13)], .r [.int (gI 9 y13)], .r [.int (gI 10 y13)], .r [.int (gI 11 y13)], .r [.bool (gB 12 y13)], .r [gC 13 y13], .r [gC 14 y13], .r v14, .r v15])
 else
 some (0,[.r [.bool false], .r [.str (gS 1 y9)], .r [.int (gI 2 y9)], .r [.bool (gB 3 y9)], .r [.int (gI 4 y9)], .r [.int (gI 5 y9)], .r [.int (gI 6 y9)], .r [.int (gI 7 y9)], .r [.int (gI 8 y9)], .r [.int (gI 9 y9)], .r [.int (gI 10 y9)], .r [.int (gI 11 y9)], .r [.bool (gB 12 y9)], .r [gC 13 y9], .r [gC 14 y9], .r v14, .r v15])
 else
 some (0,[.r [.bool false], .r [.str (gS 1 y1)], .r [.int (gI 2 y1)], .r [.bool (gB 3 y1)], .r [.int (gI 4 y1)], .r [.int (gI 5 y1)], .r [.int (gI 6 y1)], .r [.int (gI 7 y1)], .r [.int (gI 8 y1)], .r [.int (gI 9 y1)], .r [.int (gI 10 y1)], .r [.int (gI 11 y1)], .r [.bool (gB 12 y1)], .r [gC 13 y1], .r [gC 14 y1], .r v14, .r v15])).bind fun x14=>
 if (gB 0 x14.2)=true then
 (E.ic pattern_reader_item_i5_n [.r [.str (gS 1 x14.2)], .r [.int (gI 2 x14.2)], .r [.bool (gB 3 x14.2)], .r [.int (gI 4 x14.2)], .r [.int (gI 5 x14.2)], .r [.int (gI 6 x14.2)], .r [.int (gI 7 x14.2)], .r [.int (gI 8 x14.2)], .r [.int (gI 9 x14.2)], .r [.int (gI 10 x14.2)], .r [.int (gI 11 x14.2)], .r [.bool (gB 12 x14.2)], .r [gC 13 x14.2], .r [gC 14 x14.2]]).bind fun y15=>
 (E.ic pattern_reader_link_i14_n [.r [at_ (gR 16 x14.2) 5,at_ (gR 16 x14.2) 6,at_ (gR 16 x14.2) 7,at_ (gR 16 x14.2) 8], .r [at_ (gR 0 y15) 1,at_ (gR 0 y15) 2,at_ (gR 0 y15) 3,at_ (gR 0 y15) 4], .r [.str (gS 1 y15)], .r [.int (gI 2 y15)], .r [.bool (gB 3 y15)], .r [.int (gI 4 y15)], .r [.int (gI 5 y15)], .r [.int (gI 6 y15)], .r [.int (gI 7 y15)], .r [.int (gI 8 y15)], .r [.int (gI 9 y15)], .r [.int (gI 10 y15)], .r [.int (gI 11 y15)], .r [.bool (gB 12 y15)], .r [gC 13 y15], .r [gC 14 y15]]).bind fun y16=>
 (if (gB 16 x14.2)=true then
 (E.ic pattern_set_join_i16_n [.r [at_ (gR 0 y15) 1,at_ (gR 0 y15) 2,at_ (gR 0 y15) 3,at_ (gR 0 y15) 4], .r (gR 16 x14.2)]).bind fun y17=>
 some (0,[.r [.str (gS 0 y16)], .r [.int (gI 1 y16)], .r [.bool (gB 2 y16)], .r [.int (gI 3 y16)], .r [.int (gI 4 y16)], .r [.int (gI 5 y16)], .r [.int (gI 6 y16)], .r [.int (gI 7 y16)], .r [.int (gI 8 y16)], .r [.int (gI 9 y16)], .r [.int (gI 10 y16)], .r [.bool (gB 11 y16)], .r [gC 12 y16], .r [gC 13 y16], .r (gR 15 x14.2), .r (gR 0 y17), .r (gR 0 y15)])
 else
 some (0,[.r [.str (gS 0 y16)], .r [.int (gI 1 y16)], .r [.bool (gB 2 y16)], .r [.int (gI 3 y16)], .r [.int (gI 4 y16)], .r [.int (gI 5 y16)], .r [.int (gI 6 y16)], .r [.int (gI 7 y16)], .r [.int (gI 8 y16)], .r [.int (gI 9 y16)], .r [.int (gI 10 y16)], .r [.bool (gB 11 y16)], .r [gC 12 y16], .r [gC 13 y16], .r (gR 15 x14.2), .r (gR 16 x14.2), .r (gR 0 y15)])).bind fun x18=>
 (if (!(gB 16 x18.2))=true then
 some (0,[.r [.str (gS 0 x18.2)], .r [.int (gI 1 x18.2)], .r [.bool (gB 2 x18.2)], .r [.int (gI 3 x18.2)], .r [.int (gI 4 x18.2)], .r [.int (gI 5 x18.2)], .r [.int (gI 6 x18.2)], .r [.int (gI 7 x18.2)], .r [.int (gI 8 x18.2)], .r [.int (gI 9 x18.2)], .r [.int (gI 10 x18.2)], .r [.bool (gB 11 x18.2)], .r [gC 12 x18.2], .r [gC 13 x18.2], .r (gR 14 x18.2), .r [gC 15 x18.2,at_ (gR 15 x18.2) 1,at_ (gR 15 x18.2) 2,at_ (gR 15 x18.2) 3,at_ (gR 15 x18.2) 4, .int 0, .int 0, .int 0, .int 0], .r (gR 16 x18.2)])
 else
 some (0,[.r [.str (gS 0 x18.2)], .r [.int (gI 1 x18.2)], .r [.bool (gB 2 x18.2)], .r [.int (gI 3 x18.2)], .r [.int (gI 4 x18.2)], .r [.int (gI 5 x18.2)], .r [.int (gI 6 x18.2)], .r [.int (gI 7 x18.2)], .r [.int (gI 8 x18.2)], .r [.int (gI 9 x18.2)], .r [.int (gI 10 x18.2)], .r [.bool (gB 11 x18.2)], .r [gC 12 x18.2], .r [gC 13 x18.2], .r (gR 14 x18.2), .r (gR 15 x18.2), .r (gR 16 x18.2)])).bind fun x19=>
 (E.ic pattern_set_join_i17_n [.r [at_ (gR 16 x19.2) 5,at_ (gR 16 x19.2) 6,at_ (gR 16 x19.2) 7,at_ (gR 16 x19.2) 8], .r (gR 15 x19.2)]).bind fun y20=>
 let K21:Bool→Option (Nat×List PV):=fun q22=>
 X (gS 0 x19.2) (gI 1 x19.2) (gB 2 x19.2) (gI 3 x19.2) (gI 4 x19.2) (gI 5 x19.2) (gI 6 x19.2) (gI 7 x19.2) (gI 8 x19.2) (gI 9 x19.2) (gI 10 x19.2) (gB 11 x19.2) (gC 12 x19.2) (gC 13 x19.2) (gR 14 x19.2) [.bool q22,at_ (gR 0 y20) 1,at_ (gR 0 y20) 2,at_ (gR 0 y20) 3,at_ (gR 0 y20) 4,at_ (gR 0 y20) 5,at_ (gR 0 y20) 6,at_ (gR 0 y20) 7,at_ (gR 0 y20) 8]
 if (gB 0 y20)=true then
 K21 (gB 16 x19.2)
 else
 K21 false
 else
 some (0,[.r [.str (gS 1 x14.2)], .r [.int (gI 2 x14.2)], .r [.bool (gB 3 x14.2)], .r [.int (gI 4 x14.2)], .r [.int (gI 5 x14.2)], .r [.int (gI 6 x14.2)], .r [.int (gI 7 x14.2)], .r [.int (gI 8 x14.2)], .r [.int (gI 9 x14.2)], .r [.int (gI 10 x14.2)], .r [.int (gI 11 x14.2)], .r [.bool (gB 12 x14.2)], .r [gC 13 x14.2], .r [gC 14 x14.2], .r (gR 15 x14.2), .r (gR 16 x14.2)])
theorem pattern_reader_sequence_i2_s0 (E:Env) (X:List PV→Option (Nat×List PV)) (v0:List UInt8) (v1:Int) (v2:Bool) (v3:Int) (v4:Int) (v5:Int) (v6:Int) (v7:Int) (v8:Int) (v9:Int) (v10:Int) (v11:Bool) (v12:C) (v13:C) (v14:Row) (v15:Row):stepOf E pattern_reader_sequence_i2_c0 pattern_reader_sequence_i2_h0 pattern_reader_sequence_i2_o0 X [.r [.str v0], .r [.int v1], .r [.bool v2], .r [.int v3], .r [.int v4], .r [.int v5], .r [.int v6], .r [.int v7], .r [.int v8], .r [.int v9], .r [.int v10], .r [.bool v11], .r [v12], .r [v13], .r v14, .r v15]=pattern_reader_sequence_i2_b0 E (fun (v0:List UInt8) (v1:Int) (v2:Bool) (v3:Int) (v4:Int) (v5:Int) (v6:Int) (v7:Int) (v8:Int) (v9:Int) (v10:Int) (v11:Bool) (v12:C) (v13:C) (v14:Row) (v15:Row)=>X [.r [.str v0], .r [.int v1], .r [.bool v2], .r [.int v3], .r [.int v4], .r [.int v5], .r [.int v6], .r [.int v7], .r [.int v8], .r [.int v9], .r [.int v10], .r [.bool v11], .r [v12], .r [v13], .r v14, .r v15]) v0 v1 v2 v3 v4 v5 v6 v7 v8 v9 v10 v11 v12 v13 v14 v15:=by kernel_rfl
def pattern_reader_sequence_i2_a:AImp:={fn:=181,entry:=pattern_reader_sequence_i2_en,res:=[.var 2 lA4],exit:=pattern_reader_sequence_i2_ex,body:=(.seq (.region [] [oq 2 (.allocO 0 lA4 [.bool false, .int 0, .int 0, .int 0, .int 0, .int 0, .int 0, .int 0, .int 0])] false 1)
 (.seq (.region [] [oq 5 (.bld lA4 [.bool false, .int 0, .int 0, .int 0, .int 0, .int 0, .int 0, .int 0, .int 0] [(0,1,(.c lB [.bool true]))]),
 oq 3 (.allocO 0 lA4 [.bool false, .int 0, .int 0, .int 0, .int 0, .int 0, .int 0, .int 0, .int 0]),
 ⟨none, .st lA4 (.t 3) (.t 5),none,[]⟩] false 1)
 (.seq (.block 0 (.loop pattern_reader_sequence_i2_h0 pattern_reader_sequence_i2_o0 pattern_reader_sequence_i2_c0))
 (.seq (.region [] [oq 48 (.ld lA4 172 (.t 3)),
 ⟨none, .st lA4 (.t 2) (.t 48),none,[]⟩] false 0)
 .ret))))}
noncomputable def pattern_reader_sequence_i2 (E:Env) (p0:List UInt8) (p1:Int) (p2:Bool) (p3:Int) (p4:Int) (p5:Int) (p6:Int) (p7:Int) (p8:Int) (p9:Int) (p10:Int) (p11:Bool) (p12:C) (p13:C):Option (List PV):=
 (pattern_reader_sequence_i2_l0 E p0 p1 p2 p3 p4 p5 p6 p7 p8 p9 p10 p11 p12 p13 [.bool false, .int 0, .int 0, .int 0, .int 0, .int 0, .int 0, .int 0, .int 0] [.bool true, .int 0, .int 0, .int 0, .int 0, .int 0, .int 0, .int 0, .int 0]).bind fun x23=>
 some [.r (gR 15 x23.2), .r [.str (gS 0 x23.2)], .r [.int (gI 1 x23.2)], .r [.bool (gB 2 x23.2)], .r [.int (gI 3 x23.2)], .r [.int (gI 4 x23.2)], .r [.int (gI 5 x23.2)], .r [.int (gI 6 x23.2)], .r [.int (gI 7 x23.2)], .r [.int (gI 8 x23.2)], .r [.int (gI 9 x23.2)], .r [.int (gI 10 x23.2)], .r [.bool (gB 11 x23.2)], .r [gC 12 x23.2], .r [gC 13 x23.2]]
theorem pattern_reader_sequence_i2_eq (E:Env) (p0:List UInt8) (p1:Int) (p2:Bool) (p3:Int) (p4:Int) (p5:Int) (p6:Int) (p7:Int) (p8:Int) (p9:Int) (p10:Int) (p11:Bool) (p12:C) (p13:C):runI E pattern_reader_sequence_i2_a [.r [.str p0], .r [.int p1], .r [.bool p2], .r [.int p3], .r [.int p4], .r [.int p5], .r [.int p6], .r [.int p7], .r [.int p8], .r [.int p9], .r [.int p10], .r [.bool p11], .r [p12], .r [p13]]=pattern_reader_sequence_i2 E p0 p1 p2 p3 p4 p5 p6 p7 p8 p9 p10 p11 p12 p13:=by kernel_rfl
def pattern_reader_alternatives_i1_h0:Shape:={slots:=[(0, .ptr 0 0),(2, .ptr 3 0),(3, .ptr 4 0)],objs:=bS3,m:=3}
def pattern_reader_alternatives_i1_o0:List (Exit'×Shape):=[(.exit 0,{slots:=[(2, .ptr 3 0),(3, .ptr 4 0)],objs:=bS3,m:=3})]
def pattern_reader_alternatives_i1_c0:ACode:=(.seq (.seq (.join [(.normal,{slots:=[(0, .ptr 0 0),(2, .ptr 3 0),(3, .ptr 4 0),(13, .d lB)],objs:=bS3,m:=3})] (.region [] [oq 7 (.mov (.t 0)),
 oq 8 (.icall 220 182 (pattern_reader_more_i3_en) (pattern_reader_more_i3_ex) [0,1,2] 0 none [(.t 7)]),
 oq 9 (.mov (.t 8)),
 ⟨some 10, .mov (.t 0),some (9,true),[]⟩,
 ⟨some 11, .icall 221 183 (pattern_reader_peek_i4_en) (pattern_reader_peek_i4_ex) [0,1,2] 0 none [(.t 10)],some (9,true),[]⟩,
 ⟨some 12, .icmp .eql (.t 11) (.c lU [.int 124]),some (9,true),[]⟩,
 oq 13 (.pick (.t 9) (.t 12) (.c lB [.bool false]))] false 0))
 (.cond (.t 13) .skip
 (.exit 0)))
 (.block 1 (.seq (.region [] [oq 14 (.mov (.t 0)),
 oq 15 (.nchk (.t 14)),
 oq 16 (.fad 1 1 211 3 (.t 15)),
 oq 17 (.ldC (.t 16)),
 oq 18 (.ibin .add (.t 17) (.c lI [.int 1])),
 oq 19 (.nchk (.t 14)),
 oq 20 (.fad 1 1 211 3 (.t 19)),
 ⟨none, .stC (.t 20) (.t 18),none,[]⟩] false 0)
 (.seq (.region [] [oq 21 (.mov (.t 0)),
 oq 22 (.icall 219 181 (pattern_reader_sequence_i2_en) (pattern_reader_sequence_i2_ex) [0,1,2] 0 none [(.t 21)]),
 oq 4 (.allocO 0 lA4 [.bool false, .int 0, .int 0, .int 0, .int 0, .int 0, .int 0, .int 0, .int 0]),
 ⟨none, .st lA4 (.t 4) (.t 22),none,[]⟩] false 1)
 (.seq (.region [] [oq 23 (.fad 0 1 172 4 (.t 3)),
 oq 24 (.ld lB 4 (.t 23)),
 oq 25 (.mov (.t 24)),
 ⟨some 26, .fad 0 1 172 4 (.t 4),some (25,false),[]⟩,
 ⟨some 27, .ld lB 4 (.t 26),some (25,false),[]⟩,
 oq 28 (.pick (.t 25) (.c lB [.bool true]) (.t 27)),
 oq 29 (.fad 0 1 172 4 (.t 3)),
 ⟨none, .st lB (.t 29) (.t 28),none,[]⟩] false 0)
 (.seq (.region [] [oq 30 (.fad 1 4 172 170 (.t 3)),
 oq 31 (.fad 1 4 172 170 (.t 4)),
 oq 32 (.ld lA3 170 (.t 31)),
 oq 33 (.icall 233 164 (pattern_set_join_i16_en) (pattern_set_join_i16_ex) [4] 0 none [(.t 30),(.t 32)])] false 0)
 (.region [] [oq 34 (.fad 5 4 172 170 (.t 3)),
 oq 35 (.fad 5 4 172 170 (.t 4)),
 oq 36 (.ld lA3 170 (.t 35)),
 oq 37 (.icall 234 164 (pattern_set_join_i17_en) (pattern_set_join_i17_ex) [4] 0 none [(.t 34),(.t 36)])] false 0)))))))
noncomputable def pattern_reader_alternatives_i1_l0 (E:Env) (v0:List UInt8) (v1:Int) (v2:Bool) (v3:Int) (v4:Int) (v5:Int) (v6:Int) (v7:Int) (v8:Int) (v9:Int) (v10:Int) (v11:Bool) (v12:C) (v13:C) (v14:Row) (v15:Row):Option (Nat×List PV):=E.fix (stepOf E pattern_reader_alternatives_i1_c0 pattern_reader_alternatives_i1_h0 pattern_reader_alternatives_i1_o0) [.r [.str v0], .r [.int v1], .r [.bool v2], .r [.int v3], .r [.int v4], .r [.int v5], .r [.int v6], .r [.int v7], .r [.int v8], .r [.int v9], .r [.int v10], .r [.bool v11], .r [v12], .r [v13], .r v14, .r v15]
noncomputable def pattern_reader_alternatives_i1_b0 (E:Env) (X:List UInt8→Int→Bool→Int→Int→Int→Int→Int→Int→Int→Int→Bool→C→C→Row→Row→Option (Nat×List PV)) (v0:List UInt8) (v1:Int) (v2:Bool) (v3:Int) (v4:Int) (v5:Int) (v6:Int) (v7:Int) (v8:Int) (v9:Int) (v10:Int) (v11:Bool) (v12:C) (v13:C) (v14:Row) (v15:Row):Option (Nat×List PV):=
 ((E.ic pattern_reader_more_i3_n [.r [.str v0], .r [.int v1], .r [.bool v2], .r [.int v3], .r [.int v4], .r [.int v5], .r [.int v6], .r [.int v7], .r [.int v8], .r [.int v9], .r [.int v10], .r [.bool v11], .r [v12], .r [v13]]).bind fun y2=>
 if (gB 0 y2)=true then
 (E.ic pattern_reader_peek_i4_n [.r [.str (gS 1 y2)], .r [.int (gI 2 y2)], .r [.bool (gB 3 y2)], .r [.int (gI 4 y2)], .r [.int (gI 5 y2)], .r [.int (gI 6 y2)], .r [.int (gI 7 y2)], .r [.int (gI 8 y2)], .r [.int (gI 9 y2)], .r [.int (gI 10 y2)], .r [.int (gI 11 y2)], .r [.bool (gB 12 y2)], .r [gC 13 y2], .r [gC 14 y2]]).bind fun y6=>
 some (0,[.r [.bool ((gI 0 y6)==124)], .r [.str (gS 1 y6)], .r [.int (gI 2 y6)], .r [.bool (gB 3 y6)], .r [.int (gI 4 y6)], .r [.int (gI 5 y6)], .r [.int (gI 6 y6)], .r [.int (gI 7 y6)], .r [.int (gI 8 y6)], .r [.int (gI 9 y6)], .r [.int (gI 10 y6)], .r [.int (gI 11 y6)], .r [.bool (gB 12 y6)], .r [gC 13 y6], .r [gC 14 y6], .r v14, .r v15])
 else
 some (0,[.r [.bool false], .r [.str (gS 1 y2)], .r [.int (gI 2 y2)], .r [.bool (gB 3 y2)], .r [.int (gI 4 y2)], .r [.int (gI 5 y2)], .r [.int (gI 6 y2)], .r [.int (gI 7 y2)], .r [.int (gI 8 y2)], .r [.int (gI 9 y2)], .r [.int (gI 10 y2)], .r [.int (gI 11 y2)], .r [.bool (gB 12 y2)], .r [gC 13 y2], .r [gC 14 y2], .r v14, .r v15])).bind fun x7=>
 if (gB 0 x7.2)=true then
 (E.ic pattern_reader_sequence_i2_n [.r [.str (gS 1 x7.2)], .r [.int (Go.IntKind.i64.wrap ((gI 2 x7.2)+1))], .r [.bool (gB 3 x7.2)], .r [.int (gI 4 x7.2)], .r [.int (gI 5 x7.2)], .r [.int (gI 6 x7.2)], .r [.int (gI 7 x7.2)], .r [.int (gI 8 x7.2)], .r [.int (gI 9 x7.2)], .r [.int (gI 10 x7.2)], .r [.int (gI 11 x7.2)], .r [.bool (gB 12 x7.2)], .r [gC 13 x7.2], .r [gC 14 x7.2]]).bind fun y8=>
 let K9:Bool→Option (Nat×List PV):=fun q10=>
 (E.ic pattern_set_join_i16_n [.r [at_ (gR 0 y8) 1,at_ (gR 0 y8) 2,at_ (gR 0 y8) 3,at_ (gR 0 y8) 4], .r [.bool q10,at_ (gR 16 x7.2) 1,at_ (gR 16 x7.2) 2,at_ (gR 16 x7.2) 3,at_ (gR 16 x7.2) 4,at_ (gR 16 x7.2) 5,at_ (gR 16 x7.2) 6,at_ (gR 16 x7.2) 7,at_ (gR 16 x7.2) 8]]).bind fun y11=>
 (E.ic pattern_set_join_i17_n [.r [at_ (gR 0 y8) 5,at_ (gR 0 y8) 6,at_ (gR 0 y8) 7,at_ (gR 0 y8) 8], .r (gR 0 y11)]).bind fun y12=>
 X (gS 1 y8) (gI 2 y8) (gB 3 y8) (gI 4 y8) (gI 5 y8) (gI 6 y8) (gI 7 y8) (gI 8 y8) (gI 9 y8) (gI 10 y8) (gI 11 y8) (gB 12 y8) (gC 13 y8) (gC 14 y8) (gR 15 x7.2) (gR 0 y12)
 if (gB 16 x7.2)=true then
 K9 true
 else
 K9 (gB 0 y8)
 else
 some (0,[.r [.str (gS 1 x7.2)], .r [.int (gI 2 x7.2)], .r [.bool (gB 3 x7.2)], .r [.int (gI 4 x7.2)], .r [.int (gI 5 x7.2)], .r [.int (gI 6 x7.2)], .r [.int (gI 7 x7.2)], .r [.int (gI 8 x7.2)], .r [.int (gI 9 x7.2)], .r [.int (gI 10 x7.2)], .r [.int (gI 11 x7.2)], .r [.bool (gB 12 x7.2)], .r [gC 13 x7.2], .r [gC 14 x7.2], .r (gR 15 x7.2), .r (gR 16 x7.2)])
theorem pattern_reader_alternatives_i1_s0 (E:Env) (X:List PV→Option (Nat×List PV)) (v0:List UInt8) (v1:Int) (v2:Bool) (v3:Int) (v4:Int) (v5:Int) (v6:Int) (v7:Int) (v8:Int) (v9:Int) (v10:Int) (v11:Bool) (v12:C) (v13:C) (v14:Row) (v15:Row):stepOf E pattern_reader_alternatives_i1_c0 pattern_reader_alternatives_i1_h0 pattern_reader_alternatives_i1_o0 X [.r [.str v0], .r [.int v1], .r [.bool v2], .r [.int v3], .r [.int v4], .r [.int v5], .r [.int v6], .r [.int v7], .r [.int v8], .r [.int v9], .r [.int v10], .r [.bool v11], .r [v12], .r [v13], .r v14, .r v15]=pattern_reader_alternatives_i1_b0 E (fun (v0:List UInt8) (v1:Int) (v2:Bool) (v3:Int) (v4:Int) (v5:Int) (v6:Int) (v7:Int) (v8:Int) (v9:Int) (v10:Int) (v11:Bool) (v12:C) (v13:C) (v14:Row) (v15:Row)=>X [.r [.str v0], .r [.int v1], .r [.bool v2], .r [.int v3], .r [.int v4], .r [.int v5], .r [.int v6], .r [.int v7], .r [.int v8], .r [.int v9], .r [.int v10], .r [.bool v11], .r [v12], .r [v13], .r v14, .r v15]) v0 v1 v2 v3 v4 v5 v6 v7 v8 v9 v10 v11 v12 v13 v14 v15:=by kernel_rfl
def pattern_reader_alternatives_i1_a:AImp:={fn:=161,entry:=pattern_reader_alternatives_i1_en,res:=[.var 2 lA4],exit:=pattern_reader_alternatives_i1_ex,body:=(.seq (.region [] [oq 2 (.allocO 0 lA4 [.bool false, .int 0, .int 0, .int 0, .int 0, .int 0, .int 0, .int 0, .int 0])] false 1)
 (.seq (.region [] [oq 5 (.mov (.t 0)),
 oq 6 (.icall 219 181 (pattern_reader_sequence_i2_en) (pattern_reader_sequence_i2_ex) [0,1,2] 0 none [(.t 5)]),
 oq 3 (.allocO 0 lA4 [.bool false, .int 0, .int 0, .int 0, .int 0, .int 0, .int 0, .int 0, .int 0]),
 ⟨none, .st lA4 (.t 3) (.t 6),none,[]⟩] false 1)
 (.seq (.block 0 (.loop pattern_reader_alternatives_i1_h0 pattern_reader_alternatives_i1_o0 pattern_reader_alternatives_i1_c0))
 (.seq (.region [] [oq 38 (.ld lA4 172 (.t 3)),
 ⟨none, .st lA4 (.t 2) (.t 38),none,[]⟩] false 0)
 .ret))))}
noncomputable def pattern_reader_alternatives_i1 (E:Env) (p0:List UInt8) (p1:Int) (p2:Bool) (p3:Int) (p4:Int) (p5:Int) (p6:Int) (p7:Int) (p8:Int) (p9:Int) (p10:Int) (p11:Bool) (p12:C) (p13:C):Option (List PV):=
 (E.ic pattern_reader_sequence_i2_n [.r [.str p0], .r [.int p1], .r [.bool p2], .r [.int p3], .r [.int p4], .r [.int p5], .r [.int p6], .r [.int p7], .r [.int p8], .r [.int p9], .r [.int p10], .r [.bool p11], .r [p12], .r [p13]]).bind fun y1=>
 (pattern_reader_alternatives_i1_l0 E (gS 1 y1) (gI 2 y1) (gB 3 y1) (gI 4 y1) (gI 5 y1) (gI 6 y1) (gI 7 y1) (gI 8 y1) (gI 9 y1) (gI 10 y1) (gI 11 y1) (gB 12 y1) (gC 13 y1) (gC 14 y1) [.bool false, .int 0, .int 0, .int 0, .int 0, .int 0, .int 0, .int 0, .int 0] (gR 0 y1)).bind fun x13=>
 some [.r (gR 15 x13.2), .r [.str (gS 0 x13.2)], .r [.int (gI 1 x13.2)], .r [.bool (gB 2 x13.2)], .r [.int (gI 3 x13.2)], .r [.int (gI 4 x13.2)], .r [.int (gI 5 x13.2)], .r [.int (gI 6 x13.2)], .r [.int (gI 7 x13.2)], .r [.int (gI 8 x13.2)], .r [.int (gI 9 x13.2)], .r [.int (gI 10 x13.2)], .r [.bool (gB 11 x13.2)], .r [gC 12 x13.2], .r [gC 13 x13.2]]
theorem pattern_reader_alternatives_i1_eq (E:Env) (p0:List UInt8) (p1:Int) (p2:Bool) (p3:Int) (p4:Int) (p5:Int) (p6:Int) (p7:Int) (p8:Int) (p9:Int) (p10:Int) (p11:Bool) (p12:C) (p13:C):runI E pattern_reader_alternatives_i1_a [.r [.str p0], .r [.int p1], .r [.bool p2], .r [.int p3], .r [.int p4], .r [.int p5], .r [.int p6], .r [.int p7], .r [.int p8], .r [.int p9], .r [.int p10], .r [.bool p11], .r [p12], .r [p13]]=pattern_reader_alternatives_i1 E p0 p1 p2 p3 p4 p5 p6 p7 p8 p9 p10 p11 p12 p13:=by kernel_rfl
def pattern_parse_a:AFun:={ps:=[lS],rs:=[lA2,lI],res:=[(true,2,none),(false,3,none)],body:=(.seq (.region [] [oq 2 (.allocO 0 lA2 [.nils, .nils, .bool false, .int 0, .int 0, .int 0, .int 0, .int 0, .int 0, .int 0, .int 0]),
 oq 3 (.mov (.c lI [.int 0]))] false 1)
 (.seq (.seq (.region [] [oq 6 (.mov (.t 0)),
 oq 7 (.lenS (.t 6)),
 oq 8 (.icmp .gtr (.t 7) (.c lI [.int 200]))] false 0)
 (.cond (.t 8) (.seq (.region [] [oq 9 (.bld lA2 [.nils, .nils, .bool false, .int 0, .int 0, .int 0, .int 0, .int 0, .int 0, .int 0, .int 0] []),
 ⟨none, .st lA2 (.t 2) (.t 9),none,[]⟩,
 oq 3 (.mov (.c lI [.int 2]))] false 0)
 .ret)
 .skip))
 (.seq (.region [] [oq 10 (.mov (.t 0)),
 oq 11 (.bld lA3 [.int 0, .int 0, .int 0, .int 0] []),
 oq 12 (.bslS 0 209 lA3 1 [.int 0, .int 0, .int 0, .int 0] [(0,(.t 11))]),
 oq 13 (.bld lA3 [.int 0, .int 0, .int 0, .int 0] []),
 oq 14 (.bslO 1 170 lA3 1 [.int 0, .int 0, .int 0, .int 0] [(0,(.t 13))]),
 oq 15 (.bldA [some ((.sl 209), .nils),some ((.sl 170), .nils),some ((.bool), .bool false),some ((.int .u64), .int 0),some ((.int .u64), .int 0),some ((.int .u64), .int 0),some ((.int .u64), .int 0),some ((.int .u64), .int 0),some ((.int .u64), .int 0),some ((.int .u64), .int 0),some ((.int .u64), .int 0)] [(0,1,(.t 12)),(1,1,(.t 14))]),
 oq 16 (.bldA [some ((.str), .str []),some ((.int .i64), .int 0),some ((.sl 209), .nils),some ((.sl 170), .nils),some ((.bool), .bool false),some ((.int .u64), .int 0),some ((.int .u64), .int 0),some ((.int .u64), .int 0),some ((.int .u64), .int 0),some ((.int .u64), .int 0),some ((.int .u64), .int 0),some ((.int .u64), .int 0),some ((.int .u64), .int 0),some ((.bool), .bool false)] [(0,1,(.t 10)),(2,11,(.t 15))]),
 oq 17 (.boxA 2 (.t 16)),
 oq 4 (.mov (.t 17))] false 3)
 (.seq (.region [] [oq 18 (.mov (.t 4)),
 oq 19 (.icall 218 161 (pattern_reader_alternatives_i1_en) (pattern_reader_alternatives_i1_ex) [3,1,2] 0 none [(.t 18)]),
 oq 5 (.allocO 0 lA4 [.bool false, .int 0, .int 0, .int 0, .int 0, .int 0, .int 0, .int 0, .int 0]),
 ⟨none, .st lA4 (.t 5) (.t 19),none,[]⟩] false 1)
 (.seq (.seq (.join [(.normal,{slots:=[(2, .ptr 0 0),(4, .ptr 1 0),(5, .ptr 2 0),(32, .d lB)],objs:=[.var lA2, .cells false [.d lS, .d lI, .sw 3, .whole 4, .d lB, .d lW, .d lW, .d lW, .d lW, .d lW, .d lW, .d lW, .d lW, .d lB], .var lA4, .sarr 209 lA3, .arr lA3]})] (.region [] [oq 20 (.mov (.t 4)),
 oq 21 (.nchk (.t 20)),
 oq 22 (.fad 13 1 211 4 (.t 21)),
 oq 23 (.ldC (.t 22)),
 oq 24 (.mov (.t 23)),
 ⟨some 25, .mov (.t 4),some (24,false),[]⟩,
 ⟨some 26, .nchk (.t 25),some (24,false),[]⟩,
 ⟨some 27, .fad 1 1 211 3 (.t 26),some (24,false),[]⟩,
 ⟨some 28, .ldC (.t 27),some (24,false),[]⟩,
 ⟨some 29, .mov (.t 0),some (24,false),[]⟩,
 ⟨some 30, .lenS (.t 29),some (24,false),[]⟩,
 ⟨some 31, .icmp .lss (.t 28) (.t 30),some (24,false),[]⟩,
 oq 32 (.pick (.t 24) (.c lB [.bool true]) (.t 31))] false 0))
 (.cond (.t 32) (.seq (.region [] [oq 33 (.bld lA2 [.nils, .nils, .bool false, .int 0, .int 0, .int 0, .int 0, .int 0, .int 0, .int 0, .int 0] []),
 ⟨none, .st lA2 (.t 2) (.t 33),none,[]⟩,
 oq 3 (.mov (.c lI [.int 14]))] false 0)
 .ret)
 .skip))
 (.seq (.region [] [oq 34 (.mov (.t 4)),
 oq 35 (.ld lA4 172 (.t 5)),
 oq 36 (.nchk (.t 34)),
 oq 37 (.fad 2 11 211 174 (.t 36)),
 oq 38 (.fad 2 9 174 172 (.t 37)),
 ⟨none, .stA 9 (.t 38) (.t 35),none,[]⟩] false 0)
 (.seq (.region [] [oq 39 (.mov (.t 4)),
 ⟨some 40, .nchk (.t 39),none,[0]⟩,
 ⟨some 41, .fad 2 11 211 174 (.t 40),none,[0,1]⟩,
 ⟨some 42, .fad 1 1 174 168 (.t 41),none,[0,1,2]⟩,
 ⟨some 43, .ldC (.t 42),none,[0,1,2,3]⟩,
 oq 44 (.fad 1 4 172 170 (.t 5)),
 ⟨some 45, .ld lA3 170 (.t 44),none,[5]⟩,
 ⟨some 46, .iad 170 lA3 (.t 43) (.c lI [.int 0]),none,[0,1,2,3,4,5,6]⟩,
 ⟨none, .st lA3 (.t 46) (.t 45),none,[0,1,2,3,4,5,6,7]⟩] true 0)
 (.seq (.ghost (.frz 4 3 170 lA3) (.region [] [oq 47 (.mov (.t 4)),
 oq 48 (.nchk (.t 47)),
 oq 49 (.fad 2 11 211 174 (.t 48)),
 oq 50 (.ldA 11 (.t 49)),
 ⟨none, .st lA2 (.t 2) (.t 50),none,[]⟩,
 oq 3 (.mov (.c lI [.int 0]))] false 0))
 .ret))))))))}
noncomputable def pattern_parse (E:Env) (p0:List UInt8):Option (List Row):=
 if (decide ((p0.length:Int)>200))=true then
 some [[.nils, .nils, .bool false, .int 0, .int 0, .int 0, .int 0, .int 0, .int 0, .int 0, .int 0],[.int 2]]
 else
 (E.ic pattern_reader_alternatives_i1_n [.r [.str p0], .r [.int 0], .r [.bool false], .r [.int 0], .r [.int 0], .r [.int 0], .r [.int 0], .r [.int 0], .r [.int 0], .r [.int 0], .r [.int 0], .r [.bool false], .r [.sl ([[.int 0, .int 0, .int 0, .int 0]]:List Row)], .r [.sl ([[.int 0, .int 0, .int 0, .int 0]]:List Row)]]).bind fun y1=>
 (let K2:Bool→Option (Nat×List PV):=fun q3=>
 some (0,[.r [.bool q3], .r [.nils, .nils, .bool false, .int 0, .int 0, .int 0, .int 0, .int 0, .int 0, .int 0, .int 0], .r [.str (gS 1 y1)], .r [.int (gI 2 y1)], .r [.bool (gB 3 y1)], .r [.int (gI 4 y1)], .r [.int (gI 5 y1)], .r [.int (gI 6 y1)], .r [.int (gI 7 y1)], .r [.int (gI 8 y1)], .r [.int (gI 9 y1)], .r [.int (gI 10 y1)], .r [.int (gI 11 y1)], .r [.bool (gB 12 y1)], .r (gR 0 y1), .r [gC 13 y1], .r [gC 14 y1]])
 if (gB 12 y1)=true then
 K2 true
 else
 K2 (decide ((gI 2 y1)<(p0.length:Int)))).bind fun x4=>
 if (gB 0 x4.2)=true then
 some [[.nils, .nils, .bool false, .int 0, .int 0, .int 0, .int 0, .int 0, .int 0, .int 0, .int 0],[.int 14]]
 else
 if (0:Int)≤0∧0<(((gC 16 x4.2).rows).length:Int)then
 if 0<((gC 16 x4.2).rows).length then
 some [[gC 15 x4.2, .sl (((gC 16 x4.2).rows).set 0 [at_ (gR 14 x4.2) 1,at_ (gR 14 x4.2) 2,at_ (gR 14 x4.2) 3,at_ (gR 14 x4.2) 4]), .bool (gB 14 x4.2), .int ((at_ (gR 14 x4.2) 1).toI), .int ((at_ (gR 14 x4.2) 2).toI), .int ((at_ (gR 14 x4.2) 3).toI), .int ((at_ (gR 14 x4.2) 4).toI), .int ((at_ (gR 14 x4.2) 5).toI), .int ((at_ (gR 14 x4.2) 6).toI), .int ((at_ (gR 14 x4.2) 7).toI), .int ((at_ (gR 14 x4.2) 8).toI)],[.int 0]]
 else none
 else none
theorem pattern_parse_eq (E:Env) (p0:List UInt8):runP E pattern_parse_a [[.str p0]]=pattern_parse E p0:=by kernel_rfl
def pattern_class_has_a:AFun:={ps:=[(.one (.ref 209)),lU],rs:=[lB],res:=[(false,4,none)],body:=(.seq (.region [] [oq 4 (.mov (.c lB [.bool false]))] false 0)
 (.seq (.region [] [oq 5 (.mov (.t 0)),
 oq 6 (.mov (.t 1)),
 oq 7 (.idiv .quo (.t 6) (.c lU [.int 64])),
 oq 8 (.nchk (.t 5)),
 oq 9 (.iadA 4 209 135 lW (.t 8) (.t 7)),
 oq 10 (.ld lW 135 (.t 9)),
 oq 11 (.mov (.t 1)),
 oq 12 (.idiv .rem (.t 11) (.c lU [.int 64])),
 oq 13 (.shf .shr (.t 10) (.t 12)),
 oq 14 (.ibin .and (.t 13) (.c lW [.int 1])),
 oq 15 (.icmp .eql (.t 14) (.c lW [.int 1])),
 oq 4 (.mov (.t 15))] false 0)
 .ret))}
noncomputable def pattern_class_has (E:Env) (p0:C) (p1:Int):Option (List Row):=
 if p0.isDp=true then
 if (0:Int)≤(Go.IntKind.u8.wrap (p1.tdiv 64))∧(Go.IntKind.u8.wrap (p1.tdiv 64))<(4:Int)∧p0.isDp=true then
 if p1.tmod 64<0 then none else some [[.bool ((bitsOf .and .u64 (((at_ p0.dpRow (((Go.IntKind.u8.wrap (p1.tdiv 64)).toNat)*1)).toI).fdiv (2^(min ((p1.tmod 64).toNat) (Go.IntKind.bits .u64)))) 1)==1)]]
 else none
 else none
theorem pattern_class_has_eq (E:Env) (p0:C) (p1:Int):runP E pattern_class_has_a [[p0],[.int p1]]=pattern_class_has E p0 p1:=by kernel_rfl
def pattern_set_add_i18_a:AImp:={fn:=127,entry:=pattern_set_add_i18_en,res:=[],exit:=pattern_set_add_i18_ex,body:=(.region [] [oq 4 (.mov (.t 0)),
 oq 5 (.mov (.t 1)),
 ⟨some 6, .idiv .quo (.t 5) (.c lI [.int 64]),none,[1]⟩,
 ⟨some 7, .nchk (.t 4),none,[0]⟩,
 ⟨some 8, .iadA 4 170 135 lW (.t 7) (.t 6),none,[0,1,2,3]⟩,
 ⟨some 9, .ld lW 135 (.t 8),none,[0,1,2,3,4]⟩,
 oq 10 (.mov (.t 1)),
 ⟨some 11, .idiv .rem (.t 10) (.c lI [.int 64]),none,[6]⟩,
 ⟨some 12, .shf .shl (.c lW [.int 1]) (.t 11),none,[6,7]⟩,
 ⟨some 13, .ibin .or (.t 9) (.t 12),none,[0,1,2,3,4,5,6,7,8]⟩,
 ⟨some 14, .nchk (.t 4),none,[0]⟩,
 ⟨some 15, .iadA 4 170 135 lW (.t 14) (.t 6),none,[0,1,2,3,4,5,6,7,8,9,10]⟩,
 ⟨none, .st lW (.t 15) (.t 13),none,[0,1,2,3,4,5,6,7,8,9,10,11]⟩] true 0)}
noncomputable def pattern_set_add_i18 (E:Env) (p0:Int) (p1:Int) (p2:Row):Option (List PV):=
 if (0:Int)≤(Go.IntKind.i64.wrap (p1.tdiv 64))∧(Go.IntKind.i64.wrap (p1.tdiv 64))<(4:Int)then
 part lW (.agg (List.replicate 1024 (.int .u64))) (p0.toNat+(((Go.IntKind.i64.wrap (p1.tdiv 64)).toNat)*1)) p2 fun y1=>
 if p1.tmod 64<0 then none else if (0:Int)≤(Go.IntKind.i64.wrap (p1.tdiv 64))∧(Go.IntKind.i64.wrap (p1.tdiv 64))<(4:Int)then
 turn lW (.agg (List.replicate 1024 (.int .u64))) (p0.toNat+(((Go.IntKind.i64.wrap (p1.tdiv 64)).toNat)*1)) p2 [.int (bitsOf .or .u64 ((at_ y1 0).toI) (Go.IntKind.u64.wrap (1*2^(min ((p1.tmod 64).toNat) (Go.IntKind.bits .u64)))))] fun r2=>
 some [.r r2]
 else none
 else none
theorem pattern_set_add_i18_eq (E:Env) (p0:Int) (p1:Int) (p2:Row):runI E pattern_set_add_i18_a [.r [.int p0], .r [.int p1], .r p2]=pattern_set_add_i18 E p0 p1 p2:=by kernel_rfl
def pattern_plan_at_h1:Shape:={slots:=[(0, .d (.one (.ref 174))),(3, .ptr 0 0),(4, .d lI),(6, .d lI),(13, .d lI),(14, .d lI)],objs:=bS0}
def pattern_plan_at_o1:List (Exit'×Shape):=[(.exit 2,{slots:=[(0, .d (.one (.ref 174))),(3, .ptr 0 0),(6, .d lI)],objs:=bS0})]
def pattern_plan_at_c1:ACode:=(.seq (.region [] [oq 15 (.icmp .lss (.t 14) (.t 13))] false 0)
 (.seq (.cond (.t 15) .skip
 (.exit 2))
 (.seq (.block 3 (.seq (.region [] [oq 16 (.mov (.t 14)),
 oq 5 (.mov (.t 16))] false 0)
 (.seq (.region [] [oq 17 (.mov (.t 0)),
 oq 18 (.nchk (.t 17)),
 oq 19 (.fad 0 1 174 167 (.t 18)),
 oq 20 (.ld (.one (.sl 209)) 167 (.t 19)),
 oq 21 (.mov (.t 5)),
 oq 22 (.iad 209 lA3 (.t 20) (.t 21)),
 oq 23 (.mov (.t 4)),
 oq 24 (.i2i .u8 (.t 23)),
 oq 25 (.call 162 [(.one (.ref 209)),lU] [lB] [(.t 22),(.t 24)])] false 0)
 (.cond (.t 25) (.region [] [oq 26 (.mov (.t 4)),
 oq 27 (.iadA 256 215 170 lA3 (.t 3) (.t 26)),
 oq 28 (.mov (.t 5)),
 oq 29 (.icall 235 127 (pattern_set_add_i18_en) (pattern_set_add_i18_ex) [0] 0 none [(.t 27),(.t 28)])] false 0)
 .skip))))
 (.region [] [oq 30 (.ibin .add (.t 14) (.c lI [.int 1])),
 oq 14 (.mov (.t 30))] false 0))))
noncomputable def pattern_plan_at_l1 (E:Env) (v0:C) (v1:Int) (v2:Int) (v3:Int) (v4:Int) (v5:Row):Option (Nat×List PV):=E.fix (stepOf E pattern_plan_at_c1 pattern_plan_at_h1 pattern_plan_at_o1) [.r [v0], .r [.int v1], .r [.int v2], .r [.int v3], .r [.int v4], .r v5]
noncomputable def pattern_plan_at_b1 (E:Env) (X:C→Int→Int→Int→Int→Row→Option (Nat×List PV)) (v0:C) (v1:Int) (v2:Int) (v3:Int) (v4:Int) (v5:Row):Option (Nat×List PV):=
 if (decide (v4<v3))=true then
 if v0.isDp=true then
 if v0.isDp=true then
 if (0:Int)≤v4∧v4<(((at_ v0.dpRow 0).rows).length:Int)then
 (E.pc n_pattern_class_has [[.dp (rowsAt ((at_ v0.dpRow 0).rows) v4.toNat)],[.int (Go.IntKind.u8.wrap v1)]]).bind fun y1=>
 if ((at_ (rowsAt y1 0) 0).toB)=true then
 if (0:Int)≤v1∧v1<(256:Int)then
 (E.ic pattern_set_add_i18_n [.r [.int ((0+(v1.toNat*4):Nat):Int)], .r [.int v4], .r v5]).bind fun y2=>
 X v0 v1 v2 v3 (Go.IntKind.i64.wrap (v4+1)) (gR 0 y2)
 else none
 else
 X v0 v1 v2 v3 (Go.IntKind.i64.wrap (v4+1)) v5
 else none
 else none
 else none
 else
 some (0,[.r [v0], .r [.int v2], .r v5])
theorem pattern_plan_at_s1 (E:Env) (X:List PV→Option (Nat×List PV)) (v0:C) (v1:Int) (v2:Int) (v3:Int) (v4:Int) (v5:Row):stepOf E pattern_plan_at_c1 pattern_plan_at_h1 pattern_plan_at_o1 X [.r [v0], .r [.int v1], .r [.int v2], .r [.int v3], .r [.int v4], .r v5]=pattern_plan_at_b1 E (fun (v0:C) (v1:Int) (v2:Int) (v3:Int) (v4:Int) (v5:Row)=>X [.r [v0], .r [.int v1], .r [.int v2], .r [.int v3], .r [.int v4], .r v5]) v0 v1 v2 v3 v4 v5:=by kernel_rfl
def pattern_plan_at_h0:Shape:={slots:=[(0, .d (.one (.ref 174))),(3, .ptr 0 0),(6, .d lI)],objs:=bS0}
def pattern_plan_at_o0:List (Exit'×Shape):=[(.exit 0,{slots:=[(3, .ptr 0 0)],objs:=bS0})]
def pattern_plan_at_c0:ACode:=(.seq (.region [] [oq 7 (.icmp .lss (.t 6) (.c lI [.int 256]))] false 0)
 (.seq (.cond (.t 7) .skip
 (.exit 0))
 (.seq (.block 1 (.seq (.region [] [oq 8 (.mov (.t 6)),
 oq 4 (.mov (.t 8))] false 0)
 (.seq (.region [] [oq 9 (.mov (.t 0)),
 oq 10 (.nchk (.t 9)),
 oq 11 (.fad 0 1 174 167 (.t 10)),
 oq 12 (.ld (.one (.sl 209)) 167 (.t 11)),
 oq 13 (.lenL (.t 12)),
 oq 14 (.mov (.c lI [.int 0]))] false 0)
 (.block 2 (.loop pattern_plan_at_h1 pattern_plan_at_o1 pattern_plan_at_c1)))))
 (.region [] [oq 31 (.ibin .add (.t 6) (.c lI [.int 1])),
 oq 6 (.mov (.t 31))] false 0))))
noncomputable def pattern_plan_at_l0 (E:Env) (v0:C) (v1:Int) (v2:Row):Option (Nat×List PV):=E.fix (stepOf E pattern_plan_at_c0 pattern_plan_at_h0 pattern_plan_at_o0) [.r [v0], .r [.int v1], .r v2]
noncomputable def pattern_plan_at_b0 (E:Env) (X:C→Int→Row→Option (Nat×List PV)) (v0:C) (v1:Int) (v2:Row):Option (Nat×List PV):=
 if (decide (v1<256))=true then
 if v0.isDp=true then
 if v0.isDp=true then
 (pattern_plan_at_l1 E v0 v1 v1 (((at_ v0.dpRow 0).rows).length:Int) 0 v2).bind fun x3=>
 X (gC 0 x3.2) (Go.IntKind.i64.wrap ((gI 1 x3.2)+1)) (gR 2 x3.2)
 else none
 else none
 else
 some (0,[.r v2])
theorem pattern_plan_at_s0 (E:Env) (X:List PV→Option (Nat×List PV)) (v0:C) (v1:Int) (v2:Row):stepOf E pattern_plan_at_c0 pattern_plan_at_h0 pattern_plan_at_o0 X [.r [v0], .r [.int v1], .r v2]=pattern_plan_at_b0 E (fun (v0:C) (v1:Int) (v2:Row)=>X [.r [v0], .r [.int v1], .r v2]) v0 v1 v2:=by kernel_rfl
def pattern_plan_at_a:AFun:={ps:=[(.one (.ref 174))],rs:=[(.one (.ref 215))],res:=[(false,2,none)],body:=(.seq (.region [] [oq 2 (.mov (.c (.one (.ref 215)) [.nilp]))] false 0)
 (.seq (.region [] [oq 3 (.allocO 0 (.agg (List.replicate 1024 (.int .u64))) (List.replicate 1024 (C.int 0)))] false 1)
 (.seq (.seq (.region [] [oq 6 (.mov (.c lI [.int 0]))] false 0)
 (.block 0 (.loop pattern_plan_at_h0 pattern_plan_at_o0 pattern_plan_at_c0)))
 (.seq (.region [(3,215,some (.agg (List.replicate 1024 (.int .u64))))] [oq 2 (.mov (.t 3))] false 0)
 .ret))))}
noncomputable def pattern_plan_at (E:Env) (p0:C):Option (List Row):=
 (pattern_plan_at_l0 E p0 0 (List.replicate 1024 (C.int 0))).bind fun x4=>
 some [[.dp (gR 0 x4.2)]]
theorem pattern_plan_at_eq (E:Env) (p0:C):runP E pattern_plan_at_a [[p0]]=pattern_plan_at E p0:=by kernel_rfl
def pattern_set_join_i19_h0:Shape:={slots:=[(0, .ptr 0 0),(3, .d (.one (.ref 170))),(5, .d lI)],objs:=[.var lA3],m:=1}
def pattern_set_join_i19_o0:List (Exit'×Shape):=[(.exit 0,{slots:=[],objs:=[.var lA3],m:=1})]
def pattern_set_join_i19_c0:ACode:=(.seq (.region [] [oq 6 (.icmp .lss (.t 5) (.c lI [.int 4]))] false 0)
 (.seq (.cond (.t 6) .skip
 (.exit 0))
 (.seq (.block 1 (.seq (.region [] [oq 7 (.mov (.t 5)),
 oq 4 (.mov (.t 7))] false 0)
 (.region [] [oq 8 (.mov (.t 0)),
 oq 9 (.mov (.t 4)),
 ⟨some 10, .nchk (.t 8),none,[0]⟩,
 ⟨some 11, .iadA 4 170 135 lW (.t 10) (.t 9),none,[0,1,2]⟩,
 ⟨some 12, .ld lW 135 (.t 11),none,[0,1,2,3]⟩,
 oq 13 (.mov (.t 4)),
 ⟨some 14, .iadA 4 170 135 lW (.t 3) (.t 13),none,[5]⟩,
 ⟨some 15, .ld lW 135 (.t 14),none,[5,6]⟩,
 ⟨some 16, .ibin .or (.t 12) (.t 15),none,[0,1,2,3,4,5,6,7]⟩,
 ⟨some 17, .nchk (.t 8),none,[0]⟩,
 ⟨some 18, .iadA 4 170 135 lW (.t 17) (.t 9),none,[0,1,2,3,4,5,6,7,8,9]⟩,
 ⟨none, .st lW (.t 18) (.t 16),none,[0,1,2,3,4,5,6,7,8,9,10]⟩] true 0)))
 (.region [] [oq 19 (.ibin .add (.t 5) (.c lI [.int 1])),
 oq 5 (.mov (.t 19))] false 0))))
noncomputable def pattern_set_join_i19_l0 (E:Env) (v0:C) (v1:Int) (v2:Row):Option (Nat×List PV):=E.fix (stepOf E pattern_set_join_i19_c0 pattern_set_join_i19_h0 pattern_set_join_i19_o0) [.r [v0], .r [.int v1], .r v2]
noncomputable def pattern_set_join_i19_b0 (E:Env) (X:C→Int→Row→Option (Nat×List PV)) (v0:C) (v1:Int) (v2:Row):Option (Nat×List PV):=
 if (decide (v1<4))=true then
 if (0:Int)≤v1∧v1<(4:Int)then
 part lW lA3 (0+(v1.toNat*1)) v2 fun y1=>
 if (0:Int)≤v1∧v1<(4:Int)∧v0.isDp=true then
 if (0:Int)≤v1∧v1<(4:Int)then
 turn lW lA3 (0+(v1.toNat*1)) v2 [.int (bitsOf .or .u64 ((at_ y1 0).toI) ((at_ v0.dpRow (v1.toNat*1)).toI))] fun r2=>
 X v0 (Go.IntKind.i64.wrap (v1+1)) r2
 else none
 else none
 else none
 else
 some (0,[.r v2])
theorem pattern_set_join_i19_s0 (E:Env) (X:List PV→Option (Nat×List PV)) (v0:C) (v1:Int) (v2:Row):stepOf E pattern_set_join_i19_c0 pattern_set_join_i19_h0 pattern_set_join_i19_o0 X [.r [v0], .r [.int v1], .r v2]=pattern_set_join_i19_b0 E (fun (v0:C) (v1:Int) (v2:Row)=>X [.r [v0], .r [.int v1], .r v2]) v0 v1 v2:=by kernel_rfl
def pattern_set_join_i19_a:AImp:={fn:=164,entry:=pattern_set_join_i19_en,res:=[],exit:=pattern_set_join_i19_ex,body:=(.seq (.region [] [oq 3 (.boxP lA3 170 (.t 1))] false 0)
 (.seq (.region [] [oq 5 (.mov (.c lI [.int 0]))] false 0)
 (.block 0 (.loop pattern_set_join_i19_h0 pattern_set_join_i19_o0 pattern_set_join_i19_c0))))}
noncomputable def pattern_set_join_i19 (E:Env) (p0:Row) (p1:Row):Option (List PV):=
 (pattern_set_join_i19_l0 E (.dp p0) 0 p1).bind fun x3=>
 some [.r (gR 0 x3.2)]
theorem pattern_set_join_i19_eq (E:Env) (p0:Row) (p1:Row):runI E pattern_set_join_i19_a [.r p0, .r p1]=pattern_set_join_i19 E p0 p1:=by kernel_rfl
def pattern_plan_behind_h0:Shape:={slots:=[(0, .d (.one (.ref 174))),(3, .d (.one (.ref 170))),(4, .ptr 0 0),(5, .ptr 1 0),(11, .d lI),(12, .d lI)],objs:=[.var lA3, .var lA3]}
def pattern_plan_behind_o0:List (Exit'×Shape):=[(.exit 0,{slots:=[(4, .ptr 0 0),(5, .ptr 1 0)],objs:=[.var lA3, .var lA3]})]
def pattern_plan_behind_c0:ACode:=(.seq (.region [] [oq 13 (.icmp .lss (.t 12) (.t 11))] false 0)
 (.seq (.cond (.t 13) .skip
 (.exit 0))
 (.seq (.block 1 (.seq (.region [] [oq 14 (.mov (.t 12)),
 oq 6 (.mov (.t 14))] false 0)
 (.seq (.region [] [oq 15 (.mov (.t 6)),
 oq 16 (.call 163 [(.one (.ref 170)),lI] [lB] [(.t 3),(.t 15)])] false 0)
 (.cond (.t 16) (.region [] [oq 17 (.mov (.t 0)),
 oq 18 (.nchk (.t 17)),
 oq 19 (.fad 1 1 174 168 (.t 18)),
 oq 20 (.ld (.one (.sl 170)) 168 (.t 19)),
 oq 21 (.mov (.t 6)),
 oq 22 (.iad 170 lA3 (.t 20) (.t 21)),
 oq 23 (.ld lA3 170 (.t 22)),
 oq 24 (.icall 236 164 (pattern_set_join_i19_en) (pattern_set_join_i19_ex) [1] 0 none [(.t 5),(.t 23)])] false 0)
 .skip))))
 (.region [] [oq 25 (.ibin .add (.t 12) (.c lI [.int 1])),
 oq 12 (.mov (.t 25))] false 0))))
noncomputable def pattern_plan_behind_l0 (E:Env) (v0:C) (v1:C) (v2:Int) (v3:Int) (v4:Row) (v5:Row):Option (Nat×List PV):=E.fix (stepOf E pattern_plan_behind_c0 pattern_plan_behind_h0 pattern_plan_behind_o0) [.r [v0], .r [v1], .r [.int v2], .r [.int v3], .r v4, .r v5]
noncomputable def pattern_plan_behind_b0 (E:Env) (X:C→C→Int→Int→Row→Row→Option (Nat×List PV)) (v0:C) (v1:C) (v2:Int) (v3:Int) (v4:Row) (v5:Row):Option (Nat×List PV):=
 if (decide (v3<v2))=true then
 (E.pc n_pattern_set_has [[v1],[.int v3]]).bind fun y1=>
 if ((at_ (rowsAt y1 0) 0).toB)=true then
 if v0.isDp=true then
 if v0.isDp=true then
 if (0:Int)≤v3∧v3<(((at_ v0.dpRow 1).rows).length:Int)then
 (E.ic pattern_set_join_i19_n [.r (rowsAt ((at_ v0.dpRow 1).rows) v3.toNat), .r v5]).bind fun y2=>
 X v0 v1 v2 (Go.IntKind.i64.wrap (v3+1)) v4 (gR 0 y2)
 else none
 else none
 else none
 else
 X v0 v1 v2 (Go.IntKind.i64.wrap (v3+1)) v4 v5
 else
 some (0,[.r v4, .r v5])
theorem pattern_plan_behind_s0 (E:Env) (X:List PV→Option (Nat×List PV)) (v0:C) (v1:C) (v2:Int) (v3:Int) (v4:Row) (v5:Row):stepOf E pattern_plan_behind_c0 pattern_plan_behind_h0 pattern_plan_behind_o0 X [.r [v0], .r [v1], .r [.int v2], .r [.int v3], .r v4, .r v5]=pattern_plan_behind_b0 E (fun (v0:C) (v1:C) (v2:Int) (v3:Int) (v4:Row) (v5:Row)=>X [.r [v0], .r [v1], .r [.int v2], .r [.int v3], .r v4, .r v5]) v0 v1 v2 v3 v4 v5:=by kernel_rfl
def pattern_plan_behind_a:AFun:={ps:=[(.one (.ref 174)),lA3],rs:=[lA3],res:=[(true,4,none)],body:=(.seq (.region [] [oq 3 (.boxP lA3 170 (.t 1)),
 oq 4 (.allocO 0 lA3 [.int 0, .int 0, .int 0, .int 0])] false 1)
 (.seq (.region [] [oq 5 (.allocO 0 lA3 [.int 0, .int 0, .int 0, .int 0])] false 1)
 (.seq (.seq (.region [] [oq 7 (.mov (.t 0)),
 oq 8 (.nchk (.t 7)),
 oq 9 (.fad 1 1 174 168 (.t 8)),
 oq 10 (.ld (.one (.sl 170)) 168 (.t 9)),
 oq 11 (.lenL (.t 10)),
 oq 12 (.mov (.c lI [.int 0]))] false 0)
 (.block 0 (.loop pattern_plan_behind_h0 pattern_plan_behind_o0 pattern_plan_behind_c0)))
 (.seq (.region [] [oq 26 (.ld lA3 170 (.t 5)),
 ⟨none, .st lA3 (.t 4) (.t 26),none,[]⟩] false 0)
 .ret))))}
noncomputable def pattern_plan_behind (E:Env) (p0:C) (p1:Row):Option (List Row):=
 if p0.isDp=true then
 if p0.isDp=true then
 (pattern_plan_behind_l0 E p0 (.dp p1) (((at_ p0.dpRow 1).rows).length:Int) 0 [.int 0, .int 0, .int 0, .int 0] [.int 0, .int 0, .int 0, .int 0]).bind fun x3=>
 some [gR 1 x3.2]
 else none
 else none
theorem pattern_plan_behind_eq (E:Env) (p0:C) (p1:Row):runP E pattern_plan_behind_a [[p0],p1]=pattern_plan_behind E p0 p1:=by kernel_rfl
def pattern_plan_ends_h0:Shape:={slots:=[(0, .d (.one (.ref 174))),(3, .d (.one (.ref 170))),(14, .d lI)],objs:=[]}
def pattern_plan_ends_o0:List (Exit'×Shape):=[(.exit 0,{slots:=[],objs:=[]}),(.ret,{slots:=[(4, .d lB)],objs:=[]})]
def pattern_plan_ends_c0:ACode:=(.seq (.region [] [oq 15 (.icmp .lss (.t 14) (.c lI [.int 4]))] false 0)
 (.seq (.cond (.t 15) .skip
 (.exit 0))
 (.seq (.block 1 (.seq (.region [] [oq 16 (.mov (.t 14)),
 oq 5 (.mov (.t 16))] false 0)
 (.seq (.region [] [oq 17 (.mov (.t 5)),
 ⟨some 18, .iadA 4 170 135 lW (.t 3) (.t 17),none,[0]⟩,
 ⟨some 19, .ld lW 135 (.t 18),none,[0,1]⟩,
 oq 20 (.mov (.t 0)),
 oq 21 (.mov (.t 5)),
 ⟨some 22, .nchk (.t 20),none,[3]⟩,
 ⟨some 23, .fad 2 9 174 172 (.t 22),none,[3,5]⟩,
 ⟨some 24, .fad 5 4 172 170 (.t 23),none,[3,5,6]⟩,
 ⟨some 25, .iadA 4 170 135 lW (.t 24) (.t 21),none,[3,4,5,6,7]⟩,
 ⟨some 26, .ld lW 135 (.t 25),none,[3,4,5,6,7,8]⟩,
 ⟨some 27, .ibin .and (.t 19) (.t 26),none,[0,1,2,3,4,5,6,7,8,9]⟩,
 ⟨some 28, .icmp .neq (.t 27) (.c lW [.int 0]),none,[0,1,2,3,4,5,6,7,8,9,10]⟩] true 0)
 (.cond (.t 28) (.seq (.region [] [oq 4 (.mov (.c lB [.bool true]))] false 0)
 .ret)
 .skip))))
 (.region [] [oq 29 (.ibin .add (.t 14) (.c lI [.int 1])),
 oq 14 (.mov (.t 29))] false 0))))
noncomputable def pattern_plan_ends_l0 (E:Env) (v0:C) (v1:C) (v2:Int):Option (Nat×List PV):=E.fix (stepOf E pattern_plan_ends_c0 pattern_plan_ends_h0 pattern_plan_ends_o0) [.r [v0], .r [v1], .r [.int v2]]
noncomputable def pattern_plan_ends_b0 (E:Env) (X:C→C→Int→Option (Nat×List PV)) (v0:C) (v1:C) (v2:Int):Option (Nat×List PV):=
 if (decide (v2<4))=true then
 if (0:Int)≤v2∧v2<(4:Int)∧v1.isDp=true then
 if v0.isDp=true then
 if v0.isDp=true then
 if (0:Int)≤v2∧v2<(4:Int)∧(C.dp [at_ v0.dpRow 7,at_ v0.dpRow 8,at_ v0.dpRow 9,at_ v0.dpRow 10]).isDp=true then
 if ((bitsOf .and .u64 ((at_ v1.dpRow (v2.toNat*1)).toI) ((at_ [at_ v0.dpRow 7,at_ v0.dpRow 8,at_ v0.dpRow 9,at_ v0.dpRow 10] (v2.toNat*1)).toI)) !=0)=true then
 some (1,[.r [.bool true]])
 else
 X v0 v1 (Go.IntKind.i64.wrap (v2+1))
 else none
 else none
 else none
 else none
 else
 some (0,[])
theorem pattern_plan_ends_s0 (E:Env) (X:List PV→Option (Nat×List PV)) (v0:C) (v1:C) (v2:Int):stepOf E pattern_plan_ends_c0 pattern_plan_ends_h0 pattern_plan_ends_o0 X [.r [v0], .r [v1], .r [.int v2]]=pattern_plan_ends_b0 E (fun (v0:C) (v1:C) (v2:Int)=>X [.r [v0], .r [v1], .r [.int v2]]) v0 v1 v2:=by kernel_rfl
def pattern_plan_ends_a:AFun:={ps:=[(.one (.ref 174)),lA3],rs:=[lB],res:=[(false,4,none)],body:=(.seq (.region [] [oq 3 (.boxP lA3 170 (.t 1)),
 oq 4 (.mov (.c lB [.bool false]))] false 0)
 (.seq (.seq (.join [(.normal,{slots:=[(0, .d (.one (.ref 174))),(3, .d (.one (.ref 170))),(13, .d lB)],objs:=[]})] (.region [] [oq 6 (.call 163 [(.one (.ref 170)),lI] [lB] [(.t 3),(.c lI [.int 0])]),
 oq 7 (.mov (.t 6)),
 ⟨some 8, .mov (.t 0),some (7,true),[]⟩,
 ⟨some 9, .nchk (.t 8),some (7,true),[]⟩,
 ⟨some 10, .fad 2 9 174 172 (.t 9),some (7,true),[]⟩,
 ⟨some 11, .fad 0 1 172 4 (.t 10),some (7,true),[]⟩,
 ⟨some 12, .ld lB 4 (.t 11),some (7,true),[]⟩,
 oq 13 (.pick (.t 7) (.t 12) (.c lB [.bool false]))] false 0))
 (.cond (.t 13) (.seq (.region [] [oq 4 (.mov (.c lB [.bool true]))] false 0)
 .ret)
 .skip))
 (.seq (.seq (.region [] [oq 14 (.mov (.c lI [.int 0]))] false 0)
 (.block 0 (.loop pattern_plan_ends_h0 pattern_plan_ends_o0 pattern_plan_ends_c0)))
 (.seq (.region [] [oq 4 (.mov (.c lB [.bool false]))] false 0)
 .ret))))}
noncomputable def pattern_plan_ends (E:Env) (p0:C) (p1:Row):Option (List Row):=
 ((E.pc n_pattern_set_has [[.dp p1],[.int 0]]).bind fun y1=>
 let K2:Bool→Option (Nat×List PV):=fun q3=>
 some (0,[.r [p0], .r [.dp p1], .r [.bool q3]])
 if ((at_ (rowsAt y1 0) 0).toB)=true then
 if p0.isDp=true then
 if p0.isDp=true then
 K2 ((at_ p0.dpRow 2).toB)
 else none
 else none
 else
 K2 false).bind fun x4=>
 if (gB 2 x4.2)=true then
 some [[.bool true]]
 else
 (pattern_plan_ends_l0 E (gC 0 x4.2) (gC 1 x4.2) 0).bind fun x5=>
 match x5.1 with
 |0=>
 some [[.bool false]]
 |i6+1=>
 some [[.bool (gB 0 x5.2)]]
theorem pattern_plan_ends_eq (E:Env) (p0:C) (p1:Row):runP E pattern_plan_ends_a [[p0],p1]=pattern_plan_ends E p0 p1:=by kernel_rfl
def pattern_set_add_i0_a:AImp:={fn:=127,entry:=pattern_set_add_i0_en,res:=[],exit:=pattern_set_add_i0_ex,body:=(.region [] [oq 4 (.mov (.t 0)),
 oq 5 (.mov (.t 1)),
 ⟨some 6, .idiv .quo (.t 5) (.c lI [.int 64]),none,[1]⟩,
 ⟨some 7, .nchk (.t 4),none,[0]⟩,
 ⟨some 8, .iadA 4 170 135 lW (.t 7) (.t 6),none,[0,1,2,3]⟩,
 ⟨some 9, .ld lW 135 (.t 8),none,[0,1,2,3,4]⟩,
 oq 10 (.mov (.t 1)),
 ⟨some 11, .idiv .rem (.t 10) (.c lI [.int 64]),none,[6]⟩,
 ⟨some 12, .shf .shl (.c lW [.int 1]) (.t 11),none,[6,7]⟩,
 ⟨some 13, .ibin .or (.t 9) (.t 12),none,[0,1,2,3,4,5,6,7,8]⟩,
 ⟨some 14, .nchk (.t 4),none,[0]⟩,
 ⟨some 15, .iadA 4 170 135 lW (.t 14) (.t 6),none,[0,1,2,3,4,5,6,7,8,9,10]⟩,
 ⟨none, .st lW (.t 15) (.t 13),none,[0,1,2,3,4,5,6,7,8,9,10,11]⟩] true 0)}
noncomputable def pattern_set_add_i0 (E:Env) (p0:Int) (p1:Row):Option (List PV):=
 if (0:Int)≤(Go.IntKind.i64.wrap (p0.tdiv 64))∧(Go.IntKind.i64.wrap (p0.tdiv 64))<(4:Int)then
 part lW lA3 (0+(((Go.IntKind.i64.wrap (p0.tdiv 64)).toNat)*1)) p1 fun y1=>
 if p0.tmod 64<0 then none else if (0:Int)≤(Go.IntKind.i64.wrap (p0.tdiv 64))∧(Go.IntKind.i64.wrap (p0.tdiv 64))<(4:Int)then
 turn lW lA3 (0+(((Go.IntKind.i64.wrap (p0.tdiv 64)).toNat)*1)) p1 [.int (bitsOf .or .u64 ((at_ y1 0).toI) (Go.IntKind.u64.wrap (1*2^(min ((p0.tmod 64).toNat) (Go.IntKind.bits .u64)))))] fun r2=>
 some [.r r2]
 else none
 else none
theorem pattern_set_add_i0_eq (E:Env) (p0:Int) (p1:Row):runI E pattern_set_add_i0_a [.r [.int p0], .r p1]=pattern_set_add_i0 E p0 p1:=by kernel_rfl
end Go.Ev
