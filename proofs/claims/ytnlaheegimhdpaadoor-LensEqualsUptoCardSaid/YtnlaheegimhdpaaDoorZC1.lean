/-
  A part of the proof: what the functions of the program compute.
-/
import Derived.Test.YtnlaheegimhdpaaDoorZNum
set_option linter.all false
set_option maxRecDepth 100000
namespace Go.Ev
def lens_Node_a : AFun := { ps := [(.agg [.int .i64, .str, .str, .sl 9, .int .i64, .int .i64, .int .i64, .int .u8, .int .i64, .int .i64, .str, .sl 55, .sl 44, .sl 29])], rs := [(.one (.int .i64))], res := [(false, 2, none)], body := (.seq (.region [] [⟨some 1, .boxP (.agg [.int .i64, .str, .str, .sl 9, .int .i64, .int .i64, .int .i64, .int .u8, .int .i64, .int .i64, .str, .sl 55, .sl 44, .sl 29]) 29 (.t 0), none, []⟩,
    ⟨some 2, .mov (.c (.one (.int .i64)) [.int 0]), none, []⟩] false 0)
  (.seq (.seq (.join [(.normal, { slots := [(1, .d (.one (.ref 29))), (12, .d (.one (.bool)))], objs := [] })] (.region [] [⟨some 5, .fad 0 1 29 3 (.t 1), none, []⟩,
    ⟨some 6, .ld (.one (.int .i64)) 3 (.t 5), none, []⟩,
    ⟨some 7, .icmp .lss (.t 6) (.c (.one (.int .i64)) [.int 0]), none, []⟩,
    ⟨some 8, .mov (.t 7), none, []⟩,
    ⟨some 9, .fad 0 1 29 3 (.t 1), some (8, false), []⟩,
    ⟨some 10, .ld (.one (.int .i64)) 3 (.t 9), some (8, false), []⟩,
    ⟨some 11, .icmp .geq (.t 10) (.c (.one (.int .i64)) [.int 19]), some (8, false), []⟩,
    ⟨some 12, .pick (.t 8) (.c (.one (.bool)) [.bool true]) (.t 11), none, []⟩] false 0))
  (.cond (.t 12) (.seq (.region [] [⟨some 2, .mov (.c (.one (.int .i64)) [.int 1]), none, []⟩] false 0)
  .ret)
  .skip))
  (.seq (.region [] [⟨some 13, .fad 0 1 29 3 (.t 1), none, []⟩,
    ⟨some 14, .ld (.one (.int .i64)) 3 (.t 13), none, []⟩,
    ⟨some 15, .call 28 [(.one (.int .i64))] [(.agg [.bool, .bool, .bool, .bool, .bool, .bool, .bool, .bool, .int .i64])] [(.t 14)], none, []⟩,
    ⟨some 3, .allocO 0 (.agg [.bool, .bool, .bool, .bool, .bool, .bool, .bool, .bool, .int .i64]) [.bool false, .bool false, .bool false, .bool false, .bool false, .bool false, .bool false, .bool false, .int 0], none, []⟩,
    ⟨none, .st (.agg [.bool, .bool, .bool, .bool, .bool, .bool, .bool, .bool, .int .i64]) (.t 3) (.t 15), none, []⟩] false 1)
  (.seq (.seq (.join [(.normal, { slots := [(1, .d (.one (.ref 29))), (3, .ptr 0 0), (102, .d (.one (.bool)))], objs := [.var (.agg [.bool, .bool, .bool, .bool, .bool, .bool, .bool, .bool, .int .i64])] })] (.region [] [⟨some 16, .fad 1 1 29 9 (.t 1), none, []⟩,
    ⟨some 17, .ld (.one (.str)) 9 (.t 16), none, []⟩,
    ⟨some 18, .scmp .neq (.t 17) (.c (.one (.str)) [.str ([] : List UInt8)]), none, []⟩,
    ⟨some 19, .mov (.t 18), none, []⟩,
    ⟨some 20, .fad 0 1 61 4 (.t 3), some (19, true), []⟩,
    ⟨some 21, .ld (.one (.bool)) 4 (.t 20), some (19, true), []⟩,
    ⟨some 22, .not (.t 21), some (19, true), []⟩,
    ⟨some 23, .pick (.t 19) (.t 22) (.c (.one (.bool)) [.bool false]), none, []⟩,
    ⟨some 24, .mov (.t 23), none, []⟩,
    ⟨some 25, .fad 2 1 29 9 (.t 1), some (24, false), []⟩,
    ⟨some 26, .ld (.one (.str)) 9 (.t 25), some (24, false), []⟩,
    ⟨some 27, .scmp .neq (.t 26) (.c (.one (.str)) [.str ([] : List UInt8)]), some (24, false), []⟩,
    ⟨some 28, .mov (.t 27), some (24, false), []⟩,
    ⟨some 29, .fad 1 1 61 4 (.t 3), some (28, true), []⟩,
    ⟨some 30, .ld (.one (.bool)) 4 (.t 29), some (28, true), []⟩,
    ⟨some 31, .not (.t 30), some (28, true), []⟩,
    ⟨some 32, .pick (.t 28) (.t 31) (.c (.one (.bool)) [.bool false]), some (24, false), []⟩,
    ⟨some 33, .pick (.t 24) (.c (.one (.bool)) [.bool true]) (.t 32), none, []⟩,
    ⟨some 34, .mov (.t 33), none, []⟩,
    ⟨some 35, .fad 3 1 29 22 (.t 1), some (34, false), []⟩,
    ⟨some 36, .ld (.one (.sl 9)) 22 (.t 35), some (34, false), []⟩,
    ⟨some 37, .lenL (.t 36), some (34, false), []⟩,
    ⟨some 38, .icmp .gtr (.t 37) (.c (.one (.int .i64)) [.int 0]), some (34, false), []⟩,
    ⟨some 39, .mov (.t 38), some (34, false), []⟩,
    ⟨some 40, .fad 2 1 61 4 (.t 3), some (39, true), []⟩,
    ⟨some 41, .ld (.one (.bool)) 4 (.t 40), some (39, true), []⟩,
    ⟨some 42, .not (.t 41), some (39, true), []⟩,
    ⟨some 43, .pick (.t 39) (.t 42) (.c (.one (.bool)) [.bool false]), some (34, false), []⟩,
    ⟨some 44, .pick (.t 34) (.c (.one (.bool)) [.bool true]) (.t 43), none, []⟩,
    ⟨some 45, .mov (.t 44), none, []⟩,
    ⟨some 46, .fad 4 1 29 3 (.t 1), some (45, false), []⟩,
    ⟨some 47, .ld (.one (.int .i64)) 3 (.t 46), some (45, false), []⟩,
    ⟨some 48, .icmp .neq (.t 47) (.c (.one (.int .i64)) [.int 0]), some (45, false), []⟩,
    ⟨some 49, .mov (.t 48), some (45, false), []⟩,
    ⟨some 50, .fad 3 1 61 4 (.t 3), some (49, true), []⟩,
    ⟨some 51, .ld (.one (.bool)) 4 (.t 50), some (49, true), []⟩,
    ⟨some 52, .not (.t 51), some (49, true), []⟩,
    ⟨some 53, .pick (.t 49) (.t 52) (.c (.one (.bool)) [.bool false]), some (45, false), []⟩,
    ⟨some 54, .pick (.t 45) (.c (.one (.bool)) [.bool true]) (.t 53), none, []⟩,
    ⟨some 55, .mov (.t 54), none, []⟩,
    ⟨some 56, .fad 5 1 29 3 (.t 1), some (55, false), []⟩,
    ⟨some 57, .ld (.one (.int .i64)) 3 (.t 56), some (55, false), []⟩,
    ⟨some 58, .icmp .neq (.t 57) (.c (.one (.int .i64)) [.int 0]), some (55, false), []⟩,
    ⟨some 59, .mov (.t 58), some (55, false), []⟩,
    ⟨some 60, .fad 6 1 29 3 (.t 1), some (59, false), []⟩,
    ⟨some 61, .ld (.one (.int .i64)) 3 (.t 60), some (59, false), []⟩,
    ⟨some 62, .icmp .neq (.t 61) (.c (.one (.int .i64)) [.int 0]), some (59, false), []⟩,
    ⟨some 63, .pick (.t 59) (.c (.one (.bool)) [.bool true]) (.t 62), some (55, false), []⟩,
    ⟨some 64, .mov (.t 63), some (55, false), []⟩,
    ⟨some 65, .fad 4 1 61 4 (.t 3), some (64, true), []⟩,
    ⟨some 66, .ld (.one (.bool)) 4 (.t 65), some (64, true), []⟩,
    ⟨some 67, .not (.t 66), some (64, true), []⟩,
    ⟨some 68, .pick (.t 64) (.t 67) (.c (.one (.bool)) [.bool false]), some (55, false), []⟩,
    ⟨some 69, .pick (.t 55) (.c (.one (.bool)) [.bool true]) (.t 68), none, []⟩,
    ⟨some 70, .mov (.t 69), none, []⟩,
    ⟨some 71, .fad 7 1 29 5 (.t 1), some (70, false), []⟩,
    ⟨some 72, .ld (.one (.int .u8)) 5 (.t 71), some (70, false), []⟩,
    ⟨some 73, .icmp .neq (.t 72) (.c (.one (.int .u8)) [.int 0]), some (70, false), []⟩,
    ⟨some 74, .mov (.t 73), some (70, false), []⟩,
    ⟨some 75, .fad 5 1 61 4 (.t 3), some (74, true), []⟩,
    ⟨some 76, .ld (.one (.bool)) 4 (.t 75), some (74, true), []⟩,
    ⟨some 77, .not (.t 76), some (74, true), []⟩,
    ⟨some 78, .pick (.t 74) (.t 77) (.c (.one (.bool)) [.bool false]), some (70, false), []⟩,
    ⟨some 79, .pick (.t 70) (.c (.one (.bool)) [.bool true]) (.t 78), none, []⟩,
    ⟨some 80, .mov (.t 79), none, []⟩,
    ⟨some 81, .fad 12 1 29 26 (.t 1), some (80, false), []⟩,
    ⟨some 82, .ld (.one (.sl 44)) 26 (.t 81), some (80, false), []⟩,
    ⟨some 83, .lenL (.t 82), some (80, false), []⟩,
    ⟨some 84, .icmp .gtr (.t 83) (.c (.one (.int .i64)) [.int 0]), some (80, false), []⟩,
    ⟨some 85, .mov (.t 84), some (80, false), []⟩,
    ⟨some 86, .fad 7 1 61 4 (.t 3), some (85, true), []⟩,
    ⟨some 87, .ld (.one (.bool)) 4 (.t 86), some (85, true), []⟩,
    ⟨some 88, .not (.t 87), some (85, true), []⟩,
    ⟨some 89, .pick (.t 85) (.t 88) (.c (.one (.bool)) [.bool false]), some (80, false), []⟩,
    ⟨some 90, .pick (.t 80) (.c (.one (.bool)) [.bool true]) (.t 89), none, []⟩,
    ⟨some 91, .mov (.t 90), none, []⟩,
    ⟨some 92, .fad 6 1 61 4 (.t 3), some (91, false), []⟩,
    ⟨some 93, .ld (.one (.bool)) 4 (.t 92), some (91, false), []⟩,
    ⟨some 94, .not (.t 93), some (91, false), []⟩,
    ⟨some 95, .mov (.t 94), some (91, false), []⟩,
    ⟨some 96, .fad 8 4 29 25 (.t 1), some (95, true), []⟩,
    ⟨some 97, .ld (.agg [.int .i64, .int .i64, .str, .sl 55]) 25 (.t 96), some (95, true), []⟩,
    ⟨some 98, .bld (.agg [.int .i64, .int .i64, .str, .sl 55]) [.int 0, .int 0, .str [], .nils] [], some (95, true), []⟩,
    ⟨some 99, .call 14 [(.agg [.int .i64, .int .i64, .str, .sl 55]), (.agg [.int .i64, .int .i64, .str, .sl 55])] [(.one (.bool))] [(.t 97), (.t 98)], some (95, true), []⟩,
    ⟨some 100, .not (.t 99), some (95, true), []⟩,
    ⟨some 101, .pick (.t 95) (.t 100) (.c (.one (.bool)) [.bool false]), some (91, false), []⟩,
    ⟨some 102, .pick (.t 91) (.c (.one (.bool)) [.bool true]) (.t 101), none, []⟩] false 0))
  (.cond (.t 102) (.seq (.region [] [⟨some 2, .mov (.c (.one (.int .i64)) [.int 3]), none, []⟩] false 0)
  .ret)
  .skip))
  (.seq (.seq (.join [(.normal, { slots := [(1, .d (.one (.ref 29))), (3, .ptr 0 0), (124, .d (.one (.bool)))], objs := [.var (.agg [.bool, .bool, .bool, .bool, .bool, .bool, .bool, .bool, .int .i64])] })] (.region [] [⟨some 103, .fad 8 1 61 3 (.t 3), none, []⟩,
    ⟨some 104, .ld (.one (.int .i64)) 3 (.t 103), none, []⟩,
    ⟨some 105, .icmp .geq (.t 104) (.c (.one (.int .i64)) [.int 0]), none, []⟩,
    ⟨some 106, .mov (.t 105), none, []⟩,
    ⟨some 107, .fad 13 1 29 27 (.t 1), some (106, true), []⟩,
    ⟨some 108, .ld (.one (.sl 29)) 27 (.t 107), some (106, true), []⟩,
    ⟨some 109, .lenL (.t 108), some (106, true), []⟩,
    ⟨some 110, .fad 8 1 61 3 (.t 3), some (106, true), []⟩,
    ⟨some 111, .ld (.one (.int .i64)) 3 (.t 110), some (106, true), []⟩,
    ⟨some 112, .icmp .neq (.t 109) (.t 111), some (106, true), []⟩,
    ⟨some 113, .pick (.t 106) (.t 112) (.c (.one (.bool)) [.bool false]), none, []⟩,
    ⟨some 114, .mov (.t 113), none, []⟩,
    ⟨some 115, .fad 8 1 61 3 (.t 3), some (114, false), []⟩,
    ⟨some 116, .ld (.one (.int .i64)) 3 (.t 115), some (114, false), []⟩,
    ⟨some 117, .icmp .lss (.t 116) (.c (.one (.int .i64)) [.int 0]), some (114, false), []⟩,
    ⟨some 118, .mov (.t 117), some (114, false), []⟩,
    ⟨some 119, .fad 13 1 29 27 (.t 1), some (118, true), []⟩,
    ⟨some 120, .ld (.one (.sl 29)) 27 (.t 119), some (118, true), []⟩,
    ⟨some 121, .lenL (.t 120), some (118, true), []⟩,
    ⟨some 122, .icmp .eql (.t 121) (.c (.one (.int .i64)) [.int 0]), some (118, true), []⟩,
    ⟨some 123, .pick (.t 118) (.t 122) (.c (.one (.bool)) [.bool false]), some (114, false), []⟩,
    ⟨some 124, .pick (.t 114) (.c (.one (.bool)) [.bool true]) (.t 123), none, []⟩] false 0))
  (.cond (.t 124) (.seq (.region [] [⟨some 2, .mov (.c (.one (.int .i64)) [.int 3]), none, []⟩] false 0)
  .ret)
  .skip))
  (.seq (.seq (.join [(.normal, { slots := [(1, .d (.one (.ref 29))), (3, .ptr 0 0), (153, .d (.one (.bool)))], objs := [.var (.agg [.bool, .bool, .bool, .bool, .bool, .bool, .bool, .bool, .int .i64])] })] (.region [] [⟨some 125, .fad 0 1 61 4 (.t 3), none, []⟩,
    ⟨some 126, .ld (.one (.bool)) 4 (.t 125), none, []⟩,
    ⟨some 127, .mov (.t 126), none, []⟩,
    ⟨some 128, .fad 1 1 29 9 (.t 1), some (127, true), []⟩,
    ⟨some 129, .ld (.one (.str)) 9 (.t 128), some (127, true), []⟩,
    ⟨some 130, .call 41 [(.one (.str))] [(.one (.bool))] [(.t 129)], some (127, true), []⟩,
    ⟨some 131, .not (.t 130), some (127, true), []⟩,
    ⟨some 132, .pick (.t 127) (.t 131) (.c (.one (.bool)) [.bool false]), none, []⟩,
    ⟨some 133, .mov (.t 132), none, []⟩,
    ⟨some 134, .fad 0 1 29 3 (.t 1), some (133, true), []⟩,
    ⟨some 135, .ld (.one (.int .i64)) 3 (.t 134), some (133, true), []⟩,
    ⟨some 136, .icmp .eql (.t 135) (.c (.one (.int .i64)) [.int 13]), some (133, true), []⟩,
    ⟨some 137, .mov (.t 136), some (133, true), []⟩,
    ⟨some 138, .fad 1 1 29 9 (.t 1), some (137, true), []⟩,
    ⟨some 139, .ld (.one (.str)) 9 (.t 138), some (137, true), []⟩,
    ⟨some 140, .scmp .eql (.t 139) (.c (.one (.str)) [.str ([] : List UInt8)]), some (137, true), []⟩,
    ⟨some 141, .pick (.t 137) (.t 140) (.c (.one (.bool)) [.bool false]), some (133, true), []⟩,
    ⟨some 142, .not (.t 141), some (133, true), []⟩,
    ⟨some 143, .pick (.t 133) (.t 142) (.c (.one (.bool)) [.bool false]), none, []⟩,
    ⟨some 144, .mov (.t 143), none, []⟩,
    ⟨some 145, .fad 1 1 61 4 (.t 3), some (144, false), []⟩,
    ⟨some 146, .ld (.one (.bool)) 4 (.t 145), some (144, false), []⟩,
    ⟨some 147, .mov (.t 146), some (144, false), []⟩,
    ⟨some 148, .fad 2 1 29 9 (.t 1), some (147, true), []⟩,
    ⟨some 149, .ld (.one (.str)) 9 (.t 148), some (147, true), []⟩,
    ⟨some 150, .call 41 [(.one (.str))] [(.one (.bool))] [(.t 149)], some (147, true), []⟩,
    ⟨some 151, .not (.t 150), some (147, true), []⟩,
    ⟨some 152, .pick (.t 147) (.t 151) (.c (.one (.bool)) [.bool false]), some (144, false), []⟩,
    ⟨some 153, .pick (.t 144) (.c (.one (.bool)) [.bool true]) (.t 152), none, []⟩] false 0))
  (.cond (.t 153) (.seq (.region [] [⟨some 2, .mov (.c (.one (.int .i64)) [.int 15]), none, []⟩] false 0)
  .ret)
  .skip))
  (.seq (.seq (.region [] [⟨some 154, .fad 6 1 61 4 (.t 3), none, []⟩,
    ⟨some 155, .ld (.one (.bool)) 4 (.t 154), none, []⟩] false 0)
  (.cond (.t 155) (.seq (.region [] [⟨some 156, .fad 8 4 29 25 (.t 1), none, []⟩,
    ⟨some 157, .ld (.agg [.int .i64, .int .i64, .str, .sl 55]) 25 (.t 156), none, []⟩,
    ⟨some 158, .call 42 [(.agg [.int .i64, .int .i64, .str, .sl 55])] [(.one (.int .i64))] [(.t 157)], none, []⟩,
    ⟨some 4, .mov (.t 158), none, []⟩] false 0)
  (.seq (.region [] [⟨some 159, .mov (.t 4), none, []⟩,
    ⟨some 160, .icmp .neq (.t 159) (.c (.one (.int .i64)) [.int 0]), none, []⟩] false 0)
  (.cond (.t 160) (.seq (.region [] [⟨some 161, .mov (.t 4), none, []⟩,
    ⟨some 2, .mov (.t 161), none, []⟩] false 0)
  .ret)
  .skip)))
  .skip))
  (.seq (.region [] [⟨some 162, .ld (.agg [.int .i64, .str, .str, .sl 9, .int .i64, .int .i64, .int .i64, .int .u8, .int .i64, .int .i64, .str, .sl 55, .sl 44, .sl 29]) 29 (.t 1), none, []⟩,
    ⟨some 163, .call 43 [(.agg [.int .i64, .str, .str, .sl 9, .int .i64, .int .i64, .int .i64, .int .u8, .int .i64, .int .i64, .str, .sl 55, .sl 44, .sl 29])] [(.one (.int .i64))] [(.t 162)], none, []⟩,
    ⟨some 2, .mov (.t 163), none, []⟩] false 0)
  .ret)))))))) }
/-- clapperbridge/lens.Node -/
noncomputable def lens_Node (E : Env) (p0 : Row) : Option (List Row) :=
  (if (decide (((at_ p0 0).toI) < 0)) = true then
    some (0, [.r [.dp p0], .r [.bool true]])
  else
    some (0, [.r [.dp p0], .r [.bool (decide (((at_ p0 0).toI) ≥ 19))]])).bind fun x1 =>
    if ((at_ (hd x1.2.tail) 0).toB) = true then
      some [[.int 1]]
    else
      if (at_ (hd x1.2) 0).isDp = true then
        (E.pc n_lens_table [[.int ((at_ ((at_ (hd x1.2) 0).dpRow) 0).toI)]]).bind fun y2 =>
          (if (at_ (hd x1.2) 0).isDp = true then
            if (!(((at_ ((at_ (hd x1.2) 0).dpRow) 1).toS) == ([] : List UInt8))) = true then
              if (!((at_ (rowsAt y2 0) 0).toB)) = true then
                some (0, [.r [at_ (hd x1.2) 0], .r [.bool true], .r (rowsAt y2 0)])
              else
                if (at_ (hd x1.2) 0).isDp = true then
                  if (!(((at_ ((at_ (hd x1.2) 0).dpRow) 2).toS) == ([] : List UInt8))) = true then
                    if (!((at_ (rowsAt y2 0) 1).toB)) = true then
                      some (0, [.r [at_ (hd x1.2) 0], .r [.bool true], .r (rowsAt y2 0)])
                    else
                      if (at_ (hd x1.2) 0).isDp = true then
                        if (decide ((((at_ ((at_ (hd x1.2) 0).dpRow) 3).rows).length : Int) > 0)) = true then
                          if (!((at_ (rowsAt y2 0) 2).toB)) = true then
                            some (0, [.r [at_ (hd x1.2) 0], .r [.bool true], .r (rowsAt y2 0)])
                          else
                            if (at_ (hd x1.2) 0).isDp = true then
                              if (((at_ ((at_ (hd x1.2) 0).dpRow) 4).toI) != 0) = true then
                                if (!((at_ (rowsAt y2 0) 3).toB)) = true then
                                  some (0, [.r [at_ (hd x1.2) 0], .r [.bool true], .r (rowsAt y2 0)])
                                else
                                  if (at_ (hd x1.2) 0).isDp = true then
                                    if (((at_ ((at_ (hd x1.2) 0).dpRow) 5).toI) != 0) = true then
                                      if (!((at_ (rowsAt y2 0) 4).toB)) = true then
                                        some (0, [.r [at_ (hd x1.2) 0], .r [.bool true], .r (rowsAt y2 0)])
                                      else
                                        if (at_ (hd x1.2) 0).isDp = true then
                                          if (((at_ ((at_ (hd x1.2) 0).dpRow) 7).toI) != 0) = true then
                                            if (!((at_ (rowsAt y2 0) 5).toB)) = true then
                                              some (0, [.r [at_ (hd x1.2) 0], .r [.bool true], .r (rowsAt y2 0)])
                                            else
                                              if (at_ (hd x1.2) 0).isDp = true then
                                                if (decide ((((at_ ((at_ (hd x1.2) 0).dpRow) 12).rows).length : Int) > 0)) = true then
                                                  if (!((at_ (rowsAt y2 0) 7).toB)) = true then
                                                    some (0, [.r [at_ (hd x1.2) 0], .r [.bool true], .r (rowsAt y2 0)])
                                                  else
                                                    if (!((at_ (rowsAt y2 0) 6).toB)) = true then
                                                      if (at_ (hd x1.2) 0).isDp = true then
                                                        (E.pc n_value_Same [[at_ ((at_ (hd x1.2) 0).dpRow) 8, at_ ((at_ (hd x1.2) 0).dpRow) 9, at_ ((at_ (hd x1.2) 0).dpRow) 10, at_ ((at_ (hd x1.2) 0).dpRow) 11], [.int 0, .int 0, .str [], .nils]]).bind fun y3 =>
                                                          some (0, [.r [at_ (hd x1.2) 0], .r [.bool (!((at_ (rowsAt y3 0) 0).toB))], .r (rowsAt y2 0)])
                                                      else none
                                                    else
                                                      some (0, [.r [at_ (hd x1.2) 0], .r [.bool false], .r (rowsAt y2 0)])
                                                else
                                                  if (!((at_ (rowsAt y2 0) 6).toB)) = true then
                                                    if (at_ (hd x1.2) 0).isDp = true then
                                                      (E.pc n_value_Same [[at_ ((at_ (hd x1.2) 0).dpRow) 8, at_ ((at_ (hd x1.2) 0).dpRow) 9, at_ ((at_ (hd x1.2) 0).dpRow) 10, at_ ((at_ (hd x1.2) 0).dpRow) 11], [.int 0, .int 0, .str [], .nils]]).bind fun y4 =>
                                                        some (0, [.r [at_ (hd x1.2) 0], .r [.bool (!((at_ (rowsAt y4 0) 0).toB))], .r (rowsAt y2 0)])
                                                    else none
                                                  else
                                                    some (0, [.r [at_ (hd x1.2) 0], .r [.bool false], .r (rowsAt y2 0)])
                                              else none
                                          else
                                            if (at_ (hd x1.2) 0).isDp = true then
                                              if (decide ((((at_ ((at_ (hd x1.2) 0).dpRow) 12).rows).length : Int) > 0)) = true then
                                                if (!((at_ (rowsAt y2 0) 7).toB)) = true then
                                                  some (0, [.r [at_ (hd x1.2) 0], .r [.bool true], .r (rowsAt y2 0)])
                                                else
                                                  if (!((at_ (rowsAt y2 0) 6).toB)) = true then
                                                    if (at_ (hd x1.2) 0).isDp = true then
                                                      (E.pc n_value_Same [[at_ ((at_ (hd x1.2) 0).dpRow) 8, at_ ((at_ (hd x1.2) 0).dpRow) 9, at_ ((at_ (hd x1.2) 0).dpRow) 10, at_ ((at_ (hd x1.2) 0).dpRow) 11], [.int 0, .int 0, .str [], .nils]]).bind fun y5 =>
                                                        some (0, [.r [at_ (hd x1.2) 0], .r [.bool (!((at_ (rowsAt y5 0) 0).toB))], .r (rowsAt y2 0)])
                                                    else none
                                                  else
                                                    some (0, [.r [at_ (hd x1.2) 0], .r [.bool false], .r (rowsAt y2 0)])
                                              else
                                                if (!((at_ (rowsAt y2 0) 6).toB)) = true then
                                                  if (at_ (hd x1.2) 0).isDp = true then
                                                    (E.pc n_value_Same [[at_ ((at_ (hd x1.2) 0).dpRow) 8, at_ ((at_ (hd x1.2) 0).dpRow) 9, at_ ((at_ (hd x1.2) 0).dpRow) 10, at_ ((at_ (hd x1.2) 0).dpRow) 11], [.int 0, .int 0, .str [], .nils]]).bind fun y6 =>
                                                      some (0, [.r [at_ (hd x1.2) 0], .r [.bool (!((at_ (rowsAt y6 0) 0).toB))], .r (rowsAt y2 0)])
                                                  else none
                                                else
                                                  some (0, [.r [at_ (hd x1.2) 0], .r [.bool false], .r (rowsAt y2 0)])
                                            else none
                                        else none
                                    else
                                      if (at_ (hd x1.2) 0).isDp = true then
                                        if (((at_ ((at_ (hd x1.2) 0).dpRow) 6).toI) != 0) = true then
                                          if (!((at_ (rowsAt y2 0) 4).toB)) = true then
                                            some (0, [.r [at_ (hd x1.2) 0], .r [.bool true], .r (rowsAt y2 0)])
                                          else
                                            if (at_ (hd x1.2) 0).isDp = true then
                                              if (((at_ ((at_ (hd x1.2) 0).dpRow) 7).toI) != 0) = true then
                                                if (!((at_ (rowsAt y2 0) 5).toB)) = true then
                                                  some (0, [.r [at_ (hd x1.2) 0], .r [.bool true], .r (rowsAt y2 0)])
                                                else
                                                  if (at_ (hd x1.2) 0).isDp = true then
                                                    if (decide ((((at_ ((at_ (hd x1.2) 0).dpRow) 12).rows).length : Int) > 0)) = true then
                                                      if (!((at_ (rowsAt y2 0) 7).toB)) = true then
                                                        some (0, [.r [at_ (hd x1.2) 0], .r [.bool true], .r (rowsAt y2 0)])
                                                      else
                                                        if (!((at_ (rowsAt y2 0) 6).toB)) = true then
                                                          if (at_ (hd x1.2) 0).isDp = true then
                                                            (E.pc n_value_Same [[at_ ((at_ (hd x1.2) 0).dpRow) 8, at_ ((at_ (hd x1.2) 0).dpRow) 9, at_ ((at_ (hd x1.2) 0).dpRow) 10, at_ ((at_ (hd x1.2) 0).dpRow) 11], [.int 0, .int 0, .str [], .nils]]).bind fun y7 =>
                                                              some (0, [.r [at_ (hd x1.2) 0], .r [.bool (!((at_ (rowsAt y7 0) 0).toB))], .r (rowsAt y2 0)])
                                                          else none
                                                        else
                                                          some (0, [.r [at_ (hd x1.2) 0], .r [.bool false], .r (rowsAt y2 0)])
                                                    else
                                                      if (!((at_ (rowsAt y2 0) 6).toB)) = true then
                                                        if (at_ (hd x1.2) 0).isDp = true then
                                                          (E.pc n_value_Same [[at_ ((at_ (hd x1.2) 0).dpRow) 8, at_ ((at_ (hd x1.2) 0).dpRow) 9, at_ ((at_ (hd x1.2) 0).dpRow) 10, at_ ((at_ (hd x1.2) 0).dpRow) 11], [.int 0, .int 0, .str [], .nils]]).bind fun y8 =>
                                                            some (0, [.r [at_ (hd x1.2) 0], .r [.bool (!((at_ (rowsAt y8 0) 0).toB))], .r (rowsAt y2 0)])
                                                        else none
                                                      else
                                                        some (0, [.r [at_ (hd x1.2) 0], .r [.bool false], .r (rowsAt y2 0)])
                                                  else none
                                              else
                                                if (at_ (hd x1.2) 0).isDp = true then
                                                  if (decide ((((at_ ((at_ (hd x1.2) 0).dpRow) 12).rows).length : Int) > 0)) = true then
                                                    if (!((at_ (rowsAt y2 0) 7).toB)) = true then
                                                      some (0, [.r [at_ (hd x1.2) 0], .r [.bool true], .r (rowsAt y2 0)])
                                                    else
                                                      if (!((at_ (rowsAt y2 0) 6).toB)) = true then
                                                        if (at_ (hd x1.2) 0).isDp = true then
                                                          (E.pc n_value_Same [[at_ ((at_ (hd x1.2) 0).dpRow) 8, at_ ((at_ (hd x1.2) 0).dpRow) 9, at_ ((at_ (hd x1.2) 0).dpRow) 10, at_ ((at_ (hd x1.2) 0).dpRow) 11], [.int 0, .int 0, .str [], .nils]]).bind fun y9 =>
                                                            some (0, [.r [at_ (hd x1.2) 0], .r [.bool (!((at_ (rowsAt y9 0) 0).toB))], .r (rowsAt y2 0)])
                                                        else none
                                                      else
                                                        some (0, [.r [at_ (hd x1.2) 0], .r [.bool false], .r (rowsAt y2 0)])
                                                  else
                                                    if (!((at_ (rowsAt y2 0) 6).toB)) = true then
                                                      if (at_ (hd x1.2) 0).isDp = true then
                                                        (E.pc n_value_Same [[at_ ((at_ (hd x1.2) 0).dpRow) 8, at_ ((at_ (hd x1.2) 0).dpRow) 9, at_ ((at_ (hd x1.2) 0).dpRow) 10, at_ ((at_ (hd x1.2) 0).dpRow) 11], [.int 0, .int 0, .str [], .nils]]).bind fun y10 =>
                                                          some (0, [.r [at_ (hd x1.2) 0], .r [.bool (!((at_ (rowsAt y10 0) 0).toB))], .r (rowsAt y2 0)])
                                                      else none
                                                    else
                                                      some (0, [.r [at_ (hd x1.2) 0], .r [.bool false], .r (rowsAt y2 0)])
                                                else none
                                            else none
                                        else
                                          if (at_ (hd x1.2) 0).isDp = true then
                                            if (((at_ ((at_ (hd x1.2) 0).dpRow) 7).toI) != 0) = true then
                                              if (!((at_ (rowsAt y2 0) 5).toB)) = true then
                                                some (0, [.r [at_ (hd x1.2) 0], .r [.bool true], .r (rowsAt y2 0)])
                                              else
                                                if (at_ (hd x1.2) 0).isDp = true then
                                                  if (decide ((((at_ ((at_ (hd x1.2) 0).dpRow) 12).rows).length : Int) > 0)) = true then
                                                    if (!((at_ (rowsAt y2 0) 7).toB)) = true then
                                                      some (0, [.r [at_ (hd x1.2) 0], .r [.bool true], .r (rowsAt y2 0)])
                                                    else
                                                      if (!((at_ (rowsAt y2 0) 6).toB)) = true then
                                                        if (at_ (hd x1.2) 0).isDp = true then
                                                          (E.pc n_value_Same [[at_ ((at_ (hd x1.2) 0).dpRow) 8, at_ ((at_ (hd x1.2) 0).dpRow) 9, at_ ((at_ (hd x1.2) 0).dpRow) 10, at_ ((at_ (hd x1.2) 0).dpRow) 11], [.int 0, .int 0, .str [], .nils]]).bind fun y11 =>
                                                            some (0, [.r [at_ (hd x1.2) 0], .r [.bool (!((at_ (rowsAt y11 0) 0).toB))], .r (rowsAt y2 0)])
                                                        else none
                                                      else
                                                        some (0, [.r [at_ (hd x1.2) 0], .r [.bool false], .r (rowsAt y2 0)])
                                                  else
                                                    if (!((at_ (rowsAt y2 0) 6).toB)) = true then
                                                      if (at_ (hd x1.2) 0).isDp = true then
                                                        (E.pc n_value_Same [[at_ ((at_ (hd x1.2) 0).dpRow) 8, at_ ((at_ (hd x1.2) 0).dpRow) 9, at_ ((at_ (hd x1.2) 0).dpRow) 10, at_ ((at_ (hd x1.2) 0).dpRow) 11], [.int 0, .int 0, .str [], .nils]]).bind fun y12 =>
                                                          some (0, [.r [at_ (hd x1.2) 0], .r [.bool (!((at_ (rowsAt y12 0) 0).toB))], .r (rowsAt y2 0)])
                                                      else none
                                                    else
                                                      some (0, [.r [at_ (hd x1.2) 0], .r [.bool false], .r (rowsAt y2 0)])
                                                else none
                                            else
                                              if (at_ (hd x1.2) 0).isDp = true then
                                                if (decide ((((at_ ((at_ (hd x1.2) 0).dpRow) 12).rows).length : Int) > 0)) = true then
                                                  if (!((at_ (rowsAt y2 0) 7).toB)) = true then
                                                    some (0, [.r [at_ (hd x1.2) 0], .r [.bool true], .r (rowsAt y2 0)])
                                                  else
                                                    if (!((at_ (rowsAt y2 0) 6).toB)) = true then
                                                      if (at_ (hd x1.2) 0).isDp = true then
                                                        (E.pc n_value_Same [[at_ ((at_ (hd x1.2) 0).dpRow) 8, at_ ((at_ (hd x1.2) 0).dpRow) 9, at_ ((at_ (hd x1.2) 0).dpRow) 10, at_ ((at_ (hd x1.2) 0).dpRow) 11], [.int 0, .int 0, .str [], .nils]]).bind fun y13 =>
                                                          some (0, [.r [at_ (hd x1.2) 0], .r [.bool (!((at_ (rowsAt y13 0) 0).toB))], .r (rowsAt y2 0)])
                                                      else none
                                                    else
                                                      some (0, [.r [at_ (hd x1.2) 0], .r [.bool false], .r (rowsAt y2 0)])
                                                else
                                                  if (!((at_ (rowsAt y2 0) 6).toB)) = true then
                                                    if (at_ (hd x1.2) 0).isDp = true then
                                                      (E.pc n_value_Same [[at_ ((at_ (hd x1.2) 0).dpRow) 8, at_ ((at_ (hd x1.2) 0).dpRow) 9, at_ ((at_ (hd x1.2) 0).dpRow) 10, at_ ((at_ (hd x1.2) 0).dpRow) 11], [.int 0, .int 0, .str [], .nils]]).bind fun y14 =>
                                                        some (0, [.r [at_ (hd x1.2) 0], .r [.bool (!((at_ (rowsAt y14 0) 0).toB))], .r (rowsAt y2 0)])
                                                    else none
                                                  else
                                                    some (0, [.r [at_ (hd x1.2) 0], .r [.bool false], .r (rowsAt y2 0)])
                                              else none
                                          else none
                                      else none
                                  else none
                              else
                                if (at_ (hd x1.2) 0).isDp = true then
                                  if (((at_ ((at_ (hd x1.2) 0).dpRow) 5).toI) != 0) = true then
                                    if (!((at_ (rowsAt y2 0) 4).toB)) = true then
                                      some (0, [.r [at_ (hd x1.2) 0], .r [.bool true], .r (rowsAt y2 0)])
                                    else
                                      if (at_ (hd x1.2) 0).isDp = true then
                                        if (((at_ ((at_ (hd x1.2) 0).dpRow) 7).toI) != 0) = true then
                                          if (!((at_ (rowsAt y2 0) 5).toB)) = true then
                                            some (0, [.r [at_ (hd x1.2) 0], .r [.bool true], .r (rowsAt y2 0)])
                                          else
                                            if (at_ (hd x1.2) 0).isDp = true then
                                              if (decide ((((at_ ((at_ (hd x1.2) 0).dpRow) 12).rows).length : Int) > 0)) = true then
                                                if (!((at_ (rowsAt y2 0) 7).toB)) = true then
                                                  some (0, [.r [at_ (hd x1.2) 0], .r [.bool true], .r (rowsAt y2 0)])
                                                else
                                                  if (!((at_ (rowsAt y2 0) 6).toB)) = true then
                                                    if (at_ (hd x1.2) 0).isDp = true then
                                                      (E.pc n_value_Same [[at_ ((at_ (hd x1.2) 0).dpRow) 8, at_ ((at_ (hd x1.2) 0).dpRow) 9, at_ ((at_ (hd x1.2) 0).dpRow) 10, at_ ((at_ (hd x1.2) 0).dpRow) 11], [.int 0, .int 0, .str [], .nils]]).bind fun y15 =>
                                                        some (0, [.r [at_ (hd x1.2) 0], .r [.bool (!((at_ (rowsAt y15 0) 0).toB))], .r (rowsAt y2 0)])
                                                    else none
                                                  else
                                                    some (0, [.r [at_ (hd x1.2) 0], .r [.bool false], .r (rowsAt y2 0)])
                                              else
                                                if (!((at_ (rowsAt y2 0) 6).toB)) = true then
                                                  if (at_ (hd x1.2) 0).isDp = true then
                                                    (E.pc n_value_Same [[at_ ((at_ (hd x1.2) 0).dpRow) 8, at_ ((at_ (hd x1.2) 0).dpRow) 9, at_ ((at_ (hd x1.2) 0).dpRow) 10, at_ ((at_ (hd x1.2) 0).dpRow) 11], [.int 0, .int 0, .str [], .nils]]).bind fun y16 =>
                                                      some (0, [.r [at_ (hd x1.2) 0], .r [.bool (!((at_ (rowsAt y16 0) 0).toB))], .r (rowsAt y2 0)])
                                                  else none
                                                else
                                                  some (0, [.r [at_ (hd x1.2) 0], .r [.bool false], .r (rowsAt y2 0)])
                                            else none
                                        else
                                          if (at_ (hd x1.2) 0).isDp = true then
                                            if (decide ((((at_ ((at_ (hd x1.2) 0).dpRow) 12).rows).length : Int) > 0)) = true then
                                              if (!((at_ (rowsAt y2 0) 7).toB)) = true then
                                                some (0, [.r [at_ (hd x1.2) 0], .r [.bool true], .r (rowsAt y2 0)])
                                              else
                                                if (!((at_ (rowsAt y2 0) 6).toB)) = true then
                                                  if (at_ (hd x1.2) 0).isDp = true then
                                                    (E.pc n_value_Same [[at_ ((at_ (hd x1.2) 0).dpRow) 8, at_ ((at_ (hd x1.2) 0).dpRow) 9, at_ ((at_ (hd x1.2) 0).dpRow) 10, at_ ((at_ (hd x1.2) 0).dpRow) 11], [.int 0, .int 0, .str [], .nils]]).bind fun y17 =>
                                                      some (0, [.r [at_ (hd x1.2) 0], .r [.bool (!((at_ (rowsAt y17 0) 0).toB))], .r (rowsAt y2 0)])
                                                  else none
                                                else
                                                  some (0, [.r [at_ (hd x1.2) 0], .r [.bool false], .r (rowsAt y2 0)])
                                            else
                                              if (!((at_ (rowsAt y2 0) 6).toB)) = true then
                                                if (at_ (hd x1.2) 0).isDp = true then
                                                  (E.pc n_value_Same [[at_ ((at_ (hd x1.2) 0).dpRow) 8, at_ ((at_ (hd x1.2) 0).dpRow) 9, at_ ((at_ (hd x1.2) 0).dpRow) 10, at_ ((at_ (hd x1.2) 0).dpRow) 11], [.int 0, .int 0, .str [], .nils]]).bind fun y18 =>
                                                    some (0, [.r [at_ (hd x1.2) 0], .r [.bool (!((at_ (rowsAt y18 0) 0).toB))], .r (rowsAt y2 0)])
                                                else none
                                              else
                                                some (0, [.r [at_ (hd x1.2) 0], .r [.bool false], .r (rowsAt y2 0)])
                                          else none
                                      else none
                                  else
                                    if (at_ (hd x1.2) 0).isDp = true then
                                      if (((at_ ((at_ (hd x1.2) 0).dpRow) 6).toI) != 0) = true then
                                        if (!((at_ (rowsAt y2 0) 4).toB)) = true then
                                          some (0, [.r [at_ (hd x1.2) 0], .r [.bool true], .r (rowsAt y2 0)])
                                        else
                                          if (at_ (hd x1.2) 0).isDp = true then
                                            if (((at_ ((at_ (hd x1.2) 0).dpRow) 7).toI) != 0) = true then
                                              if (!((at_ (rowsAt y2 0) 5).toB)) = true then
                                                some (0, [.r [at_ (hd x1.2) 0], .r [.bool true], .r (rowsAt y2 0)])
                                              else
                                                if (at_ (hd x1.2) 0).isDp = true then
                                                  if (decide ((((at_ ((at_ (hd x1.2) 0).dpRow) 12).rows).length : Int) > 0)) = true then
                                                    if (!((at_ (rowsAt y2 0) 7).toB)) = true then
                                                      some (0, [.r [at_ (hd x1.2) 0], .r [.bool true], .r (rowsAt y2 0)])
                                                    else
                                                      if (!((at_ (rowsAt y2 0) 6).toB)) = true then
                                                        if (at_ (hd x1.2) 0).isDp = true then
                                                          (E.pc n_value_Same [[at_ ((at_ (hd x1.2) 0).dpRow) 8, at_ ((at_ (hd x1.2) 0).dpRow) 9, at_ ((at_ (hd x1.2) 0).dpRow) 10, at_ ((at_ (hd x1.2) 0).dpRow) 11], [.int 0, .int 0, .str [], .nils]]).bind fun y19 =>
                                                            some (0, [.r [at_ (hd x1.2) 0], .r [.bool (!((at_ (rowsAt y19 0) 0).toB))], .r (rowsAt y2 0)])
                                                        else none
                                                      else
                                                        some (0, [.r [at_ (hd x1.2) 0], .r [.bool false], .r (rowsAt y2 0)])
                                                  else
                                                    if (!((at_ (rowsAt y2 0) 6).toB)) = true then
                                                      if (at_ (hd x1.2) 0).isDp = true then
                                                        (E.pc n_value_Same [[at_ ((at_ (hd x1.2) 0).dpRow) 8, at_ ((at_ (hd x1.2) 0).dpRow) 9, at_ ((at_ (hd x1.2) 0).dpRow) 10, at_ ((at_ (hd x1.2) 0).dpRow) 11], [.int 0, .int 0, .str [], .nils]]).bind fun y20 =>
                                                          some (0, [.r [at_ (hd x1.2) 0], .r [.bool (!((at_ (rowsAt y20 0) 0).toB))], .r (rowsAt y2 0)])
                                                      else none
                                                    else
                                                      some (0, [.r [at_ (hd x1.2) 0], .r [.bool false], .r (rowsAt y2 0)])
                                                else none
                                            else
                                              if (at_ (hd x1.2) 0).isDp = true then
                                                if (decide ((((at_ ((at_ (hd x1.2) 0).dpRow) 12).rows).length : Int) > 0)) = true then
                                                  if (!((at_ (rowsAt y2 0) 7).toB)) = true then
                                                    some (0, [.r [at_ (hd x1.2) 0], .r [.bool true], .r (rowsAt y2 0)])
                                                  else
                                                    if (!((at_ (rowsAt y2 0) 6).toB)) = true then
                                                      if (at_ (hd x1.2) 0).isDp = true then
                                                        (E.pc n_value_Same [[at_ ((at_ (hd x1.2) 0).dpRow) 8, at_ ((at_ (hd x1.2) 0).dpRow) 9, at_ ((at_ (hd x1.2) 0).dpRow) 10, at_ ((at_ (hd x1.2) 0).dpRow) 11], [.int 0, .int 0, .str [], .nils]]).bind fun y21 =>
                                                          some (0, [.r [at_ (hd x1.2) 0], .r [.bool (!((at_ (rowsAt y21 0) 0).toB))], .r (rowsAt y2 0)])
                                                      else none
                                                    else
                                                      some (0, [.r [at_ (hd x1.2) 0], .r [.bool false], .r (rowsAt y2 0)])
                                                else
                                                  if (!((at_ (rowsAt y2 0) 6).toB)) = true then
                                                    if (at_ (hd x1.2) 0).isDp = true then
                                                      (E.pc n_value_Same [[at_ ((at_ (hd x1.2) 0).dpRow) 8, at_ ((at_ (hd x1.2) 0).dpRow) 9, at_ ((at_ (hd x1.2) 0).dpRow) 10, at_ ((at_ (hd x1.2) 0).dpRow) 11], [.int 0, .int 0, .str [], .nils]]).bind fun y22 =>
                                                        some (0, [.r [at_ (hd x1.2) 0], .r [.bool (!((at_ (rowsAt y22 0) 0).toB))], .r (rowsAt y2 0)])
                                                    else none
                                                  else
                                                    some (0, [.r [at_ (hd x1.2) 0], .r [.bool false], .r (rowsAt y2 0)])
                                              else none
                                          else none
                                      else
                                        if (at_ (hd x1.2) 0).isDp = true then
                                          if (((at_ ((at_ (hd x1.2) 0).dpRow) 7).toI) != 0) = true then
                                            if (!((at_ (rowsAt y2 0) 5).toB)) = true then
                                              some (0, [.r [at_ (hd x1.2) 0], .r [.bool true], .r (rowsAt y2 0)])
                                            else
                                              if (at_ (hd x1.2) 0).isDp = true then
                                                if (decide ((((at_ ((at_ (hd x1.2) 0).dpRow) 12).rows).length : Int) > 0)) = true then
                                                  if (!((at_ (rowsAt y2 0) 7).toB)) = true then
                                                    some (0, [.r [at_ (hd x1.2) 0], .r [.bool true], .r (rowsAt y2 0)])
                                                  else
                                                    if (!((at_ (rowsAt y2 0) 6).toB)) = true then
                                                      if (at_ (hd x1.2) 0).isDp = true then
                                                        (E.pc n_value_Same [[at_ ((at_ (hd x1.2) 0).dpRow) 8, at_ ((at_ (hd x1.2) 0).dpRow) 9, at_ ((at_ (hd x1.2) 0).dpRow) 10, at_ ((at_ (hd x1.2) 0).dpRow) 11], [.int 0, .int 0, .str [], .nils]]).bind fun y23 =>
                                                          some (0, [.r [at_ (hd x1.2) 0], .r [.bool (!((at_ (rowsAt y23 0) 0).toB))], .r (rowsAt y2 0)])
                                                      else none
                                                    else
                                                      some (0, [.r [at_ (hd x1.2) 0], .r [.bool false], .r (rowsAt y2 0)])
                                                else
                                                  if (!((at_ (rowsAt y2 0) 6).toB)) = true then
                                                    if (at_ (hd x1.2) 0).isDp = true then
                                                      (E.pc n_value_Same [[at_ ((at_ (hd x1.2) 0).dpRow) 8, at_ ((at_ (hd x1.2) 0).dpRow) 9, at_ ((at_ (hd x1.2) 0).dpRow) 10, at_ ((at_ (hd x1.2) 0).dpRow) 11], [.int 0, .int 0, .str [], .nils]]).bind fun y24 =>
                                                        some (0, [.r [at_ (hd x1.2) 0], .r [.bool (!((at_ (rowsAt y24 0) 0).toB))], .r (rowsAt y2 0)])
                                                    else none
                                                  else
                                                    some (0, [.r [at_ (hd x1.2) 0], .r [.bool false], .r (rowsAt y2 0)])
                                              else none
                                          else
                                            if (at_ (hd x1.2) 0).isDp = true then
                                              if (decide ((((at_ ((at_ (hd x1.2) 0).dpRow) 12).rows).length : Int) > 0)) = true then
                                                if (!((at_ (rowsAt y2 0) 7).toB)) = true then
                                                  some (0, [.r [at_ (hd x1.2) 0], .r [.bool true], .r (rowsAt y2 0)])
                                                else
                                                  if (!((at_ (rowsAt y2 0) 6).toB)) = true then
                                                    if (at_ (hd x1.2) 0).isDp = true then
                                                      (E.pc n_value_Same [[at_ ((at_ (hd x1.2) 0).dpRow) 8, at_ ((at_ (hd x1.2) 0).dpRow) 9, at_ ((at_ (hd x1.2) 0).dpRow) 10, at_ ((at_ (hd x1.2) 0).dpRow) 11], [.int 0, .int 0, .str [], .nils]]).bind fun y25 =>
                                                        some (0, [.r [at_ (hd x1.2) 0], .r [.bool (!((at_ (rowsAt y25 0) 0).toB))], .r (rowsAt y2 0)])
                                                    else none
                                                  else
                                                    some (0, [.r [at_ (hd x1.2) 0], .r [.bool false], .r (rowsAt y2 0)])
                                              else
                                                if (!((at_ (rowsAt y2 0) 6).toB)) = true then
                                                  if (at_ (hd x1.2) 0).isDp = true then
                                                    (E.pc n_value_Same [[at_ ((at_ (hd x1.2) 0).dpRow) 8, at_ ((at_ (hd x1.2) 0).dpRow) 9, at_ ((at_ (hd x1.2) 0).dpRow) 10, at_ ((at_ (hd x1.2) 0).dpRow) 11], [.int 0, .int 0, .str [], .nils]]).bind fun y26 =>
                                                      some (0, [.r [at_ (hd x1.2) 0], .r [.bool (!((at_ (rowsAt y26 0) 0).toB))], .r (rowsAt y2 0)])
                                                  else none
                                                else
                                                  some (0, [.r [at_ (hd x1.2) 0], .r [.bool false], .r (rowsAt y2 0)])
                                            else none
                                        else none
                                    else none
                                else none
                            else none
                        else
                          if (at_ (hd x1.2) 0).isDp = true then
                            if (((at_ ((at_ (hd x1.2) 0).dpRow) 4).toI) != 0) = true then
                              if (!((at_ (rowsAt y2 0) 3).toB)) = true then
                                some (0, [.r [at_ (hd x1.2) 0], .r [.bool true], .r (rowsAt y2 0)])
                              else
                                if (at_ (hd x1.2) 0).isDp = true then
                                  if (((at_ ((at_ (hd x1.2) 0).dpRow) 5).toI) != 0) = true then
                                    if (!((at_ (rowsAt y2 0) 4).toB)) = true then
                                      some (0, [.r [at_ (hd x1.2) 0], .r [.bool true], .r (rowsAt y2 0)])
                                    else
                                      if (at_ (hd x1.2) 0).isDp = true then
                                        if (((at_ ((at_ (hd x1.2) 0).dpRow) 7).toI) != 0) = true then
                                          if (!((at_ (rowsAt y2 0) 5).toB)) = true then
                                            some (0, [.r [at_ (hd x1.2) 0], .r [.bool true], .r (rowsAt y2 0)])
                                          else
                                            if (at_ (hd x1.2) 0).isDp = true then
                                              if (decide ((((at_ ((at_ (hd x1.2) 0).dpRow) 12).rows).length : Int) > 0)) = true then
                                                if (!((at_ (rowsAt y2 0) 7).toB)) = true then
                                                  some (0, [.r [at_ (hd x1.2) 0], .r [.bool true], .r (rowsAt y2 0)])
                                                else
                                                  if (!((at_ (rowsAt y2 0) 6).toB)) = true then
                                                    if (at_ (hd x1.2) 0).isDp = true then
                                                      (E.pc n_value_Same [[at_ ((at_ (hd x1.2) 0).dpRow) 8, at_ ((at_ (hd x1.2) 0).dpRow) 9, at_ ((at_ (hd x1.2) 0).dpRow) 10, at_ ((at_ (hd x1.2) 0).dpRow) 11], [.int 0, .int 0, .str [], .nils]]).bind fun y27 =>
                                                        some (0, [.r [at_ (hd x1.2) 0], .r [.bool (!((at_ (rowsAt y27 0) 0).toB))], .r (rowsAt y2 0)])
                                                    else none
                                                  else
                                                    some (0, [.r [at_ (hd x1.2) 0], .r [.bool false], .r (rowsAt y2 0)])
                                              else
                                                if (!((at_ (rowsAt y2 0) 6).toB)) = true then
                                                  if (at_ (hd x1.2) 0).isDp = true then
                                                    (E.pc n_value_Same [[at_ ((at_ (hd x1.2) 0).dpRow) 8, at_ ((at_ (hd x1.2) 0).dpRow) 9, at_ ((at_ (hd x1.2) 0).dpRow) 10, at_ ((at_ (hd x1.2) 0).dpRow) 11], [.int 0, .int 0, .str [], .nils]]).bind fun y28 =>
                                                      some (0, [.r [at_ (hd x1.2) 0], .r [.bool (!((at_ (rowsAt y28 0) 0).toB))], .r (rowsAt y2 0)])
                                                  else none
                                                else
                                                  some (0, [.r [at_ (hd x1.2) 0], .r [.bool false], .r (rowsAt y2 0)])
                                            else none
                                        else
                                          if (at_ (hd x1.2) 0).isDp = true then
                                            if (decide ((((at_ ((at_ (hd x1.2) 0).dpRow) 12).rows).length : Int) > 0)) = true then
                                              if (!((at_ (rowsAt y2 0) 7).toB)) = true then
                                                some (0, [.r [at_ (hd x1.2) 0], .r [.bool true], .r (rowsAt y2 0)])
                                              else
                                                if (!((at_ (rowsAt y2 0) 6).toB)) = true then
                                                  if (at_ (hd x1.2) 0).isDp = true then
                                                    (E.pc n_value_Same [[at_ ((at_ (hd x1.2) 0).dpRow) 8, at_ ((at_ (hd x1.2) 0).dpRow) 9, at_ ((at_ (hd x1.2) 0).dpRow) 10, at_ ((at_ (hd x1.2) 0).dpRow) 11], [.int 0, .int 0, .str [], .nils]]).bind fun y29 =>
                                                      some (0, [.r [at_ (hd x1.2) 0], .r [.bool (!((at_ (rowsAt y29 0) 0).toB))], .r (rowsAt y2 0)])
                                                  else none
                                                else
                                                  some (0, [.r [at_ (hd x1.2) 0], .r [.bool false], .r (rowsAt y2 0)])
                                            else
                                              if (!((at_ (rowsAt y2 0) 6).toB)) = true then
                                                if (at_ (hd x1.2) 0).isDp = true then
                                                  (E.pc n_value_Same [[at_ ((at_ (hd x1.2) 0).dpRow) 8, at_ ((at_ (hd x1.2) 0).dpRow) 9, at_ ((at_ (hd x1.2) 0).dpRow) 10, at_ ((at_ (hd x1.2) 0).dpRow) 11], [.int 0, .int 0, .str [], .nils]]).bind fun y30 =>
                                                    some (0, [.r [at_ (hd x1.2) 0], .r [.bool (!((at_ (rowsAt y30 0) 0).toB))], .r (rowsAt y2 0)])
                                                else none
                                              else
                                                some (0, [.r [at_ (hd x1.2) 0], .r [.bool false], .r (rowsAt y2 0)])
                                          else none
                                      else none
                                  else
                                    if (at_ (hd x1.2) 0).isDp = true then
                                      if (((at_ ((at_ (hd x1.2) 0).dpRow) 6).toI) != 0) = true then
                                        if (!((at_ (rowsAt y2 0) 4).toB)) = true then
                                          some (0, [.r [at_ (hd x1.2) 0], .r [.bool true], .r (rowsAt y2 0)])
                                        else
                                          if (at_ (hd x1.2) 0).isDp = true then
                                            if (((at_ ((at_ (hd x1.2) 0).dpRow) 7).toI) != 0) = true then
                                              if (!((at_ (rowsAt y2 0) 5).toB)) = true then
                                                some (0, [.r [at_ (hd x1.2) 0], .r [.bool true], .r (rowsAt y2 0)])
                                              else
                                                if (at_ (hd x1.2) 0).isDp = true then
                                                  if (decide ((((at_ ((at_ (hd x1.2) 0).dpRow) 12).rows).length : Int) > 0)) = true then
                                                    if (!((at_ (rowsAt y2 0) 7).toB)) = true then
                                                      some (0, [.r [at_ (hd x1.2) 0], .r [.bool true], .r (rowsAt y2 0)])
                                                    else
                                                      if (!((at_ (rowsAt y2 0) 6).toB)) = true then
                                                        if (at_ (hd x1.2) 0).isDp = true then
                                                          (E.pc n_value_Same [[at_ ((at_ (hd x1.2) 0).dpRow) 8, at_ ((at_ (hd x1.2) 0).dpRow) 9, at_ ((at_ (hd x1.2) 0).dpRow) 10, at_ ((at_ (hd x1.2) 0).dpRow) 11], [.int 0, .int 0, .str [], .nils]]).bind fun y31 =>
                                                            some (0, [.r [at_ (hd x1.2) 0], .r [.bool (!((at_ (rowsAt y31 0) 0).toB))], .r (rowsAt y2 0)])
                                                        else none
                                                      else
                                                        some (0, [.r [at_ (hd x1.2) 0], .r [.bool false], .r (rowsAt y2 0)])
                                                  else
                                                    if (!((at_ (rowsAt y2 0) 6).toB)) = true then
                                                      if (at_ (hd x1.2) 0).isDp = true then
                                                        (E.pc n_value_Same [[at_ ((at_ (hd x1.2) 0).dpRow) 8, at_ ((at_ (hd x1.2) 0).dpRow) 9, at_ ((at_ (hd x1.2) 0).dpRow) 10, at_ ((at_ (hd x1.2) 0).dpRow) 11], [.int 0, .int 0, .str [], .nils]]).bind fun y32 =>
                                                          some (0, [.r [at_ (hd x1.2) 0], .r [.bool (!((at_ (rowsAt y32 0) 0).toB))], .r (rowsAt y2 0)])
                                                      else none
                                                    else
                                                      some (0, [.r [at_ (hd x1.2) 0], .r [.bool false], .r (rowsAt y2 0)])
                                                else none
                                            else
                                              if (at_ (hd x1.2) 0).isDp = true then
                                                if (decide ((((at_ ((at_ (hd x1.2) 0).dpRow) 12).rows).length : Int) > 0)) = true then
                                                  if (!((at_ (rowsAt y2 0) 7).toB)) = true then
                                                    some (0, [.r [at_ (hd x1.2) 0], .r [.bool true], .r (rowsAt y2 0)])
                                                  else
                                                    if (!((at_ (rowsAt y2 0) 6).toB)) = true then
                                                      if (at_ (hd x1.2) 0).isDp = true then
                                                        (E.pc n_value_Same [[at_ ((at_ (hd x1.2) 0).dpRow) 8, at_ ((at_ (hd x1.2) 0).dpRow) 9, at_ ((at_ (hd x1.2) 0).dpRow) 10, at_ ((at_ (hd x1.2) 0).dpRow) 11], [.int 0, .int 0, .str [], .nils]]).bind fun y33 =>
                                                          some (0, [.r [at_ (hd x1.2) 0], .r [.bool (!((at_ (rowsAt y33 0) 0).toB))], .r (rowsAt y2 0)])
                                                      else none
                                                    else
                                                      some (0, [.r [at_ (hd x1.2) 0], .r [.bool false], .r (rowsAt y2 0)])
                                                else
                                                  if (!((at_ (rowsAt y2 0) 6).toB)) = true then
                                                    if (at_ (hd x1.2) 0).isDp = true then
                                                      (E.pc n_value_Same [[at_ ((at_ (hd x1.2) 0).dpRow) 8, at_ ((at_ (hd x1.2) 0).dpRow) 9, at_ ((at_ (hd x1.2) 0).dpRow) 10, at_ ((at_ (hd x1.2) 0).dpRow) 11], [.int 0, .int 0, .str [], .nils]]).bind fun y34 =>
                                                        some (0, [.r [at_ (hd x1.2) 0], .r [.bool (!((at_ (rowsAt y34 0) 0).toB))], .r (rowsAt y2 0)])
                                                    else none
                                                  else
                                                    some (0, [.r [at_ (hd x1.2) 0], .r [.bool false], .r (rowsAt y2 0)])
                                              else none
                                          else none
                                      else
                                        if (at_ (hd x1.2) 0).isDp = true then
                                          if (((at_ ((at_ (hd x1.2) 0).dpRow) 7).toI) != 0) = true then
                                            if (!((at_ (rowsAt y2 0) 5).toB)) = true then
                                              some (0, [.r [at_ (hd x1.2) 0], .r [.bool true], .r (rowsAt y2 0)])
                                            else
                                              if (at_ (hd x1.2) 0).isDp = true then
                                                if (decide ((((at_ ((at_ (hd x1.2) 0).dpRow) 12).rows).length : Int) > 0)) = true then
                                                  if (!((at_ (rowsAt y2 0) 7).toB)) = true then
                                                    some (0, [.r [at_ (hd x1.2) 0], .r [.bool true], .r (rowsAt y2 0)])
                                                  else
                                                    if (!((at_ (rowsAt y2 0) 6).toB)) = true then
                                                      if (at_ (hd x1.2) 0).isDp = true then
                                                        (E.pc n_value_Same [[at_ ((at_ (hd x1.2) 0).dpRow) 8, at_ ((at_ (hd x1.2) 0).dpRow) 9, at_ ((at_ (hd x1.2) 0).dpRow) 10, at_ ((at_ (hd x1.2) 0).dpRow) 11], [.int 0, .int 0, .str [], .nils]]).bind fun y35 =>
                                                          some (0, [.r [at_ (hd x1.2) 0], .r [.bool (!((at_ (rowsAt y35 0) 0).toB))], .r (rowsAt y2 0)])
                                                      else none
                                                    else
                                                      some (0, [.r [at_ (hd x1.2) 0], .r [.bool false], .r (rowsAt y2 0)])
                                                else
                                                  if (!((at_ (rowsAt y2 0) 6).toB)) = true then
                                                    if (at_ (hd x1.2) 0).isDp = true then
                                                      (E.pc n_value_Same [[at_ ((at_ (hd x1.2) 0).dpRow) 8, at_ ((at_ (hd x1.2) 0).dpRow) 9, at_ ((at_ (hd x1.2) 0).dpRow) 10, at_ ((at_ (hd x1.2) 0).dpRow) 11], [.int 0, .int 0, .str [], .nils]]).bind fun y36 =>
                                                        some (0, [.r [at_ (hd x1.2) 0], .r [.bool (!((at_ (rowsAt y36 0) 0).toB))], .r (rowsAt y2 0)])
                                                    else none
                                                  else
                                                    some (0, [.r [at_ (hd x1.2) 0], .r [.bool false], .r (rowsAt y2 0)])
                                              else none
                                          else
                                            if (at_ (hd x1.2) 0).isDp = true then
                                              if (decide ((((at_ ((at_ (hd x1.2) 0).dpRow) 12).rows).length : Int) > 0)) = true then
                                                if (!((at_ (rowsAt y2 0) 7).toB)) = true then
                                                  some (0, [.r [at_ (hd x1.2) 0], .r [.bool true], .r (rowsAt y2 0)])
                                                else
                                                  if (!((at_ (rowsAt y2 0) 6).toB)) = true then
                                                    if (at_ (hd x1.2) 0).isDp = true then
                                                      (E.pc n_value_Same [[at_ ((at_ (hd x1.2) 0).dpRow) 8, at_ ((at_ (hd x1.2) 0).dpRow) 9, at_ ((at_ (hd x1.2) 0).dpRow) 10, at_ ((at_ (hd x1.2) 0).dpRow) 11], [.int 0, .int 0, .str [], .nils]]).bind fun y37 =>
                                                        some (0, [.r [at_ (hd x1.2) 0], .r [.bool (!((at_ (rowsAt y37 0) 0).toB))], .r (rowsAt y2 0)])
                                                    else none
                                                  else
                                                    some (0, [.r [at_ (hd x1.2) 0], .r [.bool false], .r (rowsAt y2 0)])
                                              else
                                                if (!((at_ (rowsAt y2 0) 6).toB)) = true then
                                                  if (at_ (hd x1.2) 0).isDp = true then
                                                    (E.pc n_value_Same [[at_ ((at_ (hd x1.2) 0).dpRow) 8, at_ ((at_ (hd x1.2) 0).dpRow) 9, at_ ((at_ (hd x1.2) 0).dpRow) 10, at_ ((at_ (hd x1.2) 0).dpRow) 11], [.int 0, .int 0, .str [], .nils]]).bind fun y38 =>
                                                      some (0, [.r [at_ (hd x1.2) 0], .r [.bool (!((at_ (rowsAt y38 0) 0).toB))], .r (rowsAt y2 0)])
                                                  else none
                                                else
                                                  some (0, [.r [at_ (hd x1.2) 0], .r [.bool false], .r (rowsAt y2 0)])
                                            else none
                                        else none
                                    else none
                                else none
                            else
                              if (at_ (hd x1.2) 0).isDp = true then
                                if (((at_ ((at_ (hd x1.2) 0).dpRow) 5).toI) != 0) = true then
                                  if (!((at_ (rowsAt y2 0) 4).toB)) = true then
                                    some (0, [.r [at_ (hd x1.2) 0], .r [.bool true], .r (rowsAt y2 0)])
                                  else
                                    if (at_ (hd x1.2) 0).isDp = true then
                                      if (((at_ ((at_ (hd x1.2) 0).dpRow) 7).toI) != 0) = true then
                                        if (!((at_ (rowsAt y2 0) 5).toB)) = true then
                                          some (0, [.r [at_ (hd x1.2) 0], .r [.bool true], .r (rowsAt y2 0)])
                                        else
                                          if (at_ (hd x1.2) 0).isDp = true then
                                            if (decide ((((at_ ((at_ (hd x1.2) 0).dpRow) 12).rows).length : Int) > 0)) = true then
                                              if (!((at_ (rowsAt y2 0) 7).toB)) = true then
                                                some (0, [.r [at_ (hd x1.2) 0], .r [.bool true], .r (rowsAt y2 0)])
                                              else
                                                if (!((at_ (rowsAt y2 0) 6).toB)) = true then
                                                  if (at_ (hd x1.2) 0).isDp = true then
                                                    (E.pc n_value_Same [[at_ ((at_ (hd x1.2) 0).dpRow) 8, at_ ((at_ (hd x1.2) 0).dpRow) 9, at_ ((at_ (hd x1.2) 0).dpRow) 10, at_ ((at_ (hd x1.2) 0).dpRow) 11], [.int 0, .int 0, .str [], .nils]]).bind fun y39 =>
                                                      some (0, [.r [at_ (hd x1.2) 0], .r [.bool (!((at_ (rowsAt y39 0) 0).toB))], .r (rowsAt y2 0)])
                                                  else none
                                                else
                                                  some (0, [.r [at_ (hd x1.2) 0], .r [.bool false], .r (rowsAt y2 0)])
                                            else
                                              if (!((at_ (rowsAt y2 0) 6).toB)) = true then
                                                if (at_ (hd x1.2) 0).isDp = true then
                                                  (E.pc n_value_Same [[at_ ((at_ (hd x1.2) 0).dpRow) 8, at_ ((at_ (hd x1.2) 0).dpRow) 9, at_ ((at_ (hd x1.2) 0).dpRow) 10, at_ ((at_ (hd x1.2) 0).dpRow) 11], [.int 0, .int 0, .str [], .nils]]).bind fun y40 =>
                                                    some (0, [.r [at_ (hd x1.2) 0], .r [.bool (!((at_ (rowsAt y40 0) 0).toB))], .r (rowsAt y2 0)])
                                                else none
                                              else
                                                some (0, [.r [at_ (hd x1.2) 0], .r [.bool false], .r (rowsAt y2 0)])
                                          else none
                                      else
                                        if (at_ (hd x1.2) 0).isDp = true then
                                          if (decide ((((at_ ((at_ (hd x1.2) 0).dpRow) 12).rows).length : Int) > 0)) = true then
                                            if (!((at_ (rowsAt y2 0) 7).toB)) = true then
                                              some (0, [.r [at_ (hd x1.2) 0], .r [.bool true], .r (rowsAt y2 0)])
                                            else
                                              if (!((at_ (rowsAt y2 0) 6).toB)) = true then
                                                if (at_ (hd x1.2) 0).isDp = true then
                                                  (E.pc n_value_Same [[at_ ((at_ (hd x1.2) 0).dpRow) 8, at_ ((at_ (hd x1.2) 0).dpRow) 9, at_ ((at_ (hd x1.2) 0).dpRow) 10, at_ ((at_ (hd x1.2) 0).dpRow) 11], [.int 0, .int 0, .str [], .nils]]).bind fun y41 =>
                                                    some (0, [.r [at_ (hd x1.2) 0], .r [.bool (!((at_ (rowsAt y41 0) 0).toB))], .r (rowsAt y2 0)])
                                                else none
                                              else
                                                some (0, [.r [at_ (hd x1.2) 0], .r [.bool false], .r (rowsAt y2 0)])
                                          else
                                            if (!((at_ (rowsAt y2 0) 6).toB)) = true then
                                              if (at_ (hd x1.2) 0).isDp = true then
                                                (E.pc n_value_Same [[at_ ((at_ (hd x1.2) 0).dpRow) 8, at_ ((at_ (hd x1.2) 0).dpRow) 9, at_ ((at_ (hd x1.2) 0).dpRow) 10, at_ ((at_ (hd x1.2) 0).dpRow) 11], [.int 0, .int 0, .str [], .nils]]).bind fun y42 =>
                                                  some (0, [.r [at_ (hd x1.2) 0], .r [.bool (!((at_ (rowsAt y42 0) 0).toB))], .r (rowsAt y2 0)])
                                              else none
                                            else
                                              some (0, [.r [at_ (hd x1.2) 0], .r [.bool false], .r (rowsAt y2 0)])
                                        else none
                                    else none
                                else
                                  if (at_ (hd x1.2) 0).isDp = true then
                                    if (((at_ ((at_ (hd x1.2) 0).dpRow) 6).toI) != 0) = true then
                                      if (!((at_ (rowsAt y2 0) 4).toB)) = true then
                                        some (0, [.r [at_ (hd x1.2) 0], .r [.bool true], .r (rowsAt y2 0)])
                                      else
                                        if (at_ (hd x1.2) 0).isDp = true then
                                          if (((at_ ((at_ (hd x1.2) 0).dpRow) 7).toI) != 0) = true then
                                            if (!((at_ (rowsAt y2 0) 5).toB)) = true then
                                              some (0, [.r [at_ (hd x1.2) 0], .r [.bool true], .r (rowsAt y2 0)])
                                            else
                                              if (at_ (hd x1.2) 0).isDp = true then
                                                if (decide ((((at_ ((at_ (hd x1.2) 0).dpRow) 12).rows).length : Int) > 0)) = true then
                                                  if (!((at_ (rowsAt y2 0) 7).toB)) = true then
                                                    some (0, [.r [at_ (hd x1.2) 0], .r [.bool true], .r (rowsAt y2 0)])
                                                  else
                                                    if (!((at_ (rowsAt y2 0) 6).toB)) = true then
                                                      if (at_ (hd x1.2) 0).isDp = true then
                                                        (E.pc n_value_Same [[at_ ((at_ (hd x1.2) 0).dpRow) 8, at_ ((at_ (hd x1.2) 0).dpRow) 9, at_ ((at_ (hd x1.2) 0).dpRow) 10, at_ ((at_ (hd x1.2) 0).dpRow) 11], [.int 0, .int 0, .str [], .nils]]).bind fun y43 =>
                                                          some (0, [.r [at_ (hd x1.2) 0], .r [.bool (!((at_ (rowsAt y43 0) 0).toB))], .r (rowsAt y2 0)])
                                                      else none
                                                    else
                                                      some (0, [.r [at_ (hd x1.2) 0], .r [.bool false], .r (rowsAt y2 0)])
                                                else
                                                  if (!((at_ (rowsAt y2 0) 6).toB)) = true then
                                                    if (at_ (hd x1.2) 0).isDp = true then
                                                      (E.pc n_value_Same [[at_ ((at_ (hd x1.2) 0).dpRow) 8, at_ ((at_ (hd x1.2) 0).dpRow) 9, at_ ((at_ (hd x1.2) 0).dpRow) 10, at_ ((at_ (hd x1.2) 0).dpRow) 11], [.int 0, .int 0, .str [], .nils]]).bind fun y44 =>
                                                        some (0, [.r [at_ (hd x1.2) 0], .r [.bool (!((at_ (rowsAt y44 0) 0).toB))], .r (rowsAt y2 0)])
                                                    else none
                                                  else
                                                    some (0, [.r [at_ (hd x1.2) 0], .r [.bool false], .r (rowsAt y2 0)])
                                              else none
                                          else
                                            if (at_ (hd x1.2) 0).isDp = true then
                                              if (decide ((((at_ ((at_ (hd x1.2) 0).dpRow) 12).rows).length : Int) > 0)) = true then
                                                if (!((at_ (rowsAt y2 0) 7).toB)) = true then
                                                  some (0, [.r [at_ (hd x1.2) 0], .r [.bool true], .r (rowsAt y2 0)])
                                                else
                                                  if (!((at_ (rowsAt y2 0) 6).toB)) = true then
                                                    if (at_ (hd x1.2) 0).isDp = true then
                                                      (E.pc n_value_Same [[at_ ((at_ (hd x1.2) 0).dpRow) 8, at_ ((at_ (hd x1.2) 0).dpRow) 9, at_ ((at_ (hd x1.2) 0).dpRow) 10, at_ ((at_ (hd x1.2) 0).dpRow) 11], [.int 0, .int 0, .str [], .nils]]).bind fun y45 =>
                                                        some (0, [.r [at_ (hd x1.2) 0], .r [.bool (!((at_ (rowsAt y45 0) 0).toB))], .r (rowsAt y2 0)])
                                                    else none
                                                  else
                                                    some (0, [.r [at_ (hd x1.2) 0], .r [.bool false], .r (rowsAt y2 0)])
                                              else
                                                if (!((at_ (rowsAt y2 0) 6).toB)) = true then
                                                  if (at_ (hd x1.2) 0).isDp = true then
                                                    (E.pc n_value_Same [[at_ ((at_ (hd x1.2) 0).dpRow) 8, at_ ((at_ (hd x1.2) 0).dpRow) 9, at_ ((at_ (hd x1.2) 0).dpRow) 10, at_ ((at_ (hd x1.2) 0).dpRow) 11], [.int 0, .int 0, .str [], .nils]]).bind fun y46 =>
                                                      some (0, [.r [at_ (hd x1.2) 0], .r [.bool (!((at_ (rowsAt y46 0) 0).toB))], .r (rowsAt y2 0)])
                                                  else none
                                                else
                                                  some (0, [.r [at_ (hd x1.2) 0], .r [.bool false], .r (rowsAt y2 0)])
                                            else none
                                        else none
                                    else
                                      if (at_ (hd x1.2) 0).isDp = true then
                                        if (((at_ ((at_ (hd x1.2) 0).dpRow) 7).toI) != 0) = true then
                                          if (!((at_ (rowsAt y2 0) 5).toB)) = true then
                                            some (0, [.r [at_ (hd x1.2) 0], .r [.bool true], .r (rowsAt y2 0)])
                                          else
                                            if (at_ (hd x1.2) 0).isDp = true then
                                              if (decide ((((at_ ((at_ (hd x1.2) 0).dpRow) 12).rows).length : Int) > 0)) = true then
                                                if (!((at_ (rowsAt y2 0) 7).toB)) = true then
                                                  some (0, [.r [at_ (hd x1.2) 0], .r [.bool true], .r (rowsAt y2 0)])
                                                else
                                                  if (!((at_ (rowsAt y2 0) 6).toB)) = true then
                                                    if (at_ (hd x1.2) 0).isDp = true then
                                                      (E.pc n_value_Same [[at_ ((at_ (hd x1.2) 0).dpRow) 8, at_ ((at_ (hd x1.2) 0).dpRow) 9, at_ ((at_ (hd x1.2) 0).dpRow) 10, at_ ((at_ (hd x1.2) 0).dpRow) 11], [.int 0, .int 0, .str [], .nils]]).bind fun y47 =>
                                                        some (0, [.r [at_ (hd x1.2) 0], .r [.bool (!((at_ (rowsAt y47 0) 0).toB))], .r (rowsAt y2 0)])
                                                    else none
                                                  else
                                                    some (0, [.r [at_ (hd x1.2) 0], .r [.bool false], .r (rowsAt y2 0)])
                                              else
                                                if (!((at_ (rowsAt y2 0) 6).toB)) = true then
                                                  if (at_ (hd x1.2) 0).isDp = true then
                                                    (E.pc n_value_Same [[at_ ((at_ (hd x1.2) 0).dpRow) 8, at_ ((at_ (hd x1.2) 0).dpRow) 9, at_ ((at_ (hd x1.2) 0).dpRow) 10, at_ ((at_ (hd x1.2) 0).dpRow) 11], [.int 0, .int 0, .str [], .nils]]).bind fun y48 =>
                                                      some (0, [.r [at_ (hd x1.2) 0], .r [.bool (!((at_ (rowsAt y48 0) 0).toB))], .r (rowsAt y2 0)])
                                                  else none
                                                else
                                                  some (0, [.r [at_ (hd x1.2) 0], .r [.bool false], .r (rowsAt y2 0)])
                                            else none
                                        else
                                          if (at_ (hd x1.2) 0).isDp = true then
                                            if (decide ((((at_ ((at_ (hd x1.2) 0).dpRow) 12).rows).length : Int) > 0)) = true then
                                              if (!((at_ (rowsAt y2 0) 7).toB)) = true then
                                                some (0, [.r [at_ (hd x1.2) 0], .r [.bool true], .r (rowsAt y2 0)])
                                              else
                                                if (!((at_ (rowsAt y2 0) 6).toB)) = true then
                                                  if (at_ (hd x1.2) 0).isDp = true then
                                                    (E.pc n_value_Same [[at_ ((at_ (hd x1.2) 0).dpRow) 8, at_ ((at_ (hd x1.2) 0).dpRow) 9, at_ ((at_ (hd x1.2) 0).dpRow) 10, at_ ((at_ (hd x1.2) 0).dpRow) 11], [.int 0, .int 0, .str [], .nils]]).bind fun y49 =>
                                                      some (0, [.r [at_ (hd x1.2) 0], .r [.bool (!((at_ (rowsAt y49 0) 0).toB))], .r (rowsAt y2 0)])
                                                  else none
                                                else
                                                  some (0, [.r [at_ (hd x1.2) 0], .r [.bool false], .r (rowsAt y2 0)])
                                            else
                                              if (!((at_ (rowsAt y2 0) 6).toB)) = true then
                                                if (at_ (hd x1.2) 0).isDp = true then
                                                  (E.pc n_value_Same [[at_ ((at_ (hd x1.2) 0).dpRow) 8, at_ ((at_ (hd x1.2) 0).dpRow) 9, at_ ((at_ (hd x1.2) 0).dpRow) 10, at_ ((at_ (hd x1.2) 0).dpRow) 11], [.int 0, .int 0, .str [], .nils]]).bind fun y50 =>
                                                    some (0, [.r [at_ (hd x1.2) 0], .r [.bool (!((at_ (rowsAt y50 0) 0).toB))], .r (rowsAt y2 0)])
                                                else none
                                              else
                                                some (0, [.r [at_ (hd x1.2) 0], .r [.bool false], .r (rowsAt y2 0)])
                                          else none
                                      else none
                                  else none
                              else none
                          else none
                      else none
                  else
                    if (at_ (hd x1.2) 0).isDp = true then
                      if (decide ((((at_ ((at_ (hd x1.2) 0).dpRow) 3).rows).length : Int) > 0)) = true then
                        if (!((at_ (rowsAt y2 0) 2).toB)) = true then
                          some (0, [.r [at_ (hd x1.2) 0], .r [.bool true], .r (rowsAt y2 0)])
                        else
                          if (at_ (hd x1.2) 0).isDp = true then
                            if (((at_ ((at_ (hd x1.2) 0).dpRow) 4).toI) != 0) = true then
                              if (!((at_ (rowsAt y2 0) 3).toB)) = true then
                                some (0, [.r [at_ (hd x1.2) 0], .r [.bool true], .r (rowsAt y2 0)])
                              else
                                if (at_ (hd x1.2) 0).isDp = true then
                                  if (((at_ ((at_ (hd x1.2) 0).dpRow) 5).toI) != 0) = true then
                                    if (!((at_ (rowsAt y2 0) 4).toB)) = true then
                                      some (0, [.r [at_ (hd x1.2) 0], .r [.bool true], .r (rowsAt y2 0)])
                                    else
                                      if (at_ (hd x1.2) 0).isDp = true then
                                        if (((at_ ((at_ (hd x1.2) 0).dpRow) 7).toI) != 0) = true then
                                          if (!((at_ (rowsAt y2 0) 5).toB)) = true then
                                            some (0, [.r [at_ (hd x1.2) 0], .r [.bool true], .r (rowsAt y2 0)])
                                          else
                                            if (at_ (hd x1.2) 0).isDp = true then
                                              if (decide ((((at_ ((at_ (hd x1.2) 0).dpRow) 12).rows).length : Int) > 0)) = true then
                                                if (!((at_ (rowsAt y2 0) 7).toB)) = true then
                                                  some (0, [.r [at_ (hd x1.2) 0], .r [.bool true], .r (rowsAt y2 0)])
                                                else
                                                  if (!((at_ (rowsAt y2 0) 6).toB)) = true then
                                                    if (at_ (hd x1.2) 0).isDp = true then
                                                      (E.pc n_value_Same [[at_ ((at_ (hd x1.2) 0).dpRow) 8, at_ ((at_ (hd x1.2) 0).dpRow) 9, at_ ((at_ (hd x1.2) 0).dpRow) 10, at_ ((at_ (hd x1.2) 0).dpRow) 11], [.int 0, .int 0, .str [], .nils]]).bind fun y51 =>
                                                        some (0, [.r [at_ (hd x1.2) 0], .r [.bool (!((at_ (rowsAt y51 0) 0).toB))], .r (rowsAt y2 0)])
                                                    else none
                                                  else
                                                    some (0, [.r [at_ (hd x1.2) 0], .r [.bool false], .r (rowsAt y2 0)])
                                              else
                                                if (!((at_ (rowsAt y2 0) 6).toB)) = true then
                                                  if (at_ (hd x1.2) 0).isDp = true then
                                                    (E.pc n_value_Same [[at_ ((at_ (hd x1.2) 0).dpRow) 8, at_ ((at_ (hd x1.2) 0).dpRow) 9, at_ ((at_ (hd x1.2) 0).dpRow) 10, at_ ((at_ (hd x1.2) 0).dpRow) 11], [.int 0, .int 0, .str [], .nils]]).bind fun y52 =>
                                                      some (0, [.r [at_ (hd x1.2) 0], .r [.bool (!((at_ (rowsAt y52 0) 0).toB))], .r (rowsAt y2 0)])
                                                  else none
                                                else
                                                  some (0, [.r [at_ (hd x1.2) 0], .r [.bool false], .r (rowsAt y2 0)])
                                            else none
                                        else
                                          if (at_ (hd x1.2) 0).isDp = true then
                                            if (decide ((((at_ ((at_ (hd x1.2) 0).dpRow) 12).rows).length : Int) > 0)) = true then
                                              if (!((at_ (rowsAt y2 0) 7).toB)) = true then
                                                some (0, [.r [at_ (hd x1.2) 0], .r [.bool true], .r (rowsAt y2 0)])
                                              else
                                                if (!((at_ (rowsAt y2 0) 6).toB)) = true then
                                                  if (at_ (hd x1.2) 0).isDp = true then
                                                    (E.pc n_value_Same [[at_ ((at_ (hd x1.2) 0).dpRow) 8, at_ ((at_ (hd x1.2) 0).dpRow) 9, at_ ((at_ (hd x1.2) 0).dpRow) 10, at_ ((at_ (hd x1.2) 0).dpRow) 11], [.int 0, .int 0, .str [], .nils]]).bind fun y53 =>
                                                      some (0, [.r [at_ (hd x1.2) 0], .r [.bool (!((at_ (rowsAt y53 0) 0).toB))], .r (rowsAt y2 0)])
                                                  else none
                                                else
                                                  some (0, [.r [at_ (hd x1.2) 0], .r [.bool false], .r (rowsAt y2 0)])
                                            else
                                              if (!((at_ (rowsAt y2 0) 6).toB)) = true then
                                                if (at_ (hd x1.2) 0).isDp = true then
                                                  (E.pc n_value_Same [[at_ ((at_ (hd x1.2) 0).dpRow) 8, at_ ((at_ (hd x1.2) 0).dpRow) 9, at_ ((at_ (hd x1.2) 0).dpRow) 10, at_ ((at_ (hd x1.2) 0).dpRow) 11], [.int 0, .int 0, .str [], .nils]]).bind fun y54 =>
                                                    some (0, [.r [at_ (hd x1.2) 0], .r [.bool (!((at_ (rowsAt y54 0) 0).toB))], .r (rowsAt y2 0)])
                                                else none
                                              else
                                                some (0, [.r [at_ (hd x1.2) 0], .r [.bool false], .r (rowsAt y2 0)])
                                          else none
                                      else none
                                  else
                                    if (at_ (hd x1.2) 0).isDp = true then
                                      if (((at_ ((at_ (hd x1.2) 0).dpRow) 6).toI) != 0) = true then
                                        if (!((at_ (rowsAt y2 0) 4).toB)) = true then
                                          some (0, [.r [at_ (hd x1.2) 0], .r [.bool true], .r (rowsAt y2 0)])
                                        else
                                          if (at_ (hd x1.2) 0).isDp = true then
                                            if (((at_ ((at_ (hd x1.2) 0).dpRow) 7).toI) != 0) = true then
                                              if (!((at_ (rowsAt y2 0) 5).toB)) = true then
                                                some (0, [.r [at_ (hd x1.2) 0], .r [.bool true], .r (rowsAt y2 0)])
                                              else
                                                if (at_ (hd x1.2) 0).isDp = true then
                                                  if (decide ((((at_ ((at_ (hd x1.2) 0).dpRow) 12).rows).length : Int) > 0)) = true then
                                                    if (!((at_ (rowsAt y2 0) 7).toB)) = true then
                                                      some (0, [.r [at_ (hd x1.2) 0], .r [.bool true], .r (rowsAt y2 0)])
                                                    else
                                                      if (!((at_ (rowsAt y2 0) 6).toB)) = true then
                                                        if (at_ (hd x1.2) 0).isDp = true then
                                                          (E.pc n_value_Same [[at_ ((at_ (hd x1.2) 0).dpRow) 8, at_ ((at_ (hd x1.2) 0).dpRow) 9, at_ ((at_ (hd x1.2) 0).dpRow) 10, at_ ((at_ (hd x1.2) 0).dpRow) 11], [.int 0, .int 0, .str [], .nils]]).bind fun y55 =>
                                                            some (0, [.r [at_ (hd x1.2) 0], .r [.bool (!((at_ (rowsAt y55 0) 0).toB))], .r (rowsAt y2 0)])
                                                        else none
                                                      else
                                                        some (0, [.r [at_ (hd x1.2) 0], .r [.bool false], .r (rowsAt y2 0)])
                                                  else
                                                    if (!((at_ (rowsAt y2 0) 6).toB)) = true then
                                                      if (at_ (hd x1.2) 0).isDp = true then
                                                        (E.pc n_value_Same [[at_ ((at_ (hd x1.2) 0).dpRow) 8, at_ ((at_ (hd x1.2) 0).dpRow) 9, at_ ((at_ (hd x1.2) 0).dpRow) 10, at_ ((at_ (hd x1.2) 0).dpRow) 11], [.int 0, .int 0, .str [], .nils]]).bind fun y56 =>
                                                          some (0, [.r [at_ (hd x1.2) 0], .r [.bool (!((at_ (rowsAt y56 0) 0).toB))], .r (rowsAt y2 0)])
                                                      else none
                                                    else
                                                      some (0, [.r [at_ (hd x1.2) 0], .r [.bool false], .r (rowsAt y2 0)])
                                                else none
                                            else
                                              if (at_ (hd x1.2) 0).isDp = true then
                                                if (decide ((((at_ ((at_ (hd x1.2) 0).dpRow) 12).rows).length : Int) > 0)) = true then
                                                  if (!((at_ (rowsAt y2 0) 7).toB)) = true then
                                                    some (0, [.r [at_ (hd x1.2) 0], .r [.bool true], .r (rowsAt y2 0)])
                                                  else
                                                    if (!((at_ (rowsAt y2 0) 6).toB)) = true then
                                                      if (at_ (hd x1.2) 0).isDp = true then
                                                        (E.pc n_value_Same [[at_ ((at_ (hd x1.2) 0).dpRow) 8, at_ ((at_ (hd x1.2) 0).dpRow) 9, at_ ((at_ (hd x1.2) 0).dpRow) 10, at_ ((at_ (hd x1.2) 0).dpRow) 11], [.int 0, .int 0, .str [], .nils]]).bind fun y57 =>
                                                          some (0, [.r [at_ (hd x1.2) 0], .r [.bool (!((at_ (rowsAt y57 0) 0).toB))], .r (rowsAt y2 0)])
                                                      else none
                                                    else
                                                      some (0, [.r [at_ (hd x1.2) 0], .r [.bool false], .r (rowsAt y2 0)])
                                                else
                                                  if (!((at_ (rowsAt y2 0) 6).toB)) = true then
                                                    if (at_ (hd x1.2) 0).isDp = true then
                                                      (E.pc n_value_Same [[at_ ((at_ (hd x1.2) 0).dpRow) 8, at_ ((at_ (hd x1.2) 0).dpRow) 9, at_ ((at_ (hd x1.2) 0).dpRow) 10, at_ ((at_ (hd x1.2) 0).dpRow) 11], [.int 0, .int 0, .str [], .nils]]).bind fun y58 =>
                                                        some (0, [.r [at_ (hd x1.2) 0], .r [.bool (!((at_ (rowsAt y58 0) 0).toB))], .r (rowsAt y2 0)])
                                                    else none
                                                  else
                                                    some (0, [.r [at_ (hd x1.2) 0], .r [.bool false], .r (rowsAt y2 0)])
                                              else none
                                          else none
                                      else
                                        if (at_ (hd x1.2) 0).isDp = true then
                                          if (((at_ ((at_ (hd x1.2) 0).dpRow) 7).toI) != 0) = true then
                                            if (!((at_ (rowsAt y2 0) 5).toB)) = true then
                                              some (0, [.r [at_ (hd x1.2) 0], .r [.bool true], .r (rowsAt y2 0)])
                                            else
                                              if (at_ (hd x1.2) 0).isDp = true then
                                                if (decide ((((at_ ((at_ (hd x1.2) 0).dpRow) 12).rows).length : Int) > 0)) = true then
                                                  if (!((at_ (rowsAt y2 0) 7).toB)) = true then
                                                    some (0, [.r [at_ (hd x1.2) 0], .r [.bool true], .r (rowsAt y2 0)])
                                                  else
                                                    if (!((at_ (rowsAt y2 0) 6).toB)) = true then
                                                      if (at_ (hd x1.2) 0).isDp = true then
                                                        (E.pc n_value_Same [[at_ ((at_ (hd x1.2) 0).dpRow) 8, at_ ((at_ (hd x1.2) 0).dpRow) 9, at_ ((at_ (hd x1.2) 0).dpRow) 10, at_ ((at_ (hd x1.2) 0).dpRow) 11], [.int 0, .int 0, .str [], .nils]]).bind fun y59 =>
                                                          some (0, [.r [at_ (hd x1.2) 0], .r [.bool (!((at_ (rowsAt y59 0) 0).toB))], .r (rowsAt y2 0)])
                                                      else none
                                                    else
                                                      some (0, [.r [at_ (hd x1.2) 0], .r [.bool false], .r (rowsAt y2 0)])
                                                else
                                                  if (!((at_ (rowsAt y2 0) 6).toB)) = true then
                                                    if (at_ (hd x1.2) 0).isDp = true then
                                                      (E.pc n_value_Same [[at_ ((at_ (hd x1.2) 0).dpRow) 8, at_ ((at_ (hd x1.2) 0).dpRow) 9, at_ ((at_ (hd x1.2) 0).dpRow) 10, at_ ((at_ (hd x1.2) 0).dpRow) 11], [.int 0, .int 0, .str [], .nils]]).bind fun y60 =>
                                                        some (0, [.r [at_ (hd x1.2) 0], .r [.bool (!((at_ (rowsAt y60 0) 0).toB))], .r (rowsAt y2 0)])
                                                    else none
                                                  else
                                                    some (0, [.r [at_ (hd x1.2) 0], .r [.bool false], .r (rowsAt y2 0)])
                                              else none
                                          else
                                            if (at_ (hd x1.2) 0).isDp = true then
                                              if (decide ((((at_ ((at_ (hd x1.2) 0).dpRow) 12).rows).length : Int) > 0)) = true then
                                                if (!((at_ (rowsAt y2 0) 7).toB)) = true then
                                                  some (0, [.r [at_ (hd x1.2) 0], .r [.bool true], .r (rowsAt y2 0)])
                                                else
                                                  if (!((at_ (rowsAt y2 0) 6).toB)) = true then
                                                    if (at_ (hd x1.2) 0).isDp = true then
                                                      (E.pc n_value_Same [[at_ ((at_ (hd x1.2) 0).dpRow) 8, at_ ((at_ (hd x1.2) 0).dpRow) 9, at_ ((at_ (hd x1.2) 0).dpRow) 10, at_ ((at_ (hd x1.2) 0).dpRow) 11], [.int 0, .int 0, .str [], .nils]]).bind fun y61 =>
                                                        some (0, [.r [at_ (hd x1.2) 0], .r [.bool (!((at_ (rowsAt y61 0) 0).toB))], .r (rowsAt y2 0)])
                                                    else none
                                                  else
                                                    some (0, [.r [at_ (hd x1.2) 0], .r [.bool false], .r (rowsAt y2 0)])
                                              else
                                                if (!((at_ (rowsAt y2 0) 6).toB)) = true then
                                                  if (at_ (hd x1.2) 0).isDp = true then
                                                    (E.pc n_value_Same [[at_ ((at_ (hd x1.2) 0).dpRow) 8, at_ ((at_ (hd x1.2) 0).dpRow) 9, at_ ((at_ (hd x1.2) 0).dpRow) 10, at_ ((at_ (hd x1.2) 0).dpRow) 11], [.int 0, .int 0, .str [], .nils]]).bind fun y62 =>
                                                      some (0, [.r [at_ (hd x1.2) 0], .r [.bool (!((at_ (rowsAt y62 0) 0).toB))], .r (rowsAt y2 0)])
                                                  else none
                                                else
                                                  some (0, [.r [at_ (hd x1.2) 0], .r [.bool false], .r (rowsAt y2 0)])
                                            else none
                                        else none
                                    else none
                                else none
                            else
                              if (at_ (hd x1.2) 0).isDp = true then
                                if (((at_ ((at_ (hd x1.2) 0).dpRow) 5).toI) != 0) = true then
                                  if (!((at_ (rowsAt y2 0) 4).toB)) = true then
                                    some (0, [.r [at_ (hd x1.2) 0], .r [.bool true], .r (rowsAt y2 0)])
                                  else
                                    if (at_ (hd x1.2) 0).isDp = true then
                                      if (((at_ ((at_ (hd x1.2) 0).dpRow) 7).toI) != 0) = true then
                                        if (!((at_ (rowsAt y2 0) 5).toB)) = true then
                                          some (0, [.r [at_ (hd x1.2) 0], .r [.bool true], .r (rowsAt y2 0)])
                                        else
                                          if (at_ (hd x1.2) 0).isDp = true then
                                            if (decide ((((at_ ((at_ (hd x1.2) 0).dpRow) 12).rows).length : Int) > 0)) = true then
                                              if (!((at_ (rowsAt y2 0) 7).toB)) = true then
                                                some (0, [.r [at_ (hd x1.2) 0], .r [.bool true], .r (rowsAt y2 0)])
                                              else
                                                if (!((at_ (rowsAt y2 0) 6).toB)) = true then
                                                  if (at_ (hd x1.2) 0).isDp = true then
                                                    (E.pc n_value_Same [[at_ ((at_ (hd x1.2) 0).dpRow) 8, at_ ((at_ (hd x1.2) 0).dpRow) 9, at_ ((at_ (hd x1.2) 0).dpRow) 10, at_ ((at_ (hd x1.2) 0).dpRow) 11], [.int 0, .int 0, .str [], .nils]]).bind fun y63 =>
                                                      some (0, [.r [at_ (hd x1.2) 0], .r [.bool (!((at_ (rowsAt y63 0) 0).toB))], .r (rowsAt y2 0)])
                                                  else none
                                                else
                                                  some (0, [.r [at_ (hd x1.2) 0], .r [.bool false], .r (rowsAt y2 0)])
                                            else
                                              if (!((at_ (rowsAt y2 0) 6).toB)) = true then
                                                if (at_ (hd x1.2) 0).isDp = true then
                                                  (E.pc n_value_Same [[at_ ((at_ (hd x1.2) 0).dpRow) 8, at_ ((at_ (hd x1.2) 0).dpRow) 9, at_ ((at_ (hd x1.2) 0).dpRow) 10, at_ ((at_ (hd x1.2) 0).dpRow) 11], [.int 0, .int 0, .str [], .nils]]).bind fun y64 =>
                                                    some (0, [.r [at_ (hd x1.2) 0], .r [.bool (!((at_ (rowsAt y64 0) 0).toB))], .r (rowsAt y2 0)])
                                                else none
                                              else
                                                some (0, [.r [at_ (hd x1.2) 0], .r [.bool false], .r (rowsAt y2 0)])
                                          else none
                                      else
                                        if (at_ (hd x1.2) 0).isDp = true then
                                          if (decide ((((at_ ((at_ (hd x1.2) 0).dpRow) 12).rows).length : Int) > 0)) = true then
                                            if (!((at_ (rowsAt y2 0) 7).toB)) = true then
                                              some (0, [.r [at_ (hd x1.2) 0], .r [.bool true], .r (rowsAt y2 0)])
                                            else
                                              if (!((at_ (rowsAt y2 0) 6).toB)) = true then
                                                if (at_ (hd x1.2) 0).isDp = true then
                                                  (E.pc n_value_Same [[at_ ((at_ (hd x1.2) 0).dpRow) 8, at_ ((at_ (hd x1.2) 0).dpRow) 9, at_ ((at_ (hd x1.2) 0).dpRow) 10, at_ ((at_ (hd x1.2) 0).dpRow) 11], [.int 0, .int 0, .str [], .nils]]).bind fun y65 =>
                                                    some (0, [.r [at_ (hd x1.2) 0], .r [.bool (!((at_ (rowsAt y65 0) 0).toB))], .r (rowsAt y2 0)])
                                                else none
                                              else
                                                some (0, [.r [at_ (hd x1.2) 0], .r [.bool false], .r (rowsAt y2 0)])
                                          else
                                            if (!((at_ (rowsAt y2 0) 6).toB)) = true then
                                              if (at_ (hd x1.2) 0).isDp = true then
                                                (E.pc n_value_Same [[at_ ((at_ (hd x1.2) 0).dpRow) 8, at_ ((at_ (hd x1.2) 0).dpRow) 9, at_ ((at_ (hd x1.2) 0).dpRow) 10, at_ ((at_ (hd x1.2) 0).dpRow) 11], [.int 0, .int 0, .str [], .nils]]).bind fun y66 =>
                                                  some (0, [.r [at_ (hd x1.2) 0], .r [.bool (!((at_ (rowsAt y66 0) 0).toB))], .r (rowsAt y2 0)])
                                              else none
                                            else
                                              some (0, [.r [at_ (hd x1.2) 0], .r [.bool false], .r (rowsAt y2 0)])
                                        else none
                                    else none
                                else
                                  if (at_ (hd x1.2) 0).isDp = true then
                                    if (((at_ ((at_ (hd x1.2) 0).dpRow) 6).toI) != 0) = true then
                                      if (!((at_ (rowsAt y2 0) 4).toB)) = true then
                                        some (0, [.r [at_ (hd x1.2) 0], .r [.bool true], .r (rowsAt y2 0)])
                                      else
                                        if (at_ (hd x1.2) 0).isDp = true then
                                          if (((at_ ((at_ (hd x1.2) 0).dpRow) 7).toI) != 0) = true then
                                            if (!((at_ (rowsAt y2 0) 5).toB)) = true then
                                              some (0, [.r [at_ (hd x1.2) 0], .r [.bool true], .r (rowsAt y2 0)])
                                            else
                                              if (at_ (hd x1.2) 0).isDp = true then
                                                if (decide ((((at_ ((at_ (hd x1.2) 0).dpRow) 12).rows).length : Int) > 0)) = true then
                                                  if (!((at_ (rowsAt y2 0) 7).toB)) = true then
                                                    some (0, [.r [at_ (hd x1.2) 0], .r [.bool true], .r (rowsAt y2 0)])
                                                  else
                                                    if (!((at_ (rowsAt y2 0) 6).toB)) = true then
                                                      if (at_ (hd x1.2) 0).isDp = true then
                                                        (E.pc n_value_Same [[at_ ((at_ (hd x1.2) 0).dpRow) 8, at_ ((at_ (hd x1.2) 0).dpRow) 9, at_ ((at_ (hd x1.2) 0).dpRow) 10, at_ ((at_ (hd x1.2) 0).dpRow) 11], [.int 0, .int 0, .str [], .nils]]).bind fun y67 =>
                                                          some (0, [.r [at_ (hd x1.2) 0], .r [.bool (!((at_ (rowsAt y67 0) 0).toB))], .r (rowsAt y2 0)])
                                                      else none
                                                    else
                                                      some (0, [.r [at_ (hd x1.2) 0], .r [.bool false], .r (rowsAt y2 0)])
                                                else
                                                  if (!((at_ (rowsAt y2 0) 6).toB)) = true then
                                                    if (at_ (hd x1.2) 0).isDp = true then
                                                      (E.pc n_value_Same [[at_ ((at_ (hd x1.2) 0).dpRow) 8, at_ ((at_ (hd x1.2) 0).dpRow) 9, at_ ((at_ (hd x1.2) 0).dpRow) 10, at_ ((at_ (hd x1.2) 0).dpRow) 11], [.int 0, .int 0, .str [], .nils]]).bind fun y68 =>
                                                        some (0, [.r [at_ (hd x1.2) 0], .r [.bool (!((at_ (rowsAt y68 0) 0).toB))], .r (rowsAt y2 0)])
                                                    else none
                                                  else
                                                    some (0, [.r [at_ (hd x1.2) 0], .r [.bool false], .r (rowsAt y2 0)])
                                              else none
                                          else
                                            if (at_ (hd x1.2) 0).isDp = true then
                                              if (decide ((((at_ ((at_ (hd x1.2) 0).dpRow) 12).rows).length : Int) > 0)) = true then
                                                if (!((at_ (rowsAt y2 0) 7).toB)) = true then
                                                  some (0, [.r [at_ (hd x1.2) 0], .r [.bool true], .r (rowsAt y2 0)])
                                                else
                                                  if (!((at_ (rowsAt y2 0) 6).toB)) = true then
                                                    if (at_ (hd x1.2) 0).isDp = true then
                                                      (E.pc n_value_Same [[at_ ((at_ (hd x1.2) 0).dpRow) 8, at_ ((at_ (hd x1.2) 0).dpRow) 9, at_ ((at_ (hd x1.2) 0).dpRow) 10, at_ ((at_ (hd x1.2) 0).dpRow) 11], [.int 0, .int 0, .str [], .nils]]).bind fun y69 =>
                                                        some (0, [.r [at_ (hd x1.2) 0], .r [.bool (!((at_ (rowsAt y69 0) 0).toB))], .r (rowsAt y2 0)])
                                                    else none
                                                  else
                                                    some (0, [.r [at_ (hd x1.2) 0], .r [.bool false], .r (rowsAt y2 0)])
                                              else
                                                if (!((at_ (rowsAt y2 0) 6).toB)) = true then
                                                  if (at_ (hd x1.2) 0).isDp = true then
                                                    (E.pc n_value_Same [[at_ ((at_ (hd x1.2) 0).dpRow) 8, at_ ((at_ (hd x1.2) 0).dpRow) 9, at_ ((at_ (hd x1.2) 0).dpRow) 10, at_ ((at_ (hd x1.2) 0).dpRow) 11], [.int 0, .int 0, .str [], .nils]]).bind fun y70 =>
                                                      some (0, [.r [at_ (hd x1.2) 0], .r [.bool (!((at_ (rowsAt y70 0) 0).toB))], .r (rowsAt y2 0)])
                                                  else none
                                                else
                                                  some (0, [.r [at_ (hd x1.2) 0], .r [.bool false], .r (rowsAt y2 0)])
                                            else none
                                        else none
                                    else
                                      if (at_ (hd x1.2) 0).isDp = true then
                                        if (((at_ ((at_ (hd x1.2) 0).dpRow) 7).toI) != 0) = true then
                                          if (!((at_ (rowsAt y2 0) 5).toB)) = true then
                                            some (0, [.r [at_ (hd x1.2) 0], .r [.bool true], .r (rowsAt y2 0)])
                                          else
                                            if (at_ (hd x1.2) 0).isDp = true then
                                              if (decide ((((at_ ((at_ (hd x1.2) 0).dpRow) 12).rows).length : Int) > 0)) = true then
                                                if (!((at_ (rowsAt y2 0) 7).toB)) = true then
                                                  some (0, [.r [at_ (hd x1.2) 0], .r [.bool true], .r (rowsAt y2 0)])
                                                else
                                                  if (!((at_ (rowsAt y2 0) 6).toB)) = true then
                                                    if (at_ (hd x1.2) 0).isDp = true then
                                                      (E.pc n_value_Same [[at_ ((at_ (hd x1.2) 0).dpRow) 8, at_ ((at_ (hd x1.2) 0).dpRow) 9, at_ ((at_ (hd x1.2) 0).dpRow) 10, at_ ((at_ (hd x1.2) 0).dpRow) 11], [.int 0, .int 0, .str [], .nils]]).bind fun y71 =>
                                                        some (0, [.r [at_ (hd x1.2) 0], .r [.bool (!((at_ (rowsAt y71 0) 0).toB))], .r (rowsAt y2 0)])
                                                    else none
                                                  else
                                                    some (0, [.r [at_ (hd x1.2) 0], .r [.bool false], .r (rowsAt y2 0)])
                                              else
                                                if (!((at_ (rowsAt y2 0) 6).toB)) = true then
                                                  if (at_ (hd x1.2) 0).isDp = true then
                                                    (E.pc n_value_Same [[at_ ((at_ (hd x1.2) 0).dpRow) 8, at_ ((at_ (hd x1.2) 0).dpRow) 9, at_ ((at_ (hd x1.2) 0).dpRow) 10, at_ ((at_ (hd x1.2) 0).dpRow) 11], [.int 0, .int 0, .str [], .nils]]).bind fun y72 =>
                                                      some (0, [.r [at_ (hd x1.2) 0], .r [.bool (!((at_ (rowsAt y72 0) 0).toB))], .r (rowsAt y2 0)])
                                                  else none
                                                else
                                                  some (0, [.r [at_ (hd x1.2) 0], .r [.bool false], .r (rowsAt y2 0)])
                                            else none
                                        else
                                          if (at_ (hd x1.2) 0).isDp = true then
                                            if (decide ((((at_ ((at_ (hd x1.2) 0).dpRow) 12).rows).length : Int) > 0)) = true then
                                              if (!((at_ (rowsAt y2 0) 7).toB)) = true then
                                                some (0, [.r [at_ (hd x1.2) 0], .r [.bool true], .r (rowsAt y2 0)])
                                              else
                                                if (!((at_ (rowsAt y2 0) 6).toB)) = true then
                                                  if (at_ (hd x1.2) 0).isDp = true then
                                                    (E.pc n_value_Same [[at_ ((at_ (hd x1.2) 0).dpRow) 8, at_ ((at_ (hd x1.2) 0).dpRow) 9, at_ ((at_ (hd x1.2) 0).dpRow) 10, at_ ((at_ (hd x1.2) 0).dpRow) 11], [.int 0, .int 0, .str [], .nils]]).bind fun y73 =>
                                                      some (0, [.r [at_ (hd x1.2) 0], .r [.bool (!((at_ (rowsAt y73 0) 0).toB))], .r (rowsAt y2 0)])
                                                  else none
                                                else
                                                  some (0, [.r [at_ (hd x1.2) 0], .r [.bool false], .r (rowsAt y2 0)])
                                            else
                                              if (!((at_ (rowsAt y2 0) 6).toB)) = true then
                                                if (at_ (hd x1.2) 0).isDp = true then
                                                  (E.pc n_value_Same [[at_ ((at_ (hd x1.2) 0).dpRow) 8, at_ ((at_ (hd x1.2) 0).dpRow) 9, at_ ((at_ (hd x1.2) 0).dpRow) 10, at_ ((at_ (hd x1.2) 0).dpRow) 11], [.int 0, .int 0, .str [], .nils]]).bind fun y74 =>
                                                    some (0, [.r [at_ (hd x1.2) 0], .r [.bool (!((at_ (rowsAt y74 0) 0).toB))], .r (rowsAt y2 0)])
                                                else none
                                              else
                                                some (0, [.r [at_ (hd x1.2) 0], .r [.bool false], .r (rowsAt y2 0)])
                                          else none
                                      else none
                                  else none
                              else none
                          else none
                      else
                        if (at_ (hd x1.2) 0).isDp = true then
                          if (((at_ ((at_ (hd x1.2) 0).dpRow) 4).toI) != 0) = true then
                            if (!((at_ (rowsAt y2 0) 3).toB)) = true then
                              some (0, [.r [at_ (hd x1.2) 0], .r [.bool true], .r (rowsAt y2 0)])
                            else
                              if (at_ (hd x1.2) 0).isDp = true then
                                if (((at_ ((at_ (hd x1.2) 0).dpRow) 5).toI) != 0) = true then
                                  if (!((at_ (rowsAt y2 0) 4).toB)) = true then
                                    some (0, [.r [at_ (hd x1.2) 0], .r [.bool true], .r (rowsAt y2 0)])
                                  else
                                    if (at_ (hd x1.2) 0).isDp = true then
                                      if (((at_ ((at_ (hd x1.2) 0).dpRow) 7).toI) != 0) = true then
                                        if (!((at_ (rowsAt y2 0) 5).toB)) = true then
                                          some (0, [.r [at_ (hd x1.2) 0], .r [.bool true], .r (rowsAt y2 0)])
                                        else
                                          if (at_ (hd x1.2) 0).isDp = true then
                                            if (decide ((((at_ ((at_ (hd x1.2) 0).dpRow) 12).rows).length : Int) > 0)) = true then
                                              if (!((at_ (rowsAt y2 0) 7).toB)) = true then
                                                some (0, [.r [at_ (hd x1.2) 0], .r [.bool true], .r (rowsAt y2 0)])
                                              else
                                                if (!((at_ (rowsAt y2 0) 6).toB)) = true then
                                                  if (at_ (hd x1.2) 0).isDp = true then
                                                    (E.pc n_value_Same [[at_ ((at_ (hd x1.2) 0).dpRow) 8, at_ ((at_ (hd x1.2) 0).dpRow) 9, at_ ((at_ (hd x1.2) 0).dpRow) 10, at_ ((at_ (hd x1.2) 0).dpRow) 11], [.int 0, .int 0, .str [], .nils]]).bind fun y75 =>
                                                      some (0, [.r [at_ (hd x1.2) 0], .r [.bool (!((at_ (rowsAt y75 0) 0).toB))], .r (rowsAt y2 0)])
                                                  else none
                                                else
                                                  some (0, [.r [at_ (hd x1.2) 0], .r [.bool false], .r (rowsAt y2 0)])
                                            else
                                              if (!((at_ (rowsAt y2 0) 6).toB)) = true then
                                                if (at_ (hd x1.2) 0).isDp = true then
                                                  (E.pc n_value_Same [[at_ ((at_ (hd x1.2) 0).dpRow) 8, at_ ((at_ (hd x1.2) 0).dpRow) 9, at_ ((at_ (hd x1.2) 0).dpRow) 10, at_ ((at_ (hd x1.2) 0).dpRow) 11], [.int 0, .int 0, .str [], .nils]]).bind fun y76 =>
                                                    some (0, [.r [at_ (hd x1.2) 0], .r [.bool (!((at_ (rowsAt y76 0) 0).toB))], .r (rowsAt y2 0)])
                                                else none
                                              else
                                                some (0, [.r [at_ (hd x1.2) 0], .r [.bool false], .r (rowsAt y2 0)])
                                          else none
                                      else
                                        if (at_ (hd x1.2) 0).isDp = true then
                                          if (decide ((((at_ ((at_ (hd x1.2) 0).dpRow) 12).rows).length : Int) > 0)) = true then
                                            if (!((at_ (rowsAt y2 0) 7).toB)) = true then
                                              some (0, [.r [at_ (hd x1.2) 0], .r [.bool true], .r (rowsAt y2 0)])
                                            else
                                              if (!((at_ (rowsAt y2 0) 6).toB)) = true then
                                                if (at_ (hd x1.2) 0).isDp = true then
                                                  (E.pc n_value_Same [[at_ ((at_ (hd x1.2) 0).dpRow) 8, at_ ((at_ (hd x1.2) 0).dpRow) 9, at_ ((at_ (hd x1.2) 0).dpRow) 10, at_ ((at_ (hd x1.2) 0).dpRow) 11], [.int 0, .int 0, .str [], .nils]]).bind fun y77 =>
                                                    some (0, [.r [at_ (hd x1.2) 0], .r [.bool (!((at_ (rowsAt y77 0) 0).toB))], .r (rowsAt y2 0)])
                                                else none
                                              else
                                                some (0, [.r [at_ (hd x1.2) 0], .r [.bool false], .r (rowsAt y2 0)])
                                          else
                                            if (!((at_ (rowsAt y2 0) 6).toB)) = true then
                                              if (at_ (hd x1.2) 0).isDp = true then
                                                (E.pc n_value_Same [[at_ ((at_ (hd x1.2) 0).dpRow) 8, at_ ((at_ (hd x1.2) 0).dpRow) 9, at_ ((at_ (hd x1.2) 0).dpRow) 10, at_ ((at_ (hd x1.2) 0).dpRow) 11], [.int 0, .int 0, .str [], .nils]]).bind fun y78 =>
                                                  some (0, [.r [at_ (hd x1.2) 0], .r [.bool (!((at_ (rowsAt y78 0) 0).toB))], .r (rowsAt y2 0)])
                                              else none
                                            else
                                              some (0, [.r [at_ (hd x1.2) 0], .r [.bool false], .r (rowsAt y2 0)])
                                        else none
                                    else none
                                else
                                  if (at_ (hd x1.2) 0).isDp = true then
                                    if (((at_ ((at_ (hd x1.2) 0).dpRow) 6).toI) != 0) = true then
                                      if (!((at_ (rowsAt y2 0) 4).toB)) = true then
                                        some (0, [.r [at_ (hd x1.2) 0], .r [.bool true], .r (rowsAt y2 0)])
                                      else
                                        if (at_ (hd x1.2) 0).isDp = true then
                                          if (((at_ ((at_ (hd x1.2) 0).dpRow) 7).toI) != 0) = true then
                                            if (!((at_ (rowsAt y2 0) 5).toB)) = true then
                                              some (0, [.r [at_ (hd x1.2) 0], .r [.bool true], .r (rowsAt y2 0)])
                                            else
                                              if (at_ (hd x1.2) 0).isDp = true then
                                                if (decide ((((at_ ((at_ (hd x1.2) 0).dpRow) 12).rows).length : Int) > 0)) = true then
                                                  if (!((at_ (rowsAt y2 0) 7).toB)) = true then
                                                    some (0, [.r [at_ (hd x1.2) 0], .r [.bool true], .r (rowsAt y2 0)])
                                                  else
                                                    if (!((at_ (rowsAt y2 0) 6).toB)) = true then
                                                      if (at_ (hd x1.2) 0).isDp = true then
                                                        (E.pc n_value_Same [[at_ ((at_ (hd x1.2) 0).dpRow) 8, at_ ((at_ (hd x1.2) 0).dpRow) 9, at_ ((at_ (hd x1.2) 0).dpRow) 10, at_ ((at_ (hd x1.2) 0).dpRow) 11], [.int 0, .int 0, .str [], .nils]]).bind fun y79 =>
                                                          some (0, [.r [at_ (hd x1.2) 0], .r [.bool (!((at_ (rowsAt y79 0) 0).toB))], .r (rowsAt y2 0)])
                                                      else none
                                                    else
                                                      some (0, [.r [at_ (hd x1.2) 0], .r [.bool false], .r (rowsAt y2 0)])
                                                else
                                                  if (!((at_ (rowsAt y2 0) 6).toB)) = true then
                                                    if (at_ (hd x1.2) 0).isDp = true then
                                                      (E.pc n_value_Same [[at_ ((at_ (hd x1.2) 0).dpRow) 8, at_ ((at_ (hd x1.2) 0).dpRow) 9, at_ ((at_ (hd x1.2) 0).dpRow) 10, at_ ((at_ (hd x1.2) 0).dpRow) 11], [.int 0, .int 0, .str [], .nils]]).bind fun y80 =>
                                                        some (0, [.r [at_ (hd x1.2) 0], .r [.bool (!((at_ (rowsAt y80 0) 0).toB))], .r (rowsAt y2 0)])
                                                    else none
                                                  else
                                                    some (0, [.r [at_ (hd x1.2) 0], .r [.bool false], .r (rowsAt y2 0)])
                                              else none
                                          else
                                            if (at_ (hd x1.2) 0).isDp = true then
                                              if (decide ((((at_ ((at_ (hd x1.2) 0).dpRow) 12).rows).length : Int) > 0)) = true then
                                                if (!((at_ (rowsAt y2 0) 7).toB)) = true then
                                                  some (0, [.r [at_ (hd x1.2) 0], .r [.bool true], .r (rowsAt y2 0)])
                                                else
                                                  if (!((at_ (rowsAt y2 0) 6).toB)) = true then
                                                    if (at_ (hd x1.2) 0).isDp = true then
                                                      (E.pc n_value_Same [[at_ ((at_ (hd x1.2) 0).dpRow) 8, at_ ((at_ (hd x1.2) 0).dpRow) 9, at_ ((at_ (hd x1.2) 0).dpRow) 10, at_ ((at_ (hd x1.2) 0).dpRow) 11], [.int 0, .int 0, .str [], .nils]]).bind fun y81 =>
                                                        some (0, [.r [at_ (hd x1.2) 0], .r [.bool (!((at_ (rowsAt y81 0) 0).toB))], .r (rowsAt y2 0)])
                                                    else none
                                                  else
                                                    some (0, [.r [at_ (hd x1.2) 0], .r [.bool false], .r (rowsAt y2 0)])
                                              else
                                                if (!((at_ (rowsAt y2 0) 6).toB)) = true then
                                                  if (at_ (hd x1.2) 0).isDp = true then
                                                    (E.pc n_value_Same [[at_ ((at_ (hd x1.2) 0).dpRow) 8, at_ ((at_ (hd x1.2) 0).dpRow) 9, at_ ((at_ (hd x1.2) 0).dpRow) 10, at_ ((at_ (hd x1.2) 0).dpRow) 11], [.int 0, .int 0, .str [], .nils]]).bind fun y82 =>
                                                      some (0, [.r [at_ (hd x1.2) 0], .r [.bool (!((at_ (rowsAt y82 0) 0).toB))], .r (rowsAt y2 0)])
                                                  else none
                                                else
                                                  some (0, [.r [at_ (hd x1.2) 0], .r [.bool false], .r (rowsAt y2 0)])
                                            else none
                                        else none
                                    else
                                      if (at_ (hd x1.2) 0).isDp = true then
                                        if (((at_ ((at_ (hd x1.2) 0).dpRow) 7).toI) != 0) = true then
                                          if (!((at_ (rowsAt y2 0) 5).toB)) = true then
                                            some (0, [.r [at_ (hd x1.2) 0], .r [.bool true], .r (rowsAt y2 0)])
                                          else
                                            if (at_ (hd x1.2) 0).isDp = true then
                                              if (decide ((((at_ ((at_ (hd x1.2) 0).dpRow) 12).rows).length : Int) > 0)) = true then
                                                if (!((at_ (rowsAt y2 0) 7).toB)) = true then
                                                  some (0, [.r [at_ (hd x1.2) 0], .r [.bool true], .r (rowsAt y2 0)])
                                                else
                                                  if (!((at_ (rowsAt y2 0) 6).toB)) = true then
                                                    if (at_ (hd x1.2) 0).isDp = true then
                                                      (E.pc n_value_Same [[at_ ((at_ (hd x1.2) 0).dpRow) 8, at_ ((at_ (hd x1.2) 0).dpRow) 9, at_ ((at_ (hd x1.2) 0).dpRow) 10, at_ ((at_ (hd x1.2) 0).dpRow) 11], [.int 0, .int 0, .str [], .nils]]).bind fun y83 =>
                                                        some (0, [.r [at_ (hd x1.2) 0], .r [.bool (!((at_ (rowsAt y83 0) 0).toB))], .r (rowsAt y2 0)])
                                                    else none
                                                  else
                                                    some (0, [.r [at_ (hd x1.2) 0], .r [.bool false], .r (rowsAt y2 0)])
                                              else
                                                if (!((at_ (rowsAt y2 0) 6).toB)) = true then
                                                  if (at_ (hd x1.2) 0).isDp = true then
                                                    (E.pc n_value_Same [[at_ ((at_ (hd x1.2) 0).dpRow) 8, at_ ((at_ (hd x1.2) 0).dpRow) 9, at_ ((at_ (hd x1.2) 0).dpRow) 10, at_ ((at_ (hd x1.2) 0).dpRow) 11], [.int 0, .int 0, .str [], .nils]]).bind fun y84 =>
                                                      some (0, [.r [at_ (hd x1.2) 0], .r [.bool (!((at_ (rowsAt y84 0) 0).toB))], .r (rowsAt y2 0)])
                                                  else none
                                                else
                                                  some (0, [.r [at_ (hd x1.2) 0], .r [.bool false], .r (rowsAt y2 0)])
                                            else none
                                        else
                                          if (at_ (hd x1.2) 0).isDp = true then
                                            if (decide ((((at_ ((at_ (hd x1.2) 0).dpRow) 12).rows).length : Int) > 0)) = true then
                                              if (!((at_ (rowsAt y2 0) 7).toB)) = true then
                                                some (0, [.r [at_ (hd x1.2) 0], .r [.bool true], .r (rowsAt y2 0)])
                                              else
                                                if (!((at_ (rowsAt y2 0) 6).toB)) = true then
                                                  if (at_ (hd x1.2) 0).isDp = true then
                                                    (E.pc n_value_Same [[at_ ((at_ (hd x1.2) 0).dpRow) 8, at_ ((at_ (hd x1.2) 0).dpRow) 9, at_ ((at_ (hd x1.2) 0).dpRow) 10, at_ ((at_ (hd x1.2) 0).dpRow) 11], [.int 0, .int 0, .str [], .nils]]).bind fun y85 =>
                                                      some (0, [.r [at_ (hd x1.2) 0], .r [.bool (!((at_ (rowsAt y85 0) 0).toB))], .r (rowsAt y2 0)])
                                                  else none
                                                else
                                                  some (0, [.r [at_ (hd x1.2) 0], .r [.bool false], .r (rowsAt y2 0)])
                                            else
                                              if (!((at_ (rowsAt y2 0) 6).toB)) = true then
                                                if (at_ (hd x1.2) 0).isDp = true then
                                                  (E.pc n_value_Same [[at_ ((at_ (hd x1.2) 0).dpRow) 8, at_ ((at_ (hd x1.2) 0).dpRow) 9, at_ ((at_ (hd x1.2) 0).dpRow) 10, at_ ((at_ (hd x1.2) 0).dpRow) 11], [.int 0, .int 0, .str [], .nils]]).bind fun y86 =>
                                                    some (0, [.r [at_ (hd x1.2) 0], .r [.bool (!((at_ (rowsAt y86 0) 0).toB))], .r (rowsAt y2 0)])
                                                else none
                                              else
                                                some (0, [.r [at_ (hd x1.2) 0], .r [.bool false], .r (rowsAt y2 0)])
                                          else none
                                      else none
                                  else none
                              else none
                          else
                            if (at_ (hd x1.2) 0).isDp = true then
                              if (((at_ ((at_ (hd x1.2) 0).dpRow) 5).toI) != 0) = true then
                                if (!((at_ (rowsAt y2 0) 4).toB)) = true then
                                  some (0, [.r [at_ (hd x1.2) 0], .r [.bool true], .r (rowsAt y2 0)])
                                else
                                  if (at_ (hd x1.2) 0).isDp = true then
                                    if (((at_ ((at_ (hd x1.2) 0).dpRow) 7).toI) != 0) = true then
                                      if (!((at_ (rowsAt y2 0) 5).toB)) = true then
                                        some (0, [.r [at_ (hd x1.2) 0], .r [.bool true], .r (rowsAt y2 0)])
                                      else
                                        if (at_ (hd x1.2) 0).isDp = true then
                                          if (decide ((((at_ ((at_ (hd x1.2) 0).dpRow) 12).rows).length : Int) > 0)) = true then
                                            if (!((at_ (rowsAt y2 0) 7).toB)) = true then
                                              some (0, [.r [at_ (hd x1.2) 0], .r [.bool true], .r (rowsAt y2 0)])
                                            else
                                              if (!((at_ (rowsAt y2 0) 6).toB)) = true then
                                                if (at_ (hd x1.2) 0).isDp = true then
                                                  (E.pc n_value_Same [[at_ ((at_ (hd x1.2) 0).dpRow) 8, at_ ((at_ (hd x1.2) 0).dpRow) 9, at_ ((at_ (hd x1.2) 0).dpRow) 10, at_ ((at_ (hd x1.2) 0).dpRow) 11], [.int 0, .int 0, .str [], .nils]]).bind fun y87 =>
                                                    some (0, [.r [at_ (hd x1.2) 0], .r [.bool (!((at_ (rowsAt y87 0) 0).toB))], .r (rowsAt y2 0)])
                                                else none
                                              else
                                                some (0, [.r [at_ (hd x1.2) 0], .r [.bool false], .r (rowsAt y2 0)])
                                          else
                                            if (!((at_ (rowsAt y2 0) 6).toB)) = true then
                                              if (at_ (hd x1.2) 0).isDp = true then
                                                (E.pc n_value_Same [[at_ ((at_ (hd x1.2) 0).dpRow) 8, at_ ((at_ (hd x1.2) 0).dpRow) 9, at_ ((at_ (hd x1.2) 0).dpRow) 10, at_ ((at_ (hd x1.2) 0).dpRow) 11], [.int 0, .int 0, .str [], .nils]]).bind fun y88 =>
                                                  some (0, [.r [at_ (hd x1.2) 0], .r [.bool (!((at_ (rowsAt y88 0) 0).toB))], .r (rowsAt y2 0)])
                                              else none
                                            else
                                              some (0, [.r [at_ (hd x1.2) 0], .r [.bool false], .r (rowsAt y2 0)])
                                        else none
                                    else
                                      if (at_ (hd x1.2) 0).isDp = true then
                                        if (decide ((((at_ ((at_ (hd x1.2) 0).dpRow) 12).rows).length : Int) > 0)) = true then
                                          if (!((at_ (rowsAt y2 0) 7).toB)) = true then
                                            some (0, [.r [at_ (hd x1.2) 0], .r [.bool true], .r (rowsAt y2 0)])
                                          else
                                            if (!((at_ (rowsAt y2 0) 6).toB)) = true then
                                              if (at_ (hd x1.2) 0).isDp = true then
                                                (E.pc n_value_Same [[at_ ((at_ (hd x1.2) 0).dpRow) 8, at_ ((at_ (hd x1.2) 0).dpRow) 9, at_ ((at_ (hd x1.2) 0).dpRow) 10, at_ ((at_ (hd x1.2) 0).dpRow) 11], [.int 0, .int 0, .str [], .nils]]).bind fun y89 =>
                                                  some (0, [.r [at_ (hd x1.2) 0], .r [.bool (!((at_ (rowsAt y89 0) 0).toB))], .r (rowsAt y2 0)])
                                              else none
                                            else
                                              some (0, [.r [at_ (hd x1.2) 0], .r [.bool false], .r (rowsAt y2 0)])
                                        else
                                          if (!((at_ (rowsAt y2 0) 6).toB)) = true then
                                            if (at_ (hd x1.2) 0).isDp = true then
                                              (E.pc n_value_Same [[at_ ((at_ (hd x1.2) 0).dpRow) 8, at_ ((at_ (hd x1.2) 0).dpRow) 9, at_ ((at_ (hd x1.2) 0).dpRow) 10, at_ ((at_ (hd x1.2) 0).dpRow) 11], [.int 0, .int 0, .str [], .nils]]).bind fun y90 =>
                                                some (0, [.r [at_ (hd x1.2) 0], .r [.bool (!((at_ (rowsAt y90 0) 0).toB))], .r (rowsAt y2 0)])
                                            else none
                                          else
                                            some (0, [.r [at_ (hd x1.2) 0], .r [.bool false], .r (rowsAt y2 0)])
                                      else none
                                  else none
                              else
                                if (at_ (hd x1.2) 0).isDp = true then
                                  if (((at_ ((at_ (hd x1.2) 0).dpRow) 6).toI) != 0) = true then
                                    if (!((at_ (rowsAt y2 0) 4).toB)) = true then
                                      some (0, [.r [at_ (hd x1.2) 0], .r [.bool true], .r (rowsAt y2 0)])
                                    else
                                      if (at_ (hd x1.2) 0).isDp = true then
                                        if (((at_ ((at_ (hd x1.2) 0).dpRow) 7).toI) != 0) = true then
                                          if (!((at_ (rowsAt y2 0) 5).toB)) = true then
                                            some (0, [.r [at_ (hd x1.2) 0], .r [.bool true], .r (rowsAt y2 0)])
                                          else
                                            if (at_ (hd x1.2) 0).isDp = true then
                                              if (decide ((((at_ ((at_ (hd x1.2) 0).dpRow) 12).rows).length : Int) > 0)) = true then
                                                if (!((at_ (rowsAt y2 0) 7).toB)) = true then
                                                  some (0, [.r [at_ (hd x1.2) 0], .r [.bool true], .r (rowsAt y2 0)])
                                                else
                                                  if (!((at_ (rowsAt y2 0) 6).toB)) = true then
                                                    if (at_ (hd x1.2) 0).isDp = true then
                                                      (E.pc n_value_Same [[at_ ((at_ (hd x1.2) 0).dpRow) 8, at_ ((at_ (hd x1.2) 0).dpRow) 9, at_ ((at_ (hd x1.2) 0).dpRow) 10, at_ ((at_ (hd x1.2) 0).dpRow) 11], [.int 0, .int 0, .str [], .nils]]).bind fun y91 =>
                                                        some (0, [.r [at_ (hd x1.2) 0], .r [.bool (!((at_ (rowsAt y91 0) 0).toB))], .r (rowsAt y2 0)])
                                                    else none
                                                  else
                                                    some (0, [.r [at_ (hd x1.2) 0], .r [.bool false], .r (rowsAt y2 0)])
                                              else
                                                if (!((at_ (rowsAt y2 0) 6).toB)) = true then
                                                  if (at_ (hd x1.2) 0).isDp = true then
                                                    (E.pc n_value_Same [[at_ ((at_ (hd x1.2) 0).dpRow) 8, at_ ((at_ (hd x1.2) 0).dpRow) 9, at_ ((at_ (hd x1.2) 0).dpRow) 10, at_ ((at_ (hd x1.2) 0).dpRow) 11], [.int 0, .int 0, .str [], .nils]]).bind fun y92 =>
                                                      some (0, [.r [at_ (hd x1.2) 0], .r [.bool (!((at_ (rowsAt y92 0) 0).toB))], .r (rowsAt y2 0)])
                                                  else none
                                                else
                                                  some (0, [.r [at_ (hd x1.2) 0], .r [.bool false], .r (rowsAt y2 0)])
                                            else none
                                        else
                                          if (at_ (hd x1.2) 0).isDp = true then
                                            if (decide ((((at_ ((at_ (hd x1.2) 0).dpRow) 12).rows).length : Int) > 0)) = true then
                                              if (!((at_ (rowsAt y2 0) 7).toB)) = true then
                                                some (0, [.r [at_ (hd x1.2) 0], .r [.bool true], .r (rowsAt y2 0)])
                                              else
                                                if (!((at_ (rowsAt y2 0) 6).toB)) = true then
                                                  if (at_ (hd x1.2) 0).isDp = true then
                                                    (E.pc n_value_Same [[at_ ((at_ (hd x1.2) 0).dpRow) 8, at_ ((at_ (hd x1.2) 0).dpRow) 9, at_ ((at_ (hd x1.2) 0).dpRow) 10, at_ ((at_ (hd x1.2) 0).dpRow) 11], [.int 0, .int 0, .str [], .nils]]).bind fun y93 =>
                                                      some (0, [.r [at_ (hd x1.2) 0], .r [.bool (!((at_ (rowsAt y93 0) 0).toB))], .r (rowsAt y2 0)])
                                                  else none
                                                else
                                                  some (0, [.r [at_ (hd x1.2) 0], .r [.bool false], .r (rowsAt y2 0)])
                                            else
                                              if (!((at_ (rowsAt y2 0) 6).toB)) = true then
                                                if (at_ (hd x1.2) 0).isDp = true then
                                                  (E.pc n_value_Same [[at_ ((at_ (hd x1.2) 0).dpRow) 8, at_ ((at_ (hd x1.2) 0).dpRow) 9, at_ ((at_ (hd x1.2) 0).dpRow) 10, at_ ((at_ (hd x1.2) 0).dpRow) 11], [.int 0, .int 0, .str [], .nils]]).bind fun y94 =>
                                                    some (0, [.r [at_ (hd x1.2) 0], .r [.bool (!((at_ (rowsAt y94 0) 0).toB))], .r (rowsAt y2 0)])
                                                else none
                                              else
                                                some (0, [.r [at_ (hd x1.2) 0], .r [.bool false], .r (rowsAt y2 0)])
                                          else none
                                      else none
                                  else
                                    if (at_ (hd x1.2) 0).isDp = true then
                                      if (((at_ ((at_ (hd x1.2) 0).dpRow) 7).toI) != 0) = true then
                                        if (!((at_ (rowsAt y2 0) 5).toB)) = true then
                                          some (0, [.r [at_ (hd x1.2) 0], .r [.bool true], .r (rowsAt y2 0)])
                                        else
                                          if (at_ (hd x1.2) 0).isDp = true then
                                            if (decide ((((at_ ((at_ (hd x1.2) 0).dpRow) 12).rows).length : Int) > 0)) = true then
                                              if (!((at_ (rowsAt y2 0) 7).toB)) = true then
                                                some (0, [.r [at_ (hd x1.2) 0], .r [.bool true], .r (rowsAt y2 0)])
                                              else
                                                if (!((at_ (rowsAt y2 0) 6).toB)) = true then
                                                  if (at_ (hd x1.2) 0).isDp = true then
                                                    (E.pc n_value_Same [[at_ ((at_ (hd x1.2) 0).dpRow) 8, at_ ((at_ (hd x1.2) 0).dpRow) 9, at_ ((at_ (hd x1.2) 0).dpRow) 10, at_ ((at_ (hd x1.2) 0).dpRow) 11], [.int 0, .int 0, .str [], .nils]]).bind fun y95 =>
                                                      some (0, [.r [at_ (hd x1.2) 0], .r [.bool (!((at_ (rowsAt y95 0) 0).toB))], .r (rowsAt y2 0)])
                                                  else none
                                                else
                                                  some (0, [.r [at_ (hd x1.2) 0], .r [.bool false], .r (rowsAt y2 0)])
                                            else
                                              if (!((at_ (rowsAt y2 0) 6).toB)) = true then
                                                if (at_ (hd x1.2) 0).isDp = true then
                                                  (E.pc n_value_Same [[at_ ((at_ (hd x1.2) 0).dpRow) 8, at_ ((at_ (hd x1.2) 0).dpRow) 9, at_ ((at_ (hd x1.2) 0).dpRow) 10, at_ ((at_ (hd x1.2) 0).dpRow) 11], [.int 0, .int 0, .str [], .nils]]).bind fun y96 =>
                                                    some (0, [.r [at_ (hd x1.2) 0], .r [.bool (!((at_ (rowsAt y96 0) 0).toB))], .r (rowsAt y2 0)])
                                                else none
                                              else
                                                some (0, [.r [at_ (hd x1.2) 0], .r [.bool false], .r (rowsAt y2 0)])
                                          else none
                                      else
                                        if (at_ (hd x1.2) 0).isDp = true then
                                          if (decide ((((at_ ((at_ (hd x1.2) 0).dpRow) 12).rows).length : Int) > 0)) = true then
                                            if (!((at_ (rowsAt y2 0) 7).toB)) = true then
                                              some (0, [.r [at_ (hd x1.2) 0], .r [.bool true], .r (rowsAt y2 0)])
                                            else
                                              if (!((at_ (rowsAt y2 0) 6).toB)) = true then
                                                if (at_ (hd x1.2) 0).isDp = true then
                                                  (E.pc n_value_Same [[at_ ((at_ (hd x1.2) 0).dpRow) 8, at_ ((at_ (hd x1.2) 0).dpRow) 9, at_ ((at_ (hd x1.2) 0).dpRow) 10, at_ ((at_ (hd x1.2) 0).dpRow) 11], [.int 0, .int 0, .str [], .nils]]).bind fun y97 =>
                                                    some (0, [.r [at_ (hd x1.2) 0], .r [.bool (!((at_ (rowsAt y97 0) 0).toB))], .r (rowsAt y2 0)])
                                                else none
                                              else
                                                some (0, [.r [at_ (hd x1.2) 0], .r [.bool false], .r (rowsAt y2 0)])
                                          else
                                            if (!((at_ (rowsAt y2 0) 6).toB)) = true then
                                              if (at_ (hd x1.2) 0).isDp = true then
                                                (E.pc n_value_Same [[at_ ((at_ (hd x1.2) 0).dpRow) 8, at_ ((at_ (hd x1.2) 0).dpRow) 9, at_ ((at_ (hd x1.2) 0).dpRow) 10, at_ ((at_ (hd x1.2) 0).dpRow) 11], [.int 0, .int 0, .str [], .nils]]).bind fun y98 =>
                                                  some (0, [.r [at_ (hd x1.2) 0], .r [.bool (!((at_ (rowsAt y98 0) 0).toB))], .r (rowsAt y2 0)])
                                              else none
                                            else
                                              some (0, [.r [at_ (hd x1.2) 0], .r [.bool false], .r (rowsAt y2 0)])
                                        else none
                                    else none
                                else none
                            else none
                        else none
                    else none
                else none
            else
              if (at_ (hd x1.2) 0).isDp = true then
                if (!(((at_ ((at_ (hd x1.2) 0).dpRow) 2).toS) == ([] : List UInt8))) = true then
                  if (!((at_ (rowsAt y2 0) 1).toB)) = true then
                    some (0, [.r [at_ (hd x1.2) 0], .r [.bool true], .r (rowsAt y2 0)])
                  else
                    if (at_ (hd x1.2) 0).isDp = true then
                      if (decide ((((at_ ((at_ (hd x1.2) 0).dpRow) 3).rows).length : Int) > 0)) = true then
                        if (!((at_ (rowsAt y2 0) 2).toB)) = true then
                          some (0, [.r [at_ (hd x1.2) 0], .r [.bool true], .r (rowsAt y2 0)])
                        else
                          if (at_ (hd x1.2) 0).isDp = true then
                            if (((at_ ((at_ (hd x1.2) 0).dpRow) 4).toI) != 0) = true then
                              if (!((at_ (rowsAt y2 0) 3).toB)) = true then
                                some (0, [.r [at_ (hd x1.2) 0], .r [.bool true], .r (rowsAt y2 0)])
                              else
                                if (at_ (hd x1.2) 0).isDp = true then
                                  if (((at_ ((at_ (hd x1.2) 0).dpRow) 5).toI) != 0) = true then
                                    if (!((at_ (rowsAt y2 0) 4).toB)) = true then
                                      some (0, [.r [at_ (hd x1.2) 0], .r [.bool true], .r (rowsAt y2 0)])
                                    else
                                      if (at_ (hd x1.2) 0).isDp = true then
                                        if (((at_ ((at_ (hd x1.2) 0).dpRow) 7).toI) != 0) = true then
                                          if (!((at_ (rowsAt y2 0) 5).toB)) = true then
                                            some (0, [.r [at_ (hd x1.2) 0], .r [.bool true], .r (rowsAt y2 0)])
                                          else
                                            if (at_ (hd x1.2) 0).isDp = true then
                                              if (decide ((((at_ ((at_ (hd x1.2) 0).dpRow) 12).rows).length : Int) > 0)) = true then
                                                if (!((at_ (rowsAt y2 0) 7).toB)) = true then
                                                  some (0, [.r [at_ (hd x1.2) 0], .r [.bool true], .r (rowsAt y2 0)])
                                                else
                                                  if (!((at_ (rowsAt y2 0) 6).toB)) = true then
                                                    if (at_ (hd x1.2) 0).isDp = true then
                                                      (E.pc n_value_Same [[at_ ((at_ (hd x1.2) 0).dpRow) 8, at_ ((at_ (hd x1.2) 0).dpRow) 9, at_ ((at_ (hd x1.2) 0).dpRow) 10, at_ ((at_ (hd x1.2) 0).dpRow) 11], [.int 0, .int 0, .str [], .nils]]).bind fun y99 =>
                                                        some (0, [.r [at_ (hd x1.2) 0], .r [.bool (!((at_ (rowsAt y99 0) 0).toB))], .r (rowsAt y2 0)])
                                                    else none
                                                  else
                                                    some (0, [.r [at_ (hd x1.2) 0], .r [.bool false], .r (rowsAt y2 0)])
                                              else
                                                if (!((at_ (rowsAt y2 0) 6).toB)) = true then
                                                  if (at_ (hd x1.2) 0).isDp = true then
                                                    (E.pc n_value_Same [[at_ ((at_ (hd x1.2) 0).dpRow) 8, at_ ((at_ (hd x1.2) 0).dpRow) 9, at_ ((at_ (hd x1.2) 0).dpRow) 10, at_ ((at_ (hd x1.2) 0).dpRow) 11], [.int 0, .int 0, .str [], .nils]]).bind fun y100 =>
                                                      some (0, [.r [at_ (hd x1.2) 0], .r [.bool (!((at_ (rowsAt y100 0) 0).toB))], .r (rowsAt y2 0)])
                                                  else none
                                                else
                                                  some (0, [.r [at_ (hd x1.2) 0], .r [.bool false], .r (rowsAt y2 0)])
                                            else none
                                        else
                                          if (at_ (hd x1.2) 0).isDp = true then
                                            if (decide ((((at_ ((at_ (hd x1.2) 0).dpRow) 12).rows).length : Int) > 0)) = true then
                                              if (!((at_ (rowsAt y2 0) 7).toB)) = true then
                                                some (0, [.r [at_ (hd x1.2) 0], .r [.bool true], .r (rowsAt y2 0)])
                                              else
                                                if (!((at_ (rowsAt y2 0) 6).toB)) = true then
                                                  if (at_ (hd x1.2) 0).isDp = true then
                                                    (E.pc n_value_Same [[at_ ((at_ (hd x1.2) 0).dpRow) 8, at_ ((at_ (hd x1.2) 0).dpRow) 9, at_ ((at_ (hd x1.2) 0).dpRow) 10, at_ ((at_ (hd x1.2) 0).dpRow) 11], [.int 0, .int 0, .str [], .nils]]).bind fun y101 =>
                                                      some (0, [.r [at_ (hd x1.2) 0], .r [.bool (!((at_ (rowsAt y101 0) 0).toB))], .r (rowsAt y2 0)])
                                                  else none
                                                else
                                                  some (0, [.r [at_ (hd x1.2) 0], .r [.bool false], .r (rowsAt y2 0)])
                                            else
                                              if (!((at_ (rowsAt y2 0) 6).toB)) = true then
                                                if (at_ (hd x1.2) 0).isDp = true then
                                                  (E.pc n_value_Same [[at_ ((at_ (hd x1.2) 0).dpRow) 8, at_ ((at_ (hd x1.2) 0).dpRow) 9, at_ ((at_ (hd x1.2) 0).dpRow) 10, at_ ((at_ (hd x1.2) 0).dpRow) 11], [.int 0, .int 0, .str [], .nils]]).bind fun y102 =>
                                                    some (0, [.r [at_ (hd x1.2) 0], .r [.bool (!((at_ (rowsAt y102 0) 0).toB))], .r (rowsAt y2 0)])
                                                else none
                                              else
                                                some (0, [.r [at_ (hd x1.2) 0], .r [.bool false], .r (rowsAt y2 0)])
                                          else none
                                      else none
                                  else
                                    if (at_ (hd x1.2) 0).isDp = true then
                                      if (((at_ ((at_ (hd x1.2) 0).dpRow) 6).toI) != 0) = true then
                                        if (!((at_ (rowsAt y2 0) 4).toB)) = true then
                                          some (0, [.r [at_ (hd x1.2) 0], .r [.bool true], .r (rowsAt y2 0)])
                                        else
                                          if (at_ (hd x1.2) 0).isDp = true then
                                            if (((at_ ((at_ (hd x1.2) 0).dpRow) 7).toI) != 0) = true then
                                              if (!((at_ (rowsAt y2 0) 5).toB)) = true then
                                                some (0, [.r [at_ (hd x1.2) 0], .r [.bool true], .r (rowsAt y2 0)])
                                              else
                                                if (at_ (hd x1.2) 0).isDp = true then
                                                  if (decide ((((at_ ((at_ (hd x1.2) 0).dpRow) 12).rows).length : Int) > 0)) = true then
                                                    if (!((at_ (rowsAt y2 0) 7).toB)) = true then
                                                      some (0, [.r [at_ (hd x1.2) 0], .r [.bool true], .r (rowsAt y2 0)])
                                                    else
                                                      if (!((at_ (rowsAt y2 0) 6).toB)) = true then
                                                        if (at_ (hd x1.2) 0).isDp = true then
                                                          (E.pc n_value_Same [[at_ ((at_ (hd x1.2) 0).dpRow) 8, at_ ((at_ (hd x1.2) 0).dpRow) 9, at_ ((at_ (hd x1.2) 0).dpRow) 10, at_ ((at_ (hd x1.2) 0).dpRow) 11], [.int 0, .int 0, .str [], .nils]]).bind fun y103 =>
                                                            some (0, [.r [at_ (hd x1.2) 0], .r [.bool (!((at_ (rowsAt y103 0) 0).toB))], .r (rowsAt y2 0)])
                                                        else none
                                                      else
                                                        some (0, [.r [at_ (hd x1.2) 0], .r [.bool false], .r (rowsAt y2 0)])
                                                  else
                                                    if (!((at_ (rowsAt y2 0) 6).toB)) = true then
                                                      if (at_ (hd x1.2) 0).isDp = true then
                                                        (E.pc n_value_Same [[at_ ((at_ (hd x1.2) 0).dpRow) 8, at_ ((at_ (hd x1.2) 0).dpRow) 9, at_ ((at_ (hd x1.2) 0).dpRow) 10, at_ ((at_ (hd x1.2) 0).dpRow) 11], [.int 0, .int 0, .str [], .nils]]).bind fun y104 =>
                                                          some (0, [.r [at_ (hd x1.2) 0], .r [.bool (!((at_ (rowsAt y104 0) 0).toB))], .r (rowsAt y2 0)])
                                                      else none
                                                    else
                                                      some (0, [.r [at_ (hd x1.2) 0], .r [.bool false], .r (rowsAt y2 0)])
                                                else none
                                            else
                                              if (at_ (hd x1.2) 0).isDp = true then
                                                if (decide ((((at_ ((at_ (hd x1.2) 0).dpRow) 12).rows).length : Int) > 0)) = true then
                                                  if (!((at_ (rowsAt y2 0) 7).toB)) = true then
                                                    some (0, [.r [at_ (hd x1.2) 0], .r [.bool true], .r (rowsAt y2 0)])
                                                  else
                                                    if (!((at_ (rowsAt y2 0) 6).toB)) = true then
                                                      if (at_ (hd x1.2) 0).isDp = true then
                                                        (E.pc n_value_Same [[at_ ((at_ (hd x1.2) 0).dpRow) 8, at_ ((at_ (hd x1.2) 0).dpRow) 9, at_ ((at_ (hd x1.2) 0).dpRow) 10, at_ ((at_ (hd x1.2) 0).dpRow) 11], [.int 0, .int 0, .str [], .nils]]).bind fun y105 =>
                                                          some (0, [.r [at_ (hd x1.2) 0], .r [.bool (!((at_ (rowsAt y105 0) 0).toB))], .r (rowsAt y2 0)])
                                                      else none
                                                    else
                                                      some (0, [.r [at_ (hd x1.2) 0], .r [.bool false], .r (rowsAt y2 0)])
                                                else
                                                  if (!((at_ (rowsAt y2 0) 6).toB)) = true then
                                                    if (at_ (hd x1.2) 0).isDp = true then
                                                      (E.pc n_value_Same [[at_ ((at_ (hd x1.2) 0).dpRow) 8, at_ ((at_ (hd x1.2) 0).dpRow) 9, at_ ((at_ (hd x1.2) 0).dpRow) 10, at_ ((at_ (hd x1.2) 0).dpRow) 11], [.int 0, .int 0, .str [], .nils]]).bind fun y106 =>
                                                        some (0, [.r [at_ (hd x1.2) 0], .r [.bool (!((at_ (rowsAt y106 0) 0).toB))], .r (rowsAt y2 0)])
                                                    else none
                                                  else
                                                    some (0, [.r [at_ (hd x1.2) 0], .r [.bool false], .r (rowsAt y2 0)])
                                              else none
                                          else none
                                      else
                                        if (at_ (hd x1.2) 0).isDp = true then
                                          if (((at_ ((at_ (hd x1.2) 0).dpRow) 7).toI) != 0) = true then
                                            if (!((at_ (rowsAt y2 0) 5).toB)) = true then
                                              some (0, [.r [at_ (hd x1.2) 0], .r [.bool true], .r (rowsAt y2 0)])
                                            else
                                              if (at_ (hd x1.2) 0).isDp = true then
                                                if (decide ((((at_ ((at_ (hd x1.2) 0).dpRow) 12).rows).length : Int) > 0)) = true then
                                                  if (!((at_ (rowsAt y2 0) 7).toB)) = true then
                                                    some (0, [.r [at_ (hd x1.2) 0], .r [.bool true], .r (rowsAt y2 0)])
                                                  else
                                                    if (!((at_ (rowsAt y2 0) 6).toB)) = true then
                                                      if (at_ (hd x1.2) 0).isDp = true then
                                                        (E.pc n_value_Same [[at_ ((at_ (hd x1.2) 0).dpRow) 8, at_ ((at_ (hd x1.2) 0).dpRow) 9, at_ ((at_ (hd x1.2) 0).dpRow) 10, at_ ((at_ (hd x1.2) 0).dpRow) 11], [.int 0, .int 0, .str [], .nils]]).bind fun y107 =>
                                                          some (0, [.r [at_ (hd x1.2) 0], .r [.bool (!((at_ (rowsAt y107 0) 0).toB))], .r (rowsAt y2 0)])
                                                      else none
                                                    else
                                                      some (0, [.r [at_ (hd x1.2) 0], .r [.bool false], .r (rowsAt y2 0)])
                                                else
                                                  if (!((at_ (rowsAt y2 0) 6).toB)) = true then
                                                    if (at_ (hd x1.2) 0).isDp = true then
                                                      (E.pc n_value_Same [[at_ ((at_ (hd x1.2) 0).dpRow) 8, at_ ((at_ (hd x1.2) 0).dpRow) 9, at_ ((at_ (hd x1.2) 0).dpRow) 10, at_ ((at_ (hd x1.2) 0).dpRow) 11], [.int 0, .int 0, .str [], .nils]]).bind fun y108 =>
                                                        some (0, [.r [at_ (hd x1.2) 0], .r [.bool (!((at_ (rowsAt y108 0) 0).toB))], .r (rowsAt y2 0)])
                                                    else none
                                                  else
                                                    some (0, [.r [at_ (hd x1.2) 0], .r [.bool false], .r (rowsAt y2 0)])
                                              else none
                                          else
                                            if (at_ (hd x1.2) 0).isDp = true then
                                              if (decide ((((at_ ((at_ (hd x1.2) 0).dpRow) 12).rows).length : Int) > 0)) = true then
                                                if (!((at_ (rowsAt y2 0) 7).toB)) = true then
                                                  some (0, [.r [at_ (hd x1.2) 0], .r [.bool true], .r (rowsAt y2 0)])
                                                else
                                                  if (!((at_ (rowsAt y2 0) 6).toB)) = true then
                                                    if (at_ (hd x1.2) 0).isDp = true then
                                                      (E.pc n_value_Same [[at_ ((at_ (hd x1.2) 0).dpRow) 8, at_ ((at_ (hd x1.2) 0).dpRow) 9, at_ ((at_ (hd x1.2) 0).dpRow) 10, at_ ((at_ (hd x1.2) 0).dpRow) 11], [.int 0, .int 0, .str [], .nils]]).bind fun y109 =>
                                                        some (0, [.r [at_ (hd x1.2) 0], .r [.bool (!((at_ (rowsAt y109 0) 0).toB))], .r (rowsAt y2 0)])
                                                    else none
                                                  else
                                                    some (0, [.r [at_ (hd x1.2) 0], .r [.bool false], .r (rowsAt y2 0)])
                                              else
                                                if (!((at_ (rowsAt y2 0) 6).toB)) = true then
                                                  if (at_ (hd x1.2) 0).isDp = true then
                                                    (E.pc n_value_Same [[at_ ((at_ (hd x1.2) 0).dpRow) 8, at_ ((at_ (hd x1.2) 0).dpRow) 9, at_ ((at_ (hd x1.2) 0).dpRow) 10, at_ ((at_ (hd x1.2) 0).dpRow) 11], [.int 0, .int 0, .str [], .nils]]).bind fun y110 =>
                                                      some (0, [.r [at_ (hd x1.2) 0], .r [.bool (!((at_ (rowsAt y110 0) 0).toB))], .r (rowsAt y2 0)])
                                                  else none
                                                else
                                                  some (0, [.r [at_ (hd x1.2) 0], .r [.bool false], .r (rowsAt y2 0)])
                                            else none
                                        else none
                                    else none
                                else none
                            else
                              if (at_ (hd x1.2) 0).isDp = true then
                                if (((at_ ((at_ (hd x1.2) 0).dpRow) 5).toI) != 0) = true then
                                  if (!((at_ (rowsAt y2 0) 4).toB)) = true then
                                    some (0, [.r [at_ (hd x1.2) 0], .r [.bool true], .r (rowsAt y2 0)])
                                  else
                                    if (at_ (hd x1.2) 0).isDp = true then
                                      if (((at_ ((at_ (hd x1.2) 0).dpRow) 7).toI) != 0) = true then
                                        if (!((at_ (rowsAt y2 0) 5).toB)) = true then
                                          some (0, [.r [at_ (hd x1.2) 0], .r [.bool true], .r (rowsAt y2 0)])
                                        else
                                          if (at_ (hd x1.2) 0).isDp = true then
                                            if (decide ((((at_ ((at_ (hd x1.2) 0).dpRow) 12).rows).length : Int) > 0)) = true then
                                              if (!((at_ (rowsAt y2 0) 7).toB)) = true then
                                                some (0, [.r [at_ (hd x1.2) 0], .r [.bool true], .r (rowsAt y2 0)])
                                              else
                                                if (!((at_ (rowsAt y2 0) 6).toB)) = true then
                                                  if (at_ (hd x1.2) 0).isDp = true then
                                                    (E.pc n_value_Same [[at_ ((at_ (hd x1.2) 0).dpRow) 8, at_ ((at_ (hd x1.2) 0).dpRow) 9, at_ ((at_ (hd x1.2) 0).dpRow) 10, at_ ((at_ (hd x1.2) 0).dpRow) 11], [.int 0, .int 0, .str [], .nils]]).bind fun y111 =>
                                                      some (0, [.r [at_ (hd x1.2) 0], .r [.bool (!((at_ (rowsAt y111 0) 0).toB))], .r (rowsAt y2 0)])
                                                  else none
                                                else
                                                  some (0, [.r [at_ (hd x1.2) 0], .r [.bool false], .r (rowsAt y2 0)])
                                            else
                                              if (!((at_ (rowsAt y2 0) 6).toB)) = true then
                                                if (at_ (hd x1.2) 0).isDp = true then
                                                  (E.pc n_value_Same [[at_ ((at_ (hd x1.2) 0).dpRow) 8, at_ ((at_ (hd x1.2) 0).dpRow) 9, at_ ((at_ (hd x1.2) 0).dpRow) 10, at_ ((at_ (hd x1.2) 0).dpRow) 11], [.int 0, .int 0, .str [], .nils]]).bind fun y112 =>
                                                    some (0, [.r [at_ (hd x1.2) 0], .r [.bool (!((at_ (rowsAt y112 0) 0).toB))], .r (rowsAt y2 0)])
                                                else none
                                              else
                                                some (0, [.r [at_ (hd x1.2) 0], .r [.bool false], .r (rowsAt y2 0)])
                                          else none
                                      else
                                        if (at_ (hd x1.2) 0).isDp = true then
                                          if (decide ((((at_ ((at_ (hd x1.2) 0).dpRow) 12).rows).length : Int) > 0)) = true then
                                            if (!((at_ (rowsAt y2 0) 7).toB)) = true then
                                              some (0, [.r [at_ (hd x1.2) 0], .r [.bool true], .r (rowsAt y2 0)])
                                            else
                                              if (!((at_ (rowsAt y2 0) 6).toB)) = true then
                                                if (at_ (hd x1.2) 0).isDp = true then
                                                  (E.pc n_value_Same [[at_ ((at_ (hd x1.2) 0).dpRow) 8, at_ ((at_ (hd x1.2) 0).dpRow) 9, at_ ((at_ (hd x1.2) 0).dpRow) 10, at_ ((at_ (hd x1.2) 0).dpRow) 11], [.int 0, .int 0, .str [], .nils]]).bind fun y113 =>
                                                    some (0, [.r [at_ (hd x1.2) 0], .r [.bool (!((at_ (rowsAt y113 0) 0).toB))], .r (rowsAt y2 0)])
                                                else none
                                              else
                                                some (0, [.r [at_ (hd x1.2) 0], .r [.bool false], .r (rowsAt y2 0)])
                                          else
                                            if (!((at_ (rowsAt y2 0) 6).toB)) = true then
                                              if (at_ (hd x1.2) 0).isDp = true then
                                                (E.pc n_value_Same [[at_ ((at_ (hd x1.2) 0).dpRow) 8, at_ ((at_ (hd x1.2) 0).dpRow) 9, at_ ((at_ (hd x1.2) 0).dpRow) 10, at_ ((at_ (hd x1.2) 0).dpRow) 11], [.int 0, .int 0, .str [], .nils]]).bind fun y114 =>
                                                  some (0, [.r [at_ (hd x1.2) 0], .r [.bool (!((at_ (rowsAt y114 0) 0).toB))], .r (rowsAt y2 0)])
                                              else none
                                            else
                                              some (0, [.r [at_ (hd x1.2) 0], .r [.bool false], .r (rowsAt y2 0)])
                                        else none
                                    else none
                                else
                                  if (at_ (hd x1.2) 0).isDp = true then
                                    if (((at_ ((at_ (hd x1.2) 0).dpRow) 6).toI) != 0) = true then
                                      if (!((at_ (rowsAt y2 0) 4).toB)) = true then
                                        some (0, [.r [at_ (hd x1.2) 0], .r [.bool true], .r (rowsAt y2 0)])
                                      else
                                        if (at_ (hd x1.2) 0).isDp = true then
                                          if (((at_ ((at_ (hd x1.2) 0).dpRow) 7).toI) != 0) = true then
                                            if (!((at_ (rowsAt y2 0) 5).toB)) = true then
                                              some (0, [.r [at_ (hd x1.2) 0], .r [.bool true], .r (rowsAt y2 0)])
                                            else
                                              if (at_ (hd x1.2) 0).isDp = true then
                                                if (decide ((((at_ ((at_ (hd x1.2) 0).dpRow) 12).rows).length : Int) > 0)) = true then
                                                  if (!((at_ (rowsAt y2 0) 7).toB)) = true then
                                                    some (0, [.r [at_ (hd x1.2) 0], .r [.bool true], .r (rowsAt y2 0)])
                                                  else
                                                    if (!((at_ (rowsAt y2 0) 6).toB)) = true then
                                                      if (at_ (hd x1.2) 0).isDp = true then
                                                        (E.pc n_value_Same [[at_ ((at_ (hd x1.2) 0).dpRow) 8, at_ ((at_ (hd x1.2) 0).dpRow) 9, at_ ((at_ (hd x1.2) 0).dpRow) 10, at_ ((at_ (hd x1.2) 0).dpRow) 11], [.int 0, .int 0, .str [], .nils]]).bind fun y115 =>
                                                          some (0, [.r [at_ (hd x1.2) 0], .r [.bool (!((at_ (rowsAt y115 0) 0).toB))], .r (rowsAt y2 0)])
                                                      else none
                                                    else
                                                      some (0, [.r [at_ (hd x1.2) 0], .r [.bool false], .r (rowsAt y2 0)])
                                                else
                                                  if (!((at_ (rowsAt y2 0) 6).toB)) = true then
                                                    if (at_ (hd x1.2) 0).isDp = true then
                                                      (E.pc n_value_Same [[at_ ((at_ (hd x1.2) 0).dpRow) 8, at_ ((at_ (hd x1.2) 0).dpRow) 9, at_ ((at_ (hd x1.2) 0).dpRow) 10, at_ ((at_ (hd x1.2) 0).dpRow) 11], [.int 0, .int 0, .str [], .nils]]).bind fun y116 =>
                                                        some (0, [.r [at_ (hd x1.2) 0], .r [.bool (!((at_ (rowsAt y116 0) 0).toB))], .r (rowsAt y2 0)])
                                                    else none
                                                  else
                                                    some (0, [.r [at_ (hd x1.2) 0], .r [.bool false], .r (rowsAt y2 0)])
                                              else none
                                          else
                                            if (at_ (hd x1.2) 0).isDp = true then
                                              if (decide ((((at_ ((at_ (hd x1.2) 0).dpRow) 12).rows).length : Int) > 0)) = true then
                                                if (!((at_ (rowsAt y2 0) 7).toB)) = true then
                                                  some (0, [.r [at_ (hd x1.2) 0], .r [.bool true], .r (rowsAt y2 0)])
                                                else
                                                  if (!((at_ (rowsAt y2 0) 6).toB)) = true then
                                                    if (at_ (hd x1.2) 0).isDp = true then
                                                      (E.pc n_value_Same [[at_ ((at_ (hd x1.2) 0).dpRow) 8, at_ ((at_ (hd x1.2) 0).dpRow) 9, at_ ((at_ (hd x1.2) 0).dpRow) 10, at_ ((at_ (hd x1.2) 0).dpRow) 11], [.int 0, .int 0, .str [], .nils]]).bind fun y117 =>
                                                        some (0, [.r [at_ (hd x1.2) 0], .r [.bool (!((at_ (rowsAt y117 0) 0).toB))], .r (rowsAt y2 0)])
                                                    else none
                                                  else
                                                    some (0, [.r [at_ (hd x1.2) 0], .r [.bool false], .r (rowsAt y2 0)])
                                              else
                                                if (!((at_ (rowsAt y2 0) 6).toB)) = true then
                                                  if (at_ (hd x1.2) 0).isDp = true then
                                                    (E.pc n_value_Same [[at_ ((at_ (hd x1.2) 0).dpRow) 8, at_ ((at_ (hd x1.2) 0).dpRow) 9, at_ ((at_ (hd x1.2) 0).dpRow) 10, at_ ((at_ (hd x1.2) 0).dpRow) 11], [.int 0, .int 0, .str [], .nils]]).bind fun y118 =>
                                                      some (0, [.r [at_ (hd x1.2) 0], .r [.bool (!((at_ (rowsAt y118 0) 0).toB))], .r (rowsAt y2 0)])
                                                  else none
                                                else
                                                  some (0, [.r [at_ (hd x1.2) 0], .r [.bool false], .r (rowsAt y2 0)])
                                            else none
                                        else none
                                    else
                                      if (at_ (hd x1.2) 0).isDp = true then
                                        if (((at_ ((at_ (hd x1.2) 0).dpRow) 7).toI) != 0) = true then
                                          if (!((at_ (rowsAt y2 0) 5).toB)) = true then
                                            some (0, [.r [at_ (hd x1.2) 0], .r [.bool true], .r (rowsAt y2 0)])
                                          else
                                            if (at_ (hd x1.2) 0).isDp = true then
                                              if (decide ((((at_ ((at_ (hd x1.2) 0).dpRow) 12).rows).length : Int) > 0)) = true then
                                                if (!((at_ (rowsAt y2 0) 7).toB)) = true then
                                                  some (0, [.r [at_ (hd x1.2) 0], .r [.bool true], .r (rowsAt y2 0)])
                                                else
                                                  if (!((at_ (rowsAt y2 0) 6).toB)) = true then
                                                    if (at_ (hd x1.2) 0).isDp = true then
                                                      (E.pc n_value_Same [[at_ ((at_ (hd x1.2) 0).dpRow) 8, at_ ((at_ (hd x1.2) 0).dpRow) 9, at_ ((at_ (hd x1.2) 0).dpRow) 10, at_ ((at_ (hd x1.2) 0).dpRow) 11], [.int 0, .int 0, .str [], .nils]]).bind fun y119 =>
                                                        some (0, [.r [at_ (hd x1.2) 0], .r [.bool (!((at_ (rowsAt y119 0) 0).toB))], .r (rowsAt y2 0)])
                                                    else none
                                                  else
                                                    some (0, [.r [at_ (hd x1.2) 0], .r [.bool false], .r (rowsAt y2 0)])
                                              else
                                                if (!((at_ (rowsAt y2 0) 6).toB)) = true then
                                                  if (at_ (hd x1.2) 0).isDp = true then
                                                    (E.pc n_value_Same [[at_ ((at_ (hd x1.2) 0).dpRow) 8, at_ ((at_ (hd x1.2) 0).dpRow) 9, at_ ((at_ (hd x1.2) 0).dpRow) 10, at_ ((at_ (hd x1.2) 0).dpRow) 11], [.int 0, .int 0, .str [], .nils]]).bind fun y120 =>
                                                      some (0, [.r [at_ (hd x1.2) 0], .r [.bool (!((at_ (rowsAt y120 0) 0).toB))], .r (rowsAt y2 0)])
                                                  else none
                                                else
                                                  some (0, [.r [at_ (hd x1.2) 0], .r [.bool false], .r (rowsAt y2 0)])
                                            else none
                                        else
                                          if (at_ (hd x1.2) 0).isDp = true then
                                            if (decide ((((at_ ((at_ (hd x1.2) 0).dpRow) 12).rows).length : Int) > 0)) = true then
                                              if (!((at_ (rowsAt y2 0) 7).toB)) = true then
                                                some (0, [.r [at_ (hd x1.2) 0], .r [.bool true], .r (rowsAt y2 0)])
                                              else
                                                if (!((at_ (rowsAt y2 0) 6).toB)) = true then
                                                  if (at_ (hd x1.2) 0).isDp = true then
                                                    (E.pc n_value_Same [[at_ ((at_ (hd x1.2) 0).dpRow) 8, at_ ((at_ (hd x1.2) 0).dpRow) 9, at_ ((at_ (hd x1.2) 0).dpRow) 10, at_ ((at_ (hd x1.2) 0).dpRow) 11], [.int 0, .int 0, .str [], .nils]]).bind fun y121 =>
                                                      some (0, [.r [at_ (hd x1.2) 0], .r [.bool (!((at_ (rowsAt y121 0) 0).toB))], .r (rowsAt y2 0)])
                                                  else none
                                                else
                                                  some (0, [.r [at_ (hd x1.2) 0], .r [.bool false], .r (rowsAt y2 0)])
                                            else
                                              if (!((at_ (rowsAt y2 0) 6).toB)) = true then
                                                if (at_ (hd x1.2) 0).isDp = true then
                                                  (E.pc n_value_Same [[at_ ((at_ (hd x1.2) 0).dpRow) 8, at_ ((at_ (hd x1.2) 0).dpRow) 9, at_ ((at_ (hd x1.2) 0).dpRow) 10, at_ ((at_ (hd x1.2) 0).dpRow) 11], [.int 0, .int 0, .str [], .nils]]).bind fun y122 =>
                                                    some (0, [.r [at_ (hd x1.2) 0], .r [.bool (!((at_ (rowsAt y122 0) 0).toB))], .r (rowsAt y2 0)])
                                                else none
                                              else
                                                some (0, [.r [at_ (hd x1.2) 0], .r [.bool false], .r (rowsAt y2 0)])
                                          else none
                                      else none
                                  else none
                              else none
                          else none
                      else
                        if (at_ (hd x1.2) 0).isDp = true then
                          if (((at_ ((at_ (hd x1.2) 0).dpRow) 4).toI) != 0) = true then
                            if (!((at_ (rowsAt y2 0) 3).toB)) = true then
                              some (0, [.r [at_ (hd x1.2) 0], .r [.bool true], .r (rowsAt y2 0)])
                            else
                              if (at_ (hd x1.2) 0).isDp = true then
                                if (((at_ ((at_ (hd x1.2) 0).dpRow) 5).toI) != 0) = true then
                                  if (!((at_ (rowsAt y2 0) 4).toB)) = true then
                                    some (0, [.r [at_ (hd x1.2) 0], .r [.bool true], .r (rowsAt y2 0)])
                                  else
                                    if (at_ (hd x1.2) 0).isDp = true then
                                      if (((at_ ((at_ (hd x1.2) 0).dpRow) 7).toI) != 0) = true then
                                        if (!((at_ (rowsAt y2 0) 5).toB)) = true then
                                          some (0, [.r [at_ (hd x1.2) 0], .r [.bool true], .r (rowsAt y2 0)])
                                        else
                                          if (at_ (hd x1.2) 0).isDp = true then
                                            if (decide ((((at_ ((at_ (hd x1.2) 0).dpRow) 12).rows).length : Int) > 0)) = true then
                                              if (!((at_ (rowsAt y2 0) 7).toB)) = true then
                                                some (0, [.r [at_ (hd x1.2) 0], .r [.bool true], .r (rowsAt y2 0)])
                                              else
                                                if (!((at_ (rowsAt y2 0) 6).toB)) = true then
                                                  if (at_ (hd x1.2) 0).isDp = true then
                                                    (E.pc n_value_Same [[at_ ((at_ (hd x1.2) 0).dpRow) 8, at_ ((at_ (hd x1.2) 0).dpRow) 9, at_ ((at_ (hd x1.2) 0).dpRow) 10, at_ ((at_ (hd x1.2) 0).dpRow) 11], [.int 0, .int 0, .str [], .nils]]).bind fun y123 =>
                                                      some (0, [.r [at_ (hd x1.2) 0], .r [.bool (!((at_ (rowsAt y123 0) 0).toB))], .r (rowsAt y2 0)])
                                                  else none
                                                else
                                                  some (0, [.r [at_ (hd x1.2) 0], .r [.bool false], .r (rowsAt y2 0)])
                                            else
                                              if (!((at_ (rowsAt y2 0) 6).toB)) = true then
                                                if (at_ (hd x1.2) 0).isDp = true then
                                                  (E.pc n_value_Same [[at_ ((at_ (hd x1.2) 0).dpRow) 8, at_ ((at_ (hd x1.2) 0).dpRow) 9, at_ ((at_ (hd x1.2) 0).dpRow) 10, at_ ((at_ (hd x1.2) 0).dpRow) 11], [.int 0, .int 0, .str [], .nils]]).bind fun y124 =>
                                                    some (0, [.r [at_ (hd x1.2) 0], .r [.bool (!((at_ (rowsAt y124 0) 0).toB))], .r (rowsAt y2 0)])
                                                else none
                                              else
                                                some (0, [.r [at_ (hd x1.2) 0], .r [.bool false], .r (rowsAt y2 0)])
                                          else none
                                      else
                                        if (at_ (hd x1.2) 0).isDp = true then
                                          if (decide ((((at_ ((at_ (hd x1.2) 0).dpRow) 12).rows).length : Int) > 0)) = true then
                                            if (!((at_ (rowsAt y2 0) 7).toB)) = true then
                                              some (0, [.r [at_ (hd x1.2) 0], .r [.bool true], .r (rowsAt y2 0)])
                                            else
                                              if (!((at_ (rowsAt y2 0) 6).toB)) = true then
                                                if (at_ (hd x1.2) 0).isDp = true then
                                                  (E.pc n_value_Same [[at_ ((at_ (hd x1.2) 0).dpRow) 8, at_ ((at_ (hd x1.2) 0).dpRow) 9, at_ ((at_ (hd x1.2) 0).dpRow) 10, at_ ((at_ (hd x1.2) 0).dpRow) 11], [.int 0, .int 0, .str [], .nils]]).bind fun y125 =>
                                                    some (0, [.r [at_ (hd x1.2) 0], .r [.bool (!((at_ (rowsAt y125 0) 0).toB))], .r (rowsAt y2 0)])
                                                else none
                                              else
                                                some (0, [.r [at_ (hd x1.2) 0], .r [.bool false], .r (rowsAt y2 0)])
                                          else
                                            if (!((at_ (rowsAt y2 0) 6).toB)) = true then
                                              if (at_ (hd x1.2) 0).isDp = true then
                                                (E.pc n_value_Same [[at_ ((at_ (hd x1.2) 0).dpRow) 8, at_ ((at_ (hd x1.2) 0).dpRow) 9, at_ ((at_ (hd x1.2) 0).dpRow) 10, at_ ((at_ (hd x1.2) 0).dpRow) 11], [.int 0, .int 0, .str [], .nils]]).bind fun y126 =>
                                                  some (0, [.r [at_ (hd x1.2) 0], .r [.bool (!((at_ (rowsAt y126 0) 0).toB))], .r (rowsAt y2 0)])
                                              else none
                                            else
                                              some (0, [.r [at_ (hd x1.2) 0], .r [.bool false], .r (rowsAt y2 0)])
                                        else none
                                    else none
                                else
                                  if (at_ (hd x1.2) 0).isDp = true then
                                    if (((at_ ((at_ (hd x1.2) 0).dpRow) 6).toI) != 0) = true then
                                      if (!((at_ (rowsAt y2 0) 4).toB)) = true then
                                        some (0, [.r [at_ (hd x1.2) 0], .r [.bool true], .r (rowsAt y2 0)])
                                      else
                                        if (at_ (hd x1.2) 0).isDp = true then
                                          if (((at_ ((at_ (hd x1.2) 0).dpRow) 7).toI) != 0) = true then
                                            if (!((at_ (rowsAt y2 0) 5).toB)) = true then
                                              some (0, [.r [at_ (hd x1.2) 0], .r [.bool true], .r (rowsAt y2 0)])
                                            else
                                              if (at_ (hd x1.2) 0).isDp = true then
                                                if (decide ((((at_ ((at_ (hd x1.2) 0).dpRow) 12).rows).length : Int) > 0)) = true then
                                                  if (!((at_ (rowsAt y2 0) 7).toB)) = true then
                                                    some (0, [.r [at_ (hd x1.2) 0], .r [.bool true], .r (rowsAt y2 0)])
                                                  else
                                                    if (!((at_ (rowsAt y2 0) 6).toB)) = true then
                                                      if (at_ (hd x1.2) 0).isDp = true then
                                                        (E.pc n_value_Same [[at_ ((at_ (hd x1.2) 0).dpRow) 8, at_ ((at_ (hd x1.2) 0).dpRow) 9, at_ ((at_ (hd x1.2) 0).dpRow) 10, at_ ((at_ (hd x1.2) 0).dpRow) 11], [.int 0, .int 0, .str [], .nils]]).bind fun y127 =>
                                                          some (0, [.r [at_ (hd x1.2) 0], .r [.bool (!((at_ (rowsAt y127 0) 0).toB))], .r (rowsAt y2 0)])
                                                      else none
                                                    else
                                                      some (0, [.r [at_ (hd x1.2) 0], .r [.bool false], .r (rowsAt y2 0)])
                                                else
                                                  if (!((at_ (rowsAt y2 0) 6).toB)) = true then
                                                    if (at_ (hd x1.2) 0).isDp = true then
                                                      (E.pc n_value_Same [[at_ ((at_ (hd x1.2) 0).dpRow) 8, at_ ((at_ (hd x1.2) 0).dpRow) 9, at_ ((at_ (hd x1.2) 0).dpRow) 10, at_ ((at_ (hd x1.2) 0).dpRow) 11], [.int 0, .int 0, .str [], .nils]]).bind fun y128 =>
                                                        some (0, [.r [at_ (hd x1.2) 0], .r [.bool (!((at_ (rowsAt y128 0) 0).toB))], .r (rowsAt y2 0)])
                                                    else none
                                                  else
                                                    some (0, [.r [at_ (hd x1.2) 0], .r [.bool false], .r (rowsAt y2 0)])
                                              else none
                                          else
                                            if (at_ (hd x1.2) 0).isDp = true then
                                              if (decide ((((at_ ((at_ (hd x1.2) 0).dpRow) 12).rows).length : Int) > 0)) = true then
                                                if (!((at_ (rowsAt y2 0) 7).toB)) = true then
                                                  some (0, [.r [at_ (hd x1.2) 0], .r [.bool true], .r (rowsAt y2 0)])
                                                else
                                                  if (!((at_ (rowsAt y2 0) 6).toB)) = true then
                                                    if (at_ (hd x1.2) 0).isDp = true then
                                                      (E.pc n_value_Same [[at_ ((at_ (hd x1.2) 0).dpRow) 8, at_ ((at_ (hd x1.2) 0).dpRow) 9, at_ ((at_ (hd x1.2) 0).dpRow) 10, at_ ((at_ (hd x1.2) 0).dpRow) 11], [.int 0, .int 0, .str [], .nils]]).bind fun y129 =>
                                                        some (0, [.r [at_ (hd x1.2) 0], .r [.bool (!((at_ (rowsAt y129 0) 0).toB))], .r (rowsAt y2 0)])
                                                    else none
                                                  else
                                                    some (0, [.r [at_ (hd x1.2) 0], .r [.bool false], .r (rowsAt y2 0)])
                                              else
                                                if (!((at_ (rowsAt y2 0) 6).toB)) = true then
                                                  if (at_ (hd x1.2) 0).isDp = true then
                                                    (E.pc n_value_Same [[at_ ((at_ (hd x1.2) 0).dpRow) 8, at_ ((at_ (hd x1.2) 0).dpRow) 9, at_ ((at_ (hd x1.2) 0).dpRow) 10, at_ ((at_ (hd x1.2) 0).dpRow) 11], [.int 0, .int 0, .str [], .nils]]).bind fun y130 =>
                                                      some (0, [.r [at_ (hd x1.2) 0], .r [.bool (!((at_ (rowsAt y130 0) 0).toB))], .r (rowsAt y2 0)])
                                                  else none
                                                else
                                                  some (0, [.r [at_ (hd x1.2) 0], .r [.bool false], .r (rowsAt y2 0)])
                                            else none
                                        else none
                                    else
                                      if (at_ (hd x1.2) 0).isDp = true then
                                        if (((at_ ((at_ (hd x1.2) 0).dpRow) 7).toI) != 0) = true then
                                          if (!((at_ (rowsAt y2 0) 5).toB)) = true then
                                            some (0, [.r [at_ (hd x1.2) 0], .r [.bool true], .r (rowsAt y2 0)])
                                          else
                                            if (at_ (hd x1.2) 0).isDp = true then
                                              if (decide ((((at_ ((at_ (hd x1.2) 0).dpRow) 12).rows).length : Int) > 0)) = true then
                                                if (!((at_ (rowsAt y2 0) 7).toB)) = true then
                                                  some (0, [.r [at_ (hd x1.2) 0], .r [.bool true], .r (rowsAt y2 0)])
                                                else
                                                  if (!((at_ (rowsAt y2 0) 6).toB)) = true then
                                                    if (at_ (hd x1.2) 0).isDp = true then
                                                      (E.pc n_value_Same [[at_ ((at_ (hd x1.2) 0).dpRow) 8, at_ ((at_ (hd x1.2) 0).dpRow) 9, at_ ((at_ (hd x1.2) 0).dpRow) 10, at_ ((at_ (hd x1.2) 0).dpRow) 11], [.int 0, .int 0, .str [], .nils]]).bind fun y131 =>
                                                        some (0, [.r [at_ (hd x1.2) 0], .r [.bool (!((at_ (rowsAt y131 0) 0).toB))], .r (rowsAt y2 0)])
                                                    else none
                                                  else
                                                    some (0, [.r [at_ (hd x1.2) 0], .r [.bool false], .r (rowsAt y2 0)])
                                              else
                                                if (!((at_ (rowsAt y2 0) 6).toB)) = true then
                                                  if (at_ (hd x1.2) 0).isDp = true then
                                                    (E.pc n_value_Same [[at_ ((at_ (hd x1.2) 0).dpRow) 8, at_ ((at_ (hd x1.2) 0).dpRow) 9, at_ ((at_ (hd x1.2) 0).dpRow) 10, at_ ((at_ (hd x1.2) 0).dpRow) 11], [.int 0, .int 0, .str [], .nils]]).bind fun y132 =>
                                                      some (0, [.r [at_ (hd x1.2) 0], .r [.bool (!((at_ (rowsAt y132 0) 0).toB))], .r (rowsAt y2 0)])
                                                  else none
                                                else
                                                  some (0, [.r [at_ (hd x1.2) 0], .r [.bool false], .r (rowsAt y2 0)])
                                            else none
                                        else
                                          if (at_ (hd x1.2) 0).isDp = true then
                                            if (decide ((((at_ ((at_ (hd x1.2) 0).dpRow) 12).rows).length : Int) > 0)) = true then
                                              if (!((at_ (rowsAt y2 0) 7).toB)) = true then
                                                some (0, [.r [at_ (hd x1.2) 0], .r [.bool true], .r (rowsAt y2 0)])
                                              else
                                                if (!((at_ (rowsAt y2 0) 6).toB)) = true then
                                                  if (at_ (hd x1.2) 0).isDp = true then
                                                    (E.pc n_value_Same [[at_ ((at_ (hd x1.2) 0).dpRow) 8, at_ ((at_ (hd x1.2) 0).dpRow) 9, at_ ((at_ (hd x1.2) 0).dpRow) 10, at_ ((at_ (hd x1.2) 0).dpRow) 11], [.int 0, .int 0, .str [], .nils]]).bind fun y133 =>
                                                      some (0, [.r [at_ (hd x1.2) 0], .r [.bool (!((at_ (rowsAt y133 0) 0).toB))], .r (rowsAt y2 0)])
                                                  else none
                                                else
                                                  some (0, [.r [at_ (hd x1.2) 0], .r [.bool false], .r (rowsAt y2 0)])
                                            else
                                              if (!((at_ (rowsAt y2 0) 6).toB)) = true then
                                                if (at_ (hd x1.2) 0).isDp = true then
                                                  (E.pc n_value_Same [[at_ ((at_ (hd x1.2) 0).dpRow) 8, at_ ((at_ (hd x1.2) 0).dpRow) 9, at_ ((at_ (hd x1.2) 0).dpRow) 10, at_ ((at_ (hd x1.2) 0).dpRow) 11], [.int 0, .int 0, .str [], .nils]]).bind fun y134 =>
                                                    some (0, [.r [at_ (hd x1.2) 0], .r [.bool (!((at_ (rowsAt y134 0) 0).toB))], .r (rowsAt y2 0)])
                                                else none
                                              else
                                                some (0, [.r [at_ (hd x1.2) 0], .r [.bool false], .r (rowsAt y2 0)])
                                          else none
                                      else none
                                  else none
                              else none
                          else
                            if (at_ (hd x1.2) 0).isDp = true then
                              if (((at_ ((at_ (hd x1.2) 0).dpRow) 5).toI) != 0) = true then
                                if (!((at_ (rowsAt y2 0) 4).toB)) = true then
                                  some (0, [.r [at_ (hd x1.2) 0], .r [.bool true], .r (rowsAt y2 0)])
                                else
                                  if (at_ (hd x1.2) 0).isDp = true then
                                    if (((at_ ((at_ (hd x1.2) 0).dpRow) 7).toI) != 0) = true then
                                      if (!((at_ (rowsAt y2 0) 5).toB)) = true then
                                        some (0, [.r [at_ (hd x1.2) 0], .r [.bool true], .r (rowsAt y2 0)])
                                      else
                                        if (at_ (hd x1.2) 0).isDp = true then
                                          if (decide ((((at_ ((at_ (hd x1.2) 0).dpRow) 12).rows).length : Int) > 0)) = true then
                                            if (!((at_ (rowsAt y2 0) 7).toB)) = true then
                                              some (0, [.r [at_ (hd x1.2) 0], .r [.bool true], .r (rowsAt y2 0)])
                                            else
                                              if (!((at_ (rowsAt y2 0) 6).toB)) = true then
                                                if (at_ (hd x1.2) 0).isDp = true then
                                                  (E.pc n_value_Same [[at_ ((at_ (hd x1.2) 0).dpRow) 8, at_ ((at_ (hd x1.2) 0).dpRow) 9, at_ ((at_ (hd x1.2) 0).dpRow) 10, at_ ((at_ (hd x1.2) 0).dpRow) 11], [.int 0, .int 0, .str [], .nils]]).bind fun y135 =>
                                                    some (0, [.r [at_ (hd x1.2) 0], .r [.bool (!((at_ (rowsAt y135 0) 0).toB))], .r (rowsAt y2 0)])
                                                else none
                                              else
                                                some (0, [.r [at_ (hd x1.2) 0], .r [.bool false], .r (rowsAt y2 0)])
                                          else
                                            if (!((at_ (rowsAt y2 0) 6).toB)) = true then
                                              if (at_ (hd x1.2) 0).isDp = true then
                                                (E.pc n_value_Same [[at_ ((at_ (hd x1.2) 0).dpRow) 8, at_ ((at_ (hd x1.2) 0).dpRow) 9, at_ ((at_ (hd x1.2) 0).dpRow) 10, at_ ((at_ (hd x1.2) 0).dpRow) 11], [.int 0, .int 0, .str [], .nils]]).bind fun y136 =>
                                                  some (0, [.r [at_ (hd x1.2) 0], .r [.bool (!((at_ (rowsAt y136 0) 0).toB))], .r (rowsAt y2 0)])
                                              else none
                                            else
                                              some (0, [.r [at_ (hd x1.2) 0], .r [.bool false], .r (rowsAt y2 0)])
                                        else none
                                    else
                                      if (at_ (hd x1.2) 0).isDp = true then
                                        if (decide ((((at_ ((at_ (hd x1.2) 0).dpRow) 12).rows).length : Int) > 0)) = true then
                                          if (!((at_ (rowsAt y2 0) 7).toB)) = true then
                                            some (0, [.r [at_ (hd x1.2) 0], .r [.bool true], .r (rowsAt y2 0)])
                                          else
                                            if (!((at_ (rowsAt y2 0) 6).toB)) = true then
                                              if (at_ (hd x1.2) 0).isDp = true then
                                                (E.pc n_value_Same [[at_ ((at_ (hd x1.2) 0).dpRow) 8, at_ ((at_ (hd x1.2) 0).dpRow) 9, at_ ((at_ (hd x1.2) 0).dpRow) 10, at_ ((at_ (hd x1.2) 0).dpRow) 11], [.int 0, .int 0, .str [], .nils]]).bind fun y137 =>
                                                  some (0, [.r [at_ (hd x1.2) 0], .r [.bool (!((at_ (rowsAt y137 0) 0).toB))], .r (rowsAt y2 0)])
                                              else none
                                            else
                                              some (0, [.r [at_ (hd x1.2) 0], .r [.bool false], .r (rowsAt y2 0)])
                                        else
                                          if (!((at_ (rowsAt y2 0) 6).toB)) = true then
                                            if (at_ (hd x1.2) 0).isDp = true then
                                              (E.pc n_value_Same [[at_ ((at_ (hd x1.2) 0).dpRow) 8, at_ ((at_ (hd x1.2) 0).dpRow) 9, at_ ((at_ (hd x1.2) 0).dpRow) 10, at_ ((at_ (hd x1.2) 0).dpRow) 11], [.int 0, .int 0, .str [], .nils]]).bind fun y138 =>
                                                some (0, [.r [at_ (hd x1.2) 0], .r [.bool (!((at_ (rowsAt y138 0) 0).toB))], .r (rowsAt y2 0)])
                                            else none
                                          else
                                            some (0, [.r [at_ (hd x1.2) 0], .r [.bool false], .r (rowsAt y2 0)])
                                      else none
                                  else none
                              else
                                if (at_ (hd x1.2) 0).isDp = true then
                                  if (((at_ ((at_ (hd x1.2) 0).dpRow) 6).toI) != 0) = true then
                                    if (!((at_ (rowsAt y2 0) 4).toB)) = true then
                                      some (0, [.r [at_ (hd x1.2) 0], .r [.bool true], .r (rowsAt y2 0)])
                                    else
                                      if (at_ (hd x1.2) 0).isDp = true then
                                        if (((at_ ((at_ (hd x1.2) 0).dpRow) 7).toI) != 0) = true then
                                          if (!((at_ (rowsAt y2 0) 5).toB)) = true then
                                            some (0, [.r [at_ (hd x1.2) 0], .r [.bool true], .r (rowsAt y2 0)])
                                          else
                                            if (at_ (hd x1.2) 0).isDp = true then
                                              if (decide ((((at_ ((at_ (hd x1.2) 0).dpRow) 12).rows).length : Int) > 0)) = true then
                                                if (!((at_ (rowsAt y2 0) 7).toB)) = true then
                                                  some (0, [.r [at_ (hd x1.2) 0], .r [.bool true], .r (rowsAt y2 0)])
                                                else
                                                  if (!((at_ (rowsAt y2 0) 6).toB)) = true then
                                                    if (at_ (hd x1.2) 0).isDp = true then
                                                      (E.pc n_value_Same [[at_ ((at_ (hd x1.2) 0).dpRow) 8, at_ ((at_ (hd x1.2) 0).dpRow) 9, at_ ((at_ (hd x1.2) 0).dpRow) 10, at_ ((at_ (hd x1.2) 0).dpRow) 11], [.int 0, .int 0, .str [], .nils]]).bind fun y139 =>
                                                        some (0, [.r [at_ (hd x1.2) 0], .r [.bool (!((at_ (rowsAt y139 0) 0).toB))], .r (rowsAt y2 0)])
                                                    else none
                                                  else
                                                    some (0, [.r [at_ (hd x1.2) 0], .r [.bool false], .r (rowsAt y2 0)])
                                              else
                                                if (!((at_ (rowsAt y2 0) 6).toB)) = true then
                                                  if (at_ (hd x1.2) 0).isDp = true then
                                                    (E.pc n_value_Same [[at_ ((at_ (hd x1.2) 0).dpRow) 8, at_ ((at_ (hd x1.2) 0).dpRow) 9, at_ ((at_ (hd x1.2) 0).dpRow) 10, at_ ((at_ (hd x1.2) 0).dpRow) 11], [.int 0, .int 0, .str [], .nils]]).bind fun y140 =>
                                                      some (0, [.r [at_ (hd x1.2) 0], .r [.bool (!((at_ (rowsAt y140 0) 0).toB))], .r (rowsAt y2 0)])
                                                  else none
                                                else
                                                  some (0, [.r [at_ (hd x1.2) 0], .r [.bool false], .r (rowsAt y2 0)])
                                            else none
                                        else
                                          if (at_ (hd x1.2) 0).isDp = true then
                                            if (decide ((((at_ ((at_ (hd x1.2) 0).dpRow) 12).rows).length : Int) > 0)) = true then
                                              if (!((at_ (rowsAt y2 0) 7).toB)) = true then
                                                some (0, [.r [at_ (hd x1.2) 0], .r [.bool true], .r (rowsAt y2 0)])
                                              else
                                                if (!((at_ (rowsAt y2 0) 6).toB)) = true then
                                                  if (at_ (hd x1.2) 0).isDp = true then
                                                    (E.pc n_value_Same [[at_ ((at_ (hd x1.2) 0).dpRow) 8, at_ ((at_ (hd x1.2) 0).dpRow) 9, at_ ((at_ (hd x1.2) 0).dpRow) 10, at_ ((at_ (hd x1.2) 0).dpRow) 11], [.int 0, .int 0, .str [], .nils]]).bind fun y141 =>
                                                      some (0, [.r [at_ (hd x1.2) 0], .r [.bool (!((at_ (rowsAt y141 0) 0).toB))], .r (rowsAt y2 0)])
                                                  else none
                                                else
                                                  some (0, [.r [at_ (hd x1.2) 0], .r [.bool false], .r (rowsAt y2 0)])
                                            else
                                              if (!((at_ (rowsAt y2 0) 6).toB)) = true then
                                                if (at_ (hd x1.2) 0).isDp = true then
                                                  (E.pc n_value_Same [[at_ ((at_ (hd x1.2) 0).dpRow) 8, at_ ((at_ (hd x1.2) 0).dpRow) 9, at_ ((at_ (hd x1.2) 0).dpRow) 10, at_ ((at_ (hd x1.2) 0).dpRow) 11], [.int 0, .int 0, .str [], .nils]]).bind fun y142 =>
                                                    some (0, [.r [at_ (hd x1.2) 0], .r [.bool (!((at_ (rowsAt y142 0) 0).toB))], .r (rowsAt y2 0)])
                                                else none
                                              else
                                                some (0, [.r [at_ (hd x1.2) 0], .r [.bool false], .r (rowsAt y2 0)])
                                          else none
                                      else none
                                  else
                                    if (at_ (hd x1.2) 0).isDp = true then
                                      if (((at_ ((at_ (hd x1.2) 0).dpRow) 7).toI) != 0) = true then
                                        if (!((at_ (rowsAt y2 0) 5).toB)) = true then
                                          some (0, [.r [at_ (hd x1.2) 0], .r [.bool true], .r (rowsAt y2 0)])
                                        else
                                          if (at_ (hd x1.2) 0).isDp = true then
                                            if (decide ((((at_ ((at_ (hd x1.2) 0).dpRow) 12).rows).length : Int) > 0)) = true then
                                              if (!((at_ (rowsAt y2 0) 7).toB)) = true then
                                                some (0, [.r [at_ (hd x1.2) 0], .r [.bool true], .r (rowsAt y2 0)])
                                              else
                                                if (!((at_ (rowsAt y2 0) 6).toB)) = true then
                                                  if (at_ (hd x1.2) 0).isDp = true then
                                                    (E.pc n_value_Same [[at_ ((at_ (hd x1.2) 0).dpRow) 8, at_ ((at_ (hd x1.2) 0).dpRow) 9, at_ ((at_ (hd x1.2) 0).dpRow) 10, at_ ((at_ (hd x1.2) 0).dpRow) 11], [.int 0, .int 0, .str [], .nils]]).bind fun y143 =>
                                                      some (0, [.r [at_ (hd x1.2) 0], .r [.bool (!((at_ (rowsAt y143 0) 0).toB))], .r (rowsAt y2 0)])
                                                  else none
                                                else
                                                  some (0, [.r [at_ (hd x1.2) 0], .r [.bool false], .r (rowsAt y2 0)])
                                            else
                                              if (!((at_ (rowsAt y2 0) 6).toB)) = true then
                                                if (at_ (hd x1.2) 0).isDp = true then
                                                  (E.pc n_value_Same [[at_ ((at_ (hd x1.2) 0).dpRow) 8, at_ ((at_ (hd x1.2) 0).dpRow) 9, at_ ((at_ (hd x1.2) 0).dpRow) 10, at_ ((at_ (hd x1.2) 0).dpRow) 11], [.int 0, .int 0, .str [], .nils]]).bind fun y144 =>
                                                    some (0, [.r [at_ (hd x1.2) 0], .r [.bool (!((at_ (rowsAt y144 0) 0).toB))], .r (rowsAt y2 0)])
                                                else none
                                              else
                                                some (0, [.r [at_ (hd x1.2) 0], .r [.bool false], .r (rowsAt y2 0)])
                                          else none
                                      else
                                        if (at_ (hd x1.2) 0).isDp = true then
                                          if (decide ((((at_ ((at_ (hd x1.2) 0).dpRow) 12).rows).length : Int) > 0)) = true then
                                            if (!((at_ (rowsAt y2 0) 7).toB)) = true then
                                              some (0, [.r [at_ (hd x1.2) 0], .r [.bool true], .r (rowsAt y2 0)])
                                            else
                                              if (!((at_ (rowsAt y2 0) 6).toB)) = true then
                                                if (at_ (hd x1.2) 0).isDp = true then
                                                  (E.pc n_value_Same [[at_ ((at_ (hd x1.2) 0).dpRow) 8, at_ ((at_ (hd x1.2) 0).dpRow) 9, at_ ((at_ (hd x1.2) 0).dpRow) 10, at_ ((at_ (hd x1.2) 0).dpRow) 11], [.int 0, .int 0, .str [], .nils]]).bind fun y145 =>
                                                    some (0, [.r [at_ (hd x1.2) 0], .r [.bool (!((at_ (rowsAt y145 0) 0).toB))], .r (rowsAt y2 0)])
                                                else none
                                              else
                                                some (0, [.r [at_ (hd x1.2) 0], .r [.bool false], .r (rowsAt y2 0)])
                                          else
                                            if (!((at_ (rowsAt y2 0) 6).toB)) = true then
                                              if (at_ (hd x1.2) 0).isDp = true then
                                                (E.pc n_value_Same [[at_ ((at_ (hd x1.2) 0).dpRow) 8, at_ ((at_ (hd x1.2) 0).dpRow) 9, at_ ((at_ (hd x1.2) 0).dpRow) 10, at_ ((at_ (hd x1.2) 0).dpRow) 11], [.int 0, .int 0, .str [], .nils]]).bind fun y146 =>
                                                  some (0, [.r [at_ (hd x1.2) 0], .r [.bool (!((at_ (rowsAt y146 0) 0).toB))], .r (rowsAt y2 0)])
                                              else none
                                            else
                                              some (0, [.r [at_ (hd x1.2) 0], .r [.bool false], .r (rowsAt y2 0)])
                                        else none
                                    else none
                                else none
                            else none
                        else none
                    else none
                else
                  if (at_ (hd x1.2) 0).isDp = true then
                    if (decide ((((at_ ((at_ (hd x1.2) 0).dpRow) 3).rows).length : Int) > 0)) = true then
                      if (!((at_ (rowsAt y2 0) 2).toB)) = true then
                        some (0, [.r [at_ (hd x1.2) 0], .r [.bool true], .r (rowsAt y2 0)])
                      else
                        if (at_ (hd x1.2) 0).isDp = true then
                          if (((at_ ((at_ (hd x1.2) 0).dpRow) 4).toI) != 0) = true then
                            if (!((at_ (rowsAt y2 0) 3).toB)) = true then
                              some (0, [.r [at_ (hd x1.2) 0], .r [.bool true], .r (rowsAt y2 0)])
                            else
                              if (at_ (hd x1.2) 0).isDp = true then
                                if (((at_ ((at_ (hd x1.2) 0).dpRow) 5).toI) != 0) = true then
                                  if (!((at_ (rowsAt y2 0) 4).toB)) = true then
                                    some (0, [.r [at_ (hd x1.2) 0], .r [.bool true], .r (rowsAt y2 0)])
                                  else
                                    if (at_ (hd x1.2) 0).isDp = true then
                                      if (((at_ ((at_ (hd x1.2) 0).dpRow) 7).toI) != 0) = true then
                                        if (!((at_ (rowsAt y2 0) 5).toB)) = true then
                                          some (0, [.r [at_ (hd x1.2) 0], .r [.bool true], .r (rowsAt y2 0)])
                                        else
                                          if (at_ (hd x1.2) 0).isDp = true then
                                            if (decide ((((at_ ((at_ (hd x1.2) 0).dpRow) 12).rows).length : Int) > 0)) = true then
                                              if (!((at_ (rowsAt y2 0) 7).toB)) = true then
                                                some (0, [.r [at_ (hd x1.2) 0], .r [.bool true], .r (rowsAt y2 0)])
                                              else
                                                if (!((at_ (rowsAt y2 0) 6).toB)) = true then
                                                  if (at_ (hd x1.2) 0).isDp = true then
                                                    (E.pc n_value_Same [[at_ ((at_ (hd x1.2) 0).dpRow) 8, at_ ((at_ (hd x1.2) 0).dpRow) 9, at_ ((at_ (hd x1.2) 0).dpRow) 10, at_ ((at_ (hd x1.2) 0).dpRow) 11], [.int 0, .int 0, .str [], .nils]]).bind fun y147 =>
                                                      some (0, [.r [at_ (hd x1.2) 0], .r [.bool (!((at_ (rowsAt y147 0) 0).toB))], .r (rowsAt y2 0)])
                                                  else none
                                                else
                                                  some (0, [.r [at_ (hd x1.2) 0], .r [.bool false], .r (rowsAt y2 0)])
                                            else
                                              if (!((at_ (rowsAt y2 0) 6).toB)) = true then
                                                if (at_ (hd x1.2) 0).isDp = true then
                                                  (E.pc n_value_Same [[at_ ((at_ (hd x1.2) 0).dpRow) 8, at_ ((at_ (hd x1.2) 0).dpRow) 9, at_ ((at_ (hd x1.2) 0).dpRow) 10, at_ ((at_ (hd x1.2) 0).dpRow) 11], [.int 0, .int 0, .str [], .nils]]).bind fun y148 =>
                                                    some (0, [.r [at_ (hd x1.2) 0], .r [.bool (!((at_ (rowsAt y148 0) 0).toB))], .r (rowsAt y2 0)])
                                                else none
                                              else
                                                some (0, [.r [at_ (hd x1.2) 0], .r [.bool false], .r (rowsAt y2 0)])
                                          else none
                                      else
                                        if (at_ (hd x1.2) 0).isDp = true then
                                          if (decide ((((at_ ((at_ (hd x1.2) 0).dpRow) 12).rows).length : Int) > 0)) = true then
                                            if (!((at_ (rowsAt y2 0) 7).toB)) = true then
                                              some (0, [.r [at_ (hd x1.2) 0], .r [.bool true], .r (rowsAt y2 0)])
                                            else
                                              if (!((at_ (rowsAt y2 0) 6).toB)) = true then
                                                if (at_ (hd x1.2) 0).isDp = true then
                                                  (E.pc n_value_Same [[at_ ((at_ (hd x1.2) 0).dpRow) 8, at_ ((at_ (hd x1.2) 0).dpRow) 9, at_ ((at_ (hd x1.2) 0).dpRow) 10, at_ ((at_ (hd x1.2) 0).dpRow) 11], [.int 0, .int 0, .str [], .nils]]).bind fun y149 =>
                                                    some (0, [.r [at_ (hd x1.2) 0], .r [.bool (!((at_ (rowsAt y149 0) 0).toB))], .r (rowsAt y2 0)])
                                                else none
                                              else
                                                some (0, [.r [at_ (hd x1.2) 0], .r [.bool false], .r (rowsAt y2 0)])
                                          else
                                            if (!((at_ (rowsAt y2 0) 6).toB)) = true then
                                              if (at_ (hd x1.2) 0).isDp = true then
                                                (E.pc n_value_Same [[at_ ((at_ (hd x1.2) 0).dpRow) 8, at_ ((at_ (hd x1.2) 0).dpRow) 9, at_ ((at_ (hd x1.2) 0).dpRow) 10, at_ ((at_ (hd x1.2) 0).dpRow) 11], [.int 0, .int 0, .str [], .nils]]).bind fun y150 =>
                                                  some (0, [.r [at_ (hd x1.2) 0], .r [.bool (!((at_ (rowsAt y150 0) 0).toB))], .r (rowsAt y2 0)])
                                              else none
                                            else
                                              some (0, [.r [at_ (hd x1.2) 0], .r [.bool false], .r (rowsAt y2 0)])
                                        else none
                                    else none
                                else
                                  if (at_ (hd x1.2) 0).isDp = true then
                                    if (((at_ ((at_ (hd x1.2) 0).dpRow) 6).toI) != 0) = true then
                                      if (!((at_ (rowsAt y2 0) 4).toB)) = true then
                                        some (0, [.r [at_ (hd x1.2) 0], .r [.bool true], .r (rowsAt y2 0)])
                                      else
                                        if (at_ (hd x1.2) 0).isDp = true then
                                          if (((at_ ((at_ (hd x1.2) 0).dpRow) 7).toI) != 0) = true then
                                            if (!((at_ (rowsAt y2 0) 5).toB)) = true then
                                              some (0, [.r [at_ (hd x1.2) 0], .r [.bool true], .r (rowsAt y2 0)])
                                            else
                                              if (at_ (hd x1.2) 0).isDp = true then
                                                if (decide ((((at_ ((at_ (hd x1.2) 0).dpRow) 12).rows).length : Int) > 0)) = true then
                                                  if (!((at_ (rowsAt y2 0) 7).toB)) = true then
                                                    some (0, [.r [at_ (hd x1.2) 0], .r [.bool true], .r (rowsAt y2 0)])
                                                  else
                                                    if (!((at_ (rowsAt y2 0) 6).toB)) = true then
                                                      if (at_ (hd x1.2) 0).isDp = true then
                                                        (E.pc n_value_Same [[at_ ((at_ (hd x1.2) 0).dpRow) 8, at_ ((at_ (hd x1.2) 0).dpRow) 9, at_ ((at_ (hd x1.2) 0).dpRow) 10, at_ ((at_ (hd x1.2) 0).dpRow) 11], [.int 0, .int 0, .str [], .nils]]).bind fun y151 =>
                                                          some (0, [.r [at_ (hd x1.2) 0], .r [.bool (!((at_ (rowsAt y151 0) 0).toB))], .r (rowsAt y2 0)])
                                                      else none
                                                    else
                                                      some (0, [.r [at_ (hd x1.2) 0], .r [.bool false], .r (rowsAt y2 0)])
                                                else
                                                  if (!((at_ (rowsAt y2 0) 6).toB)) = true then
                                                    if (at_ (hd x1.2) 0).isDp = true then
                                                      (E.pc n_value_Same [[at_ ((at_ (hd x1.2) 0).dpRow) 8, at_ ((at_ (hd x1.2) 0).dpRow) 9, at_ ((at_ (hd x1.2) 0).dpRow) 10, at_ ((at_ (hd x1.2) 0).dpRow) 11], [.int 0, .int 0, .str [], .nils]]).bind fun y152 =>
                                                        some (0, [.r [at_ (hd x1.2) 0], .r [.bool (!((at_ (rowsAt y152 0) 0).toB))], .r (rowsAt y2 0)])
                                                    else none
                                                  else
                                                    some (0, [.r [at_ (hd x1.2) 0], .r [.bool false], .r (rowsAt y2 0)])
                                              else none
                                          else
                                            if (at_ (hd x1.2) 0).isDp = true then
                                              if (decide ((((at_ ((at_ (hd x1.2) 0).dpRow) 12).rows).length : Int) > 0)) = true then
                                                if (!((at_ (rowsAt y2 0) 7).toB)) = true then
                                                  some (0, [.r [at_ (hd x1.2) 0], .r [.bool true], .r (rowsAt y2 0)])
                                                else
                                                  if (!((at_ (rowsAt y2 0) 6).toB)) = true then
                                                    if (at_ (hd x1.2) 0).isDp = true then
                                                      (E.pc n_value_Same [[at_ ((at_ (hd x1.2) 0).dpRow) 8, at_ ((at_ (hd x1.2) 0).dpRow) 9, at_ ((at_ (hd x1.2) 0).dpRow) 10, at_ ((at_ (hd x1.2) 0).dpRow) 11], [.int 0, .int 0, .str [], .nils]]).bind fun y153 =>
                                                        some (0, [.r [at_ (hd x1.2) 0], .r [.bool (!((at_ (rowsAt y153 0) 0).toB))], .r (rowsAt y2 0)])
                                                    else none
                                                  else
                                                    some (0, [.r [at_ (hd x1.2) 0], .r [.bool false], .r (rowsAt y2 0)])
                                              else
                                                if (!((at_ (rowsAt y2 0) 6).toB)) = true then
                                                  if (at_ (hd x1.2) 0).isDp = true then
                                                    (E.pc n_value_Same [[at_ ((at_ (hd x1.2) 0).dpRow) 8, at_ ((at_ (hd x1.2) 0).dpRow) 9, at_ ((at_ (hd x1.2) 0).dpRow) 10, at_ ((at_ (hd x1.2) 0).dpRow) 11], [.int 0, .int 0, .str [], .nils]]).bind fun y154 =>
                                                      some (0, [.r [at_ (hd x1.2) 0], .r [.bool (!((at_ (rowsAt y154 0) 0).toB))], .r (rowsAt y2 0)])
                                                  else none
                                                else
                                                  some (0, [.r [at_ (hd x1.2) 0], .r [.bool false], .r (rowsAt y2 0)])
                                            else none
                                        else none
                                    else
                                      if (at_ (hd x1.2) 0).isDp = true then
                                        if (((at_ ((at_ (hd x1.2) 0).dpRow) 7).toI) != 0) = true then
                                          if (!((at_ (rowsAt y2 0) 5).toB)) = true then
                                            some (0, [.r [at_ (hd x1.2) 0], .r [.bool true], .r (rowsAt y2 0)])
                                          else
                                            if (at_ (hd x1.2) 0).isDp = true then
                                              if (decide ((((at_ ((at_ (hd x1.2) 0).dpRow) 12).rows).length : Int) > 0)) = true then
                                                if (!((at_ (rowsAt y2 0) 7).toB)) = true then
                                                  some (0, [.r [at_ (hd x1.2) 0], .r [.bool true], .r (rowsAt y2 0)])
                                                else
                                                  if (!((at_ (rowsAt y2 0) 6).toB)) = true then
                                                    if (at_ (hd x1.2) 0).isDp = true then
                                                      (E.pc n_value_Same [[at_ ((at_ (hd x1.2) 0).dpRow) 8, at_ ((at_ (hd x1.2) 0).dpRow) 9, at_ ((at_ (hd x1.2) 0).dpRow) 10, at_ ((at_ (hd x1.2) 0).dpRow) 11], [.int 0, .int 0, .str [], .nils]]).bind fun y155 =>
                                                        some (0, [.r [at_ (hd x1.2) 0], .r [.bool (!((at_ (rowsAt y155 0) 0).toB))], .r (rowsAt y2 0)])
                                                    else none
                                                  else
                                                    some (0, [.r [at_ (hd x1.2) 0], .r [.bool false], .r (rowsAt y2 0)])
                                              else
                                                if (!((at_ (rowsAt y2 0) 6).toB)) = true then
                                                  if (at_ (hd x1.2) 0).isDp = true then
                                                    (E.pc n_value_Same [[at_ ((at_ (hd x1.2) 0).dpRow) 8, at_ ((at_ (hd x1.2) 0).dpRow) 9, at_ ((at_ (hd x1.2) 0).dpRow) 10, at_ ((at_ (hd x1.2) 0).dpRow) 11], [.int 0, .int 0, .str [], .nils]]).bind fun y156 =>
                                                      some (0, [.r [at_ (hd x1.2) 0], .r [.bool (!((at_ (rowsAt y156 0) 0).toB))], .r (rowsAt y2 0)])
                                                  else none
                                                else
                                                  some (0, [.r [at_ (hd x1.2) 0], .r [.bool false], .r (rowsAt y2 0)])
                                            else none
                                        else
                                          if (at_ (hd x1.2) 0).isDp = true then
                                            if (decide ((((at_ ((at_ (hd x1.2) 0).dpRow) 12).rows).length : Int) > 0)) = true then
                                              if (!((at_ (rowsAt y2 0) 7).toB)) = true then
                                                some (0, [.r [at_ (hd x1.2) 0], .r [.bool true], .r (rowsAt y2 0)])
                                              else
                                                if (!((at_ (rowsAt y2 0) 6).toB)) = true then
                                                  if (at_ (hd x1.2) 0).isDp = true then
                                                    (E.pc n_value_Same [[at_ ((at_ (hd x1.2) 0).dpRow) 8, at_ ((at_ (hd x1.2) 0).dpRow) 9, at_ ((at_ (hd x1.2) 0).dpRow) 10, at_ ((at_ (hd x1.2) 0).dpRow) 11], [.int 0, .int 0, .str [], .nils]]).bind fun y157 =>
                                                      some (0, [.r [at_ (hd x1.2) 0], .r [.bool (!((at_ (rowsAt y157 0) 0).toB))], .r (rowsAt y2 0)])
                                                  else none
                                                else
                                                  some (0, [.r [at_ (hd x1.2) 0], .r [.bool false], .r (rowsAt y2 0)])
                                            else
                                              if (!((at_ (rowsAt y2 0) 6).toB)) = true then
                                                if (at_ (hd x1.2) 0).isDp = true then
                                                  (E.pc n_value_Same [[at_ ((at_ (hd x1.2) 0).dpRow) 8, at_ ((at_ (hd x1.2) 0).dpRow) 9, at_ ((at_ (hd x1.2) 0).dpRow) 10, at_ ((at_ (hd x1.2) 0).dpRow) 11], [.int 0, .int 0, .str [], .nils]]).bind fun y158 =>
                                                    some (0, [.r [at_ (hd x1.2) 0], .r [.bool (!((at_ (rowsAt y158 0) 0).toB))], .r (rowsAt y2 0)])
                                                else none
                                              else
                                                some (0, [.r [at_ (hd x1.2) 0], .r [.bool false], .r (rowsAt y2 0)])
                                          else none
                                      else none
                                  else none
                              else none
                          else
                            if (at_ (hd x1.2) 0).isDp = true then
                              if (((at_ ((at_ (hd x1.2) 0).dpRow) 5).toI) != 0) = true then
                                if (!((at_ (rowsAt y2 0) 4).toB)) = true then
                                  some (0, [.r [at_ (hd x1.2) 0], .r [.bool true], .r (rowsAt y2 0)])
                                else
                                  if (at_ (hd x1.2) 0).isDp = true then
                                    if (((at_ ((at_ (hd x1.2) 0).dpRow) 7).toI) != 0) = true then
                                      if (!((at_ (rowsAt y2 0) 5).toB)) = true then
                                        some (0, [.r [at_ (hd x1.2) 0], .r [.bool true], .r (rowsAt y2 0)])
                                      else
                                        if (at_ (hd x1.2) 0).isDp = true then
                                          if (decide ((((at_ ((at_ (hd x1.2) 0).dpRow) 12).rows).length : Int) > 0)) = true then
                                            if (!((at_ (rowsAt y2 0) 7).toB)) = true then
                                              some (0, [.r [at_ (hd x1.2) 0], .r [.bool true], .r (rowsAt y2 0)])
                                            else
                                              if (!((at_ (rowsAt y2 0) 6).toB)) = true then
                                                if (at_ (hd x1.2) 0).isDp = true then
                                                  (E.pc n_value_Same [[at_ ((at_ (hd x1.2) 0).dpRow) 8, at_ ((at_ (hd x1.2) 0).dpRow) 9, at_ ((at_ (hd x1.2) 0).dpRow) 10, at_ ((at_ (hd x1.2) 0).dpRow) 11], [.int 0, .int 0, .str [], .nils]]).bind fun y159 =>
                                                    some (0, [.r [at_ (hd x1.2) 0], .r [.bool (!((at_ (rowsAt y159 0) 0).toB))], .r (rowsAt y2 0)])
                                                else none
                                              else
                                                some (0, [.r [at_ (hd x1.2) 0], .r [.bool false], .r (rowsAt y2 0)])
                                          else
                                            if (!((at_ (rowsAt y2 0) 6).toB)) = true then
                                              if (at_ (hd x1.2) 0).isDp = true then
                                                (E.pc n_value_Same [[at_ ((at_ (hd x1.2) 0).dpRow) 8, at_ ((at_ (hd x1.2) 0).dpRow) 9, at_ ((at_ (hd x1.2) 0).dpRow) 10, at_ ((at_ (hd x1.2) 0).dpRow) 11], [.int 0, .int 0, .str [], .nils]]).bind fun y160 =>
                                                  some (0, [.r [at_ (hd x1.2) 0], .r [.bool (!((at_ (rowsAt y160 0) 0).toB))], .r (rowsAt y2 0)])
                                              else none
                                            else
                                              some (0, [.r [at_ (hd x1.2) 0], .r [.bool false], .r (rowsAt y2 0)])
                                        else none
                                    else
                                      if (at_ (hd x1.2) 0).isDp = true then
                                        if (decide ((((at_ ((at_ (hd x1.2) 0).dpRow) 12).rows).length : Int) > 0)) = true then
                                          if (!((at_ (rowsAt y2 0) 7).toB)) = true then
                                            some (0, [.r [at_ (hd x1.2) 0], .r [.bool true], .r (rowsAt y2 0)])
                                          else
                                            if (!((at_ (rowsAt y2 0) 6).toB)) = true then
                                              if (at_ (hd x1.2) 0).isDp = true then
                                                (E.pc n_value_Same [[at_ ((at_ (hd x1.2) 0).dpRow) 8, at_ ((at_ (hd x1.2) 0).dpRow) 9, at_ ((at_ (hd x1.2) 0).dpRow) 10, at_ ((at_ (hd x1.2) 0).dpRow) 11], [.int 0, .int 0, .str [], .nils]]).bind fun y161 =>
                                                  some (0, [.r [at_ (hd x1.2) 0], .r [.bool (!((at_ (rowsAt y161 0) 0).toB))], .r (rowsAt y2 0)])
                                              else none
                                            else
                                              some (0, [.r [at_ (hd x1.2) 0], .r [.bool false], .r (rowsAt y2 0)])
                                        else
                                          if (!((at_ (rowsAt y2 0) 6).toB)) = true then
                                            if (at_ (hd x1.2) 0).isDp = true then
                                              (E.pc n_value_Same [[at_ ((at_ (hd x1.2) 0).dpRow) 8, at_ ((at_ (hd x1.2) 0).dpRow) 9, at_ ((at_ (hd x1.2) 0).dpRow) 10, at_ ((at_ (hd x1.2) 0).dpRow) 11], [.int 0, .int 0, .str [], .nils]]).bind fun y162 =>
                                                some (0, [.r [at_ (hd x1.2) 0], .r [.bool (!((at_ (rowsAt y162 0) 0).toB))], .r (rowsAt y2 0)])
                                            else none
                                          else
                                            some (0, [.r [at_ (hd x1.2) 0], .r [.bool false], .r (rowsAt y2 0)])
                                      else none
                                  else none
                              else
                                if (at_ (hd x1.2) 0).isDp = true then
                                  if (((at_ ((at_ (hd x1.2) 0).dpRow) 6).toI) != 0) = true then
                                    if (!((at_ (rowsAt y2 0) 4).toB)) = true then
                                      some (0, [.r [at_ (hd x1.2) 0], .r [.bool true], .r (rowsAt y2 0)])
                                    else
                                      if (at_ (hd x1.2) 0).isDp = true then
                                        if (((at_ ((at_ (hd x1.2) 0).dpRow) 7).toI) != 0) = true then
                                          if (!((at_ (rowsAt y2 0) 5).toB)) = true then
                                            some (0, [.r [at_ (hd x1.2) 0], .r [.bool true], .r (rowsAt y2 0)])
                                          else
                                            if (at_ (hd x1.2) 0).isDp = true then
                                              if (decide ((((at_ ((at_ (hd x1.2) 0).dpRow) 12).rows).length : Int) > 0)) = true then
                                                if (!((at_ (rowsAt y2 0) 7).toB)) = true then
                                                  some (0, [.r [at_ (hd x1.2) 0], .r [.bool true], .r (rowsAt y2 0)])
                                                else
                                                  if (!((at_ (rowsAt y2 0) 6).toB)) = true then
                                                    if (at_ (hd x1.2) 0).isDp = true then
                                                      (E.pc n_value_Same [[at_ ((at_ (hd x1.2) 0).dpRow) 8, at_ ((at_ (hd x1.2) 0).dpRow) 9, at_ ((at_ (hd x1.2) 0).dpRow) 10, at_ ((at_ (hd x1.2) 0).dpRow) 11], [.int 0, .int 0, .str [], .nils]]).bind fun y163 =>
                                                        some (0, [.r [at_ (hd x1.2) 0], .r [.bool (!((at_ (rowsAt y163 0) 0).toB))], .r (rowsAt y2 0)])
                                                    else none
                                                  else
                                                    some (0, [.r [at_ (hd x1.2) 0], .r [.bool false], .r (rowsAt y2 0)])
                                              else
                                                if (!((at_ (rowsAt y2 0) 6).toB)) = true then
                                                  if (at_ (hd x1.2) 0).isDp = true then
                                                    (E.pc n_value_Same [[at_ ((at_ (hd x1.2) 0).dpRow) 8, at_ ((at_ (hd x1.2) 0).dpRow) 9, at_ ((at_ (hd x1.2) 0).dpRow) 10, at_ ((at_ (hd x1.2) 0).dpRow) 11], [.int 0, .int 0, .str [], .nils]]).bind fun y164 =>
                                                      some (0, [.r [at_ (hd x1.2) 0], .r [.bool (!((at_ (rowsAt y164 0) 0).toB))], .r (rowsAt y2 0)])
                                                  else none
                                                else
                                                  some (0, [.r [at_ (hd x1.2) 0], .r [.bool false], .r (rowsAt y2 0)])
                                            else none
                                        else
                                          if (at_ (hd x1.2) 0).isDp = true then
                                            if (decide ((((at_ ((at_ (hd x1.2) 0).dpRow) 12).rows).length : Int) > 0)) = true then
                                              if (!((at_ (rowsAt y2 0) 7).toB)) = true then
                                                some (0, [.r [at_ (hd x1.2) 0], .r [.bool true], .r (rowsAt y2 0)])
                                              else
                                                if (!((at_ (rowsAt y2 0) 6).toB)) = true then
                                                  if (at_ (hd x1.2) 0).isDp = true then
                                                    (E.pc n_value_Same [[at_ ((at_ (hd x1.2) 0).dpRow) 8, at_ ((at_ (hd x1.2) 0).dpRow) 9, at_ ((at_ (hd x1.2) 0).dpRow) 10, at_ ((at_ (hd x1.2) 0).dpRow) 11], [.int 0, .int 0, .str [], .nils]]).bind fun y165 =>
                                                      some (0, [.r [at_ (hd x1.2) 0], .r [.bool (!((at_ (rowsAt y165 0) 0).toB))], .r (rowsAt y2 0)])
                                                  else none
                                                else
                                                  some (0, [.r [at_ (hd x1.2) 0], .r [.bool false], .r (rowsAt y2 0)])
                                            else
                                              if (!((at_ (rowsAt y2 0) 6).toB)) = true then
                                                if (at_ (hd x1.2) 0).isDp = true then
                                                  (E.pc n_value_Same [[at_ ((at_ (hd x1.2) 0).dpRow) 8, at_ ((at_ (hd x1.2) 0).dpRow) 9, at_ ((at_ (hd x1.2) 0).dpRow) 10, at_ ((at_ (hd x1.2) 0).dpRow) 11], [.int 0, .int 0, .str [], .nils]]).bind fun y166 =>
                                                    some (0, [.r [at_ (hd x1.2) 0], .r [.bool (!((at_ (rowsAt y166 0) 0).toB))], .r (rowsAt y2 0)])
                                                else none
                                              else
                                                some (0, [.r [at_ (hd x1.2) 0], .r [.bool false], .r (rowsAt y2 0)])
                                          else none
                                      else none
                                  else
                                    if (at_ (hd x1.2) 0).isDp = true then
                                      if (((at_ ((at_ (hd x1.2) 0).dpRow) 7).toI) != 0) = true then
                                        if (!((at_ (rowsAt y2 0) 5).toB)) = true then
                                          some (0, [.r [at_ (hd x1.2) 0], .r [.bool true], .r (rowsAt y2 0)])
                                        else
                                          if (at_ (hd x1.2) 0).isDp = true then
                                            if (decide ((((at_ ((at_ (hd x1.2) 0).dpRow) 12).rows).length : Int) > 0)) = true then
                                              if (!((at_ (rowsAt y2 0) 7).toB)) = true then
                                                some (0, [.r [at_ (hd x1.2) 0], .r [.bool true], .r (rowsAt y2 0)])
                                              else
                                                if (!((at_ (rowsAt y2 0) 6).toB)) = true then
                                                  if (at_ (hd x1.2) 0).isDp = true then
                                                    (E.pc n_value_Same [[at_ ((at_ (hd x1.2) 0).dpRow) 8, at_ ((at_ (hd x1.2) 0).dpRow) 9, at_ ((at_ (hd x1.2) 0).dpRow) 10, at_ ((at_ (hd x1.2) 0).dpRow) 11], [.int 0, .int 0, .str [], .nils]]).bind fun y167 =>
                                                      some (0, [.r [at_ (hd x1.2) 0], .r [.bool (!((at_ (rowsAt y167 0) 0).toB))], .r (rowsAt y2 0)])
                                                  else none
                                                else
                                                  some (0, [.r [at_ (hd x1.2) 0], .r [.bool false], .r (rowsAt y2 0)])
                                            else
                                              if (!((at_ (rowsAt y2 0) 6).toB)) = true then
                                                if (at_ (hd x1.2) 0).isDp = true then
                                                  (E.pc n_value_Same [[at_ ((at_ (hd x1.2) 0).dpRow) 8, at_ ((at_ (hd x1.2) 0).dpRow) 9, at_ ((at_ (hd x1.2) 0).dpRow) 10, at_ ((at_ (hd x1.2) 0).dpRow) 11], [.int 0, .int 0, .str [], .nils]]).bind fun y168 =>
                                                    some (0, [.r [at_ (hd x1.2) 0], .r [.bool (!((at_ (rowsAt y168 0) 0).toB))], .r (rowsAt y2 0)])
                                                else none
                                              else
                                                some (0, [.r [at_ (hd x1.2) 0], .r [.bool false], .r (rowsAt y2 0)])
                                          else none
                                      else
                                        if (at_ (hd x1.2) 0).isDp = true then
                                          if (decide ((((at_ ((at_ (hd x1.2) 0).dpRow) 12).rows).length : Int) > 0)) = true then
                                            if (!((at_ (rowsAt y2 0) 7).toB)) = true then
                                              some (0, [.r [at_ (hd x1.2) 0], .r [.bool true], .r (rowsAt y2 0)])
                                            else
                                              if (!((at_ (rowsAt y2 0) 6).toB)) = true then
                                                if (at_ (hd x1.2) 0).isDp = true then
                                                  (E.pc n_value_Same [[at_ ((at_ (hd x1.2) 0).dpRow) 8, at_ ((at_ (hd x1.2) 0).dpRow) 9, at_ ((at_ (hd x1.2) 0).dpRow) 10, at_ ((at_ (hd x1.2) 0).dpRow) 11], [.int 0, .int 0, .str [], .nils]]).bind fun y169 =>
                                                    some (0, [.r [at_ (hd x1.2) 0], .r [.bool (!((at_ (rowsAt y169 0) 0).toB))], .r (rowsAt y2 0)])
                                                else none
                                              else
                                                some (0, [.r [at_ (hd x1.2) 0], .r [.bool false], .r (rowsAt y2 0)])
                                          else
                                            if (!((at_ (rowsAt y2 0) 6).toB)) = true then
                                              if (at_ (hd x1.2) 0).isDp = true then
                                                (E.pc n_value_Same [[at_ ((at_ (hd x1.2) 0).dpRow) 8, at_ ((at_ (hd x1.2) 0).dpRow) 9, at_ ((at_ (hd x1.2) 0).dpRow) 10, at_ ((at_ (hd x1.2) 0).dpRow) 11], [.int 0, .int 0, .str [], .nils]]).bind fun y170 =>
                                                  some (0, [.r [at_ (hd x1.2) 0], .r [.bool (!((at_ (rowsAt y170 0) 0).toB))], .r (rowsAt y2 0)])
                                              else none
                                            else
                                              some (0, [.r [at_ (hd x1.2) 0], .r [.bool false], .r (rowsAt y2 0)])
                                        else none
                                    else none
                                else none
                            else none
                        else none
                    else
                      if (at_ (hd x1.2) 0).isDp = true then
                        if (((at_ ((at_ (hd x1.2) 0).dpRow) 4).toI) != 0) = true then
                          if (!((at_ (rowsAt y2 0) 3).toB)) = true then
                            some (0, [.r [at_ (hd x1.2) 0], .r [.bool true], .r (rowsAt y2 0)])
                          else
                            if (at_ (hd x1.2) 0).isDp = true then
                              if (((at_ ((at_ (hd x1.2) 0).dpRow) 5).toI) != 0) = true then
                                if (!((at_ (rowsAt y2 0) 4).toB)) = true then
                                  some (0, [.r [at_ (hd x1.2) 0], .r [.bool true], .r (rowsAt y2 0)])
                                else
                                  if (at_ (hd x1.2) 0).isDp = true then
                                    if (((at_ ((at_ (hd x1.2) 0).dpRow) 7).toI) != 0) = true then
                                      if (!((at_ (rowsAt y2 0) 5).toB)) = true then
                                        some (0, [.r [at_ (hd x1.2) 0], .r [.bool true], .r (rowsAt y2 0)])
                                      else
                                        if (at_ (hd x1.2) 0).isDp = true then
                                          if (decide ((((at_ ((at_ (hd x1.2) 0).dpRow) 12).rows).length : Int) > 0)) = true then
                                            if (!((at_ (rowsAt y2 0) 7).toB)) = true then
                                              some (0, [.r [at_ (hd x1.2) 0], .r [.bool true], .r (rowsAt y2 0)])
                                            else
                                              if (!((at_ (rowsAt y2 0) 6).toB)) = true then
                                                if (at_ (hd x1.2) 0).isDp = true then
                                                  (E.pc n_value_Same [[at_ ((at_ (hd x1.2) 0).dpRow) 8, at_ ((at_ (hd x1.2) 0).dpRow) 9, at_ ((at_ (hd x1.2) 0).dpRow) 10, at_ ((at_ (hd x1.2) 0).dpRow) 11], [.int 0, .int 0, .str [], .nils]]).bind fun y171 =>
                                                    some (0, [.r [at_ (hd x1.2) 0], .r [.bool (!((at_ (rowsAt y171 0) 0).toB))], .r (rowsAt y2 0)])
                                                else none
                                              else
                                                some (0, [.r [at_ (hd x1.2) 0], .r [.bool false], .r (rowsAt y2 0)])
                                          else
                                            if (!((at_ (rowsAt y2 0) 6).toB)) = true then
                                              if (at_ (hd x1.2) 0).isDp = true then
                                                (E.pc n_value_Same [[at_ ((at_ (hd x1.2) 0).dpRow) 8, at_ ((at_ (hd x1.2) 0).dpRow) 9, at_ ((at_ (hd x1.2) 0).dpRow) 10, at_ ((at_ (hd x1.2) 0).dpRow) 11], [.int 0, .int 0, .str [], .nils]]).bind fun y172 =>
                                                  some (0, [.r [at_ (hd x1.2) 0], .r [.bool (!((at_ (rowsAt y172 0) 0).toB))], .r (rowsAt y2 0)])
                                              else none
                                            else
                                              some (0, [.r [at_ (hd x1.2) 0], .r [.bool false], .r (rowsAt y2 0)])
                                        else none
                                    else
                                      if (at_ (hd x1.2) 0).isDp = true then
                                        if (decide ((((at_ ((at_ (hd x1.2) 0).dpRow) 12).rows).length : Int) > 0)) = true then
                                          if (!((at_ (rowsAt y2 0) 7).toB)) = true then
                                            some (0, [.r [at_ (hd x1.2) 0], .r [.bool true], .r (rowsAt y2 0)])
                                          else
                                            if (!((at_ (rowsAt y2 0) 6).toB)) = true then
                                              if (at_ (hd x1.2) 0).isDp = true then
                                                (E.pc n_value_Same [[at_ ((at_ (hd x1.2) 0).dpRow) 8, at_ ((at_ (hd x1.2) 0).dpRow) 9, at_ ((at_ (hd x1.2) 0).dpRow) 10, at_ ((at_ (hd x1.2) 0).dpRow) 11], [.int 0, .int 0, .str [], .nils]]).bind fun y173 =>
                                                  some (0, [.r [at_ (hd x1.2) 0], .r [.bool (!((at_ (rowsAt y173 0) 0).toB))], .r (rowsAt y2 0)])
                                              else none
                                            else
                                              some (0, [.r [at_ (hd x1.2) 0], .r [.bool false], .r (rowsAt y2 0)])
                                        else
                                          if (!((at_ (rowsAt y2 0) 6).toB)) = true then
                                            if (at_ (hd x1.2) 0).isDp = true then
                                              (E.pc n_value_Same [[at_ ((at_ (hd x1.2) 0).dpRow) 8, at_ ((at_ (hd x1.2) 0).dpRow) 9, at_ ((at_ (hd x1.2) 0).dpRow) 10, at_ ((at_ (hd x1.2) 0).dpRow) 11], [.int 0, .int 0, .str [], .nils]]).bind fun y174 =>
                                                some (0, [.r [at_ (hd x1.2) 0], .r [.bool (!((at_ (rowsAt y174 0) 0).toB))], .r (rowsAt y2 0)])
                                            else none
                                          else
                                            some (0, [.r [at_ (hd x1.2) 0], .r [.bool false], .r (rowsAt y2 0)])
                                      else none
                                  else none
                              else
                                if (at_ (hd x1.2) 0).isDp = true then
                                  if (((at_ ((at_ (hd x1.2) 0).dpRow) 6).toI) != 0) = true then
                                    if (!((at_ (rowsAt y2 0) 4).toB)) = true then
                                      some (0, [.r [at_ (hd x1.2) 0], .r [.bool true], .r (rowsAt y2 0)])
                                    else
                                      if (at_ (hd x1.2) 0).isDp = true then
                                        if (((at_ ((at_ (hd x1.2) 0).dpRow) 7).toI) != 0) = true then
                                          if (!((at_ (rowsAt y2 0) 5).toB)) = true then
                                            some (0, [.r [at_ (hd x1.2) 0], .r [.bool true], .r (rowsAt y2 0)])
                                          else
                                            if (at_ (hd x1.2) 0).isDp = true then
                                              if (decide ((((at_ ((at_ (hd x1.2) 0).dpRow) 12).rows).length : Int) > 0)) = true then
                                                if (!((at_ (rowsAt y2 0) 7).toB)) = true then
                                                  some (0, [.r [at_ (hd x1.2) 0], .r [.bool true], .r (rowsAt y2 0)])
                                                else
                                                  if (!((at_ (rowsAt y2 0) 6).toB)) = true then
                                                    if (at_ (hd x1.2) 0).isDp = true then
                                                      (E.pc n_value_Same [[at_ ((at_ (hd x1.2) 0).dpRow) 8, at_ ((at_ (hd x1.2) 0).dpRow) 9, at_ ((at_ (hd x1.2) 0).dpRow) 10, at_ ((at_ (hd x1.2) 0).dpRow) 11], [.int 0, .int 0, .str [], .nils]]).bind fun y175 =>
                                                        some (0, [.r [at_ (hd x1.2) 0], .r [.bool (!((at_ (rowsAt y175 0) 0).toB))], .r (rowsAt y2 0)])
                                                    else none
                                                  else
                                                    some (0, [.r [at_ (hd x1.2) 0], .r [.bool false], .r (rowsAt y2 0)])
                                              else
                                                if (!((at_ (rowsAt y2 0) 6).toB)) = true then
                                                  if (at_ (hd x1.2) 0).isDp = true then
                                                    (E.pc n_value_Same [[at_ ((at_ (hd x1.2) 0).dpRow) 8, at_ ((at_ (hd x1.2) 0).dpRow) 9, at_ ((at_ (hd x1.2) 0).dpRow) 10, at_ ((at_ (hd x1.2) 0).dpRow) 11], [.int 0, .int 0, .str [], .nils]]).bind fun y176 =>
                                                      some (0, [.r [at_ (hd x1.2) 0], .r [.bool (!((at_ (rowsAt y176 0) 0).toB))], .r (rowsAt y2 0)])
                                                  else none
                                                else
                                                  some (0, [.r [at_ (hd x1.2) 0], .r [.bool false], .r (rowsAt y2 0)])
                                            else none
                                        else
                                          if (at_ (hd x1.2) 0).isDp = true then
                                            if (decide ((((at_ ((at_ (hd x1.2) 0).dpRow) 12).rows).length : Int) > 0)) = true then
                                              if (!((at_ (rowsAt y2 0) 7).toB)) = true then
                                                some (0, [.r [at_ (hd x1.2) 0], .r [.bool true], .r (rowsAt y2 0)])
                                              else
                                                if (!((at_ (rowsAt y2 0) 6).toB)) = true then
                                                  if (at_ (hd x1.2) 0).isDp = true then
                                                    (E.pc n_value_Same [[at_ ((at_ (hd x1.2) 0).dpRow) 8, at_ ((at_ (hd x1.2) 0).dpRow) 9, at_ ((at_ (hd x1.2) 0).dpRow) 10, at_ ((at_ (hd x1.2) 0).dpRow) 11], [.int 0, .int 0, .str [], .nils]]).bind fun y177 =>
                                                      some (0, [.r [at_ (hd x1.2) 0], .r [.bool (!((at_ (rowsAt y177 0) 0).toB))], .r (rowsAt y2 0)])
                                                  else none
                                                else
                                                  some (0, [.r [at_ (hd x1.2) 0], .r [.bool false], .r (rowsAt y2 0)])
                                            else
                                              if (!((at_ (rowsAt y2 0) 6).toB)) = true then
                                                if (at_ (hd x1.2) 0).isDp = true then
                                                  (E.pc n_value_Same [[at_ ((at_ (hd x1.2) 0).dpRow) 8, at_ ((at_ (hd x1.2) 0).dpRow) 9, at_ ((at_ (hd x1.2) 0).dpRow) 10, at_ ((at_ (hd x1.2) 0).dpRow) 11], [.int 0, .int 0, .str [], .nils]]).bind fun y178 =>
                                                    some (0, [.r [at_ (hd x1.2) 0], .r [.bool (!((at_ (rowsAt y178 0) 0).toB))], .r (rowsAt y2 0)])
                                                else none
                                              else
                                                some (0, [.r [at_ (hd x1.2) 0], .r [.bool false], .r (rowsAt y2 0)])
                                          else none
                                      else none
                                  else
                                    if (at_ (hd x1.2) 0).isDp = true then
                                      if (((at_ ((at_ (hd x1.2) 0).dpRow) 7).toI) != 0) = true then
                                        if (!((at_ (rowsAt y2 0) 5).toB)) = true then
                                          some (0, [.r [at_ (hd x1.2) 0], .r [.bool true], .r (rowsAt y2 0)])
                                        else
                                          if (at_ (hd x1.2) 0).isDp = true then
                                            if (decide ((((at_ ((at_ (hd x1.2) 0).dpRow) 12).rows).length : Int) > 0)) = true then
                                              if (!((at_ (rowsAt y2 0) 7).toB)) = true then
                                                some (0, [.r [at_ (hd x1.2) 0], .r [.bool true], .r (rowsAt y2 0)])
                                              else
                                                if (!((at_ (rowsAt y2 0) 6).toB)) = true then
                                                  if (at_ (hd x1.2) 0).isDp = true then
                                                    (E.pc n_value_Same [[at_ ((at_ (hd x1.2) 0).dpRow) 8, at_ ((at_ (hd x1.2) 0).dpRow) 9, at_ ((at_ (hd x1.2) 0).dpRow) 10, at_ ((at_ (hd x1.2) 0).dpRow) 11], [.int 0, .int 0, .str [], .nils]]).bind fun y179 =>
                                                      some (0, [.r [at_ (hd x1.2) 0], .r [.bool (!((at_ (rowsAt y179 0) 0).toB))], .r (rowsAt y2 0)])
                                                  else none
                                                else
                                                  some (0, [.r [at_ (hd x1.2) 0], .r [.bool false], .r (rowsAt y2 0)])
                                            else
                                              if (!((at_ (rowsAt y2 0) 6).toB)) = true then
                                                if (at_ (hd x1.2) 0).isDp = true then
                                                  (E.pc n_value_Same [[at_ ((at_ (hd x1.2) 0).dpRow) 8, at_ ((at_ (hd x1.2) 0).dpRow) 9, at_ ((at_ (hd x1.2) 0).dpRow) 10, at_ ((at_ (hd x1.2) 0).dpRow) 11], [.int 0, .int 0, .str [], .nils]]).bind fun y180 =>
                                                    some (0, [.r [at_ (hd x1.2) 0], .r [.bool (!((at_ (rowsAt y180 0) 0).toB))], .r (rowsAt y2 0)])
                                                else none
                                              else
                                                some (0, [.r [at_ (hd x1.2) 0], .r [.bool false], .r (rowsAt y2 0)])
                                          else none
                                      else
                                        if (at_ (hd x1.2) 0).isDp = true then
                                          if (decide ((((at_ ((at_ (hd x1.2) 0).dpRow) 12).rows).length : Int) > 0)) = true then
                                            if (!((at_ (rowsAt y2 0) 7).toB)) = true then
                                              some (0, [.r [at_ (hd x1.2) 0], .r [.bool true], .r (rowsAt y2 0)])
                                            else
                                              if (!((at_ (rowsAt y2 0) 6).toB)) = true then
                                                if (at_ (hd x1.2) 0).isDp = true then
                                                  (E.pc n_value_Same [[at_ ((at_ (hd x1.2) 0).dpRow) 8, at_ ((at_ (hd x1.2) 0).dpRow) 9, at_ ((at_ (hd x1.2) 0).dpRow) 10, at_ ((at_ (hd x1.2) 0).dpRow) 11], [.int 0, .int 0, .str [], .nils]]).bind fun y181 =>
                                                    some (0, [.r [at_ (hd x1.2) 0], .r [.bool (!((at_ (rowsAt y181 0) 0).toB))], .r (rowsAt y2 0)])
                                                else none
                                              else
                                                some (0, [.r [at_ (hd x1.2) 0], .r [.bool false], .r (rowsAt y2 0)])
                                          else
                                            if (!((at_ (rowsAt y2 0) 6).toB)) = true then
                                              if (at_ (hd x1.2) 0).isDp = true then
                                                (E.pc n_value_Same [[at_ ((at_ (hd x1.2) 0).dpRow) 8, at_ ((at_ (hd x1.2) 0).dpRow) 9, at_ ((at_ (hd x1.2) 0).dpRow) 10, at_ ((at_ (hd x1.2) 0).dpRow) 11], [.int 0, .int 0, .str [], .nils]]).bind fun y182 =>
                                                  some (0, [.r [at_ (hd x1.2) 0], .r [.bool (!((at_ (rowsAt y182 0) 0).toB))], .r (rowsAt y2 0)])
                                              else none
                                            else
                                              some (0, [.r [at_ (hd x1.2) 0], .r [.bool false], .r (rowsAt y2 0)])
                                        else none
                                    else none
                                else none
                            else none
                        else
                          if (at_ (hd x1.2) 0).isDp = true then
                            if (((at_ ((at_ (hd x1.2) 0).dpRow) 5).toI) != 0) = true then
                              if (!((at_ (rowsAt y2 0) 4).toB)) = true then
                                some (0, [.r [at_ (hd x1.2) 0], .r [.bool true], .r (rowsAt y2 0)])
                              else
                                if (at_ (hd x1.2) 0).isDp = true then
                                  if (((at_ ((at_ (hd x1.2) 0).dpRow) 7).toI) != 0) = true then
                                    if (!((at_ (rowsAt y2 0) 5).toB)) = true then
                                      some (0, [.r [at_ (hd x1.2) 0], .r [.bool true], .r (rowsAt y2 0)])
                                    else
                                      if (at_ (hd x1.2) 0).isDp = true then
                                        if (decide ((((at_ ((at_ (hd x1.2) 0).dpRow) 12).rows).length : Int) > 0)) = true then
                                          if (!((at_ (rowsAt y2 0) 7).toB)) = true then
                                            some (0, [.r [at_ (hd x1.2) 0], .r [.bool true], .r (rowsAt y2 0)])
                                          else
                                            if (!((at_ (rowsAt y2 0) 6).toB)) = true then
                                              if (at_ (hd x1.2) 0).isDp = true then
                                                (E.pc n_value_Same [[at_ ((at_ (hd x1.2) 0).dpRow) 8, at_ ((at_ (hd x1.2) 0).dpRow) 9, at_ ((at_ (hd x1.2) 0).dpRow) 10, at_ ((at_ (hd x1.2) 0).dpRow) 11], [.int 0, .int 0, .str [], .nils]]).bind fun y183 =>
                                                  some (0, [.r [at_ (hd x1.2) 0], .r [.bool (!((at_ (rowsAt y183 0) 0).toB))], .r (rowsAt y2 0)])
                                              else none
                                            else
                                              some (0, [.r [at_ (hd x1.2) 0], .r [.bool false], .r (rowsAt y2 0)])
                                        else
                                          if (!((at_ (rowsAt y2 0) 6).toB)) = true then
                                            if (at_ (hd x1.2) 0).isDp = true then
                                              (E.pc n_value_Same [[at_ ((at_ (hd x1.2) 0).dpRow) 8, at_ ((at_ (hd x1.2) 0).dpRow) 9, at_ ((at_ (hd x1.2) 0).dpRow) 10, at_ ((at_ (hd x1.2) 0).dpRow) 11], [.int 0, .int 0, .str [], .nils]]).bind fun y184 =>
                                                some (0, [.r [at_ (hd x1.2) 0], .r [.bool (!((at_ (rowsAt y184 0) 0).toB))], .r (rowsAt y2 0)])
                                            else none
                                          else
                                            some (0, [.r [at_ (hd x1.2) 0], .r [.bool false], .r (rowsAt y2 0)])
                                      else none
                                  else
                                    if (at_ (hd x1.2) 0).isDp = true then
                                      if (decide ((((at_ ((at_ (hd x1.2) 0).dpRow) 12).rows).length : Int) > 0)) = true then
                                        if (!((at_ (rowsAt y2 0) 7).toB)) = true then
                                          some (0, [.r [at_ (hd x1.2) 0], .r [.bool true], .r (rowsAt y2 0)])
                                        else
                                          if (!((at_ (rowsAt y2 0) 6).toB)) = true then
                                            if (at_ (hd x1.2) 0).isDp = true then
                                              (E.pc n_value_Same [[at_ ((at_ (hd x1.2) 0).dpRow) 8, at_ ((at_ (hd x1.2) 0).dpRow) 9, at_ ((at_ (hd x1.2) 0).dpRow) 10, at_ ((at_ (hd x1.2) 0).dpRow) 11], [.int 0, .int 0, .str [], .nils]]).bind fun y185 =>
                                                some (0, [.r [at_ (hd x1.2) 0], .r [.bool (!((at_ (rowsAt y185 0) 0).toB))], .r (rowsAt y2 0)])
                                            else none
                                          else
                                            some (0, [.r [at_ (hd x1.2) 0], .r [.bool false], .r (rowsAt y2 0)])
                                      else
                                        if (!((at_ (rowsAt y2 0) 6).toB)) = true then
                                          if (at_ (hd x1.2) 0).isDp = true then
                                            (E.pc n_value_Same [[at_ ((at_ (hd x1.2) 0).dpRow) 8, at_ ((at_ (hd x1.2) 0).dpRow) 9, at_ ((at_ (hd x1.2) 0).dpRow) 10, at_ ((at_ (hd x1.2) 0).dpRow) 11], [.int 0, .int 0, .str [], .nils]]).bind fun y186 =>
                                              some (0, [.r [at_ (hd x1.2) 0], .r [.bool (!((at_ (rowsAt y186 0) 0).toB))], .r (rowsAt y2 0)])
                                          else none
                                        else
                                          some (0, [.r [at_ (hd x1.2) 0], .r [.bool false], .r (rowsAt y2 0)])
                                    else none
                                else none
                            else
                              if (at_ (hd x1.2) 0).isDp = true then
                                if (((at_ ((at_ (hd x1.2) 0).dpRow) 6).toI) != 0) = true then
                                  if (!((at_ (rowsAt y2 0) 4).toB)) = true then
                                    some (0, [.r [at_ (hd x1.2) 0], .r [.bool true], .r (rowsAt y2 0)])
                                  else
                                    if (at_ (hd x1.2) 0).isDp = true then
                                      if (((at_ ((at_ (hd x1.2) 0).dpRow) 7).toI) != 0) = true then
                                        if (!((at_ (rowsAt y2 0) 5).toB)) = true then
                                          some (0, [.r [at_ (hd x1.2) 0], .r [.bool true], .r (rowsAt y2 0)])
                                        else
                                          if (at_ (hd x1.2) 0).isDp = true then
                                            if (decide ((((at_ ((at_ (hd x1.2) 0).dpRow) 12).rows).length : Int) > 0)) = true then
                                              if (!((at_ (rowsAt y2 0) 7).toB)) = true then
                                                some (0, [.r [at_ (hd x1.2) 0], .r [.bool true], .r (rowsAt y2 0)])
                                              else
                                                if (!((at_ (rowsAt y2 0) 6).toB)) = true then
                                                  if (at_ (hd x1.2) 0).isDp = true then
                                                    (E.pc n_value_Same [[at_ ((at_ (hd x1.2) 0).dpRow) 8, at_ ((at_ (hd x1.2) 0).dpRow) 9, at_ ((at_ (hd x1.2) 0).dpRow) 10, at_ ((at_ (hd x1.2) 0).dpRow) 11], [.int 0, .int 0, .str [], .nils]]).bind fun y187 =>
                                                      some (0, [.r [at_ (hd x1.2) 0], .r [.bool (!((at_ (rowsAt y187 0) 0).toB))], .r (rowsAt y2 0)])
                                                  else none
                                                else
                                                  some (0, [.r [at_ (hd x1.2) 0], .r [.bool false], .r (rowsAt y2 0)])
                                            else
                                              if (!((at_ (rowsAt y2 0) 6).toB)) = true then
                                                if (at_ (hd x1.2) 0).isDp = true then
                                                  (E.pc n_value_Same [[at_ ((at_ (hd x1.2) 0).dpRow) 8, at_ ((at_ (hd x1.2) 0).dpRow) 9, at_ ((at_ (hd x1.2) 0).dpRow) 10, at_ ((at_ (hd x1.2) 0).dpRow) 11], [.int 0, .int 0, .str [], .nils]]).bind fun y188 =>
                                                    some (0, [.r [at_ (hd x1.2) 0], .r [.bool (!((at_ (rowsAt y188 0) 0).toB))], .r (rowsAt y2 0)])
                                                else none
                                              else
                                                some (0, [.r [at_ (hd x1.2) 0], .r [.bool false], .r (rowsAt y2 0)])
                                          else none
                                      else
                                        if (at_ (hd x1.2) 0).isDp = true then
                                          if (decide ((((at_ ((at_ (hd x1.2) 0).dpRow) 12).rows).length : Int) > 0)) = true then
                                            if (!((at_ (rowsAt y2 0) 7).toB)) = true then
                                              some (0, [.r [at_ (hd x1.2) 0], .r [.bool true], .r (rowsAt y2 0)])
                                            else
                                              if (!((at_ (rowsAt y2 0) 6).toB)) = true then
                                                if (at_ (hd x1.2) 0).isDp = true then
                                                  (E.pc n_value_Same [[at_ ((at_ (hd x1.2) 0).dpRow) 8, at_ ((at_ (hd x1.2) 0).dpRow) 9, at_ ((at_ (hd x1.2) 0).dpRow) 10, at_ ((at_ (hd x1.2) 0).dpRow) 11], [.int 0, .int 0, .str [], .nils]]).bind fun y189 =>
                                                    some (0, [.r [at_ (hd x1.2) 0], .r [.bool (!((at_ (rowsAt y189 0) 0).toB))], .r (rowsAt y2 0)])
                                                else none
                                              else
                                                some (0, [.r [at_ (hd x1.2) 0], .r [.bool false], .r (rowsAt y2 0)])
                                          else
                                            if (!((at_ (rowsAt y2 0) 6).toB)) = true then
                                              if (at_ (hd x1.2) 0).isDp = true then
                                                (E.pc n_value_Same [[at_ ((at_ (hd x1.2) 0).dpRow) 8, at_ ((at_ (hd x1.2) 0).dpRow) 9, at_ ((at_ (hd x1.2) 0).dpRow) 10, at_ ((at_ (hd x1.2) 0).dpRow) 11], [.int 0, .int 0, .str [], .nils]]).bind fun y190 =>
                                                  some (0, [.r [at_ (hd x1.2) 0], .r [.bool (!((at_ (rowsAt y190 0) 0).toB))], .r (rowsAt y2 0)])
                                              else none
                                            else
                                              some (0, [.r [at_ (hd x1.2) 0], .r [.bool false], .r (rowsAt y2 0)])
                                        else none
                                    else none
                                else
                                  if (at_ (hd x1.2) 0).isDp = true then
                                    if (((at_ ((at_ (hd x1.2) 0).dpRow) 7).toI) != 0) = true then
                                      if (!((at_ (rowsAt y2 0) 5).toB)) = true then
                                        some (0, [.r [at_ (hd x1.2) 0], .r [.bool true], .r (rowsAt y2 0)])
                                      else
                                        if (at_ (hd x1.2) 0).isDp = true then
                                          if (decide ((((at_ ((at_ (hd x1.2) 0).dpRow) 12).rows).length : Int) > 0)) = true then
                                            if (!((at_ (rowsAt y2 0) 7).toB)) = true then
                                              some (0, [.r [at_ (hd x1.2) 0], .r [.bool true], .r (rowsAt y2 0)])
                                            else
                                              if (!((at_ (rowsAt y2 0) 6).toB)) = true then
                                                if (at_ (hd x1.2) 0).isDp = true then
                                                  (E.pc n_value_Same [[at_ ((at_ (hd x1.2) 0).dpRow) 8, at_ ((at_ (hd x1.2) 0).dpRow) 9, at_ ((at_ (hd x1.2) 0).dpRow) 10, at_ ((at_ (hd x1.2) 0).dpRow) 11], [.int 0, .int 0, .str [], .nils]]).bind fun y191 =>
                                                    some (0, [.r [at_ (hd x1.2) 0], .r [.bool (!((at_ (rowsAt y191 0) 0).toB))], .r (rowsAt y2 0)])
                                                else none
                                              else
                                                some (0, [.r [at_ (hd x1.2) 0], .r [.bool false], .r (rowsAt y2 0)])
                                          else
                                            if (!((at_ (rowsAt y2 0) 6).toB)) = true then
                                              if (at_ (hd x1.2) 0).isDp = true then
                                                (E.pc n_value_Same [[at_ ((at_ (hd x1.2) 0).dpRow) 8, at_ ((at_ (hd x1.2) 0).dpRow) 9, at_ ((at_ (hd x1.2) 0).dpRow) 10, at_ ((at_ (hd x1.2) 0).dpRow) 11], [.int 0, .int 0, .str [], .nils]]).bind fun y192 =>
                                                  some (0, [.r [at_ (hd x1.2) 0], .r [.bool (!((at_ (rowsAt y192 0) 0).toB))], .r (rowsAt y2 0)])
                                              else none
                                            else
                                              some (0, [.r [at_ (hd x1.2) 0], .r [.bool false], .r (rowsAt y2 0)])
                                        else none
                                    else
                                      if (at_ (hd x1.2) 0).isDp = true then
                                        if (decide ((((at_ ((at_ (hd x1.2) 0).dpRow) 12).rows).length : Int) > 0)) = true then
                                          if (!((at_ (rowsAt y2 0) 7).toB)) = true then
                                            some (0, [.r [at_ (hd x1.2) 0], .r [.bool true], .r (rowsAt y2 0)])
                                          else
                                            if (!((at_ (rowsAt y2 0) 6).toB)) = true then
                                              if (at_ (hd x1.2) 0).isDp = true then
                                                (E.pc n_value_Same [[at_ ((at_ (hd x1.2) 0).dpRow) 8, at_ ((at_ (hd x1.2) 0).dpRow) 9, at_ ((at_ (hd x1.2) 0).dpRow) 10, at_ ((at_ (hd x1.2) 0).dpRow) 11], [.int 0, .int 0, .str [], .nils]]).bind fun y193 =>
                                                  some (0, [.r [at_ (hd x1.2) 0], .r [.bool (!((at_ (rowsAt y193 0) 0).toB))], .r (rowsAt y2 0)])
                                              else none
                                            else
                                              some (0, [.r [at_ (hd x1.2) 0], .r [.bool false], .r (rowsAt y2 0)])
                                        else
                                          if (!((at_ (rowsAt y2 0) 6).toB)) = true then
                                            if (at_ (hd x1.2) 0).isDp = true then
                                              (E.pc n_value_Same [[at_ ((at_ (hd x1.2) 0).dpRow) 8, at_ ((at_ (hd x1.2) 0).dpRow) 9, at_ ((at_ (hd x1.2) 0).dpRow) 10, at_ ((at_ (hd x1.2) 0).dpRow) 11], [.int 0, .int 0, .str [], .nils]]).bind fun y194 =>
                                                some (0, [.r [at_ (hd x1.2) 0], .r [.bool (!((at_ (rowsAt y194 0) 0).toB))], .r (rowsAt y2 0)])
                                            else none
                                          else
                                            some (0, [.r [at_ (hd x1.2) 0], .r [.bool false], .r (rowsAt y2 0)])
                                      else none
                                  else none
                              else none
                          else none
                      else none
                  else none
              else none
          else none).bind fun x195 =>
            if ((at_ (hd x195.2.tail) 0).toB) = true then
              some [[.int 3]]
            else
              (if (decide (((at_ (hd x195.2.tail.tail) 8).toI) ≥ 0)) = true then
                if (at_ (hd x195.2) 0).isDp = true then
                  if ((((at_ ((at_ (hd x195.2) 0).dpRow) 13).rows).length : Int) != ((at_ (hd x195.2.tail.tail) 8).toI)) = true then
                    some (0, [.r [at_ (hd x195.2) 0], .r [.bool true], .r (hd x195.2.tail.tail)])
                  else
                    if (decide (((at_ (hd x195.2.tail.tail) 8).toI) < 0)) = true then
                      if (at_ (hd x195.2) 0).isDp = true then
                        some (0, [.r [at_ (hd x195.2) 0], .r [.bool ((((at_ ((at_ (hd x195.2) 0).dpRow) 13).rows).length : Int) == 0)], .r (hd x195.2.tail.tail)])
                      else none
                    else
                      some (0, [.r [at_ (hd x195.2) 0], .r [.bool false], .r (hd x195.2.tail.tail)])
                else none
              else
                if (decide (((at_ (hd x195.2.tail.tail) 8).toI) < 0)) = true then
                  if (at_ (hd x195.2) 0).isDp = true then
                    some (0, [.r [at_ (hd x195.2) 0], .r [.bool ((((at_ ((at_ (hd x195.2) 0).dpRow) 13).rows).length : Int) == 0)], .r (hd x195.2.tail.tail)])
                  else none
                else
                  some (0, [.r [at_ (hd x195.2) 0], .r [.bool false], .r (hd x195.2.tail.tail)])).bind fun x196 =>
                if ((at_ (hd x196.2.tail) 0).toB) = true then
                  some [[.int 3]]
                else
                  (if ((at_ (hd x196.2.tail.tail) 0).toB) = true then
                    if (at_ (hd x196.2) 0).isDp = true then
                      (E.pc n_value_Name [[.str ((at_ ((at_ (hd x196.2) 0).dpRow) 1).toS)]]).bind fun y197 =>
                        if (!((at_ (rowsAt y197 0) 0).toB)) = true then
                          if (at_ (hd x196.2) 0).isDp = true then
                            if (((at_ ((at_ (hd x196.2) 0).dpRow) 0).toI) == 13) = true then
                              if (at_ (hd x196.2) 0).isDp = true then
                                if (!(((at_ ((at_ (hd x196.2) 0).dpRow) 1).toS) == ([] : List UInt8))) = true then
                                  some (0, [.r [at_ (hd x196.2) 0], .r [.bool true], .r (hd x196.2.tail.tail)])
                                else
                                  if ((at_ (hd x196.2.tail.tail) 1).toB) = true then
                                    if (at_ (hd x196.2) 0).isDp = true then
                                      (E.pc n_value_Name [[.str ((at_ ((at_ (hd x196.2) 0).dpRow) 2).toS)]]).bind fun y198 =>
                                        some (0, [.r [at_ (hd x196.2) 0], .r [.bool (!((at_ (rowsAt y198 0) 0).toB))], .r (hd x196.2.tail.tail)])
                                    else none
                                  else
                                    some (0, [.r [at_ (hd x196.2) 0], .r [.bool false], .r (hd x196.2.tail.tail)])
                              else none
                            else
                              some (0, [.r [at_ (hd x196.2) 0], .r [.bool true], .r (hd x196.2.tail.tail)])
                          else none
                        else
                          if ((at_ (hd x196.2.tail.tail) 1).toB) = true then
                            if (at_ (hd x196.2) 0).isDp = true then
                              (E.pc n_value_Name [[.str ((at_ ((at_ (hd x196.2) 0).dpRow) 2).toS)]]).bind fun y199 =>
                                some (0, [.r [at_ (hd x196.2) 0], .r [.bool (!((at_ (rowsAt y199 0) 0).toB))], .r (hd x196.2.tail.tail)])
                            else none
                          else
                            some (0, [.r [at_ (hd x196.2) 0], .r [.bool false], .r (hd x196.2.tail.tail)])
                    else none
                  else
                    if ((at_ (hd x196.2.tail.tail) 1).toB) = true then
                      if (at_ (hd x196.2) 0).isDp = true then
                        (E.pc n_value_Name [[.str ((at_ ((at_ (hd x196.2) 0).dpRow) 2).toS)]]).bind fun y200 =>
                          some (0, [.r [at_ (hd x196.2) 0], .r [.bool (!((at_ (rowsAt y200 0) 0).toB))], .r (hd x196.2.tail.tail)])
                      else none
                    else
                      some (0, [.r [at_ (hd x196.2) 0], .r [.bool false], .r (hd x196.2.tail.tail)])).bind fun x201 =>
                    if ((at_ (hd x201.2.tail) 0).toB) = true then
                      some [[.int 15]]
                    else
                      if ((at_ (hd x201.2.tail.tail) 6).toB) = true then
                        if (at_ (hd x201.2) 0).isDp = true then
                          (E.pc n_value_Check [[at_ ((at_ (hd x201.2) 0).dpRow) 8, at_ ((at_ (hd x201.2) 0).dpRow) 9, at_ ((at_ (hd x201.2) 0).dpRow) 10, at_ ((at_ (hd x201.2) 0).dpRow) 11]]).bind fun y202 =>
                            if (((at_ (rowsAt y202 0) 0).toI) != 0) = true then
                              some [[.int ((at_ (rowsAt y202 0) 0).toI)]]
                            else
                              if (at_ (hd x201.2) 0).isDp = true then
                                (E.pc n_lens_special [(at_ (hd x201.2) 0).dpRow]).bind fun y203 =>
                                  some [[.int ((at_ (rowsAt y203 0) 0).toI)]]
                              else none
                        else none
                      else
                        if (at_ (hd x201.2) 0).isDp = true then
                          (E.pc n_lens_special [(at_ (hd x201.2) 0).dpRow]).bind fun y204 =>
                            some [[.int ((at_ (rowsAt y204 0) 0).toI)]]
                        else none
      else none
theorem lens_Node_eq (E : Env) (p0 : Row) : runP E lens_Node_a [p0] = lens_Node E p0 := by kernel_rfl
end Go.Ev
