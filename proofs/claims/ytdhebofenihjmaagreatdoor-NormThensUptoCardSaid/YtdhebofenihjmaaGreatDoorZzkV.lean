/-
  norm.Use, walked.
-/
import Derived.Test.YtdhebofenihjmaaGreatDoorZzkC
set_option linter.all false
namespace Go.Proofs.Nrm
open Go.RowKit
abbrev P17 (W:World) (b:Nat) (c0 c1 c2 c3 c4 c5 c6 c7 c8 c9 c10 c11 c12 c13 s0 s1 s2:Value):Prop:=W.cell? ⟨b,0,none⟩=some c0∧W.cell? ⟨b,1,none⟩=some c1∧W.cell? ⟨b,2,none⟩=some c2∧W.cell? ⟨b,3,none⟩=some c3∧W.cell? ⟨b,4,none⟩=some c4∧W.cell? ⟨b,5,none⟩=some c5∧W.cell? ⟨b,6,none⟩=some c6∧W.cell? ⟨b,7,none⟩=some c7∧W.cell? ⟨b,8,none⟩=some c8∧W.cell? ⟨b,9,none⟩=some c9∧W.cell? ⟨b,10,none⟩=some c10∧W.cell? ⟨b,11,none⟩=some c11∧W.cell? ⟨b,12,none⟩=some c12∧W.cell? ⟨b,13,none⟩=some c13∧W.cell? ⟨b+1,0,none⟩=some s0∧W.cell? ⟨b+1,1,none⟩=some s1∧W.cell? ⟨b+1,2,none⟩=some s2
theorem P17.keep {W W':World} {b:Nat} {c0 c1 c2 c3 c4 c5 c6 c7 c8 c9 c10 c11 c12 c13 s0 s1 s2:Value} (h:P17 W b c0 c1 c2 c3 c4 c5 c6 c7 c8 c9 c10 c11 c12 c13 s0 s1 s2) (hg:W.grownBy W' none):P17 W' b c0 c1 c2 c3 c4 c5 c6 c7 c8 c9 c10 c11 c12 c13 s0 s1 s2:=by
 obtain ⟨h0,h1,h2,h3,h4,h5,h6,h7,h8,h9,h10,h11,h12,h13,h14,h15,h16⟩:=h
 exact ⟨hg.cell h0 (by simp),hg.cell h1 (by simp),hg.cell h2 (by simp),hg.cell h3 (by simp),hg.cell h4 (by simp),hg.cell h5 (by simp),hg.cell h6 (by simp),hg.cell h7 (by simp),hg.cell h8 (by simp),hg.cell h9 (by simp),hg.cell h10 (by simp),hg.cell h11 (by simp),hg.cell h12 (by simp),hg.cell h13 (by simp),hg.cell h14 (by simp),hg.cell h15 (by simp),hg.cell h16 (by simp)⟩
theorem P17.set {W:World} {b:Nat} {c0 c1 c2 c3 c4 c5 c6 c7 c8 c9 c10 c11 c12 c13 s0 s1 s2:Value} {p:Addr} {u:Value} (e1:p.block≠b) (e2:p.block≠b+1) (h:P17 W b c0 c1 c2 c3 c4 c5 c6 c7 c8 c9 c10 c11 c12 c13 s0 s1 s2):P17 (W.setCell p u) b c0 c1 c2 c3 c4 c5 c6 c7 c8 c9 c10 c11 c12 c13 s0 s1 s2:=by
 obtain ⟨h0,h1,h2,h3,h4,h5,h6,h7,h8,h9,h10,h11,h12,h13,h14,h15,h16⟩:=h
 exact ⟨qB h0 e1,qB h1 e1,qB h2 e1,qB h3 e1,qB h4 e1,qB h5 e1,qB h6 e1,qB h7 e1,qB h8 e1,qB h9 e1,qB h10 e1,qB h11 e1,qB h12 e1,qB h13 e1,qB h14 e2,qB h15 e2,qB h16 e2⟩
set_option maxHeartbeats 6400000 in
set_option maxRecDepth 100000 in
theorem a1G (w:World) (c0 c1 c2 c3 c4 c5 c6 c7 c8 c9 c10 c11 c12 c13 s0 s1 s2:Value) (oc0:c0.oneCell'=true) (oc1:c1.oneCell'=true) (oc2:c2.oneCell'=true) (oc3:c3.oneCell'=true) (oc4:c4.oneCell'=true) (oc5:c5.oneCell'=true) (oc6:c6.oneCell'=true) (oc7:c7.oneCell'=true) (oc8:c8.oneCell'=true) (oc9:c9.oneCell'=true) (a1v:c10.oneCell'=true) (a1w:c11.oneCell'=true) (a89:c12.oneCell'=true) (bLv:c13.oneCell'=true) (os0:s0.oneCell'=true) (os1:s1.oneCell'=true) (os2:s2.oneCell'=true)
 (R:List Value→Bool→World→Prop) (Ga:World→Prop) (Gb:List Value→World→World→Prop)
 (bE2:Hd (∀W,Ga W→Ga W.drew))
 (H13:Hd (∀W,Below w.heap.size w W→w.heap.size+3≤W.heap.size→Calls Tryz.prog 13 #[.agg #[c0,c1,c2,c3,c4,c5,c6,c7,c8,c9,c10,c11,c12,c13]] W fun e W'=>∃n:Int,e= .returned (.int .i64 n)∧W.grownBy W' none∧(n≠0→R [Value.int IntKind.i64 0,Value.string {data:=#[]},Value.string {data:=#[]},Value.slice none 0 0,Value.int IntKind.i64 0,Value.int IntKind.i64 0,Value.int IntKind.i64 0,Value.int IntKind.u8 0,Value.int IntKind.i64 0,Value.int IntKind.i64 0,Value.string {data:=#[]},Value.slice none 0 0,Value.slice none 0 0,Value.slice none 0 0] false W')∧(n=0→Ga W')))
 (H14:Hd (∀W,Ga W→Calls Tryz.prog 19 #[.agg #[c0,c1,c2,c3,c4,c5,c6,c7,c8,c9,c10,c11,c12,c13]] W fun e W'=>∃r0 r1 r2 r3 r4 r5 r6 r7 r8 r9 r10 r11 r12 r13,e= .returned (.agg #[r0,r1,r2,r3,r4,r5,r6,r7,r8,r9,r10,r11,r12,r13])∧(r0.oneCell'=true∧r1.oneCell'=true∧r2.oneCell'=true∧r3.oneCell'=true∧r4.oneCell'=true∧r5.oneCell'=true∧r6.oneCell'=true∧r7.oneCell'=true∧r8.oneCell'=true∧r9.oneCell'=true∧r10.oneCell'=true∧r11.oneCell'=true∧r12.oneCell'=true∧r13.oneCell'=true)∧W.grownBy W' none∧Gb [r0,r1,r2,r3,r4,r5,r6,r7,r8,r9,r10,r11,r12,r13] W W'))
 (H33:Hd (∀r0 r1 r2 r3 r4 r5 r6 r7 r8 r9 r10 r11 r12 r13 W W',Gb [r0,r1,r2,r3,r4,r5,r6,r7,r8,r9,r10,r11,r12,r13] W W'→Calls Tryz.prog 44 #[.agg #[r0,r1,r2,r3,r4,r5,r6,r7,r8,r9,r10,r11,r12,r13],.agg #[s0,s1,s2],s0] W' fun e W2=>∃q0 q1 q2 q3 q4 q5 q6 q7 q8 q9 q10 q11 q12 q13 ok,e= .returned (.tuple #[.agg #[q0,q1,q2,q3,q4,q5,q6,q7,q8,q9,q10,q11,q12,q13],.bool ok])∧(q0.oneCell'=true∧q1.oneCell'=true∧q2.oneCell'=true∧q3.oneCell'=true∧q4.oneCell'=true∧q5.oneCell'=true∧q6.oneCell'=true∧q7.oneCell'=true∧q8.oneCell'=true∧q9.oneCell'=true∧q10.oneCell'=true∧q11.oneCell'=true∧q12.oneCell'=true∧q13.oneCell'=true)∧W.grownBy W2 none∧R [q0,q1,q2,q3,q4,q5,q6,q7,q8,q9,q10,q11,q12,q13] ok W2)):
 Calls Tryz.prog 21 #[.agg #[c0,c1,c2,c3,c4,c5,c6,c7,c8,c9,c10,c11,c12,c13],.agg #[s0,s1,s2]] w fun e w'=>∃q0 q1 q2 q3 q4 q5 q6 q7 q8 q9 q10 q11 q12 q13 ok W2,e= .returned (.tuple #[.agg #[q0,q1,q2,q3,q4,q5,q6,q7,q8,q9,q10,q11,q12,q13],.bool ok])∧w.heap.size+3≤W2.heap.size∧R [q0,q1,q2,q3,q4,q5,q6,q7,q8,q9,q10,q11,q12,q13] ok W2∧w'=xL W2 (w.heap.size+2) 0 [q0,q1,q2,q3,q4,q5,q6,q7,q8,q9,q10,q11,q12,q13]:=by
 have tc0:=sT oc0
 have tc1:=sT oc1
 have tc2:=sT oc2
 have tc3:=sT oc3
 have tc4:=sT oc4
 have tc5:=sT oc5
 have tc6:=sT oc6
 have tc7:=sT oc7
 have tc8:=sT oc8
 have tc9:=sT oc9
 have a8Y:=sT a1v
 have a8Z:=sT a1w
 have bHV:=sT a89
 have bLw:=sT bLv
 have ts0:=sT os0
 have ts1:=sT os1
 have ts2:=sT os2
 obtain ⟨W0,hW0,h1,h2,h3,hsz,hZ0,hold,hbl⟩:=three w #[c0,c1,c2,c3,c4,c5,c6,c7,c8,c9,c10,c11,c12,c13] #[s0,s1,s2] #[Value.int IntKind.i64 0,Value.string {data:=#[]},Value.string {data:=#[]},Value.slice none 0 0,Value.int IntKind.i64 0,Value.int IntKind.i64 0,Value.int IntKind.i64 0,Value.int IntKind.u8 0,Value.int IntKind.i64 0,Value.int IntKind.i64 0,Value.string {data:=#[]},Value.slice none 0 0,Value.slice none 0 0,Value.slice none 0 0] 29 45 29
 have HL0:W0.heap[w.heap.size]? =some (.cells #[c0,c1,c2,c3,c4,c5,c6,c7,c8,c9,c10,c11,c12,c13] 29 (0,0)):=a4x hW0
 have HS0:W0.heap[w.heap.size+1]? =some (.cells #[s0,s1,s2] 45 (0,0)):=a4y hW0
 rw[hW0]at HL0 HS0 hZ0 hbl hsz
 clear hW0
 have La0:=cell_of HL0 0 _ rfl
 have La1:=cell_of HL0 1 _ rfl
 have La2:=cell_of HL0 2 _ rfl
 have La3:=cell_of HL0 3 _ rfl
 have La4:=cell_of HL0 4 _ rfl
 have La5:=cell_of HL0 5 _ rfl
 have La6:=cell_of HL0 6 _ rfl
 have La7:=cell_of HL0 7 _ rfl
 have La8:=cell_of HL0 8 _ rfl
 have La9:=cell_of HL0 9 _ rfl
 have bEA:=cell_of HL0 10 _ rfl
 have bEB:=cell_of HL0 11 _ rfl
 have bEC:=cell_of HL0 12 _ rfl
 have bED:=cell_of HL0 13 _ rfl
 have Sa0:=cell_of HS0 0 _ rfl
 have Sa1:=cell_of HS0 1 _ rfl
 have Sa2:=cell_of HS0 2 _ rfl
 have Za0:=cell_of hZ0 0 _ rfl
 have Za1:=cell_of hZ0 1 _ rfl
 have Za2:=cell_of hZ0 2 _ rfl
 have Za3:=cell_of hZ0 3 _ rfl
 have Za4:=cell_of hZ0 4 _ rfl
 have Za5:=cell_of hZ0 5 _ rfl
 have Za6:=cell_of hZ0 6 _ rfl
 have Za7:=cell_of hZ0 7 _ rfl
 have Za8:=cell_of hZ0 8 _ rfl
 have Za9:=cell_of hZ0 9 _ rfl
 have bLx:=cell_of hZ0 10 _ rfl
 have bLy:=cell_of hZ0 11 _ rfl
 have bLz:=cell_of hZ0 12 _ rfl
 have bLA:=cell_of hZ0 13 _ rfl
 have hbl:=hd hbl
 have hsz:=hd hsz
 have HL0:=hd HL0
 have HS0:=hd HS0
 have hZ0:=hd hZ0
 clear h1 h2 h3 hold
 go_enter Tryz.func21,Tryz.ntmps21
 go_wp2_with (go_at_call 13;go_loud (refine (H13.out _ hbl.out (by have:=hsz.out;omega)).mono ?_;rintro e w1 ⟨n,rfl,hg,hR,hG⟩;have HL1:=(hg.block w.heap.size (by have:=hsz.out;omega) (by simp)).trans HL0.out;have HS1:=(hg.block (w.heap.size+1) (by have:=hsz.out;omega) (by simp)).trans HS0.out;have HZ1:=(hg.block (w.heap.size+2) (by have:=hsz.out;omega) (by simp)).trans hZ0.out;have L0:=cell_of HL1 0 _ rfl;have L1:=cell_of HL1 1 _ rfl;have L2:=cell_of HL1 2 _ rfl;have L3:=cell_of HL1 3 _ rfl;have L4:=cell_of HL1 4 _ rfl;have L5:=cell_of HL1 5 _ rfl;have L6:=cell_of HL1 6 _ rfl;have L7:=cell_of HL1 7 _ rfl;have L8:=cell_of HL1 8 _ rfl;have L9:=cell_of HL1 9 _ rfl;have L10:=cell_of HL1 10 _ rfl;have L11:=cell_of HL1 11 _ rfl;have L12:=cell_of HL1 12 _ rfl;have L13:=cell_of HL1 13 _ rfl;have S0:=cell_of HS1 0 _ rfl;have S1:=cell_of HS1 1 _ rfl;have S2:=cell_of HS1 2 _ rfl;have Zk:=fun (j:Nat) (x:Value) h=>(cell_of HZ1 j x h:w1.cell? ⟨w.heap.size+1+1,j,none⟩=some x);have Z0:=Zk 0 _ rfl;have Z1:=Zk 1 _ rfl;have Z2:=Zk 2 _ rfl;have Z3:=Zk 3 _ rfl;have Z4:=Zk 4 _ rfl;have Z5:=Zk 5 _ rfl;have Z6:=Zk 6 _ rfl;have Z7:=Zk 7 _ rfl;have Z8:=Zk 8 _ rfl;have Z9:=Zk 9 _ rfl;have Z10:=Zk 10 _ rfl;have Z11:=Zk 11 _ rfl;have Z12:=Zk 12 _ rfl;have Z13:=Zk 13 _ rfl;clear Zk;have F1:∀j,w1.frozen? ⟨w.heap.size+1+1,j,none⟩=false:=aDa HZ1;have hs1:=hd (show w.heap.size+3≤w1.heap.size by have:=hg.size;have:=hsz.out;omega);have HZ1:=hd HZ1;clear HL1 HS1 hg hbl hsz HL0 HS0 hZ0 La0 Za0 La1 Za1 La2 Za2 La3 Za3 La4 Za4 La5 Za5 La6 Za6 La7 Za7 La8 Za8 La9 Za9 bEA bLx bEB bLy bEC bLz bED bLA Sa0 Sa1 Sa2;have hR:=hd hR;have hG:=hd hG))
 ·rename_i hb
  have hn:n≠0:=by simpa using hb
  refine bodyPost_ret (by simp[results,Tryz.f21,go_sem,Z0,Z1,Z2,Z3,Z4,Z5,Z6,Z7,Z8,Z9,Z10,Z11,Z12,Z13];try rfl) rfl ?_
  exact ⟨_,_,_,_,_,_,_,_,_,_,_,_,_,_,_,w1,rfl,hs1.out,hR.out hn,rfl⟩
 ·rename_i hb _ _
  have hn:n=0:=by simpa using hb
  have gR:w1.grownBy w1.drew none:=aHQ _ none
  have GR:=hd (bE2.out _ (hG.out hn))
  have sR:P17 w1.drew w.heap.size c0 c1 c2 c3 c4 c5 c6 c7 c8 c9 c10 c11 c12 c13 s0 s1 s2:=⟨L0,L1,L2,L3,L4,L5,L6,L7,L8,L9,L10,L11,L12,L13,S0,S1,S2⟩
  have hn2:w.heap.size+1+1≠w.heap.size:=by omega
  have hn3:w.heap.size+1+1≠w.heap.size+1:=by omega
  clear hR hG L0 L1 L2 L3 L4 L5 L6 L7 L8 L9 L10 L11 L12 L13 S0 S1 S2 hn gR Z0 Z1 Z2 Z3 Z4 Z5 Z6 Z7 Z8 Z9 Z10 Z11 Z12 Z13 F1
  clear tc0 tc1 tc2 tc3 tc4 tc5 tc6 tc7 tc8 tc9 a8Y a8Z bHV bLw ts0 ts1 ts2
  go_region_held3 (fun w'=>w'.cell? ⟨w.heap.size,0,none⟩=some c0∧w'.cell? ⟨w.heap.size,1,none⟩=some c1∧w'.cell? ⟨w.heap.size,2,none⟩=some c2∧w'.cell? ⟨w.heap.size,3,none⟩=some c3∧w'.cell? ⟨w.heap.size,4,none⟩=some c4∧w'.cell? ⟨w.heap.size,5,none⟩=some c5∧w'.cell? ⟨w.heap.size,6,none⟩=some c6∧w'.cell? ⟨w.heap.size,7,none⟩=some c7∧w'.cell? ⟨w.heap.size,8,none⟩=some c8∧w'.cell? ⟨w.heap.size,9,none⟩=some c9∧w'.cell? ⟨w.heap.size,10,none⟩=some c10∧w'.cell? ⟨w.heap.size,11,none⟩=some c11∧w'.cell? ⟨w.heap.size,12,none⟩=some c12∧w'.cell? ⟨w.heap.size,13,none⟩=some c13∧w'.cell? ⟨w.heap.size+1,0,none⟩=some s0∧w'.cell? ⟨w.heap.size+1,1,none⟩=some s1∧w'.cell? ⟨w.heap.size+1,2,none⟩=some s2) (first |with_reducible assumption |(with_reducible exact s3)|(with_reducible exact (P17.set hn2 hn3 (P17.set hn2 hn3 (P17.set hn2 hn3 (P17.set hn2 hn3 (P17.set hn2 hn3 (P17.set hn2 hn3 (P17.set hn2 hn3 (P17.set hn2 hn3 (P17.set hn2 hn3 (P17.set hn2 hn3 (P17.set hn2 hn3 (P17.set hn2 hn3 (P17.set hn2 hn3 (P17.set hn2 hn3 s3)))))))))))))))|(with_reducible exact s2c)|(with_reducible exact sR))
   (first
     |(go_at_call 44
       refine (H33.out _ _ _ _ _ _ _ _ _ _ _ _ _ _ _ _ hGb.out).mono ?_
       rintro e w3 ⟨q0,q1,q2,q3,q4,q5,q6,q7,q8,q9,q10,q11,q12,q13,ok,rfl,⟨oq0,oq1,oq2,oq3,oq4,oq5,oq6,oq7,oq8,oq9,bLC,bLD,bLE,bLF⟩,hg,hR3⟩
       have s3:P17 w3 w.heap.size c0 c1 c2 c3 c4 c5 c6 c7 c8 c9 c10 c11 c12 c13 s0 s1 s2:=P17.keep sR hg
       have HZ3:=(hg.block (w.heap.size+2) (by have:=hs1.out;show _<w1.heap.size;omega) (by simp)).trans HZ1.out
       have Yk:=fun (j:Nat) (x:Value) h=>(cell_of HZ3 j x h:w3.cell? ⟨w.heap.size+1+1,j,none⟩=some x)
       have Y0:=Yk 0 _ rfl
       have Y1:=Yk 1 _ rfl
       have Y2:=Yk 2 _ rfl
       have Y3:=Yk 3 _ rfl
       have Y4:=Yk 4 _ rfl
       have Y5:=Yk 5 _ rfl
       have Y6:=Yk 6 _ rfl
       have Y7:=Yk 7 _ rfl
       have Y8:=Yk 8 _ rfl
       have Y9:=Yk 9 _ rfl
       have Y10:=Yk 10 _ rfl
       have Y11:=Yk 11 _ rfl
       have Y12:=Yk 12 _ rfl
       have Y13:=Yk 13 _ rfl
       clear Yk
       have F3:∀j,w3.frozen? ⟨w.heap.size+1+1,j,none⟩=false:=aDa HZ3
       have tq0:=sT oq0
       have tq1:=sT oq1
       have tq2:=sT oq2
       have tq3:=sT oq3
       have tq4:=sT oq4
       have tq5:=sT oq5
       have tq6:=sT oq6
       have tq7:=sT oq7
       have tq8:=sT oq8
       have tq9:=sT oq9
       have bRk:=sT bLC
       have bRl:=sT bLD
       have bRm:=sT bLE
       have bRn:=sT bLF
       have HZ3:=hd HZ3
       have hs3:=hd (show w.heap.size+3≤w3.heap.size by have h1:w1.heap.size≤w3.heap.size:=hg.size;have:=hs1.out;omega)
       have hR3:=hd hR3
       clear hg)
     |(go_at_call 19
       refine (H14.out _ GR.out).mono ?_
       rintro e w2 ⟨r0,r1,r2,r3,r4,r5,r6,r7,r8,r9,r10,r11,r12,r13,rfl,⟨or0,or1,or2,or3,or4,or5,or6,or7,or8,or9,a5P,a5Q,a5R,a5S⟩,hg,hGb⟩
       have s2c:P17 w2 w.heap.size c0 c1 c2 c3 c4 c5 c6 c7 c8 c9 c10 c11 c12 c13 s0 s1 s2:=P17.keep sR hg
       have hGb:=hd hGb
       clear hg))
  all_goals
   go_wp2
   refine bodyPost_ret (by simp[results,Tryz.f21,go_sem,Y0,Y1,Y2,Y3,Y4,Y5,Y6,Y7,Y8,Y9,Y10,Y11,Y12,Y13];try rfl) rfl ?_
   exact ⟨_,_,_,_,_,_,_,_,_,_,_,_,_,_,_,w3,rfl,hs3.out,hR3.out,rfl⟩
end Go.Proofs.Nrm
