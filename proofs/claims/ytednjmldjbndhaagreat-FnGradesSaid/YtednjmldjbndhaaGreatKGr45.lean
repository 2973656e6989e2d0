/- The law on grades: walked. Condition: none. -/
import Derived.Test.YtednjmldjbndhaaGreatKGr44
set_option linter.unusedSimpArgs false
set_option linter.unusedVariables false
set_option maxRecDepth 100000
set_option maxHeartbeats 8000000
namespace Go.Proofs.YtednjmldjbndhaaGreat
open Go.RowKit
theorem lawGrades_c (A:Option Addr) (n c:Nat) (w:World) (hn:n ≤ 140737488351232) (hb:Bytes w A n w.heap.size) :
  Calls Tryz.prog 5 #[.slice A n c] w fun e w'=>e=.returned (.bool true)∧Below w.heap.size w w':=by
 have hG:=big_c A n c w hn
 by_cases hbig:4096 < n
 ·rw [decide_eq_true hbig] at hG
  have HG:=Lib.hid hG;clear hG hb
  go_enter Tryz.func5,Tryz.ntmps5
  go_wp2_with (go_at_call 6;refine HG.out.mono ?_;rintro e w1 ⟨rfl,rfl⟩)
  go_ret
  exact ⟨rfl,Below.refl _ _⟩
 ·rw [decide_eq_false hbig] at hG
  have HG:=Lib.hid hG;clear hG
  have hn':n ≤ 4096:=by omega
  have HB:=Lib.hid hb;clear hb
  go_enter Tryz.func5,Tryz.ntmps5
  go_wp2_with (go_at_call 6;refine HG.out.mono ?_;rintro e w1 ⟨rfl,rfl⟩)
  clear HG
  refine (drawGradeOf_c A n c w hn' HB.out).mono ?_;rintro e w1 ⟨L,l1,l2,l3,A1,A2,A3,c1,c2,c3,p,q,r,Am,cm,l,fa,fb,rfl,hE,hF,hl,hB⟩
  clear HB
  have HiG:=fun W (E:ExIn W A1 c1 l1 A2 c2 l2 A3 c3 l3) (F:AnIn W Am cm l)=>Lib.hid (implGradeOf_c L A1 c1 l1 A2 c2 l2 A3 c3 l3 p q r Am cm l fa fb W E F)
  have HiS:=fun W (E:ExIn W A1 c1 l1 A2 c2 l2 A3 c3 l3) (F:AnIn W Am cm l)=>Lib.hid (implStepOf_c L A1 c1 l1 A2 c2 l2 A3 c3 l3 p q r Am cm l fa fb W E F)
  have HiW:=fun W (E:ExIn W A1 c1 l1 A2 c2 l2 A3 c3 l3) (F:AnIn W Am cm l)=>Lib.hid (implExplain_c L A1 c1 l1 A2 c2 l2 A3 c3 l3 p q r Am cm l fa fb W E F)
  have HiN:=fun W (E:ExIn W A1 c1 l1 A2 c2 l2 A3 c3 l3) (F:AnIn W Am cm l)=>Lib.hid (implNextMove_c L A1 c1 l1 A2 c2 l2 A3 c3 l3 p q r Am cm l fa fb W E F)
  have HsG:=fun W (E:ExIn W A1 c1 l1 A2 c2 l2 A3 c3 l3) (F:AnIn W Am cm l)=>Lib.hid (specGradeOf_c L A1 c1 l1 A2 c2 l2 A3 c3 l3 p q r Am cm l fa fb W E F)
  have HsS:=fun W (E:ExIn W A1 c1 l1 A2 c2 l2 A3 c3 l3) (F:AnIn W Am cm l)=>Lib.hid (specStepOf_c L A1 c1 l1 A2 c2 l2 A3 c3 l3 p q r Am cm l fa fb W E F)
  have HsW:=fun W (E:ExIn W A1 c1 l1 A2 c2 l2 A3 c3 l3) (F:AnIn W Am cm l)=>Lib.hid (specExplain_c L A1 c1 l1 A2 c2 l2 A3 c3 l3 p q r Am cm l fa fb W E F)
  have HsN:=fun W (E:ExIn W A1 c1 l1 A2 c2 l2 A3 c3 l3) (F:AnIn W Am cm l)=>Lib.hid (specNextMove_c L A1 c1 l1 A2 c2 l2 A3 c3 l3 p q r Am cm l fa fb W E F)
  have HT:=Lib.hid (grd_true L l1 l2 l3 p q r l fa fb)
  have HN:=Lib.hid (grd_false L l1 l2 l3 p q r l fa fb)
  generalize hgv:(if (exB L l1 l2 l3 p q r && ansB l fa fb)=true then gradeP L l1 l2 l3 p q r ⟨fa,fb⟩ else 0)=gv at *
  generalize (if (exB L l1 l2 l3 p q r && ansB l fa fb)=true then (0:Int) else 1)=c0 at *
  generalize (if (exB L l1 l2 l3 p q r && ansB l fa fb)=true then (stepN (usualP l3).ms l:Int) else 0)=sv at *
  unfold expV at HiW HsW
  generalize expW (exB L l1 l2 l3 p q r && ansB l fa fb) (planB l1 l2 l3 l) (gradeP L l1 l2 l3 p q r ⟨fa,fb⟩) (decide ((runR l1 l2 (0,0) l).2=l.length))=S at *
  generalize expC (exB L l1 l2 l3 p q r && ansB l fa fb)=ec at *
  unfold nmV at HiN HsN
  generalize nmRes (exB L l1 l2 l3 p q r && ansB l fa fb) (usualP l3).ms l=nm at *
  obtain ⟨⟨mk,ms,md,mt⟩,mc⟩:=nm
  simp only at HiN HsN HT HN
  have HIX:=fun W (E:ExIn W A1 c1 l1 A2 c2 l2 A3 c3 l3)=>Lib.hid (implIsExercise_c L A1 c1 l1 A2 c2 l2 A3 c3 l3 p q r W E)
  have HSX:=fun W (E:ExIn W A1 c1 l1 A2 c2 l2 A3 c3 l3)=>Lib.hid (specIsExercise_c L A1 c1 l1 A2 c2 l2 A3 c3 l3 p q r W E)
  clear hgv
  generalize hxb:exB L l1 l2 l3 p q r=xb at *
  replace hxb:=Lib.hid hxb
  have hal:Below w1.heap.size w1 (w1.alloc (.cells #[.int .i64 L,.slice A1 l1.length c1,.slice A2 l2.length c2,.slice A3 l3.length c3,.int .i64 p,.int .i64 q,.int .i64 r] 31)):=(Below.refl _ _).alloc (Nat.le_refl _) _
  replace hB:=hB.trans (hal.mono hB.size)
  replace hE:=hE.later hal
  replace hF:=hF.later hal
  clear hal
  have X:=Blk.new w1 31 #[.int .i64 L,.slice A1 l1.length c1,.slice A2 l2.length c2,.slice A3 l3.length c3,.int .i64 p,.int .i64 q,.int .i64 r]
  have hal:Below (w1.alloc (.cells #[.int .i64 L,.slice A1 l1.length c1,.slice A2 l2.length c2,.slice A3 l3.length c3,.int .i64 p,.int .i64 q,.int .i64 r] 31)).heap.size (w1.alloc (.cells #[.int .i64 L,.slice A1 l1.length c1,.slice A2 l2.length c2,.slice A3 l3.length c3,.int .i64 p,.int .i64 q,.int .i64 r] 31)) ((w1.alloc (.cells #[.int .i64 L,.slice A1 l1.length c1,.slice A2 l2.length c2,.slice A3 l3.length c3,.int .i64 p,.int .i64 q,.int .i64 r] 31)).alloc (.cells #[.slice Am l.length cm,.int .i64 fa,.int .i64 fb] 53)):=(Below.refl _ _).alloc (Nat.le_refl _) _
  replace hB:=hB.trans (hal.mono hB.size)
  replace hE:=hE.later hal
  replace hF:=hF.later hal
  replace X:=X.below hal X.lt
  clear hal
  have Y:=Blk.new' (w1.alloc (.cells #[.int .i64 L,.slice A1 l1.length c1,.slice A2 l2.length c2,.slice A3 l3.length c3,.int .i64 p,.int .i64 q,.int .i64 r] 31)) 53 #[.slice Am l.length cm,.int .i64 fa,.int .i64 fb] (g:=w1.heap.size+1) (by simp)
  go_wp2_with fail
  generalize (w1.alloc (.cells #[.int .i64 L,.slice A1 l1.length c1,.slice A2 l2.length c2,.slice A3 l3.length c3,.int .i64 p,.int .i64 q,.int .i64 r] 31)).alloc (.cells #[.slice Am l.length cm,.int .i64 fa,.int .i64 fb] 53)=u1 at *
  refine Calls.mono ((HiG _ hE hF).out) ?_;rintro e w2 ⟨rfl,hb⟩
  replace hB:=hB.trans (hb.mono hB.size)
  replace hE:=hE.later hb
  replace hF:=hF.later hb
  replace X:=X.below hb X.lt
  replace Y:=Y.below hb Y.lt
  clear hb
  have x0:w2.cell? ⟨w1.heap.size,0,none⟩=some (.int .i64 L):=X.cell 0
  have x1:w2.cell? ⟨w1.heap.size,1,none⟩=some (.slice A1 l1.length c1):=X.cell 1
  have x2:w2.cell? ⟨w1.heap.size,2,none⟩=some (.slice A2 l2.length c2):=X.cell 2
  have x3:w2.cell? ⟨w1.heap.size,3,none⟩=some (.slice A3 l3.length c3):=X.cell 3
  have x4:w2.cell? ⟨w1.heap.size,4,none⟩=some (.int .i64 p):=X.cell 4
  have x5:w2.cell? ⟨w1.heap.size,5,none⟩=some (.int .i64 q):=X.cell 5
  have x6:w2.cell? ⟨w1.heap.size,6,none⟩=some (.int .i64 r):=X.cell 6
  have y0:w2.cell? ⟨w1.heap.size+1,0,none⟩=some (.slice Am l.length cm):=Y.cell 0
  have y1:w2.cell? ⟨w1.heap.size+1,1,none⟩=some (.int .i64 fa):=Y.cell 1
  have y2:w2.cell? ⟨w1.heap.size+1,2,none⟩=some (.int .i64 fb):=Y.cell 2
  go_wp2_with fail
  clear x0 x1 x2 x3 x4 x5 x6 y0 y1 y2
  refine Calls.mono ((HsG _ hE hF).out) ?_;rintro e w3 ⟨rfl,hb⟩
  replace hB:=hB.trans (hb.mono hB.size)
  replace hE:=hE.later hb
  replace hF:=hF.later hb
  replace X:=X.below hb X.lt
  replace Y:=Y.below hb Y.lt
  clear hb
  have x0:w3.cell? ⟨w1.heap.size,0,none⟩=some (.int .i64 L):=X.cell 0
  have x1:w3.cell? ⟨w1.heap.size,1,none⟩=some (.slice A1 l1.length c1):=X.cell 1
  have x2:w3.cell? ⟨w1.heap.size,2,none⟩=some (.slice A2 l2.length c2):=X.cell 2
  have x3:w3.cell? ⟨w1.heap.size,3,none⟩=some (.slice A3 l3.length c3):=X.cell 3
  have x4:w3.cell? ⟨w1.heap.size,4,none⟩=some (.int .i64 p):=X.cell 4
  have x5:w3.cell? ⟨w1.heap.size,5,none⟩=some (.int .i64 q):=X.cell 5
  have x6:w3.cell? ⟨w1.heap.size,6,none⟩=some (.int .i64 r):=X.cell 6
  have y0:w3.cell? ⟨w1.heap.size+1,0,none⟩=some (.slice Am l.length cm):=Y.cell 0
  have y1:w3.cell? ⟨w1.heap.size+1,1,none⟩=some (.int .i64 fa):=Y.cell 1
  have y2:w3.cell? ⟨w1.heap.size+1,2,none⟩=some (.int .i64 fb):=Y.cell 2
  go_wp2_with fail
  clear x0 x1 x2 x3 x4 x5 x6 y0 y1 y2
  refine Calls.mono ((HiS _ hE hF).out) ?_;rintro e w4 ⟨rfl,hb⟩
  replace hB:=hB.trans (hb.mono hB.size)
  replace hE:=hE.later hb
  replace hF:=hF.later hb
  replace X:=X.below hb X.lt
  replace Y:=Y.below hb Y.lt
  clear hb
  have x0:w4.cell? ⟨w1.heap.size,0,none⟩=some (.int .i64 L):=X.cell 0
  have x1:w4.cell? ⟨w1.heap.size,1,none⟩=some (.slice A1 l1.length c1):=X.cell 1
  have x2:w4.cell? ⟨w1.heap.size,2,none⟩=some (.slice A2 l2.length c2):=X.cell 2
  have x3:w4.cell? ⟨w1.heap.size,3,none⟩=some (.slice A3 l3.length c3):=X.cell 3
  have x4:w4.cell? ⟨w1.heap.size,4,none⟩=some (.int .i64 p):=X.cell 4
  have x5:w4.cell? ⟨w1.heap.size,5,none⟩=some (.int .i64 q):=X.cell 5
  have x6:w4.cell? ⟨w1.heap.size,6,none⟩=some (.int .i64 r):=X.cell 6
  have y0:w4.cell? ⟨w1.heap.size+1,0,none⟩=some (.slice Am l.length cm):=Y.cell 0
  have y1:w4.cell? ⟨w1.heap.size+1,1,none⟩=some (.int .i64 fa):=Y.cell 1
  have y2:w4.cell? ⟨w1.heap.size+1,2,none⟩=some (.int .i64 fb):=Y.cell 2
  go_wp2_with fail
  clear x0 x1 x2 x3 x4 x5 x6 y0 y1 y2
  refine Calls.mono ((HsS _ hE hF).out) ?_;rintro e w5 ⟨rfl,hb⟩
  replace hB:=hB.trans (hb.mono hB.size)
  replace hE:=hE.later hb
  replace hF:=hF.later hb
  replace X:=X.below hb X.lt
  replace Y:=Y.below hb Y.lt
  clear hb
  have x0:w5.cell? ⟨w1.heap.size,0,none⟩=some (.int .i64 L):=X.cell 0
  have x1:w5.cell? ⟨w1.heap.size,1,none⟩=some (.slice A1 l1.length c1):=X.cell 1
  have x2:w5.cell? ⟨w1.heap.size,2,none⟩=some (.slice A2 l2.length c2):=X.cell 2
  have x3:w5.cell? ⟨w1.heap.size,3,none⟩=some (.slice A3 l3.length c3):=X.cell 3
  have x4:w5.cell? ⟨w1.heap.size,4,none⟩=some (.int .i64 p):=X.cell 4
  have x5:w5.cell? ⟨w1.heap.size,5,none⟩=some (.int .i64 q):=X.cell 5
  have x6:w5.cell? ⟨w1.heap.size,6,none⟩=some (.int .i64 r):=X.cell 6
  have y0:w5.cell? ⟨w1.heap.size+1,0,none⟩=some (.slice Am l.length cm):=Y.cell 0
  have y1:w5.cell? ⟨w1.heap.size+1,1,none⟩=some (.int .i64 fa):=Y.cell 1
  have y2:w5.cell? ⟨w1.heap.size+1,2,none⟩=some (.int .i64 fb):=Y.cell 2
  go_wp2_with fail
  clear x0 x1 x2 x3 x4 x5 x6 y0 y1 y2
  refine Calls.mono ((HiW _ hE hF).out) ?_;rintro e w6 ⟨rfl,hb⟩
  replace hB:=hB.trans (hb.mono hB.size)
  replace hE:=hE.later hb
  replace hF:=hF.later hb
  replace X:=X.below hb X.lt
  replace Y:=Y.below hb Y.lt
  clear hb
  have x0:w6.cell? ⟨w1.heap.size,0,none⟩=some (.int .i64 L):=X.cell 0
  have x1:w6.cell? ⟨w1.heap.size,1,none⟩=some (.slice A1 l1.length c1):=X.cell 1
  have x2:w6.cell? ⟨w1.heap.size,2,none⟩=some (.slice A2 l2.length c2):=X.cell 2
  have x3:w6.cell? ⟨w1.heap.size,3,none⟩=some (.slice A3 l3.length c3):=X.cell 3
  have x4:w6.cell? ⟨w1.heap.size,4,none⟩=some (.int .i64 p):=X.cell 4
  have x5:w6.cell? ⟨w1.heap.size,5,none⟩=some (.int .i64 q):=X.cell 5
  have x6:w6.cell? ⟨w1.heap.size,6,none⟩=some (.int .i64 r):=X.cell 6
  have y0:w6.cell? ⟨w1.heap.size+1,0,none⟩=some (.slice Am l.length cm):=Y.cell 0
  have y1:w6.cell? ⟨w1.heap.size+1,1,none⟩=some (.int .i64 fa):=Y.cell 1
  have y2:w6.cell? ⟨w1.heap.size+1,2,none⟩=some (.int .i64 fb):=Y.cell 2
  go_wp2_with fail
  clear x0 x1 x2 x3 x4 x5 x6 y0 y1 y2
  refine Calls.mono ((HsW _ hE hF).out) ?_;rintro e w7 ⟨rfl,hb⟩
  replace hB:=hB.trans (hb.mono hB.size)
  replace hE:=hE.later hb
  replace hF:=hF.later hb
  replace X:=X.below hb X.lt
  replace Y:=Y.below hb Y.lt
  clear hb
  have x0:w7.cell? ⟨w1.heap.size,0,none⟩=some (.int .i64 L):=X.cell 0
  have x1:w7.cell? ⟨w1.heap.size,1,none⟩=some (.slice A1 l1.length c1):=X.cell 1
  have x2:w7.cell? ⟨w1.heap.size,2,none⟩=some (.slice A2 l2.length c2):=X.cell 2
  have x3:w7.cell? ⟨w1.heap.size,3,none⟩=some (.slice A3 l3.length c3):=X.cell 3
  have x4:w7.cell? ⟨w1.heap.size,4,none⟩=some (.int .i64 p):=X.cell 4
  have x5:w7.cell? ⟨w1.heap.size,5,none⟩=some (.int .i64 q):=X.cell 5
  have x6:w7.cell? ⟨w1.heap.size,6,none⟩=some (.int .i64 r):=X.cell 6
  have y0:w7.cell? ⟨w1.heap.size+1,0,none⟩=some (.slice Am l.length cm):=Y.cell 0
  have y1:w7.cell? ⟨w1.heap.size+1,1,none⟩=some (.int .i64 fa):=Y.cell 1
  have y2:w7.cell? ⟨w1.heap.size+1,2,none⟩=some (.int .i64 fb):=Y.cell 2
  go_wp2_with fail
  clear x0 x1 x2 x3 x4 x5 x6 y0 y1 y2
  refine Calls.mono ((HiN _ hE hF).out) ?_;rintro e w8 ⟨rfl,hb⟩
  replace hB:=hB.trans (hb.mono hB.size)
  replace hE:=hE.later hb
  replace hF:=hF.later hb
  replace X:=X.below hb X.lt
  replace Y:=Y.below hb Y.lt
  clear hb
  have hal:Below w8.heap.size w8 (w8.alloc (.cells #[.int .i64 mk,.int .i64 ms,.int .i64 md,.int .i64 mt] 75)):=(Below.refl _ _).alloc (Nat.le_refl _) _
  replace hB:=hB.trans (hal.mono hB.size)
  replace hE:=hE.later hal
  replace hF:=hF.later hal
  replace X:=X.below hal X.lt
  replace Y:=Y.below hal Y.lt
  clear hal
  have M:=Blk.new w8 75 #[.int .i64 mk,.int .i64 ms,.int .i64 md,.int .i64 mt]
  have x0:(w8.alloc (.cells #[.int .i64 mk,.int .i64 ms,.int .i64 md,.int .i64 mt] 75)).cell? ⟨w1.heap.size,0,none⟩=some (.int .i64 L):=X.cell 0
  have x1:(w8.alloc (.cells #[.int .i64 mk,.int .i64 ms,.int .i64 md,.int .i64 mt] 75)).cell? ⟨w1.heap.size,1,none⟩=some (.slice A1 l1.length c1):=X.cell 1
  have x2:(w8.alloc (.cells #[.int .i64 mk,.int .i64 ms,.int .i64 md,.int .i64 mt] 75)).cell? ⟨w1.heap.size,2,none⟩=some (.slice A2 l2.length c2):=X.cell 2
  have x3:(w8.alloc (.cells #[.int .i64 mk,.int .i64 ms,.int .i64 md,.int .i64 mt] 75)).cell? ⟨w1.heap.size,3,none⟩=some (.slice A3 l3.length c3):=X.cell 3
  have x4:(w8.alloc (.cells #[.int .i64 mk,.int .i64 ms,.int .i64 md,.int .i64 mt] 75)).cell? ⟨w1.heap.size,4,none⟩=some (.int .i64 p):=X.cell 4
  have x5:(w8.alloc (.cells #[.int .i64 mk,.int .i64 ms,.int .i64 md,.int .i64 mt] 75)).cell? ⟨w1.heap.size,5,none⟩=some (.int .i64 q):=X.cell 5
  have x6:(w8.alloc (.cells #[.int .i64 mk,.int .i64 ms,.int .i64 md,.int .i64 mt] 75)).cell? ⟨w1.heap.size,6,none⟩=some (.int .i64 r):=X.cell 6
  have y0:(w8.alloc (.cells #[.int .i64 mk,.int .i64 ms,.int .i64 md,.int .i64 mt] 75)).cell? ⟨w1.heap.size+1,0,none⟩=some (.slice Am l.length cm):=Y.cell 0
  have y1:(w8.alloc (.cells #[.int .i64 mk,.int .i64 ms,.int .i64 md,.int .i64 mt] 75)).cell? ⟨w1.heap.size+1,1,none⟩=some (.int .i64 fa):=Y.cell 1
  have y2:(w8.alloc (.cells #[.int .i64 mk,.int .i64 ms,.int .i64 md,.int .i64 mt] 75)).cell? ⟨w1.heap.size+1,2,none⟩=some (.int .i64 fb):=Y.cell 2
  go_wp2_with fail
  generalize w8.alloc (.cells #[.int .i64 mk,.int .i64 ms,.int .i64 md,.int .i64 mt] 75)=u8 at *
  clear x0 x1 x2 x3 x4 x5 x6
  clear y0 y1 y2
  refine Calls.mono ((HsN _ hE hF).out) ?_;rintro e w9 ⟨rfl,hb⟩
  replace hB:=hB.trans (hb.mono hB.size)
  replace hE:=hE.later hb
  replace hF:=hF.later hb
  replace X:=X.below hb X.lt
  replace Y:=Y.below hb Y.lt
  replace M:=M.below hb M.lt
  clear hb
  clear HiG HsG HiS HsS HiW HsW HiN HsN
  have hal:Below w9.heap.size w9 (w9.alloc (.cells #[.int .i64 mk,.int .i64 ms,.int .i64 md,.int .i64 mt] 75)):=(Below.refl _ _).alloc (Nat.le_refl _) _
  replace hB:=hB.trans (hal.mono hB.size)
  replace hE:=hE.later hal
  replace hF:=hF.later hal
  replace X:=X.below hal X.lt
  replace Y:=Y.below hal Y.lt
  replace M:=M.below hal M.lt
  clear hal
  have N:=Blk.new w9 75 #[.int .i64 mk,.int .i64 ms,.int .i64 md,.int .i64 mt]
  go_wp2_with fail
  generalize w9.alloc (.cells #[.int .i64 mk,.int .i64 ms,.int .i64 md,.int .i64 mt] 75)=u9 at *
  have HNE:=fun a b d e w=>neMovSame a b d e w
  have hSS:(S.toList == S.toList)=true:=by simp
  refine region_fr 44 (fun f l x=>match l with | a0_ :: a1_ :: a2_ :: a3_ :: a4_ :: a5_ :: a6_ :: a7_ :: a8_ :: a9_ :: a10_ :: a11_ :: a12_ :: a13_ :: a14_ :: a15_ :: a16_ :: a17_ :: a18_ :: a19_ :: a20_ :: a21_ :: a22_ :: a23_ :: a24_ :: a25_ :: a26_ :: a27_ :: a28_ :: a29_ :: a30_ :: a31_ :: a32_ :: a33_ :: a34_ :: a35_ :: a36_ :: a37_ :: a38_ :: a39_ :: a40_ :: a41_ :: a42_ :: a43_ :: a44_ :: a45_ :: a46_ :: a47_ :: a48_ :: a49_ :: a50_ :: a51_ :: a52_ :: a53_ :: a54_ :: a55_ :: a56_ :: a57_ :: a58_ :: a59_ :: a60_ :: a61_ :: a62_ :: a63_ :: a64_ :: a65_ :: a66_ :: a67_ :: a68_ :: a69_ :: a70_ :: a71_ :: a72_ :: a73_ :: a74_ :: a75_ :: a76_ :: a77_ :: a78_ :: a79_ :: a80_ :: a81_ :: a82_ :: a83_ :: a84_ :: a85_ :: a86_ :: a87_ :: a88_ :: a89_ :: a90_ :: a91_ :: a92_ :: a93_ :: a94_ :: a95_ :: a96_ :: a97_ :: a98_ :: a99_ :: a100_ :: a101_ :: a102_ :: a103_ :: a104_ :: a105_ :: a106_ :: a107_ :: a108_ :: a109_ :: a110_ :: a111_ :: a112_ :: a113_ :: a114_ :: a115_ :: a116_ :: a117_ :: a118_ :: a119_ :: a120_ :: a121_ :: a122_ :: a123_ :: a124_ :: a125_ :: a126_ :: a127_ :: a128_ :: a129_ :: a130_ :: a131_ :: a132_ :: a133_ :: a134_ :: a135_ :: a136_ :: a137_ :: a138_ :: a139_ :: a140_ :: a141_ :: a142_ :: a143_ :: a144_ :: a145_ :: a146_ :: a147_ :: a148_ :: a149_ :: a150_ :: a151_ :: a152_ :: a153_ :: a154_ :: a155_ :: a156_ :: a157_ :: a158_ :: a159_ :: a160_ :: a161_ :: a162_ :: a163_ :: a164_ :: a165_ :: a166_ :: a167_ :: a168_ :: a169_ :: a170_ :: a171_ :: a172_ :: a173_ :: a174_ :: a175_ :: a176_ :: a177_ :: a178_ :: a179_ :: a180_ :: a181_ :: a182_ :: a183_ :: a184_ :: a185_ :: a186_ :: a187_ :: a188_ :: a189_ :: a190_ :: a191_ :: a192_ :: a193_ :: a194_ :: a195_ :: a196_ :: a197_ :: a198_ :: a199_ :: a200_ :: a201_ :: a202_ :: a203_ :: a204_ :: a205_ :: a206_ :: a207_ :: a208_ :: a209_ :: a210_ :: a211_ :: a212_ :: a213_ :: a214_ :: a215_ :: a216_ :: a217_ :: a218_ :: a219_ :: a220_ :: a221_ :: a222_ :: a223_ :: a224_ :: a225_ :: a226_ :: a227_ :: a228_ :: a229_ :: a230_ :: a231_ :: a232_ :: a233_ :: a234_ :: a235_ :: a236_ :: a237_ :: a238_ :: a239_ :: a240_ :: a241_ :: a242_ :: a243_ :: a244_ :: []=>[a0_,a1_,a2_,a3_,a4_,a5_,a6_,a7_,a8_,a9_,a10_,a11_,a12_,a13_,a14_,a15_,a16_,a17_,a18_,a19_,a20_,a21_,a22_,a23_,a24_,a25_,a26_,a27_,a28_,a29_,a30_,a31_,a32_,a33_,a34_,a35_,a36_,a37_,a38_,a39_,a40_,a41_,a42_,a43_,a44_,a45_,a46_,a47_,a48_,a49_,a50_,a51_,a52_,a53_,a54_,a55_,a56_,a57_,a58_,a59_,a60_,a61_,a62_,a63_,a64_,a65_,a66_,a67_,a68_,a69_,a70_,a71_,a72_,a73_,a74_,a75_,a76_,a77_,a78_,a79_,a80_,a81_,a82_,a83_,a84_,a85_,bif f 0 then .int .i64 c0 else a86_,bif f 1 then .int .i64 c0 else a87_,bif f 2 then .bool false else a88_,bif f 3 then .bool false else a89_,bif f 4 then .int .i64 gv else a90_,bif f 5 then .int .i64 gv else a91_,bif f 6 then .bool false else a92_,bif f 7 then .bool false else a93_,bif f 8 then .bool false else a94_,bif f 9 then .int .i64 c0 else a95_,bif f 10 then .int .i64 c0 else a96_,bif f 11 then .bool false else a97_,bif f 12 then .bool false else a98_,bif f 13 then .bool false else a99_,bif f 14 then .int .i64 sv else a100_,bif f 15 then .int .i64 sv else a101_,bif f 16 then .bool false else a102_,bif f 17 then .bool false else a103_,bif f 18 then .bool false else a104_,bif f 19 then .int .i64 ec else a105_,bif f 20 then .int .i64 ec else a106_,bif f 21 then .bool false else a107_,bif f 22 then .bool false else a108_,bif f 23 then .bool false else a109_,bif f 24 then .string S else a110_,bif f 25 then .string S else a111_,bif f 26 then .bool false else a112_,bif f 27 then .bool false else a113_,bif f 28 then .bool false else a114_,bif f 29 then .int .i64 mc else a115_,bif f 30 then .int .i64 mc else a116_,bif f 31 then .bool false else a117_,bif f 32 then .bool false else a118_,bif f 33 then .bool false else a119_,bif f 34 then .agg #[.int .i64 mk,.int .i64 ms,.int .i64 md,.int .i64 mt] else a120_,bif f 35 then .agg #[.int .i64 mk,.int .i64 ms,.int .i64 md,.int .i64 mt] else a121_,bif f 36 then .bool false else a122_,bif f 37 then .bool false else a123_,bif f 38 then .bool false else a124_,bif f 39 then .agg #[.int .i64 L,.slice A1 l1.length c1,.slice A2 l2.length c2,.slice A3 l3.length c3,.int .i64 p,.int .i64 q,.int .i64 r] else a125_,bif f 40 then .bool xb else a126_,bif f 41 then .agg #[.int .i64 L,.slice A1 l1.length c1,.slice A2 l2.length c2,.slice A3 l3.length c3,.int .i64 p,.int .i64 q,.int .i64 r] else a127_,bif f 42 then .bool xb else a128_,bif f 43 then .bool false else a129_,a130_,a131_,a132_,a133_,a134_,a135_,a136_,a137_,a138_,a139_,a140_,a141_,a142_,a143_,a144_,a145_,a146_,a147_,a148_,a149_,a150_,a151_,a152_,a153_,a154_,a155_,a156_,a157_,a158_,a159_,a160_,a161_,a162_,a163_,a164_,a165_,a166_,a167_,a168_,a169_,a170_,a171_,a172_,a173_,a174_,a175_,a176_,a177_,a178_,a179_,a180_,a181_,a182_,a183_,a184_,a185_,a186_,a187_,a188_,a189_,a190_,a191_,a192_,a193_,a194_,a195_,a196_,a197_,a198_,a199_,a200_,a201_,a202_,a203_,a204_,a205_,a206_,a207_,a208_,a209_,a210_,a211_,a212_,a213_,a214_,a215_,a216_,a217_,a218_,a219_,a220_,a221_,a222_,a223_,a224_,a225_,a226_,a227_,a228_,a229_,a230_,a231_,a232_,a233_,a234_,a235_,a236_,a237_,a238_,a239_,a240_,a241_,a242_,a243_,a244_] | l=>l) (fun fL x v=>Below u9.heap.size u9 v) (by kernel_rfl) (by decide +kernel) undef rfl ((Below.refl _ _).drew) ?_ ?_
  all_goals dsimp only
  ·rintro fL x v hS i hi hf o ho hall
   have hn:i=0 ∨ i=1 ∨ i=2 ∨ i=3 ∨ i=4 ∨ i=5 ∨ i=6 ∨ i=7 ∨ i=8 ∨ i=9 ∨ i=10 ∨ i=11 ∨ i=12 ∨ i=13 ∨ i=14 ∨ i=15 ∨ i=16 ∨ i=17 ∨ i=18 ∨ i=19 ∨ i=20 ∨ i=21 ∨ i=22 ∨ i=23 ∨ i=24 ∨ i=25 ∨ i=26 ∨ i=27 ∨ i=28 ∨ i=29 ∨ i=30 ∨ i=31 ∨ i=32 ∨ i=33 ∨ i=34 ∨ i=35 ∨ i=36 ∨ i=37 ∨ i=38 ∨ i=39 ∨ i=40 ∨ i=41 ∨ i=42 ∨ i=43:=by omega
   clear hi
   rcases hn with rfl | rfl | rfl | rfl | rfl | rfl | rfl | rfl | rfl | rfl | rfl | rfl | rfl | rfl | rfl | rfl | rfl | rfl | rfl | rfl | rfl | rfl | rfl | rfl | rfl | rfl | rfl | rfl | rfl | rfl | rfl | rfl | rfl | rfl | rfl | rfl | rfl | rfl | rfl | rfl | rfl | rfl | rfl | rfl
   ·obtain rfl:=Option.some.inj ho
    clear hall ho
    try simp only [hf,cond_true,cond_false]
    refine wpOp_step rfl (fun K hK=>?_)
    go_simp
    exact hK _ _ ⟨x,(by simp only [upd,hf,Nat.reduceBEq,Bool.false_or,Bool.true_or,Bool.not_true,Bool.not_false,Bool.true_and,Bool.false_and,Bool.cond_self,cond_true,cond_false];try rfl),hS⟩
   ·obtain rfl:=Option.some.inj ho
    clear hall ho
    try simp only [hf,cond_true,cond_false]
    refine wpOp_step rfl (fun K hK=>?_)
    go_simp
    exact hK _ _ ⟨x,(by simp only [upd,hf,Nat.reduceBEq,Bool.false_or,Bool.true_or,Bool.not_true,Bool.not_false,Bool.true_and,Bool.false_and,Bool.cond_self,cond_true,cond_false];try rfl),hS⟩
   ·obtain rfl:=Option.some.inj ho
    have e0:fL 0=true:=hall ⟨0,.data⟩ (by simp) rfl
    have e1:fL 1=true:=hall ⟨1,.data⟩ (by simp) rfl
    clear hall ho
    try simp only [e0,e1,hf,cond_true,cond_false]
    refine wpOp_step rfl (fun K hK=>?_)
    go_simp
    exact hK _ _ ⟨x,(by simp only [upd,e0,e1,hf,Nat.reduceBEq,Bool.false_or,Bool.true_or,Bool.not_true,Bool.not_false,Bool.true_and,Bool.false_and,Bool.cond_self,cond_true,cond_false];try rfl),hS⟩
   ·obtain rfl:=Option.some.inj ho
    have e2:fL 2=true:=hall ⟨2,.data⟩ (by simp) rfl
    clear hall ho
    try simp only [e2,hf,cond_true,cond_false]
    refine wpOp_step rfl (fun K hK=>?_)
    go_simp
    exact hK _ _ ⟨x,(by simp only [upd,e2,hf,Nat.reduceBEq,Bool.false_or,Bool.true_or,Bool.not_true,Bool.not_false,Bool.true_and,Bool.false_and,Bool.cond_self,cond_true,cond_false];try rfl),hS⟩
   ·obtain rfl:=Option.some.inj ho
    have e3:fL 3=true:=hall ⟨3,.guard⟩ (by simp) rfl
    clear hall ho
    try simp only [e3,hf,cond_true,cond_false]
    refine wpOp_step rfl (fun K hK=>?_)
    go_simp
    exact hK _ _ ⟨x,(by simp only [upd,e3,hf,Nat.reduceBEq,Bool.false_or,Bool.true_or,Bool.not_true,Bool.not_false,Bool.true_and,Bool.false_and,Bool.cond_self,cond_true,cond_false];try rfl),hS⟩
   ·obtain rfl:=Option.some.inj ho
    have e3:fL 3=true:=hall ⟨3,.guard⟩ (by simp) rfl
    clear hall ho
    try simp only [e3,hf,cond_true,cond_false]
    refine wpOp_step rfl (fun K hK=>?_)
    go_simp
    exact hK _ _ ⟨x,(by simp only [upd,e3,hf,Nat.reduceBEq,Bool.false_or,Bool.true_or,Bool.not_true,Bool.not_false,Bool.true_and,Bool.false_and,Bool.cond_self,cond_true,cond_false];try rfl),hS⟩
   ·obtain rfl:=Option.some.inj ho
    have e4:fL 4=true:=hall ⟨4,.data⟩ (by simp) rfl
    have e5:fL 5=true:=hall ⟨5,.data⟩ (by simp) rfl
    have e3:fL 3=true:=hall ⟨3,.guard⟩ (by simp) rfl
    clear hall ho
    try simp only [e4,e5,e3,hf,cond_true,cond_false]
    refine wpOp_step rfl (fun K hK=>?_)
    go_simp
    exact hK _ _ ⟨x,(by simp only [upd,e4,e5,e3,hf,Nat.reduceBEq,Bool.false_or,Bool.true_or,Bool.not_true,Bool.not_false,Bool.true_and,Bool.false_and,Bool.cond_self,cond_true,cond_false];try rfl),hS⟩
   ·obtain rfl:=Option.some.inj ho
    have e3:fL 3=true:=hall ⟨3,.data⟩ (by simp) rfl
    have e6:fL 6=true:=hall ⟨6,.data⟩ (by simp) rfl
    clear hall ho
    try simp only [e3,e6,hf,cond_true,cond_false]
    refine wpOp_step rfl (fun K hK=>?_)
    go_simp
    exact hK _ _ ⟨x,(by simp only [upd,e3,e6,hf,Nat.reduceBEq,Bool.false_or,Bool.true_or,Bool.not_true,Bool.not_false,Bool.true_and,Bool.false_and,Bool.cond_self,cond_true,cond_false];try rfl),hS⟩
   ·obtain rfl:=Option.some.inj ho
    have e7:fL 7=true:=hall ⟨7,.data⟩ (by simp) rfl
    clear hall ho
    try simp only [e7,hf,cond_true,cond_false]
    refine wpOp_step rfl (fun K hK=>?_)
    go_simp
    exact hK _ _ ⟨x,(by simp only [upd,e7,hf,Nat.reduceBEq,Bool.false_or,Bool.true_or,Bool.not_true,Bool.not_false,Bool.true_and,Bool.false_and,Bool.cond_self,cond_true,cond_false];try rfl),hS⟩
   ·obtain rfl:=Option.some.inj ho
    have e8:fL 8=true:=hall ⟨8,.guard⟩ (by simp) rfl
    clear hall ho
    try simp only [e8,hf,cond_true,cond_false]
    refine wpOp_step rfl (fun K hK=>?_)
    go_simp
    exact hK _ _ ⟨x,(by simp only [upd,e8,hf,Nat.reduceBEq,Bool.false_or,Bool.true_or,Bool.not_true,Bool.not_false,Bool.true_and,Bool.false_and,Bool.cond_self,cond_true,cond_false];try rfl),hS⟩
   ·obtain rfl:=Option.some.inj ho
    have e8:fL 8=true:=hall ⟨8,.guard⟩ (by simp) rfl
    clear hall ho
    try simp only [e8,hf,cond_true,cond_false]
    refine wpOp_step rfl (fun K hK=>?_)
    go_simp
    exact hK _ _ ⟨x,(by simp only [upd,e8,hf,Nat.reduceBEq,Bool.false_or,Bool.true_or,Bool.not_true,Bool.not_false,Bool.true_and,Bool.false_and,Bool.cond_self,cond_true,cond_false];try rfl),hS⟩
   ·obtain rfl:=Option.some.inj ho
    have e9:fL 9=true:=hall ⟨9,.data⟩ (by simp) rfl
    have e10:fL 10=true:=hall ⟨10,.data⟩ (by simp) rfl
    have e8:fL 8=true:=hall ⟨8,.guard⟩ (by simp) rfl
    clear hall ho
    try simp only [e9,e10,e8,hf,cond_true,cond_false]
    refine wpOp_step rfl (fun K hK=>?_)
    go_simp
    exact hK _ _ ⟨x,(by simp only [upd,e9,e10,e8,hf,Nat.reduceBEq,Bool.false_or,Bool.true_or,Bool.not_true,Bool.not_false,Bool.true_and,Bool.false_and,Bool.cond_self,cond_true,cond_false];try rfl),hS⟩
   ·obtain rfl:=Option.some.inj ho
    have e8:fL 8=true:=hall ⟨8,.data⟩ (by simp) rfl
    have e11:fL 11=true:=hall ⟨11,.data⟩ (by simp) rfl
    clear hall ho
    try simp only [e8,e11,hf,cond_true,cond_false]
    refine wpOp_step rfl (fun K hK=>?_)
    go_simp
    exact hK _ _ ⟨x,(by simp only [upd,e8,e11,hf,Nat.reduceBEq,Bool.false_or,Bool.true_or,Bool.not_true,Bool.not_false,Bool.true_and,Bool.false_and,Bool.cond_self,cond_true,cond_false];try rfl),hS⟩
   ·obtain rfl:=Option.some.inj ho
    have e12:fL 12=true:=hall ⟨12,.data⟩ (by simp) rfl
    clear hall ho
    try simp only [e12,hf,cond_true,cond_false]
    refine wpOp_step rfl (fun K hK=>?_)
    go_simp
    exact hK _ _ ⟨x,(by simp only [upd,e12,hf,Nat.reduceBEq,Bool.false_or,Bool.true_or,Bool.not_true,Bool.not_false,Bool.true_and,Bool.false_and,Bool.cond_self,cond_true,cond_false];try rfl),hS⟩
   ·obtain rfl:=Option.some.inj ho
    have e13:fL 13=true:=hall ⟨13,.guard⟩ (by simp) rfl
    clear hall ho
    try simp only [e13,hf,cond_true,cond_false]
    refine wpOp_step rfl (fun K hK=>?_)
    go_simp
    exact hK _ _ ⟨x,(by simp only [upd,e13,hf,Nat.reduceBEq,Bool.false_or,Bool.true_or,Bool.not_true,Bool.not_false,Bool.true_and,Bool.false_and,Bool.cond_self,cond_true,cond_false];try rfl),hS⟩
   ·obtain rfl:=Option.some.inj ho
    have e13:fL 13=true:=hall ⟨13,.guard⟩ (by simp) rfl
    clear hall ho
    try simp only [e13,hf,cond_true,cond_false]
    refine wpOp_step rfl (fun K hK=>?_)
    go_simp
    exact hK _ _ ⟨x,(by simp only [upd,e13,hf,Nat.reduceBEq,Bool.false_or,Bool.true_or,Bool.not_true,Bool.not_false,Bool.true_and,Bool.false_and,Bool.cond_self,cond_true,cond_false];try rfl),hS⟩
   ·obtain rfl:=Option.some.inj ho
    have e14:fL 14=true:=hall ⟨14,.data⟩ (by simp) rfl
    have e15:fL 15=true:=hall ⟨15,.data⟩ (by simp) rfl
    have e13:fL 13=true:=hall ⟨13,.guard⟩ (by simp) rfl
    clear hall ho
    try simp only [e14,e15,e13,hf,cond_true,cond_false]
    refine wpOp_step rfl (fun K hK=>?_)
    go_simp
    exact hK _ _ ⟨x,(by simp only [upd,e14,e15,e13,hf,Nat.reduceBEq,Bool.false_or,Bool.true_or,Bool.not_true,Bool.not_false,Bool.true_and,Bool.false_and,Bool.cond_self,cond_true,cond_false];try rfl),hS⟩
   ·obtain rfl:=Option.some.inj ho
    have e13:fL 13=true:=hall ⟨13,.data⟩ (by simp) rfl
    have e16:fL 16=true:=hall ⟨16,.data⟩ (by simp) rfl
    clear hall ho
    try simp only [e13,e16,hf,cond_true,cond_false]
    refine wpOp_step rfl (fun K hK=>?_)
    go_simp
    exact hK _ _ ⟨x,(by simp only [upd,e13,e16,hf,Nat.reduceBEq,Bool.false_or,Bool.true_or,Bool.not_true,Bool.not_false,Bool.true_and,Bool.false_and,Bool.cond_self,cond_true,cond_false];try rfl),hS⟩
   ·obtain rfl:=Option.some.inj ho
    have e17:fL 17=true:=hall ⟨17,.data⟩ (by simp) rfl
    clear hall ho
    try simp only [e17,hf,cond_true,cond_false]
    refine wpOp_step rfl (fun K hK=>?_)
    go_simp
    exact hK _ _ ⟨x,(by simp only [upd,e17,hf,Nat.reduceBEq,Bool.false_or,Bool.true_or,Bool.not_true,Bool.not_false,Bool.true_and,Bool.false_and,Bool.cond_self,cond_true,cond_false];try rfl),hS⟩
   ·obtain rfl:=Option.some.inj ho
    have e18:fL 18=true:=hall ⟨18,.guard⟩ (by simp) rfl
    clear hall ho
    try simp only [e18,hf,cond_true,cond_false]
    refine wpOp_step rfl (fun K hK=>?_)
    go_simp
    exact hK _ _ ⟨x,(by simp only [upd,e18,hf,Nat.reduceBEq,Bool.false_or,Bool.true_or,Bool.not_true,Bool.not_false,Bool.true_and,Bool.false_and,Bool.cond_self,cond_true,cond_false];try rfl),hS⟩
   ·obtain rfl:=Option.some.inj ho
    have e18:fL 18=true:=hall ⟨18,.guard⟩ (by simp) rfl
    clear hall ho
    try simp only [e18,hf,cond_true,cond_false]
    refine wpOp_step rfl (fun K hK=>?_)
    go_simp
    exact hK _ _ ⟨x,(by simp only [upd,e18,hf,Nat.reduceBEq,Bool.false_or,Bool.true_or,Bool.not_true,Bool.not_false,Bool.true_and,Bool.false_and,Bool.cond_self,cond_true,cond_false];try rfl),hS⟩
   ·obtain rfl:=Option.some.inj ho
    have e19:fL 19=true:=hall ⟨19,.data⟩ (by simp) rfl
    have e20:fL 20=true:=hall ⟨20,.data⟩ (by simp) rfl
    have e18:fL 18=true:=hall ⟨18,.guard⟩ (by simp) rfl
    clear hall ho
    try simp only [e19,e20,e18,hf,cond_true,cond_false]
    refine wpOp_step rfl (fun K hK=>?_)
    go_simp
    exact hK _ _ ⟨x,(by simp only [upd,e19,e20,e18,hf,Nat.reduceBEq,Bool.false_or,Bool.true_or,Bool.not_true,Bool.not_false,Bool.true_and,Bool.false_and,Bool.cond_self,cond_true,cond_false];try rfl),hS⟩
   ·obtain rfl:=Option.some.inj ho
    have e18:fL 18=true:=hall ⟨18,.data⟩ (by simp) rfl
    have e21:fL 21=true:=hall ⟨21,.data⟩ (by simp) rfl
    clear hall ho
    try simp only [e18,e21,hf,cond_true,cond_false]
    refine wpOp_step rfl (fun K hK=>?_)
    go_simp
    exact hK _ _ ⟨x,(by simp only [upd,e18,e21,hf,Nat.reduceBEq,Bool.false_or,Bool.true_or,Bool.not_true,Bool.not_false,Bool.true_and,Bool.false_and,Bool.cond_self,cond_true,cond_false];try rfl),hS⟩
   ·obtain rfl:=Option.some.inj ho
    have e22:fL 22=true:=hall ⟨22,.data⟩ (by simp) rfl
    clear hall ho
    try simp only [e22,hf,cond_true,cond_false]
    refine wpOp_step rfl (fun K hK=>?_)
    go_simp
    exact hK _ _ ⟨x,(by simp only [upd,e22,hf,Nat.reduceBEq,Bool.false_or,Bool.true_or,Bool.not_true,Bool.not_false,Bool.true_and,Bool.false_and,Bool.cond_self,cond_true,cond_false];try rfl),hS⟩
   ·obtain rfl:=Option.some.inj ho
    have e23:fL 23=true:=hall ⟨23,.guard⟩ (by simp) rfl
    clear hall ho
    try simp only [e23,hf,cond_true,cond_false]
    refine wpOp_step rfl (fun K hK=>?_)
    go_simp
    exact hK _ _ ⟨x,(by simp only [upd,e23,hf,Nat.reduceBEq,Bool.false_or,Bool.true_or,Bool.not_true,Bool.not_false,Bool.true_and,Bool.false_and,Bool.cond_self,cond_true,cond_false];try rfl),hS⟩
   ·obtain rfl:=Option.some.inj ho
    have e23:fL 23=true:=hall ⟨23,.guard⟩ (by simp) rfl
    clear hall ho
    try simp only [e23,hf,cond_true,cond_false]
    refine wpOp_step rfl (fun K hK=>?_)
    go_simp
    exact hK _ _ ⟨x,(by simp only [upd,e23,hf,Nat.reduceBEq,Bool.false_or,Bool.true_or,Bool.not_true,Bool.not_false,Bool.true_and,Bool.false_and,Bool.cond_self,cond_true,cond_false];try rfl),hS⟩
   ·obtain rfl:=Option.some.inj ho
    have e24:fL 24=true:=hall ⟨24,.data⟩ (by simp) rfl
    have e25:fL 25=true:=hall ⟨25,.data⟩ (by simp) rfl
    have e23:fL 23=true:=hall ⟨23,.guard⟩ (by simp) rfl
    clear hall ho
    try simp only [e24,e25,e23,hf,cond_true,cond_false]
    refine wpOp_step rfl (fun K hK=>?_)
    go_simp
    exact hK _ _ ⟨x,(by simp only [upd,e24,e25,e23,hf,Nat.reduceBEq,Bool.false_or,Bool.true_or,Bool.not_true,Bool.not_false,Bool.true_and,Bool.false_and,Bool.cond_self,cond_true,cond_false];try rfl),hS⟩
   ·obtain rfl:=Option.some.inj ho
    have e23:fL 23=true:=hall ⟨23,.data⟩ (by simp) rfl
    have e26:fL 26=true:=hall ⟨26,.data⟩ (by simp) rfl
    clear hall ho
    try simp only [e23,e26,hf,cond_true,cond_false]
    refine wpOp_step rfl (fun K hK=>?_)
    go_simp
    exact hK _ _ ⟨x,(by simp only [upd,e23,e26,hf,Nat.reduceBEq,Bool.false_or,Bool.true_or,Bool.not_true,Bool.not_false,Bool.true_and,Bool.false_and,Bool.cond_self,cond_true,cond_false];try rfl),hS⟩
   ·obtain rfl:=Option.some.inj ho
    have e27:fL 27=true:=hall ⟨27,.data⟩ (by simp) rfl
    clear hall ho
    try simp only [e27,hf,cond_true,cond_false]
    refine wpOp_step rfl (fun K hK=>?_)
    go_simp
    exact hK _ _ ⟨x,(by simp only [upd,e27,hf,Nat.reduceBEq,Bool.false_or,Bool.true_or,Bool.not_true,Bool.not_false,Bool.true_and,Bool.false_and,Bool.cond_self,cond_true,cond_false];try rfl),hS⟩
   ·obtain rfl:=Option.some.inj ho
    have e28:fL 28=true:=hall ⟨28,.guard⟩ (by simp) rfl
    clear hall ho
    try simp only [e28,hf,cond_true,cond_false]
    refine wpOp_step rfl (fun K hK=>?_)
    go_simp
    exact hK _ _ ⟨x,(by simp only [upd,e28,hf,Nat.reduceBEq,Bool.false_or,Bool.true_or,Bool.not_true,Bool.not_false,Bool.true_and,Bool.false_and,Bool.cond_self,cond_true,cond_false];try rfl),hS⟩
   ·obtain rfl:=Option.some.inj ho
    have e28:fL 28=true:=hall ⟨28,.guard⟩ (by simp) rfl
    clear hall ho
    try simp only [e28,hf,cond_true,cond_false]
    refine wpOp_step rfl (fun K hK=>?_)
    go_simp
    exact hK _ _ ⟨x,(by simp only [upd,e28,hf,Nat.reduceBEq,Bool.false_or,Bool.true_or,Bool.not_true,Bool.not_false,Bool.true_and,Bool.false_and,Bool.cond_self,cond_true,cond_false];try rfl),hS⟩
   ·obtain rfl:=Option.some.inj ho
    have e29:fL 29=true:=hall ⟨29,.data⟩ (by simp) rfl
    have e30:fL 30=true:=hall ⟨30,.data⟩ (by simp) rfl
    have e28:fL 28=true:=hall ⟨28,.guard⟩ (by simp) rfl
    clear hall ho
    try simp only [e29,e30,e28,hf,cond_true,cond_false]
    refine wpOp_step rfl (fun K hK=>?_)
    go_simp
    exact hK _ _ ⟨x,(by simp only [upd,e29,e30,e28,hf,Nat.reduceBEq,Bool.false_or,Bool.true_or,Bool.not_true,Bool.not_false,Bool.true_and,Bool.false_and,Bool.cond_self,cond_true,cond_false];try rfl),hS⟩
   ·obtain rfl:=Option.some.inj ho
    have e28:fL 28=true:=hall ⟨28,.data⟩ (by simp) rfl
    have e31:fL 31=true:=hall ⟨31,.data⟩ (by simp) rfl
    clear hall ho
    try simp only [e28,e31,hf,cond_true,cond_false]
    refine wpOp_step rfl (fun K hK=>?_)
    go_simp
    exact hK _ _ ⟨x,(by simp only [upd,e28,e31,hf,Nat.reduceBEq,Bool.false_or,Bool.true_or,Bool.not_true,Bool.not_false,Bool.true_and,Bool.false_and,Bool.cond_self,cond_true,cond_false];try rfl),hS⟩
   ·obtain rfl:=Option.some.inj ho
    have e32:fL 32=true:=hall ⟨32,.data⟩ (by simp) rfl
    clear hall ho
    try simp only [e32,hf,cond_true,cond_false]
    refine wpOp_step rfl (fun K hK=>?_)
    go_simp
    exact hK _ _ ⟨x,(by simp only [upd,e32,hf,Nat.reduceBEq,Bool.false_or,Bool.true_or,Bool.not_true,Bool.not_false,Bool.true_and,Bool.false_and,Bool.cond_self,cond_true,cond_false];try rfl),hS⟩
   ·obtain rfl:=Option.some.inj ho
    have e33:fL 33=true:=hall ⟨33,.guard⟩ (by simp) rfl
    clear hall ho
    have y0:v.cell? ⟨w8.heap.size,0,none⟩=some (.int .i64 mk):=(M.below hS M.lt).cell 0
    have y1:v.cell? ⟨w8.heap.size,1,none⟩=some (.int .i64 ms):=(M.below hS M.lt).cell 1
    have y2:v.cell? ⟨w8.heap.size,2,none⟩=some (.int .i64 md):=(M.below hS M.lt).cell 2
    have y3:v.cell? ⟨w8.heap.size,3,none⟩=some (.int .i64 mt):=(M.below hS M.lt).cell 3
    try simp only [e33,hf,cond_true,cond_false]
    refine wpOp_step rfl (fun K hK=>?_)
    go_simp
    exact hK _ _ ⟨x,(by simp only [upd,e33,hf,Nat.reduceBEq,Bool.false_or,Bool.true_or,Bool.not_true,Bool.not_false,Bool.true_and,Bool.false_and,Bool.cond_self,cond_true,cond_false];try rfl),hS⟩
   ·obtain rfl:=Option.some.inj ho
    have e33:fL 33=true:=hall ⟨33,.guard⟩ (by simp) rfl
    clear hall ho
    have y0:v.cell? ⟨w9.heap.size,0,none⟩=some (.int .i64 mk):=(N.below hS N.lt).cell 0
    have y1:v.cell? ⟨w9.heap.size,1,none⟩=some (.int .i64 ms):=(N.below hS N.lt).cell 1
    have y2:v.cell? ⟨w9.heap.size,2,none⟩=some (.int .i64 md):=(N.below hS N.lt).cell 2
    have y3:v.cell? ⟨w9.heap.size,3,none⟩=some (.int .i64 mt):=(N.below hS N.lt).cell 3
    try simp only [e33,hf,cond_true,cond_false]
    refine wpOp_step rfl (fun K hK=>?_)
    go_simp
    exact hK _ _ ⟨x,(by simp only [upd,e33,hf,Nat.reduceBEq,Bool.false_or,Bool.true_or,Bool.not_true,Bool.not_false,Bool.true_and,Bool.false_and,Bool.cond_self,cond_true,cond_false];try rfl),hS⟩
   ·obtain rfl:=Option.some.inj ho
    have e34:fL 34=true:=hall ⟨34,.data⟩ (by simp) rfl
    have e35:fL 35=true:=hall ⟨35,.data⟩ (by simp) rfl
    have e33:fL 33=true:=hall ⟨33,.guard⟩ (by simp) rfl
    clear hall ho
    try simp only [e34,e35,e33,hf,cond_true,cond_false]
    refine wpOp_step rfl (fun K hK=>?_)
    go_simp
    exact hK _ _ ⟨x,(by simp only [upd,e34,e35,e33,hf,Nat.reduceBEq,Bool.false_or,Bool.true_or,Bool.not_true,Bool.not_false,Bool.true_and,Bool.false_and,Bool.cond_self,cond_true,cond_false];try rfl),hS⟩
   ·obtain rfl:=Option.some.inj ho
    have e33:fL 33=true:=hall ⟨33,.data⟩ (by simp) rfl
    have e36:fL 36=true:=hall ⟨36,.data⟩ (by simp) rfl
    clear hall ho
    try simp only [e33,e36,hf,cond_true,cond_false]
    refine wpOp_step rfl (fun K hK=>?_)
    go_simp
    exact hK _ _ ⟨x,(by simp only [upd,e33,e36,hf,Nat.reduceBEq,Bool.false_or,Bool.true_or,Bool.not_true,Bool.not_false,Bool.true_and,Bool.false_and,Bool.cond_self,cond_true,cond_false];try rfl),hS⟩
   ·obtain rfl:=Option.some.inj ho
    have e37:fL 37=true:=hall ⟨37,.data⟩ (by simp) rfl
    clear hall ho
    try simp only [e37,hf,cond_true,cond_false]
    refine wpOp_step rfl (fun K hK=>?_)
    go_simp
    exact hK _ _ ⟨x,(by simp only [upd,e37,hf,Nat.reduceBEq,Bool.false_or,Bool.true_or,Bool.not_true,Bool.not_false,Bool.true_and,Bool.false_and,Bool.cond_self,cond_true,cond_false];try rfl),hS⟩
   ·obtain rfl:=Option.some.inj ho
    have e38:fL 38=true:=hall ⟨38,.guard⟩ (by simp) rfl
    clear hall ho
    have y0:v.cell? ⟨w1.heap.size,0,none⟩=some (.int .i64 L):=(X.below hS X.lt).cell 0
    have y1:v.cell? ⟨w1.heap.size,1,none⟩=some (.slice A1 l1.length c1):=(X.below hS X.lt).cell 1
    have y2:v.cell? ⟨w1.heap.size,2,none⟩=some (.slice A2 l2.length c2):=(X.below hS X.lt).cell 2
    have y3:v.cell? ⟨w1.heap.size,3,none⟩=some (.slice A3 l3.length c3):=(X.below hS X.lt).cell 3
    have y4:v.cell? ⟨w1.heap.size,4,none⟩=some (.int .i64 p):=(X.below hS X.lt).cell 4
    have y5:v.cell? ⟨w1.heap.size,5,none⟩=some (.int .i64 q):=(X.below hS X.lt).cell 5
    have y6:v.cell? ⟨w1.heap.size,6,none⟩=some (.int .i64 r):=(X.below hS X.lt).cell 6
    try simp only [e38,hf,cond_true,cond_false]
    refine wpOp_step rfl (fun K hK=>?_)
    go_simp
    exact hK _ _ ⟨x,(by simp only [upd,e38,hf,Nat.reduceBEq,Bool.false_or,Bool.true_or,Bool.not_true,Bool.not_false,Bool.true_and,Bool.false_and,Bool.cond_self,cond_true,cond_false];try rfl),hS⟩
   ·obtain rfl:=Option.some.inj ho
    have e39:fL 39=true:=hall ⟨39,.data⟩ (by simp) rfl
    have e38:fL 38=true:=hall ⟨38,.guard⟩ (by simp) rfl
    clear hall ho
    try simp only [e39,e38,hf,cond_true,cond_false]
    refine wpOp_step rfl (fun K hK=>?_)
    go_simp
    refine Calls.mono ((HIX v (hE.later hS)).out) ?_;rintro e w1 ⟨rfl,hb1⟩
    go_simp
    exact hK _ _ ⟨x,(by simp only [upd,e39,e38,hf,Nat.reduceBEq,Bool.false_or,Bool.true_or,Bool.not_true,Bool.not_false,Bool.true_and,Bool.false_and,Bool.cond_self,cond_true,cond_false];try rfl),hS.trans (hb1.mono hS.size)⟩
   ·obtain rfl:=Option.some.inj ho
    have e38:fL 38=true:=hall ⟨38,.guard⟩ (by simp) rfl
    clear hall ho
    have y0:v.cell? ⟨w1.heap.size,0,none⟩=some (.int .i64 L):=(X.below hS X.lt).cell 0
    have y1:v.cell? ⟨w1.heap.size,1,none⟩=some (.slice A1 l1.length c1):=(X.below hS X.lt).cell 1
    have y2:v.cell? ⟨w1.heap.size,2,none⟩=some (.slice A2 l2.length c2):=(X.below hS X.lt).cell 2
    have y3:v.cell? ⟨w1.heap.size,3,none⟩=some (.slice A3 l3.length c3):=(X.below hS X.lt).cell 3
    have y4:v.cell? ⟨w1.heap.size,4,none⟩=some (.int .i64 p):=(X.below hS X.lt).cell 4
    have y5:v.cell? ⟨w1.heap.size,5,none⟩=some (.int .i64 q):=(X.below hS X.lt).cell 5
    have y6:v.cell? ⟨w1.heap.size,6,none⟩=some (.int .i64 r):=(X.below hS X.lt).cell 6
    try simp only [e38,hf,cond_true,cond_false]
    refine wpOp_step rfl (fun K hK=>?_)
    go_simp
    exact hK _ _ ⟨x,(by simp only [upd,e38,hf,Nat.reduceBEq,Bool.false_or,Bool.true_or,Bool.not_true,Bool.not_false,Bool.true_and,Bool.false_and,Bool.cond_self,cond_true,cond_false];try rfl),hS⟩
   ·obtain rfl:=Option.some.inj ho
    have e41:fL 41=true:=hall ⟨41,.data⟩ (by simp) rfl
    have e38:fL 38=true:=hall ⟨38,.guard⟩ (by simp) rfl
    clear hall ho
    try simp only [e41,e38,hf,cond_true,cond_false]
    refine wpOp_step rfl (fun K hK=>?_)
    go_simp
    refine Calls.mono ((HSX v (hE.later hS)).out) ?_;rintro e w1 ⟨rfl,hb1⟩
    go_simp
    exact hK _ _ ⟨x,(by simp only [upd,e41,e38,hf,Nat.reduceBEq,Bool.false_or,Bool.true_or,Bool.not_true,Bool.not_false,Bool.true_and,Bool.false_and,Bool.cond_self,cond_true,cond_false];try rfl),hS.trans (hb1.mono hS.size)⟩
   ·obtain rfl:=Option.some.inj ho
    have e40:fL 40=true:=hall ⟨40,.data⟩ (by simp) rfl
    have e42:fL 42=true:=hall ⟨42,.data⟩ (by simp) rfl
    have e38:fL 38=true:=hall ⟨38,.guard⟩ (by simp) rfl
    clear hall ho
    try simp only [e40,e42,e38,hf,cond_true,cond_false]
    refine wpOp_step rfl (fun K hK=>?_)
    go_simp
    exact hK _ _ ⟨x,(by simp only [upd,e40,e42,e38,hf,Nat.reduceBEq,Bool.false_or,Bool.true_or,Bool.not_true,Bool.not_false,Bool.true_and,Bool.false_and,Bool.cond_self,cond_true,cond_false];try rfl),hS⟩
  ·rintro fL x v hS hall
   have e0:fL 0=true:=hall 0 (by omega)
   have e1:fL 1=true:=hall 1 (by omega)
   have e2:fL 2=true:=hall 2 (by omega)
   have e3:fL 3=true:=hall 3 (by omega)
   have e4:fL 4=true:=hall 4 (by omega)
   have e5:fL 5=true:=hall 5 (by omega)
   have e6:fL 6=true:=hall 6 (by omega)
   have e7:fL 7=true:=hall 7 (by omega)
   have e8:fL 8=true:=hall 8 (by omega)
   have e9:fL 9=true:=hall 9 (by omega)
   have e10:fL 10=true:=hall 10 (by omega)
   have e11:fL 11=true:=hall 11 (by omega)
   have e12:fL 12=true:=hall 12 (by omega)
   have e13:fL 13=true:=hall 13 (by omega)
   have e14:fL 14=true:=hall 14 (by omega)
   have e15:fL 15=true:=hall 15 (by omega)
   have e16:fL 16=true:=hall 16 (by omega)
   have e17:fL 17=true:=hall 17 (by omega)
   have e18:fL 18=true:=hall 18 (by omega)
   have e19:fL 19=true:=hall 19 (by omega)
   have e20:fL 20=true:=hall 20 (by omega)
   have e21:fL 21=true:=hall 21 (by omega)
   have e22:fL 22=true:=hall 22 (by omega)
   have e23:fL 23=true:=hall 23 (by omega)
   have e24:fL 24=true:=hall 24 (by omega)
   have e25:fL 25=true:=hall 25 (by omega)
   have e26:fL 26=true:=hall 26 (by omega)
   have e27:fL 27=true:=hall 27 (by omega)
   have e28:fL 28=true:=hall 28 (by omega)
   have e29:fL 29=true:=hall 29 (by omega)
   have e30:fL 30=true:=hall 30 (by omega)
   have e31:fL 31=true:=hall 31 (by omega)
   have e32:fL 32=true:=hall 32 (by omega)
   have e33:fL 33=true:=hall 33 (by omega)
   have e34:fL 34=true:=hall 34 (by omega)
   have e35:fL 35=true:=hall 35 (by omega)
   have e36:fL 36=true:=hall 36 (by omega)
   have e37:fL 37=true:=hall 37 (by omega)
   have e38:fL 38=true:=hall 38 (by omega)
   have e39:fL 39=true:=hall 39 (by omega)
   have e40:fL 40=true:=hall 40 (by omega)
   have e41:fL 41=true:=hall 41 (by omega)
   have e42:fL 42=true:=hall 42 (by omega)
   have e43:fL 43=true:=hall 43 (by omega)
   simp only [e0,e1,e2,e3,e4,e5,e6,e7,e8,e9,e10,e11,e12,e13,e14,e15,e16,e17,e18,e19,e20,e21,e22,e23,e24,e25,e26,e27,e28,e29,e30,e31,e32,e33,e34,e35,e36,e37,e38,e39,e40,e41,e42,e43,cond_true,List.drop_succ_cons,List.drop_zero]
   clear hall
   replace hB:=hB.trans (hS.mono hB.size)
   replace hE:=hE.later hS
   replace hF:=hF.later hS
   replace X:=X.below hS X.lt
   replace Y:=Y.below hS Y.lt
   replace M:=M.below hS M.lt
   replace N:=N.below hS N.lt
   clear hS HIX HSX HNE hSS N
   generalize v=w10 at *
   by_cases hc0:c0=0
   ·subst hc0
    obtain ⟨hok,⟨g1,g2⟩,⟨pw1,pw2,pl1,pc0,pl19⟩,t3,⟨t4,t4b⟩,t5,t6⟩:=HT.out rfl
    clear HT HN
    rw [Bool.and_eq_true] at hok
    obtain ⟨hx,ha⟩:=hok
    subst hx
    subst t3
    have hRu:=fun W (E:ExIn W A1 c1 l1 A2 c2 l2 A3 c3 l3)=>ex_all hxb.out E
    have hMv:=fun W (F:AnIn W Am cm l)=>ans_all ha F
    have hPF:=fun W (E:ExIn W A1 c1 l1 A2 c2 l2 A3 c3 l3)=>Lib.hid (implPlanFor_c L A1 c1 l1 A2 c2 l2 A3 c3 l3 W E)
    have hRO:=fun W (E:ExIn W A1 c1 l1 A2 c2 l2 A3 c3 l3)=>Lib.hid (implResultOf_c L A1 c1 l1 A2 c2 l2 A3 c3 l3 W E)
    rw [pc0,pl1] at hPF
    rw [pc0] at hRO
    unfold PlP at hPF
    unfold resF at hRO
    simp only [if_true] at hRO
    generalize rdD (usualP l3).cu=rd at *
    have hGO:=fun W (E:ExIn W A1 c1 l1 A2 c2 l2 A3 c3 l3) A' c' (F:AnIn W A' c' (usualP l3).ms)=>Lib.hid (implGradeOf_c L A1 c1 l1 A2 c2 l2 A3 c3 l3 p q r A' c' (usualP l3).ms rd 0 W E F)
    rw [hxb.out,pw1] at hGO
    simp only [Bool.and_self,if_true] at hGO
    generalize gradeP L l1 l2 l3 p q r ⟨rd,0⟩=ow at *
    have hSO:=fun W (E:ExIn W A1 c1 l1 A2 c2 l2 A3 c3 l3) A' (nn:Nat) c' (hn:Hid (nn=l.length+1)) (F:AnIn W A' c' (l ++ [⟨mk,ms,md,mt⟩]))=>Lib.hid (implStepOfN_c L A1 c1 l1 A2 c2 l2 A3 c3 l3 p q r A' c' (l ++ [⟨mk,ms,md,mt⟩]) nn (by rw [hn.out];simp) fa fb W E F)
    have hIP:=fun W (E:ExIn W A1 c1 l1 A2 c2 l2 A3 c3 l3) (F:AnIn W Am cm l)=>Lib.hid (implIsPlanFor_c L A1 c1 l1 A2 c2 l2 A3 c3 l3 Am cm l W (hRu W E).1 (hRu W E).2.1 (hRu W E).2.2 (hMv W F))
    rw [hxb.out] at hSO
    clear hRu hMv pl1 pw1
    generalize planB l1 l2 l3 l=pb at *
    generalize (usualP l3).ms=P at *
    replace pc0:=Lib.hid pc0
    replace ha:=Lib.hid ha
    replace t5:=Lib.hid t5
    replace t6:=Lib.hid t6
    have hw1:¬ (2:Int) < ow:=by omega
    have hw2:¬ (P.length:Int) < sv:=by omega
    have hw3:¬ gv < 0:=by omega
    have hw4:¬ (3:Int) < gv:=by omega
    have hw5:IntKind.i64.wrap (sv+1)=sv+1:=IntWalk.i64_in _ (by omega)
    clear pw2 t4 t4b g1 g2
    have x0:w10.cell? ⟨w1.heap.size,0,none⟩=some (.int .i64 L):=X.cell 0
    have x1:w10.cell? ⟨w1.heap.size,1,none⟩=some (.slice A1 l1.length c1):=X.cell 1
    have x2:w10.cell? ⟨w1.heap.size,2,none⟩=some (.slice A2 l2.length c2):=X.cell 2
    have x3:w10.cell? ⟨w1.heap.size,3,none⟩=some (.slice A3 l3.length c3):=X.cell 3
    have x4:w10.cell? ⟨w1.heap.size,4,none⟩=some (.int .i64 p):=X.cell 4
    have x5:w10.cell? ⟨w1.heap.size,5,none⟩=some (.int .i64 q):=X.cell 5
    have x6:w10.cell? ⟨w1.heap.size,6,none⟩=some (.int .i64 r):=X.cell 6
    have y0:w10.cell? ⟨w1.heap.size+1,0,none⟩=some (.slice Am l.length cm):=Y.cell 0
    have y1:w10.cell? ⟨w1.heap.size+1,1,none⟩=some (.int .i64 fa):=Y.cell 1
    have y2:w10.cell? ⟨w1.heap.size+1,2,none⟩=some (.int .i64 fb):=Y.cell 2
    go_wp2_with fail
    clear x0 x1 x2 x3 x4 x5 x6 y0 y1 y2
    refine Calls.mono (hPF _ hE).out ?_;rintro e w11 ⟨A',c',rfl,hO,hb⟩
    replace hB:=hB.trans (hb.mono hB.size)
    replace hE:=hE.later hb
    replace hF:=hF.later hb
    replace X:=X.below hb X.lt
    replace Y:=Y.below hb Y.lt
    replace M:=M.below hb M.lt
    clear hb
    have x0:w11.cell? ⟨w1.heap.size,0,none⟩=some (.int .i64 L):=X.cell 0
    have x1:w11.cell? ⟨w1.heap.size,1,none⟩=some (.slice A1 l1.length c1):=X.cell 1
    have x2:w11.cell? ⟨w1.heap.size,2,none⟩=some (.slice A2 l2.length c2):=X.cell 2
    have x3:w11.cell? ⟨w1.heap.size,3,none⟩=some (.slice A3 l3.length c3):=X.cell 3
    have x4:w11.cell? ⟨w1.heap.size,4,none⟩=some (.int .i64 p):=X.cell 4
    have x5:w11.cell? ⟨w1.heap.size,5,none⟩=some (.int .i64 q):=X.cell 5
    have x6:w11.cell? ⟨w1.heap.size,6,none⟩=some (.int .i64 r):=X.cell 6
    have y0:w11.cell? ⟨w1.heap.size+1,0,none⟩=some (.slice Am l.length cm):=Y.cell 0
    have y1:w11.cell? ⟨w1.heap.size+1,1,none⟩=some (.int .i64 fa):=Y.cell 1
    have y2:w11.cell? ⟨w1.heap.size+1,2,none⟩=some (.int .i64 fb):=Y.cell 2
    go_wp2_with fail
    clear x0 x1 x2 x3 x4 x5 x6 y0 y1 y2
    refine Calls.mono ((hRO _ hE).out) ?_;rintro e w12 ⟨rfl,hb⟩
    replace hB:=hB.trans (hb.mono hB.size)
    replace hE:=hE.later hb
    replace hF:=hF.later hb
    replace X:=X.below hb X.lt
    replace Y:=Y.below hb Y.lt
    replace M:=M.below hb M.lt
    replace hO:=hO.below hb
    clear hb
    have hal:Below w12.heap.size w12 (w12.alloc (.cells #[.int .i64 rd,.int .i64 0] 51)):=(Below.refl _ _).alloc (Nat.le_refl _) _
    replace hB:=hB.trans (hal.mono hB.size)
    replace hE:=hE.later hal
    replace hF:=hF.later hal
    replace X:=X.below hal X.lt
    replace Y:=Y.below hal Y.lt
    replace M:=M.below hal M.lt
    replace hO:=hO.below hal
    clear hal
    have R:=Blk.new w12 51 #[.int .i64 rd,.int .i64 0]
    have x0:(w12.alloc (.cells #[.int .i64 rd,.int .i64 0] 51)).cell? ⟨w1.heap.size,0,none⟩=some (.int .i64 L):=X.cell 0
    have x1:(w12.alloc (.cells #[.int .i64 rd,.int .i64 0] 51)).cell? ⟨w1.heap.size,1,none⟩=some (.slice A1 l1.length c1):=X.cell 1
    have x2:(w12.alloc (.cells #[.int .i64 rd,.int .i64 0] 51)).cell? ⟨w1.heap.size,2,none⟩=some (.slice A2 l2.length c2):=X.cell 2
    have x3:(w12.alloc (.cells #[.int .i64 rd,.int .i64 0] 51)).cell? ⟨w1.heap.size,3,none⟩=some (.slice A3 l3.length c3):=X.cell 3
    have x4:(w12.alloc (.cells #[.int .i64 rd,.int .i64 0] 51)).cell? ⟨w1.heap.size,4,none⟩=some (.int .i64 p):=X.cell 4
    have x5:(w12.alloc (.cells #[.int .i64 rd,.int .i64 0] 51)).cell? ⟨w1.heap.size,5,none⟩=some (.int .i64 q):=X.cell 5
    have x6:(w12.alloc (.cells #[.int .i64 rd,.int .i64 0] 51)).cell? ⟨w1.heap.size,6,none⟩=some (.int .i64 r):=X.cell 6
    have y0:(w12.alloc (.cells #[.int .i64 rd,.int .i64 0] 51)).cell? ⟨w1.heap.size+1,0,none⟩=some (.slice Am l.length cm):=Y.cell 0
    have y1:(w12.alloc (.cells #[.int .i64 rd,.int .i64 0] 51)).cell? ⟨w1.heap.size+1,1,none⟩=some (.int .i64 fa):=Y.cell 1
    have y2:(w12.alloc (.cells #[.int .i64 rd,.int .i64 0] 51)).cell? ⟨w1.heap.size+1,2,none⟩=some (.int .i64 fb):=Y.cell 2
    go_wp2_with fail
    generalize w12.alloc (.cells #[.int .i64 rd,.int .i64 0] 51)=u12 at *
    clear x0 x1 x2 x3 x4 x5 x6
    clear y0 y1 y2
    refine Calls.mono ((hGO _ hE A' c' ⟨by omega,hO.le_cap,hO.sl⟩).out) ?_;rintro e w13 ⟨rfl,hb⟩
    replace hB:=hB.trans (hb.mono hB.size)
    replace hE:=hE.later hb
    replace hF:=hF.later hb
    replace X:=X.below hb X.lt
    replace Y:=Y.below hb Y.lt
    replace M:=M.below hb M.lt
    replace hO:=hO.below hb
    replace R:=R.below hb R.lt
    clear hb
    clear hO R hGO hRO hPF
    by_cases hmc:mc=0
    case' pos =>
     subst hmc
     obtain ⟨a1,a2⟩:=t5.out rfl
     rw [a1,a2] at hSO
     simp only [Bool.and_self,if_true] at hSO
     clear t5 a1 a2
     obtain ⟨i0,hi0,hz0,hz1,hz2⟩:=info_parts info_Move
     have Hres2:Hid ((l ++ [(⟨mk,ms,md,mt⟩:Move)]).map Move.cells=l.map Move.cells ++ [[.int .i64 mk,.int .i64 ms,.int .i64 md,.int .i64 mt]]):=by unfold Hid;simp [Move.cells]
     have Hlen:Hid ((l.map Move.cells).length=l.length):=List.length_map _
     have Hr:=Lib.hid hl
     have HSl:Hid (Sl w13 w13.heap.size 4 Am (l.map Move.cells)):=hF.s
     have hD0:∀ v1 v4 v6 v7 v10,NxD w13 (l.map Move.cells) [.int .i64 mk,.int .i64 ms,.int .i64 md,.int .i64 mt] false false false false false v1 v4 v6 v7 v10 (.int .i64 fa) (.int .i64 fb) w13.drew:=fun _ _ _ _ _=>⟨⟨(Below.refl _ _).drew,nofun,nofun,nofun,nofun,⟨nofun,nofun⟩⟩,nofun⟩
     have x0:w13.cell? ⟨w1.heap.size,0,none⟩=some (.int .i64 L):=X.cell 0
     have x1:w13.cell? ⟨w1.heap.size,1,none⟩=some (.slice A1 l1.length c1):=X.cell 1
     have x2:w13.cell? ⟨w1.heap.size,2,none⟩=some (.slice A2 l2.length c2):=X.cell 2
     have x3:w13.cell? ⟨w1.heap.size,3,none⟩=some (.slice A3 l3.length c3):=X.cell 3
     have x4:w13.cell? ⟨w1.heap.size,4,none⟩=some (.int .i64 p):=X.cell 4
     have x5:w13.cell? ⟨w1.heap.size,5,none⟩=some (.int .i64 q):=X.cell 5
     have x6:w13.cell? ⟨w1.heap.size,6,none⟩=some (.int .i64 r):=X.cell 6
     have y0:w13.cell? ⟨w1.heap.size+1,0,none⟩=some (.slice Am l.length cm):=Y.cell 0
     have y1:w13.cell? ⟨w1.heap.size+1,1,none⟩=some (.int .i64 fa):=Y.cell 1
     have y2:w13.cell? ⟨w1.heap.size+1,2,none⟩=some (.int .i64 fb):=Y.cell 2
     go_wp2_with fail
     clear x0 x1 x2 x3 x4 x5 x6 y0 y1 y2
     refine wp_region_all (fun a0 fL bA v=>∃ v201 v202 v203 v204 v205 v206 v207 v208 v209 v210 v211 v212 v200 v213 v214 v27 v28:Value,bA=((((((((((((((((a0.put (some 201) v201).put (some 202) v202).put (some 203) v203).put (some 204) v204).put (some 205) v205).put (some 206) v206).put (some 207) v207).put (some 208) v208).put (some 209) v209).put (some 210) v210).put (some 211) v211).put (some 212) v212).put (some 200) v200).put (some 213) v213).put (some 214) v214).put (some 27) v27).put (some 28) v28∧(NxD w13 (l.map Move.cells) [.int .i64 mk,.int .i64 ms,.int .i64 md,.int .i64 mt] (fL 1) (fL 4) (fL 6) (fL 7) (fL 10) v202 v205 v207 v208 v211 (.int .i64 fa) (.int .i64 fb) v)∧(fL 0=true→v201=.agg #[.int .i64 L,.slice A1 l1.length c1,.slice A2 l2.length c2,.slice A3 l3.length c3,.int .i64 p,.int .i64 q,.int .i64 r])∧(fL 1=true→True)∧(fL 2=true→v203=.pointer (some ⟨w1.heap.size+1,0,none⟩))∧(fL 3=true→v204=.slice Am l.length cm)∧(fL 4=true→True)∧(fL 5=true→v206=.agg #[.int .i64 mk,.int .i64 ms,.int .i64 md,.int .i64 mt])∧(fL 6=true→True)∧(fL 7=true→True)∧(fL 8=true→v209=.pointer (some ⟨w1.heap.size+1,1,none⟩))∧(fL 9=true→v210=.agg #[.int .i64 fa,.int .i64 fb])∧(fL 10=true→True)∧(fL 11=true→v212=.tuple #[.int .i64 (sv+1),.int .i64 0])∧(fL 12=true→v200=.tuple #[.int .i64 (sv+1),.int .i64 0])∧(fL 13=true→v213=.int .i64 (sv+1))∧(fL 14=true→v214=.int .i64 0)∧(fL 15=true→v27=.int .i64 (sv+1))∧(fL 16=true→v28=.int .i64 0)) (by kernel_rfl) (by decide +kernel) ?_ ?_ ?_
     ·exact ⟨undef,undef,undef,undef,undef,undef,undef,undef,undef,undef,undef,undef,undef,undef,undef,undef,undef,by simp only [Act.put,List.setIfInBounds_toArray,List.set_cons_zero,List.set_cons_succ],hD0 _ _ _ _ _,nofun,nofun,nofun,nofun,nofun,nofun,nofun,nofun,nofun,nofun,nofun,nofun,nofun,nofun,nofun,nofun,nofun⟩
     ·rintro fL bA v ⟨v201,v202,v203,v204,v205,v206,v207,v208,v209,v210,v211,v212,v200,v213,v214,v27,v28,rfl,hS,q0,q1,q2,q3,q4,q5,q6,q7,q8,q9,q10,q11,q12,q13,q14,q15,q16⟩ i hi hf o ho hall
      simp only [Act.put,List.setIfInBounds_toArray,List.set_cons_zero,List.set_cons_succ]
      simp only [List.length_cons,List.length_nil] at hi
      have hn:i=0 ∨ i=1 ∨ i=2 ∨ i=3 ∨ i=4 ∨ i=5 ∨ i=6 ∨ i=7 ∨ i=8 ∨ i=9 ∨ i=10 ∨ i=11 ∨ i=12 ∨ i=13 ∨ i=14 ∨ i=15 ∨ i=16:=by omega
      clear hi
      rcases hn with rfl | rfl | rfl | rfl | rfl | rfl | rfl | rfl | rfl | rfl | rfl | rfl | rfl | rfl | rfl | rfl | rfl
      ·obtain rfl:=Option.some.inj ho
       have y0:v.cell? ⟨w1.heap.size,0,none⟩=some (.int .i64 L):=(X.below hS.d.hb X.lt).cell 0
       have y1:v.cell? ⟨w1.heap.size,1,none⟩=some (.slice A1 l1.length c1):=(X.below hS.d.hb X.lt).cell 1
       have y2:v.cell? ⟨w1.heap.size,2,none⟩=some (.slice A2 l2.length c2):=(X.below hS.d.hb X.lt).cell 2
       have y3:v.cell? ⟨w1.heap.size,3,none⟩=some (.slice A3 l3.length c3):=(X.below hS.d.hb X.lt).cell 3
       have y4:v.cell? ⟨w1.heap.size,4,none⟩=some (.int .i64 p):=(X.below hS.d.hb X.lt).cell 4
       have y5:v.cell? ⟨w1.heap.size,5,none⟩=some (.int .i64 q):=(X.below hS.d.hb X.lt).cell 5
       have y6:v.cell? ⟨w1.heap.size,6,none⟩=some (.int .i64 r):=(X.below hS.d.hb X.lt).cell 6
       clear hall ho
       refine wpOp_step rfl (fun K hK=>?_)
       go_simp
       exact hK _ _ ⟨_,_,_,_,_,_,_,_,_,_,_,_,_,_,_,_,_,rfl,hS,fun _=>rfl,fun _=>trivial,q2,q3,fun _=>trivial,q5,fun _=>trivial,fun _=>trivial,q8,q9,fun _=>trivial,q11,q12,q13,q14,q15,q16⟩
      ·obtain rfl:=Option.some.inj ho
       clear hall ho
       refine wpOp_step rfl (fun K hK=>?_)
       go_simp
       exact hK _ _ ⟨_,_,_,_,_,_,_,_,_,_,_,_,_,_,_,_,_,rfl,⟨hS.d.s24 hf,hS.q⟩,q0,fun _=>trivial,q2,q3,fun _=>trivial,q5,fun _=>trivial,fun _=>trivial,q8,q9,fun _=>trivial,q11,q12,q13,q14,q15,q16⟩
      ·obtain rfl:=Option.some.inj ho
       clear hall ho
       refine wpOp_step rfl (fun K hK=>?_)
       go_simp
       exact hK _ _ ⟨_,_,_,_,_,_,_,_,_,_,_,_,_,_,_,_,_,rfl,hS,q0,fun _=>trivial,fun _=>rfl,q3,fun _=>trivial,q5,fun _=>trivial,fun _=>trivial,q8,q9,fun _=>trivial,q11,q12,q13,q14,q15,q16⟩
      ·obtain rfl:=Option.some.inj ho
       obtain rfl:=q2 (hall ⟨2,.data⟩ (by simp) rfl)
       have y0:v.cell? ⟨w1.heap.size+1,0,none⟩=some (.slice Am l.length cm):=(Y.below hS.d.hb Y.lt).cell 0
       have y1:v.cell? ⟨w1.heap.size+1,1,none⟩=some (.int .i64 fa):=(Y.below hS.d.hb Y.lt).cell 1
       have y2:v.cell? ⟨w1.heap.size+1,2,none⟩=some (.int .i64 fb):=(Y.below hS.d.hb Y.lt).cell 2
       clear hall ho
       refine wpOp_step rfl (fun K hK=>?_)
       go_simp
       exact hK _ _ ⟨_,_,_,_,_,_,_,_,_,_,_,_,_,_,_,_,_,rfl,hS,q0,fun _=>trivial,fun _=>rfl,fun _=>rfl,fun _=>trivial,q5,fun _=>trivial,fun _=>trivial,q8,q9,fun _=>trivial,q11,q12,q13,q14,q15,q16⟩
      ·obtain rfl:=Option.some.inj ho
       have e1:fL 1=true:=hall ⟨1,.data⟩ (by simp) rfl
       obtain rfl:=q3 (hall ⟨3,.data⟩ (by simp) rfl)
       clear hall ho
       refine wpOp_step rfl (fun K hK=>?_)
       refine step_append_rows _ rfl _ _ _ rfl w13.heap.size 75 i0 _ 4 32 Tryz.underlying49 hi0 hz0 hz1 hz2 rfl (by omega) _ [] rfl (hS.d.q24 e1 hf) _ _ _ _ (l.map Move.cells) rfl Hlen.out (HSl.out.below hS.d.hb) Move.one (by have:=Hr.out;unfold maxLen;simp only [List.length_nil];omega) (by have:=Hr.out;simp only [List.length_nil];omega) hS.d.hb.size ?_
       intro v' w' hO' hg' hat
       exact hK _ _ ⟨_,_,_,_,_,_,_,_,_,_,_,_,_,_,_,_,_,rfl,⟨hS.d.s27 hf e1 hO' hg',hS.q⟩,q0,fun _=>trivial,q2,fun _=>rfl,fun _=>trivial,q5,fun _=>trivial,fun _=>trivial,q8,q9,fun _=>trivial,q11,q12,q13,q14,q15,q16⟩
      ·obtain rfl:=Option.some.inj ho
       have y0:v.cell? ⟨w8.heap.size,0,none⟩=some (.int .i64 mk):=(M.below hS.d.hb M.lt).cell 0
       have y1:v.cell? ⟨w8.heap.size,1,none⟩=some (.int .i64 ms):=(M.below hS.d.hb M.lt).cell 1
       have y2:v.cell? ⟨w8.heap.size,2,none⟩=some (.int .i64 md):=(M.below hS.d.hb M.lt).cell 2
       have y3:v.cell? ⟨w8.heap.size,3,none⟩=some (.int .i64 mt):=(M.below hS.d.hb M.lt).cell 3
       clear hall ho
       refine wpOp_step rfl (fun K hK=>?_)
       go_simp
       exact hK _ _ ⟨_,_,_,_,_,_,_,_,_,_,_,_,_,_,_,_,_,rfl,hS,q0,fun _=>trivial,q2,q3,fun _=>trivial,fun _=>rfl,fun _=>trivial,fun _=>trivial,q8,q9,fun _=>trivial,q11,q12,q13,q14,q15,q16⟩
      ·obtain rfl:=Option.some.inj ho
       obtain rfl:=q5 (hall ⟨5,.data⟩ (by simp) rfl)
       clear hall ho
       refine wpOp_step rfl (fun K hK=>?_)
       go_simp
       exact hK _ _ ⟨_,_,_,_,_,_,_,_,_,_,_,_,_,_,_,_,_,rfl,⟨hS.d.s29 hf,hS.q⟩,q0,fun _=>trivial,q2,q3,fun _=>trivial,fun _=>rfl,fun _=>trivial,fun _=>trivial,q8,q9,fun _=>trivial,q11,q12,q13,q14,q15,q16⟩
      ·obtain rfl:=Option.some.inj ho
       have e4:fL 4=true:=hall ⟨4,.data⟩ (by simp) rfl
       have e6:fL 6=true:=hall ⟨6,.data⟩ (by simp) rfl
       clear hall ho
       refine wpOp_step rfl (fun K hK=>?_)
       obtain ⟨gb,rfl,Bb,_⟩:=hS.d.q29 e6 hf
       refine step_append_rows _ rfl _ _ _ rfl w13.heap.size 75 i0 _ 4 32 Tryz.underlying49 hi0 hz0 hz1 hz2 rfl (by omega) _ (l.map Move.cells) rfl (hS.d.q27 e4 hf) _ _ _ _ [[.int .i64 mk,.int .i64 ms,.int .i64 md,.int .i64 mt]] rfl rfl (Sl.of_blk Bb _ rfl (by simp)) (by simp [Value.oneCell']) (by rw [Hlen.out];have:=Hr.out;unfold maxLen;omega) (by rw [Hlen.out];have:=Hr.out;omega) hS.d.hb.size ?_
       intro v' w' hO' hg' hat
       exact hK _ _ ⟨_,_,_,_,_,_,_,_,_,_,_,_,_,_,_,_,_,rfl,⟨hS.d.s30 hf e4 e6 hO' hg',fun e=>by have:=(hS.q e).1;rw [hf] at this;cases this⟩,q0,fun _=>trivial,q2,q3,fun _=>trivial,q5,fun _=>trivial,fun _=>trivial,q8,q9,fun _=>trivial,q11,q12,q13,q14,q15,q16⟩
      ·obtain rfl:=Option.some.inj ho
       clear hall ho
       refine wpOp_step rfl (fun K hK=>?_)
       go_simp
       exact hK _ _ ⟨_,_,_,_,_,_,_,_,_,_,_,_,_,_,_,_,_,rfl,hS,q0,fun _=>trivial,q2,q3,fun _=>trivial,q5,fun _=>trivial,fun _=>trivial,fun _=>rfl,q9,fun _=>trivial,q11,q12,q13,q14,q15,q16⟩
      ·obtain rfl:=Option.some.inj ho
       obtain rfl:=q8 (hall ⟨8,.data⟩ (by simp) rfl)
       have y0:v.cell? ⟨w1.heap.size+1,0,none⟩=some (.slice Am l.length cm):=(Y.below hS.d.hb Y.lt).cell 0
       have y1:v.cell? ⟨w1.heap.size+1,1,none⟩=some (.int .i64 fa):=(Y.below hS.d.hb Y.lt).cell 1
       have y2:v.cell? ⟨w1.heap.size+1,2,none⟩=some (.int .i64 fb):=(Y.below hS.d.hb Y.lt).cell 2
       clear hall ho
       refine wpOp_step rfl (fun K hK=>?_)
       go_simp
       exact hK _ _ ⟨_,_,_,_,_,_,_,_,_,_,_,_,_,_,_,_,_,rfl,hS,q0,fun _=>trivial,q2,q3,fun _=>trivial,q5,fun _=>trivial,fun _=>trivial,fun _=>rfl,fun _=>rfl,fun _=>trivial,q11,q12,q13,q14,q15,q16⟩
      ·obtain rfl:=Option.some.inj ho
       have e7:fL 7=true:=hall ⟨7,.data⟩ (by simp) rfl
       obtain rfl:=q9 (hall ⟨9,.data⟩ (by simp) rfl)
       obtain ⟨A9,nn,c9,rfl,hnn⟩:=own_form1 (hS.d.q30 e7)
       clear hall ho
       refine wpOp_step rfl (fun K hK=>?_)
       go_simp
       exact hK _ _ ⟨_,_,_,_,_,_,_,_,_,_,_,_,_,_,_,_,_,rfl,⟨hS.d,fun _=>⟨e7,rfl⟩⟩,q0,fun _=>trivial,q2,q3,fun _=>trivial,q5,fun _=>trivial,fun _=>trivial,q8,fun _=>rfl,fun _=>trivial,q11,q12,q13,q14,q15,q16⟩
      ·obtain rfl:=Option.some.inj ho
       obtain rfl:=q0 (hall ⟨0,.data⟩ (by simp) rfl)
       have e10:fL 10=true:=hall ⟨10,.data⟩ (by simp) rfl
       clear hall ho
       refine wpOp_step rfl (fun K hK=>?_)
       obtain ⟨e7,rfl⟩:=hS.q e10
       have hO:=hS.d.q30 e7
       obtain ⟨A9,nn,c9,rfl,hnn⟩:=own_form1 hO
       have hcap:=hO.le_cap
       have hsl:=hO.sl
       rw [← Hres2.out] at hsl
       rw [Hlen.out] at hnn
       clear hO
       go_simp
       refine Calls.mono (hSO v (hE.later hS.d.hb) A9 nn c9 hnn ⟨by have:=Hr.out;simp;omega,by have:=hnn.out;simp;omega,hsl⟩).out ?_;rintro e w99 ⟨rfl,hb1⟩
       go_simp
       exact hK _ _ ⟨_,_,_,_,_,_,_,_,_,_,_,_,_,_,_,_,_,rfl,⟨hS.d.below hb1,hS.q⟩,fun _=>rfl,fun _=>trivial,q2,q3,fun _=>trivial,q5,fun _=>trivial,fun _=>trivial,q8,q9,fun _=>trivial,fun _=>rfl,q12,q13,q14,q15,q16⟩
      ·obtain rfl:=Option.some.inj ho
       obtain rfl:=q11 (hall ⟨11,.data⟩ (by simp) rfl)
       clear hall ho
       refine wpOp_step rfl (fun K hK=>?_)
       go_simp
       exact hK _ _ ⟨_,_,_,_,_,_,_,_,_,_,_,_,_,_,_,_,_,rfl,hS,q0,fun _=>trivial,q2,q3,fun _=>trivial,q5,fun _=>trivial,fun _=>trivial,q8,q9,fun _=>trivial,fun _=>rfl,fun _=>rfl,q13,q14,q15,q16⟩
      ·obtain rfl:=Option.some.inj ho
       obtain rfl:=q12 (hall ⟨12,.data⟩ (by simp) rfl)
       clear hall ho
       refine wpOp_step rfl (fun K hK=>?_)
       go_simp
       exact hK _ _ ⟨_,_,_,_,_,_,_,_,_,_,_,_,_,_,_,_,_,rfl,hS,q0,fun _=>trivial,q2,q3,fun _=>trivial,q5,fun _=>trivial,fun _=>trivial,q8,q9,fun _=>trivial,q11,fun _=>rfl,fun _=>rfl,q14,q15,q16⟩
      ·obtain rfl:=Option.some.inj ho
       obtain rfl:=q12 (hall ⟨12,.data⟩ (by simp) rfl)
       clear hall ho
       refine wpOp_step rfl (fun K hK=>?_)
       go_simp
       exact hK _ _ ⟨_,_,_,_,_,_,_,_,_,_,_,_,_,_,_,_,_,rfl,hS,q0,fun _=>trivial,q2,q3,fun _=>trivial,q5,fun _=>trivial,fun _=>trivial,q8,q9,fun _=>trivial,q11,fun _=>rfl,q13,fun _=>rfl,q15,q16⟩
      ·obtain rfl:=Option.some.inj ho
       obtain rfl:=q13 (hall ⟨13,.data⟩ (by simp) rfl)
       clear hall ho
       refine wpOp_step rfl (fun K hK=>?_)
       go_simp
       exact hK _ _ ⟨_,_,_,_,_,_,_,_,_,_,_,_,_,_,_,_,_,rfl,hS,q0,fun _=>trivial,q2,q3,fun _=>trivial,q5,fun _=>trivial,fun _=>trivial,q8,q9,fun _=>trivial,q11,q12,fun _=>rfl,q14,fun _=>rfl,q16⟩
      ·obtain rfl:=Option.some.inj ho
       obtain rfl:=q14 (hall ⟨14,.data⟩ (by simp) rfl)
       clear hall ho
       refine wpOp_step rfl (fun K hK=>?_)
       go_simp
       exact hK _ _ ⟨_,_,_,_,_,_,_,_,_,_,_,_,_,_,_,_,_,rfl,hS,q0,fun _=>trivial,q2,q3,fun _=>trivial,q5,fun _=>trivial,fun _=>trivial,q8,q9,fun _=>trivial,q11,q12,q13,fun _=>rfl,q15,fun _=>rfl⟩
     rintro fL bA v ⟨v201,v202,v203,v204,v205,v206,v207,v208,v209,v210,v211,v212,v200,v213,v214,v27,v28,rfl,hS,q0,q1,q2,q3,q4,q5,q6,q7,q8,q9,q10,q11,q12,q13,q14,q15,q16⟩ hall
     simp only [Act.put,List.setIfInBounds_toArray,List.set_cons_zero,List.set_cons_succ]
     simp only [List.length_cons,List.length_nil] at hall
     obtain rfl:=q0 (hall 0 (by omega))
     have e1:fL 1=true:=hall 1 (by omega)
     obtain rfl:=q2 (hall 2 (by omega))
     obtain rfl:=q3 (hall 3 (by omega))
     have e4:fL 4=true:=hall 4 (by omega)
     obtain rfl:=q5 (hall 5 (by omega))
     have e6:fL 6=true:=hall 6 (by omega)
     have e7:fL 7=true:=hall 7 (by omega)
     obtain rfl:=q8 (hall 8 (by omega))
     obtain rfl:=q9 (hall 9 (by omega))
     have e10:fL 10=true:=hall 10 (by omega)
     obtain rfl:=q11 (hall 11 (by omega))
     obtain rfl:=q12 (hall 12 (by omega))
     obtain rfl:=q13 (hall 13 (by omega))
     obtain rfl:=q14 (hall 14 (by omega))
     obtain rfl:=q15 (hall 15 (by omega))
     obtain rfl:=q16 (hall 16 (by omega))
     clear hall
     have hb:=hS.d.hb
     replace hB:=hB.trans (hb.mono hB.size)
     replace hE:=hE.later hb
     replace hF:=hF.later hb
     replace X:=X.below hb X.lt
     replace Y:=Y.below hb Y.lt
     replace M:=M.below hb M.lt
     clear hS hb M hD0 HSl hSO Hres2 Hlen Hr
     generalize v=wq at *
     have x0:wq.cell? ⟨w1.heap.size,0,none⟩=some (.int .i64 L):=X.cell 0
     have x1:wq.cell? ⟨w1.heap.size,1,none⟩=some (.slice A1 l1.length c1):=X.cell 1
     have x2:wq.cell? ⟨w1.heap.size,2,none⟩=some (.slice A2 l2.length c2):=X.cell 2
     have x3:wq.cell? ⟨w1.heap.size,3,none⟩=some (.slice A3 l3.length c3):=X.cell 3
     have x4:wq.cell? ⟨w1.heap.size,4,none⟩=some (.int .i64 p):=X.cell 4
     have x5:wq.cell? ⟨w1.heap.size,5,none⟩=some (.int .i64 q):=X.cell 5
     have x6:wq.cell? ⟨w1.heap.size,6,none⟩=some (.int .i64 r):=X.cell 6
     have y0:wq.cell? ⟨w1.heap.size+1,0,none⟩=some (.slice Am l.length cm):=Y.cell 0
     have y1:wq.cell? ⟨w1.heap.size+1,1,none⟩=some (.int .i64 fa):=Y.cell 1
     have y2:wq.cell? ⟨w1.heap.size+1,2,none⟩=some (.int .i64 fb):=Y.cell 2
     go_wp2_with fail
     clear x0 x1 x2 x3 x4 x5 x6 y0 y1 y2
    case' neg =>
     have hmf:(mc == 0)=false:=by simp [hmc]
     clear t5 hSO M
     have x0:w13.cell? ⟨w1.heap.size,0,none⟩=some (.int .i64 L):=X.cell 0
     have x1:w13.cell? ⟨w1.heap.size,1,none⟩=some (.slice A1 l1.length c1):=X.cell 1
     have x2:w13.cell? ⟨w1.heap.size,2,none⟩=some (.slice A2 l2.length c2):=X.cell 2
     have x3:w13.cell? ⟨w1.heap.size,3,none⟩=some (.slice A3 l3.length c3):=X.cell 3
     have x4:w13.cell? ⟨w1.heap.size,4,none⟩=some (.int .i64 p):=X.cell 4
     have x5:w13.cell? ⟨w1.heap.size,5,none⟩=some (.int .i64 q):=X.cell 5
     have x6:w13.cell? ⟨w1.heap.size,6,none⟩=some (.int .i64 r):=X.cell 6
     have y0:w13.cell? ⟨w1.heap.size+1,0,none⟩=some (.slice Am l.length cm):=Y.cell 0
     have y1:w13.cell? ⟨w1.heap.size+1,1,none⟩=some (.int .i64 fa):=Y.cell 1
     have y2:w13.cell? ⟨w1.heap.size+1,2,none⟩=some (.int .i64 fb):=Y.cell 2
     go_wp2_with fail
     clear x0 x1 x2 x3 x4 x5 x6 y0 y1 y2
     clear hmf hmc
     generalize w13=wq at *
    all_goals
     refine Calls.mono (hIP _ hE hF).out ?_;rintro e wr ⟨rfl,hb⟩
     replace hB:=hB.trans (hb.mono hB.size)
     replace hE:=hE.later hb
     replace hF:=hF.later hb
     replace X:=X.below hb X.lt
     replace Y:=Y.below hb Y.lt
     clear hb hIP
     rcases t6.out with ⟨rfl,h1,rfl⟩ | ⟨h1,h2⟩
     ·clear t6
      have hgd:decide (gv ≤ 1)=true:=decide_eq_true h1
      unfold rightS
      go_wp2
      go_ret
      exact ⟨rfl,hB⟩
     ·clear t6
      by_cases hpb:pb=true
      ·subst hpb
       have h4:decide (gv ≤ 1)=false:=decide_eq_false fun h=>h1 ⟨rfl,h⟩
       clear h1
       go_wp2
       go_ret
       exact ⟨rfl,hB⟩
      ·obtain rfl:pb=false:=by simpa using hpb
       clear h1 hpb
       go_wp2
       go_ret
       exact ⟨rfl,hB⟩
   ·obtain ⟨rfl,rfl,rfl⟩:=HN.out hc0
    clear HT HN hc0
    go_wp2
    go_ret
    exact ⟨rfl,hB⟩
end Go.Proofs.YtednjmldjbndhaaGreat
