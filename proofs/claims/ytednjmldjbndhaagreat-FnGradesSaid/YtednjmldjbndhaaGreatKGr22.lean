/- Products and quotients of valid figures: the program's and the reference's. Conditions: both figures are valid. -/
import Derived.Test.YtednjmldjbndhaaGreatKGr21
set_option linter.unusedSimpArgs false
set_option linter.unusedVariables false
set_option maxRecDepth 100000
set_option maxHeartbeats 8000000
namespace Go.Proofs.YtednjmldjbndhaaGreat
open Go.RowKit
def mulQ (a b:Figure):Figure × Int:=limR (mulF (a.digits * b.digits) (a.tens+b.tens - 6))
def divQ (a b:Figure):Figure × Int:=limR (divF a.digits b.digits (a.tens - b.tens))
theorem figOK_bd {f:Figure} (h:figOK f=true):(1000 ≤ f.digits∧f.digits ≤ 9999)∧-30 ≤ f.tens∧f.tens ≤ 30:=by
 unfold figOK at h
 rwa [Bool.and_eq_true,inB_true,inB_true] at h
theorem limR_ok {f:Figure} (h:(limR f).2=0):figOK (limR f).1=true:=by
 unfold limR at *
 split at h
 ·rename_i hf
  rw [if_pos hf]
  exact hf
 ·cases h
theorem prodF_bd {a b:Int} (h:1000 ≤ a∧a ≤ 9999) (h':1000 ≤ b∧b ≤ 9999):1000000 ≤ a * b∧a * b ≤ 99980001 :=
 by
 have h1:1000 * 1000 ≤ a * b:=Int.mul_le_mul h.1 h'.1 (by omega) (by omega)
 have h2:a * b ≤ 9999 * 9999:=Int.mul_le_mul h.2 h'.2 (by omega) (by omega)
 omega
theorem two_figs {w:World} {g:Nat} {t:TypeId} {d n d' n':Int} (h:Blk w g t #[.int .i64 d,.int .i64 n,.int .i64 d',.int .i64 n']) (hg:g < w.heap.size):Sl w w.heap.size 2 (some ⟨g,0,none⟩) ([(⟨d,n⟩:Figure),⟨d',n'⟩].map Figure.cells) :=
 (Sl.of_blk h _ rfl (by simp [Figure.cells])).more hg
theorem l02TwoG_c (a b:Figure) (w:World) (ha:figOK a=true) (hb:figOK b=true):Calls Tryz.prog 190 #[a.agg,b.agg] w fun e w'=>e=.returned (.bool true)∧Below w.heap.size w w':=by
 have HI:∀ d n,figOK ⟨d,n⟩=true→∀ W,Hid (Calls Tryz.prog 102 #[.agg #[.int .i64 d,.int .i64 n]] W fun e w'=>e=.returned (.bool true)∧Below W.heap.size W w'):=by
  intro d n h W
  rw [← h]
  exact specIsFigure_c ⟨d,n⟩ W
 obtain ⟨d,n⟩:=a
 obtain ⟨d',n'⟩:=b
 have HA:=HI d n ha
 have HB:=HI d' n' hb
 clear HI ha hb
 unfold Figure.agg
 simp only
 have hW:Below w.heap.size w ((w.alloc (.cells #[.int .i64 d,.int .i64 n] 51)).alloc (.cells #[.int .i64 d',.int .i64 n'] 51)):=(by repeat first | with_reducible (first | exact Below.refl _ _ | apply below_drewN' | apply Below.drew | refine Below.alloc ?_ ?_ _ | refine Below.setCell ?_ ?_ _) | exact Below.refl _ _ | omega | (simp <;> omega) | (have:=(Below.refl _ _).size;first | omega | (simp <;> omega)))
 have Y0:=Blk.new' (w.alloc (.cells #[.int .i64 d,.int .i64 n] 51)) 51 #[.int .i64 d',.int .i64 n'] (g:=w.heap.size+1) (by simp)
 go_enter Tryz.func190,Tryz.ntmps190
 go_wp2_with fail
 generalize ((w.alloc (.cells #[.int .i64 d,.int .i64 n] 51)).alloc (.cells #[.int .i64 d',.int .i64 n'] 51))=W at *
 refine Calls.mono (HA _).out ?_;rintro e w1 ⟨rfl,hb1⟩
 have Y1:=Y0.below hb1 Y0.lt
 have hW1:=hW.trans (hb1.mono hW.size)
 have y0:w1.cell? ⟨w.heap.size+1,0,none⟩=some (.int .i64 d'):=Y1.cell 0
 have y1:w1.cell? ⟨w.heap.size+1,1,none⟩=some (.int .i64 n'):=Y1.cell 1
 go_wp2_with fail
 refine Calls.mono (HB _).out ?_;rintro e w2 ⟨rfl,hb2⟩
 have hW2:=hW1.trans (hb2.mono hW1.size)
 go_wp2
 go_ret
 exact ⟨rfl,(by repeat first | with_reducible (first | exact hW2 | apply below_drewN' | apply Below.drew | refine Below.alloc ?_ ?_ _ | refine Below.setCell ?_ ?_ _) | exact hW2 | omega | (simp <;> omega) | (have:=(hW2).size;first | omega | (simp <;> omega)))⟩
theorem implMulF_c (a b:Figure) (w:World) (ha:figOK a=true) (hb:figOK b=true):Calls Tryz.prog 160 #[a.agg,b.agg] w fun e w'=>e=.returned (.tuple #[(mulQ a b).1.agg,.int .i64 (mulQ a b).2])∧Below w.heap.size w w':=by
 have hC:=fun (W:World) (g:Nat) hB=>areFigures_c (some ⟨g,0,none⟩) 2 [a,b] W (by simp) (two_figs (d:=a.digits) (n:=a.tens) (d':=b.digits) (n':=b.tens) (g:=g) (t:=51) hB hB.lt)
 rw [show [a,b].all figOK=true by simp [ha,hb]] at hC
 have HC:=fun W g hB=>Lib.hid (hC W g hB)
 clear hC
 obtain ⟨⟨a1,a2⟩,a3,a4⟩:=figOK_bd ha
 obtain ⟨⟨b1,b2⟩,b3,b4⟩:=figOK_bd hb
 clear ha hb
 obtain ⟨d,t⟩:=a
 obtain ⟨d',t'⟩:=b
 unfold mulQ Figure.agg
 simp only at *
 obtain ⟨p1,p2⟩:=prodF_bd ⟨a1,a2⟩ ⟨b1,b2⟩
 have hR:=fun W=>roundedMul_c (d * d') (t+t' - 6) W ⟨p1,p2⟩ (by omega)
 generalize mulF (d * d') (t+t' - 6)=F at *
 generalize hP:d * d'=P at *
 obtain ⟨x,y⟩:=F
 have hL:=fun W=>limitedG_c x y W
 generalize limR ⟨x,y⟩=G at *
 obtain ⟨⟨gx,gy⟩,gc⟩:=G
 simp only at hR hL ⊢
 have HR:=fun W=>Lib.hid (hR W)
 have HL:=fun W=>Lib.hid (hL W)
 clear hR hL
 have hW:Below w.heap.size w ((((w.alloc (.cells #[.int .i64 d,.int .i64 t] 51)).alloc (.cells #[.int .i64 d',.int .i64 t'] 51)).alloc (.cells #[.int .i64 0,.int .i64 0] 51)).alloc (.cells #[.int .i64 d,.int .i64 t,.int .i64 d',.int .i64 t'] 51)):=(by repeat first | with_reducible (first | exact Below.refl _ _ | apply below_drewN' | apply Below.drew | refine Below.alloc ?_ ?_ _ | refine Below.setCell ?_ ?_ _) | exact Below.refl _ _ | omega | (simp <;> omega) | (have:=(Below.refl _ _).size;first | omega | (simp <;> omega)))
 have X0:=(((Blk.new w 51 #[.int .i64 d,.int .i64 t]).alloc (.cells #[.int .i64 d',.int .i64 t'] 51)).alloc (.cells #[.int .i64 0,.int .i64 0] 51)).alloc (.cells #[.int .i64 d,.int .i64 t,.int .i64 d',.int .i64 t'] 51)
 have Y0:=((Blk.new' (w.alloc (.cells #[.int .i64 d,.int .i64 t] 51)) 51 #[.int .i64 d',.int .i64 t'] (g:=w.heap.size+1) (by simp)).alloc (.cells #[.int .i64 0,.int .i64 0] 51)).alloc (.cells #[.int .i64 d,.int .i64 t,.int .i64 d',.int .i64 t'] 51)
 have R0:=(Blk.new' ((w.alloc (.cells #[.int .i64 d,.int .i64 t] 51)).alloc (.cells #[.int .i64 d',.int .i64 t'] 51)) 51 #[.int .i64 0,.int .i64 0] (g:=w.heap.size+1+1) (by simp)).alloc (.cells #[.int .i64 d,.int .i64 t,.int .i64 d',.int .i64 t'] 51)
 have V0:=Blk.new' (((w.alloc (.cells #[.int .i64 d,.int .i64 t] 51)).alloc (.cells #[.int .i64 d',.int .i64 t'] 51)).alloc (.cells #[.int .i64 0,.int .i64 0] 51)) 51 #[.int .i64 d,.int .i64 t,.int .i64 d',.int .i64 t'] (g:=w.heap.size+1+1+1) (by simp)
 go_enter Tryz.func160,Tryz.ntmps160
 go_wp2_with fail
 generalize ((((w.alloc (.cells #[.int .i64 d,.int .i64 t] 51)).alloc (.cells #[.int .i64 d',.int .i64 t'] 51)).alloc (.cells #[.int .i64 0,.int .i64 0] 51)).alloc (.cells #[.int .i64 d,.int .i64 t,.int .i64 d',.int .i64 t'] 51))=W at *
 refine Calls.mono (HC W _ V0).out ?_;rintro e w1 ⟨rfl,hb1⟩
 clear V0 HC
 have X1:=X0.below hb1 X0.lt
 have Y1:=Y0.below hb1 Y0.lt
 have R1:=R0.below hb1 R0.lt
 have hW1:=hW.trans (hb1.mono hW.size)
 clear X0 Y0 R0 hW hb1
 have x0:w1.cell? ⟨w.heap.size,0,none⟩=some (.int .i64 d):=X1.cell 0
 have x1:w1.cell? ⟨w.heap.size,1,none⟩=some (.int .i64 t):=X1.cell 1
 have y0:w1.cell? ⟨w.heap.size+1,0,none⟩=some (.int .i64 d'):=Y1.cell 0
 have y1:w1.cell? ⟨w.heap.size+1,1,none⟩=some (.int .i64 t'):=Y1.cell 1
 go_wp2_with fail
 refine Calls.mono (HR _).out ?_;rintro e w2 ⟨rfl,hb2⟩
 have R2:=R1.below hb2 R1.lt
 have hW2:=hW1.trans (hb2.mono hW1.size)
 clear x0 x1 y0 y1 X1 Y1 R1 hW1 hb2
 go_wp2_with fail
 refine Calls.mono (HL _).out ?_;rintro e w3 ⟨rfl,hb3⟩
 have R3:=R2.below hb3 R2.lt
 have hW3:=hW2.trans (hb3.mono hW2.size)
 have c0:w3.cell? ⟨w.heap.size+1+1,0,none⟩=some (.int .i64 0):=R3.cell 0
 have c1:w3.cell? ⟨w.heap.size+1+1,1,none⟩=some (.int .i64 0):=R3.cell 1
 have f0:w3.frozen? ⟨w.heap.size+1+1,0,none⟩=false:=R3.frozen 0
 have f1:w3.frozen? ⟨w.heap.size+1+1,1,none⟩=false:=R3.frozen 1
 have hs:=hW3.size
 clear R2 hW2 hb3
 go_wp2
 refine bodyPost_ret (v:=.tuple #[.agg #[.int .i64 gx,.int .i64 gy],.int .i64 gc]) (by simp [results,Tryz.results160,go_sem,c0,c1]) rfl ⟨rfl,(by repeat first | with_reducible (first | exact hW3 | apply below_drewN' | apply Below.drew | refine Below.alloc ?_ ?_ _ | refine Below.setCell ?_ ?_ _) | exact hW3 | omega | (simp <;> omega) | (have:=(hW3).size;first | omega | (simp <;> omega)))⟩
theorem implDivF_c (a b:Figure) (w:World) (ha:figOK a=true) (hb:figOK b=true):Calls Tryz.prog 159 #[a.agg,b.agg] w fun e w'=>e=.returned (.tuple #[(divQ a b).1.agg,.int .i64 (divQ a b).2])∧Below w.heap.size w w':=by
 have hC:=fun (W:World) (g:Nat) hB=>areFigures_c (some ⟨g,0,none⟩) 2 [a,b] W (by simp) (two_figs (d:=a.digits) (n:=a.tens) (d':=b.digits) (n':=b.tens) (g:=g) (t:=51) hB hB.lt)
 rw [show [a,b].all figOK=true by simp [ha,hb]] at hC
 have HC:=fun W g hB=>Lib.hid (hC W g hB)
 clear hC
 obtain ⟨⟨a1,a2⟩,a3,a4⟩:=figOK_bd ha
 obtain ⟨⟨b1,b2⟩,b3,b4⟩:=figOK_bd hb
 clear ha hb
 obtain ⟨d,t⟩:=a
 obtain ⟨d',t'⟩:=b
 unfold divQ Figure.agg
 simp only at *
 have hR:=fun W=>roundedDiv_c d d' (t - t') W ⟨a1,a2⟩ ⟨b1,b2⟩ (by omega)
 generalize divF d d' (t - t')=F at *
 obtain ⟨x,y⟩:=F
 have hL:=fun W=>limitedG_c x y W
 generalize limR ⟨x,y⟩=G at *
 obtain ⟨⟨gx,gy⟩,gc⟩:=G
 simp only at hR hL ⊢
 have HR:=fun W=>Lib.hid (hR W)
 have HL:=fun W=>Lib.hid (hL W)
 clear hR hL
 have hW:Below w.heap.size w ((((w.alloc (.cells #[.int .i64 d,.int .i64 t] 51)).alloc (.cells #[.int .i64 d',.int .i64 t'] 51)).alloc (.cells #[.int .i64 0,.int .i64 0] 51)).alloc (.cells #[.int .i64 d,.int .i64 t,.int .i64 d',.int .i64 t'] 51)):=(by repeat first | with_reducible (first | exact Below.refl _ _ | apply below_drewN' | apply Below.drew | refine Below.alloc ?_ ?_ _ | refine Below.setCell ?_ ?_ _) | exact Below.refl _ _ | omega | (simp <;> omega) | (have:=(Below.refl _ _).size;first | omega | (simp <;> omega)))
 have X0:=(((Blk.new w 51 #[.int .i64 d,.int .i64 t]).alloc (.cells #[.int .i64 d',.int .i64 t'] 51)).alloc (.cells #[.int .i64 0,.int .i64 0] 51)).alloc (.cells #[.int .i64 d,.int .i64 t,.int .i64 d',.int .i64 t'] 51)
 have Y0:=((Blk.new' (w.alloc (.cells #[.int .i64 d,.int .i64 t] 51)) 51 #[.int .i64 d',.int .i64 t'] (g:=w.heap.size+1) (by simp)).alloc (.cells #[.int .i64 0,.int .i64 0] 51)).alloc (.cells #[.int .i64 d,.int .i64 t,.int .i64 d',.int .i64 t'] 51)
 have R0:=(Blk.new' ((w.alloc (.cells #[.int .i64 d,.int .i64 t] 51)).alloc (.cells #[.int .i64 d',.int .i64 t'] 51)) 51 #[.int .i64 0,.int .i64 0] (g:=w.heap.size+1+1) (by simp)).alloc (.cells #[.int .i64 d,.int .i64 t,.int .i64 d',.int .i64 t'] 51)
 have V0:=Blk.new' (((w.alloc (.cells #[.int .i64 d,.int .i64 t] 51)).alloc (.cells #[.int .i64 d',.int .i64 t'] 51)).alloc (.cells #[.int .i64 0,.int .i64 0] 51)) 51 #[.int .i64 d,.int .i64 t,.int .i64 d',.int .i64 t'] (g:=w.heap.size+1+1+1) (by simp)
 go_enter Tryz.func159,Tryz.ntmps159
 go_wp2_with fail
 generalize ((((w.alloc (.cells #[.int .i64 d,.int .i64 t] 51)).alloc (.cells #[.int .i64 d',.int .i64 t'] 51)).alloc (.cells #[.int .i64 0,.int .i64 0] 51)).alloc (.cells #[.int .i64 d,.int .i64 t,.int .i64 d',.int .i64 t'] 51))=W at *
 refine Calls.mono (HC W _ V0).out ?_;rintro e w1 ⟨rfl,hb1⟩
 clear V0 HC
 have X1:=X0.below hb1 X0.lt
 have Y1:=Y0.below hb1 Y0.lt
 have R1:=R0.below hb1 R0.lt
 have hW1:=hW.trans (hb1.mono hW.size)
 clear X0 Y0 R0 hW hb1
 have x0:w1.cell? ⟨w.heap.size,0,none⟩=some (.int .i64 d):=X1.cell 0
 have x1:w1.cell? ⟨w.heap.size,1,none⟩=some (.int .i64 t):=X1.cell 1
 have y0:w1.cell? ⟨w.heap.size+1,0,none⟩=some (.int .i64 d'):=Y1.cell 0
 have y1:w1.cell? ⟨w.heap.size+1,1,none⟩=some (.int .i64 t'):=Y1.cell 1
 go_wp2_with fail
 refine Calls.mono (HR _).out ?_;rintro e w2 ⟨rfl,hb2⟩
 have R2:=R1.below hb2 R1.lt
 have hW2:=hW1.trans (hb2.mono hW1.size)
 clear x0 x1 y0 y1 X1 Y1 R1 hW1 hb2
 go_wp2_with fail
 refine Calls.mono (HL _).out ?_;rintro e w3 ⟨rfl,hb3⟩
 have R3:=R2.below hb3 R2.lt
 have hW3:=hW2.trans (hb3.mono hW2.size)
 have c0:w3.cell? ⟨w.heap.size+1+1,0,none⟩=some (.int .i64 0):=R3.cell 0
 have c1:w3.cell? ⟨w.heap.size+1+1,1,none⟩=some (.int .i64 0):=R3.cell 1
 have f0:w3.frozen? ⟨w.heap.size+1+1,0,none⟩=false:=R3.frozen 0
 have f1:w3.frozen? ⟨w.heap.size+1+1,1,none⟩=false:=R3.frozen 1
 have hs:=hW3.size
 clear R2 hW2 hb3
 go_wp2
 refine bodyPost_ret (v:=.tuple #[.agg #[.int .i64 gx,.int .i64 gy],.int .i64 gc]) (by simp [results,Tryz.results159,go_sem,c0,c1]) rfl ⟨rfl,(by repeat first | with_reducible (first | exact hW3 | apply below_drewN' | apply Below.drew | refine Below.alloc ?_ ?_ _ | refine Below.setCell ?_ ?_ _) | exact hW3 | omega | (simp <;> omega) | (have:=(hW3).size;first | omega | (simp <;> omega)))⟩
theorem specMulF_c (a b:Figure) (w:World) (ha:figOK a=true) (hb:figOK b=true):Calls Tryz.prog 153 #[a.agg,b.agg] w fun e w'=>e=.returned (.tuple #[(mulQ a b).1.agg,.int .i64 (mulQ a b).2])∧Below w.heap.size w w':=by
 have hC:=fun W=>l02TwoG_c a b W ha hb
 unfold Figure.agg at hC
 have HC:=fun W=>Lib.hid (hC W)
 clear hC
 obtain ⟨⟨a1,a2⟩,a3,a4⟩:=figOK_bd ha
 obtain ⟨⟨b1,b2⟩,b3,b4⟩:=figOK_bd hb
 clear ha hb
 obtain ⟨d,t⟩:=a
 obtain ⟨d',t'⟩:=b
 unfold mulQ Figure.agg
 simp only at *
 obtain ⟨p1,p2⟩:=prodF_bd ⟨a1,a2⟩ ⟨b1,b2⟩
 have hR:=fun W=>l02RoundMul_c (d * d') (t+t' - 6) W ⟨p1,p2⟩ (by omega)
 generalize mulF (d * d') (t+t' - 6)=F at *
 generalize hP:d * d'=P at *
 obtain ⟨x,y⟩:=F
 have hL:=fun W=>l02Result_c x y W
 generalize limR ⟨x,y⟩=G at *
 obtain ⟨⟨gx,gy⟩,gc⟩:=G
 simp only at hR hL ⊢
 have HR:=fun W=>Lib.hid (hR W)
 have HL:=fun W=>Lib.hid (hL W)
 clear hR hL
 have hW:Below w.heap.size w (((w.alloc (.cells #[.int .i64 d,.int .i64 t] 51)).alloc (.cells #[.int .i64 d',.int .i64 t'] 51)).alloc (.cells #[.int .i64 0,.int .i64 0] 51)):=(by repeat first | with_reducible (first | exact Below.refl _ _ | apply below_drewN' | apply Below.drew | refine Below.alloc ?_ ?_ _ | refine Below.setCell ?_ ?_ _) | exact Below.refl _ _ | omega | (simp <;> omega) | (have:=(Below.refl _ _).size;first | omega | (simp <;> omega)))
 have X0:=((Blk.new w 51 #[.int .i64 d,.int .i64 t]).alloc (.cells #[.int .i64 d',.int .i64 t'] 51)).alloc (.cells #[.int .i64 0,.int .i64 0] 51)
 have Y0:=(Blk.new' (w.alloc (.cells #[.int .i64 d,.int .i64 t] 51)) 51 #[.int .i64 d',.int .i64 t'] (g:=w.heap.size+1) (by simp)).alloc (.cells #[.int .i64 0,.int .i64 0] 51)
 have R0:=Blk.new' ((w.alloc (.cells #[.int .i64 d,.int .i64 t] 51)).alloc (.cells #[.int .i64 d',.int .i64 t'] 51)) 51 #[.int .i64 0,.int .i64 0] (g:=w.heap.size+1+1) (by simp)
 go_enter Tryz.func153,Tryz.ntmps153
 go_wp2_with fail
 generalize (((w.alloc (.cells #[.int .i64 d,.int .i64 t] 51)).alloc (.cells #[.int .i64 d',.int .i64 t'] 51)).alloc (.cells #[.int .i64 0,.int .i64 0] 51))=W at *
 refine Calls.mono (HC W).out ?_;rintro e w1 ⟨rfl,hb1⟩
 clear HC
 have X1:=X0.below hb1 X0.lt
 have Y1:=Y0.below hb1 Y0.lt
 have R1:=R0.below hb1 R0.lt
 have hW1:=hW.trans (hb1.mono hW.size)
 clear X0 Y0 R0 hW hb1
 have x0:w1.cell? ⟨w.heap.size,0,none⟩=some (.int .i64 d):=X1.cell 0
 have x1:w1.cell? ⟨w.heap.size,1,none⟩=some (.int .i64 t):=X1.cell 1
 have y0:w1.cell? ⟨w.heap.size+1,0,none⟩=some (.int .i64 d'):=Y1.cell 0
 have y1:w1.cell? ⟨w.heap.size+1,1,none⟩=some (.int .i64 t'):=Y1.cell 1
 go_wp2_with fail
 refine Calls.mono (HR _).out ?_;rintro e w2 ⟨rfl,hb2⟩
 have R2:=R1.below hb2 R1.lt
 have hW2:=hW1.trans (hb2.mono hW1.size)
 clear x0 x1 y0 y1 X1 Y1 R1 hW1 hb2
 go_wp2_with fail
 refine Calls.mono (HL _).out ?_;rintro e w3 ⟨rfl,hb3⟩
 have R3:=R2.below hb3 R2.lt
 have hW3:=hW2.trans (hb3.mono hW2.size)
 have c0:w3.cell? ⟨w.heap.size+1+1,0,none⟩=some (.int .i64 0):=R3.cell 0
 have c1:w3.cell? ⟨w.heap.size+1+1,1,none⟩=some (.int .i64 0):=R3.cell 1
 have f0:w3.frozen? ⟨w.heap.size+1+1,0,none⟩=false:=R3.frozen 0
 have f1:w3.frozen? ⟨w.heap.size+1+1,1,none⟩=false:=R3.frozen 1
 have hs:=hW3.size
 clear R2 hW2 hb3
 go_wp2
 refine bodyPost_ret (v:=.tuple #[.agg #[.int .i64 gx,.int .i64 gy],.int .i64 gc]) (by simp [results,Tryz.results153,go_sem,c0,c1]) rfl ⟨rfl,(by repeat first | with_reducible (first | exact hW3 | apply below_drewN' | apply Below.drew | refine Below.alloc ?_ ?_ _ | refine Below.setCell ?_ ?_ _) | exact hW3 | omega | (simp <;> omega) | (have:=(hW3).size;first | omega | (simp <;> omega)))⟩
theorem specDivF_c (a b:Figure) (w:World) (ha:figOK a=true) (hb:figOK b=true):Calls Tryz.prog 154 #[a.agg,b.agg] w fun e w'=>e=.returned (.tuple #[(divQ a b).1.agg,.int .i64 (divQ a b).2])∧Below w.heap.size w w':=by
 have hC:=fun W=>l02TwoG_c a b W ha hb
 unfold Figure.agg at hC
 have HC:=fun W=>Lib.hid (hC W)
 clear hC
 obtain ⟨⟨a1,a2⟩,a3,a4⟩:=figOK_bd ha
 obtain ⟨⟨b1,b2⟩,b3,b4⟩:=figOK_bd hb
 clear ha hb
 obtain ⟨d,t⟩:=a
 obtain ⟨d',t'⟩:=b
 unfold divQ Figure.agg
 simp only at *
 have hR:=fun W=>l02RoundDiv_c d d' (t - t') W ⟨a1,a2⟩ ⟨b1,b2⟩ (by omega)
 generalize divF d d' (t - t')=F at *
 obtain ⟨x,y⟩:=F
 have hL:=fun W=>l02Result_c x y W
 generalize limR ⟨x,y⟩=G at *
 obtain ⟨⟨gx,gy⟩,gc⟩:=G
 simp only at hR hL ⊢
 have HR:=fun W=>Lib.hid (hR W)
 have HL:=fun W=>Lib.hid (hL W)
 clear hR hL
 have hW:Below w.heap.size w (((w.alloc (.cells #[.int .i64 d,.int .i64 t] 51)).alloc (.cells #[.int .i64 d',.int .i64 t'] 51)).alloc (.cells #[.int .i64 0,.int .i64 0] 51)):=(by repeat first | with_reducible (first | exact Below.refl _ _ | apply below_drewN' | apply Below.drew | refine Below.alloc ?_ ?_ _ | refine Below.setCell ?_ ?_ _) | exact Below.refl _ _ | omega | (simp <;> omega) | (have:=(Below.refl _ _).size;first | omega | (simp <;> omega)))
 have X0:=((Blk.new w 51 #[.int .i64 d,.int .i64 t]).alloc (.cells #[.int .i64 d',.int .i64 t'] 51)).alloc (.cells #[.int .i64 0,.int .i64 0] 51)
 have Y0:=(Blk.new' (w.alloc (.cells #[.int .i64 d,.int .i64 t] 51)) 51 #[.int .i64 d',.int .i64 t'] (g:=w.heap.size+1) (by simp)).alloc (.cells #[.int .i64 0,.int .i64 0] 51)
 have R0:=Blk.new' ((w.alloc (.cells #[.int .i64 d,.int .i64 t] 51)).alloc (.cells #[.int .i64 d',.int .i64 t'] 51)) 51 #[.int .i64 0,.int .i64 0] (g:=w.heap.size+1+1) (by simp)
 go_enter Tryz.func154,Tryz.ntmps154
 go_wp2_with fail
 generalize (((w.alloc (.cells #[.int .i64 d,.int .i64 t] 51)).alloc (.cells #[.int .i64 d',.int .i64 t'] 51)).alloc (.cells #[.int .i64 0,.int .i64 0] 51))=W at *
 refine Calls.mono (HC W).out ?_;rintro e w1 ⟨rfl,hb1⟩
 clear HC
 have X1:=X0.below hb1 X0.lt
 have Y1:=Y0.below hb1 Y0.lt
 have R1:=R0.below hb1 R0.lt
 have hW1:=hW.trans (hb1.mono hW.size)
 clear X0 Y0 R0 hW hb1
 have x0:w1.cell? ⟨w.heap.size,0,none⟩=some (.int .i64 d):=X1.cell 0
 have x1:w1.cell? ⟨w.heap.size,1,none⟩=some (.int .i64 t):=X1.cell 1
 have y0:w1.cell? ⟨w.heap.size+1,0,none⟩=some (.int .i64 d'):=Y1.cell 0
 have y1:w1.cell? ⟨w.heap.size+1,1,none⟩=some (.int .i64 t'):=Y1.cell 1
 go_wp2_with fail
 refine Calls.mono (HR _).out ?_;rintro e w2 ⟨rfl,hb2⟩
 have R2:=R1.below hb2 R1.lt
 have hW2:=hW1.trans (hb2.mono hW1.size)
 clear x0 x1 y0 y1 X1 Y1 R1 hW1 hb2
 go_wp2_with fail
 refine Calls.mono (HL _).out ?_;rintro e w3 ⟨rfl,hb3⟩
 have R3:=R2.below hb3 R2.lt
 have hW3:=hW2.trans (hb3.mono hW2.size)
 have c0:w3.cell? ⟨w.heap.size+1+1,0,none⟩=some (.int .i64 0):=R3.cell 0
 have c1:w3.cell? ⟨w.heap.size+1+1,1,none⟩=some (.int .i64 0):=R3.cell 1
 have f0:w3.frozen? ⟨w.heap.size+1+1,0,none⟩=false:=R3.frozen 0
 have f1:w3.frozen? ⟨w.heap.size+1+1,1,none⟩=false:=R3.frozen 1
 have hs:=hW3.size
 clear R2 hW2 hb3
 go_wp2
 refine bodyPost_ret (v:=.tuple #[.agg #[.int .i64 gx,.int .i64 gy],.int .i64 gc]) (by simp [results,Tryz.results154,go_sem,c0,c1]) rfl ⟨rfl,(by repeat first | with_reducible (first | exact hW3 | apply below_drewN' | apply Below.drew | refine Below.alloc ?_ ?_ _ | refine Below.setCell ?_ ?_ _) | exact hW3 | omega | (simp <;> omega) | (have:=(hW3).size;first | omega | (simp <;> omega)))⟩
end Go.Proofs.YtednjmldjbndhaaGreat
