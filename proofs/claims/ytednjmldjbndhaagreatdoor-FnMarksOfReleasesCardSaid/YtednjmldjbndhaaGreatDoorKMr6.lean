/- Places on a chart's scales: the program's. Conditions: the chart's and the figure's bounds. -/
import Derived.BigQuiet
import Derived.Test.YtednjmldjbndhaaGreatDoorKMr3
import Derived.Test.YtednjmldjbndhaaGreatDoorKMr5
set_option linter.unusedSimpArgs false
set_option linter.unusedVariables false
set_option maxRecDepth 100000
set_option maxHeartbeats 8000000
namespace Go.Proofs.YtednjmldjbndhaaGreatDoor
open Go.RowKit
def pl2 (n:Int) (f:Figure):Int × Int:=if plCode n f=0 then (plLo n (figLo f.digits f.tens) (figHi f.digits f.tens),plHi n (figLo f.digits f.tens) (figHi f.digits f.tens)) else (0,0)
theorem mul_abs {a b:Int} {A B:Nat} (ha:-(A:Int) ≤ a∧a ≤ A) (hb:-(B:Int) ≤ b∧b ≤ B):-((A * B:Nat):Int) ≤ a * b∧a * b ≤ (A * B:Nat):=by
 have h1:a.natAbs ≤ A:=by omega
 have h2:b.natAbs ≤ B:=by omega
 have h3:(a * b).natAbs ≤ A * B:=by rw [Int.natAbs_mul];exact Nat.mul_le_mul h1 h2
 omega
theorem then_world {K:Act→World→Prop} {Q':Exit→Act→World→Prop} {e:Exit} {a:Act} {W:World} {R:World→Prop} (h0:R W) (h:∀ V,R V→Exit.then K Q' e a V):Exit.then K Q' e a W:=h _ h0
theorem isPlace_c (n:Int) (w:World):Calls Tryz.prog 150 #[.int .i64 n] w fun e w'=>e=.returned (.bool (inB n (-100000) 100000))∧w=w':=by
 go_enter Tryz.func150,Tryz.ntmps150
 go_wp2_with (go_at_call 66;refine (within_c _ _ _ _).mono ?_;rintro e w' ⟨rfl,rfl⟩)
 go_ret
 exact ⟨rfl,rfl⟩
theorem chartPlace0_c (fd ft:Int) (s:ByteArray) (b off c:Nat) (p0 p1 wd lf rt:Int) (f:Figure) (w:World) (hb:b < w.heap.size) (c0:w.cell? ⟨b,off,none⟩=some (.int .i64 p0)) (c1:w.cell? ⟨b,off+1,none⟩=some (.int .i64 p1))
  (hp0:-6 ≤ p0∧p0 ≤ 6) (hp1:-6 ≤ p1∧p1 ≤ 6) (hlf:100 ≤ lf∧lf ≤ 20000) (hrt:100 ≤ rt∧rt ≤ 20000) (hf:(1000 ≤ f.digits∧f.digits ≤ 9999)∧(-30 ≤ f.tens∧f.tens ≤ 30)) :
  Calls Tryz.prog 134 #[.agg #[.int .i64 fd,.int .i64 ft,.string s,.slice (some ⟨b,off,none⟩) 2 c,.int .i64 wd,.int .i64 lf,.int .i64 rt],.int .i64 0,f.agg] w fun e w'=>e=.returned (.tuple #[.agg #[.int .i64 (pl2 (lf * p0) f).1,.int .i64 (pl2 (lf * p0) f).2],.int .i64 (plCode (lf * p0) f)])∧Below w.heap.size w w':=by
 have q0:-120000 ≤ lf * p0∧lf * p0 ≤ 120000:=mul_abs (a:=lf) (b:=p0) (A:=20000) (B:=6) (by omega) (by omega)
 have q1:-120000 ≤ rt * p1∧rt * p1 ≤ 120000:=mul_abs (a:=rt) (b:=p1) (A:=20000) (B:=6) (by omega) (by omega)
 have HL:=fun W=>figureLog_c f W hf.1 hf.2
 have e1:logLow (f.digits * 100000)+f.tens * 1048576=figLo f.digits f.tens:=rfl
 have e2:logHigh (f.digits * 100000)+f.tens * 1048576=figHi f.digits f.tens:=rfl
 simp only [e1,e2] at HL
 have bd:=figLo_bd hf.1 hf.2
 generalize hx1:(pl2 (lf * p0) f).1=X1
 generalize hx2:(pl2 (lf * p0) f).2=X2
 generalize hx3:plCode (lf * p0) f=X3
 have hX:Hid ((pl2 (lf * p0) f).1=X1∧(pl2 (lf * p0) f).2=X2∧plCode (lf * p0) f=X3):=⟨hx1,hx2,hx3⟩
 clear hx1 hx2 hx3
 unfold pl2 plCode plLo plHi at hX
 generalize figLo f.digits f.tens=lo at *
 generalize figHi f.digits f.tens=hi at *
 clear e1 e2 hf
 unfold Figure.agg at HL ⊢
 replace HL:=fun W=>Lib.hid (HL W)
 have hW:Below w.heap.size w (((w.alloc (.cells #[.int .i64 fd,.int .i64 ft,.string s,.slice (some ⟨b,off,none⟩) 2 c,.int .i64 wd,.int .i64 lf,.int .i64 rt] 31)).alloc (.cells #[.int .i64 f.digits,.int .i64 f.tens] 26)).alloc (.cells #[.int .i64 0,.int .i64 0] 149)):=(by repeat first | with_reducible (first | exact Below.refl _ _ | apply below_drewN' | apply Below.drew | refine Below.alloc ?_ ?_ _ | refine Below.setCell ?_ ?_ _) | exact Below.refl _ _ | omega | (simp <;> omega) | (have:=(Below.refl _ _).size;first | omega | (simp <;> omega)))
 have B0:=((Blk.new w 31 #[.int .i64 fd,.int .i64 ft,.string s,.slice (some ⟨b,off,none⟩) 2 c,.int .i64 wd,.int .i64 lf,.int .i64 rt]).alloc (.cells #[.int .i64 f.digits,.int .i64 f.tens] 26)).alloc (.cells #[.int .i64 0,.int .i64 0] 149)
 have B2:=Blk.new' ((w.alloc (.cells #[.int .i64 fd,.int .i64 ft,.string s,.slice (some ⟨b,off,none⟩) 2 c,.int .i64 wd,.int .i64 lf,.int .i64 rt] 31)).alloc (.cells #[.int .i64 f.digits,.int .i64 f.tens] 26)) 149 #[.int .i64 0,.int .i64 0] (g:=w.heap.size+1+1) (by simp)
 go_enter Tryz.func134,Tryz.ntmps134
 go_wp2_with fail
 refine Calls.mono (HL _).out ?_;rintro e w1 ⟨rfl,hb1⟩
 have hW1:=hW.trans (hb1.mono hW.size)
 have D0:=(B0.below hb1 B0.lt).alloc (.cells #[.int .i64 lo,.int .i64 hi] 149)
 have D2:=(B2.below hb1 B2.lt).alloc (.cells #[.int .i64 lo,.int .i64 hi] 149)
 have z2:=(B2.below hb1 B2.lt).lt
 have D8:=Blk.new w1 149 #[.int .i64 lo,.int .i64 hi]
 have hW2:Below w.heap.size w (w1.alloc (.cells #[.int .i64 lo,.int .i64 hi] 149)):=(by repeat first | with_reducible (first | exact hW1 | apply below_drewN' | apply Below.drew | refine Below.alloc ?_ ?_ _ | refine Below.setCell ?_ ?_ _) | exact hW1 | omega | (simp <;> omega) | (have:=(hW1).size;first | omega | (simp <;> omega)))
 have x0:(w1.alloc (.cells #[.int .i64 lo,.int .i64 hi] 149)).cell? ⟨b,off,none⟩=some (.int .i64 p0):=by rw [hW2.cell hb];exact c0
 have x1:(w1.alloc (.cells #[.int .i64 lo,.int .i64 hi] 149)).cell? ⟨b,off+1,none⟩=some (.int .i64 p1):=by rw [hW2.cell hb];exact c1
 clear B0 B2 hW hb1 hW1 HL
 go_wp2_with fail
 generalize w1.alloc (.cells #[.int .i64 lo,.int .i64 hi] 149)=W at *
 generalize w1.heap.size=g at *
 have y3:W.cell? ⟨w.heap.size,3,none⟩=some (.slice (some ⟨b,off,none⟩) 2 c):=D0.cell 3
 have y5:W.cell? ⟨w.heap.size,5,none⟩=some (.int .i64 lf):=D0.cell 5
 have y6:W.cell? ⟨w.heap.size,6,none⟩=some (.int .i64 rt):=D0.cell 6
 have i0:W.cell? ⟨g,0,none⟩=some (.int .i64 lo):=D8.cell 0
 have i1:W.cell? ⟨g,1,none⟩=some (.int .i64 hi):=D8.cell 1
 go_quiet (fail)
 go_wp2_with fail
 generalize lf * p0=n at *
 have ml:=mul_abs (A:=33554432) (B:=120000) bd.1 q0
 have mh:=mul_abs (A:=33554432) (B:=120000) bd.2 q0
 simp only [Nat.reduceMul,Int.cast_ofNat_Int] at ml mh
 go_quiet (fail)
 generalize lo * n=A at *
 generalize hi * n=B at *
 clear bd q0 q1 x0 x1 y3 y5 y6 i0 i1 D0 D8 c0 c1
 refine then_world (R:=fun V=>Blk V (w.heap.size+1+1) 149 #[.int .i64 0,.int .i64 0]∧Below w.heap.size w V) ⟨D2,(by repeat first | with_reducible (first | exact hW2 | apply below_drewN' | apply Below.drew | refine Below.alloc ?_ ?_ _ | refine Below.setCell ?_ ?_ _) | exact hW2 | omega | (simp <;> omega) | (have:=(hW2).size;first | omega | (simp <;> omega)))⟩ (fun V hV=>?_)
 clear D2 hW2 z2
 obtain ⟨D2,hW2⟩:=hV
 have z3:=D2.lt
 have r0:V.cell? ⟨w.heap.size+1+1,0,none⟩=some (.int .i64 0):=D2.cell 0
 have r1:V.cell? ⟨w.heap.size+1+1,1,none⟩=some (.int .i64 0):=D2.cell 1
 have rf0:V.frozen? ⟨w.heap.size+1+1,0,none⟩=false:=D2.frozen 0
 have rf1:V.frozen? ⟨w.heap.size+1+1,1,none⟩=false:=D2.frozen 1
 rcases Int.lt_trichotomy B A with h | h | h
 ·have h2:¬ A < B:=by omega
  have em:min A B=B:=by omega
  have eM:max A B=A:=by omega
  have HD:=fun W=>Lib.hid (down_c B 1048576 W (by omega) (by omega))
  have HU:=fun W=>Lib.hid (up_c A 1048576 W (by omega) (by omega))
  have HX:=fun W=>isPlace_c (B / 1048576) W
  have HY:=fun W=>isPlace_c (-(-A / 1048576)) W
  
  generalize ex:B / 1048576=x at HD HX
  generalize ey:-(-A / 1048576)=y at HU HY
  clear ml mh
  have hp:∀ bx by_:Bool,inB x (-100000) 100000=bx→inB y (-100000) 100000=by_→Hid ((if (inB (min A B / 1048576) (-100000) 100000 && inB (-(-max A B / 1048576)) (-100000) 100000)=true then (0:Int) else 3)=if (bx && by_)=true then 0 else 3):=fun bx by_ h1 h2=>by rw [em,eM,ex,ey,h1,h2];rfl
  cases hx:inB x (-100000) 100000 with
  | false =>
   simp only [hx] at HX
   replace HX:=fun W=>Lib.hid (HX W)
   go_wp2_with (first | (go_at_call 91;refine (HD _).out.mono ?_;rintro e w5 ⟨rfl,rfl⟩) | (go_at_call 79;refine (HU _).out.mono ?_;rintro e w5 ⟨rfl,rfl⟩) | (go_at_call 150;refine (HX _).out.mono ?_;rintro e w5 ⟨rfl,rfl⟩))
   refine bodyPost_ret (v:=.tuple #[.agg #[.int .i64 0,.int .i64 0],.int .i64 3]) (by simp [results,Tryz.results134,go_sem,r0,r1,z3]) rfl ⟨?_,(by repeat first | with_reducible (first | exact hW2 | apply below_drewN' | apply Below.drew | refine Below.alloc ?_ ?_ _ | refine Below.setCell ?_ ?_ _) | exact hW2 | omega | (simp <;> omega) | (have:=(hW2).size;first | omega | (simp <;> omega)))⟩
   obtain ⟨u1,u2,u3⟩:=hX.out
   rw [(hp false _ hx rfl).out] at u1 u2 u3
   simp [em,eM,ex,ey] at u1 u2 u3
   rw [← u1,← u2,← u3]
  | true =>
   simp only [hx] at HX
   replace HX:=fun W=>Lib.hid (HX W)
   cases hy:inB y (-100000) 100000 with
   | false =>
    simp only [hy] at HY
    replace HY:=fun W=>Lib.hid (HY W)
    go_wp2_with (first | (go_at_call 91;refine (HD _).out.mono ?_;rintro e w5 ⟨rfl,rfl⟩) | (go_at_call 79;refine (HU _).out.mono ?_;rintro e w5 ⟨rfl,rfl⟩) | (go_at_call 150;refine (HX _).out.mono ?_;rintro e w5 ⟨rfl,rfl⟩) | (go_at_call 150;refine (HY _).out.mono ?_;rintro e w5 ⟨rfl,rfl⟩))
    refine bodyPost_ret (v:=.tuple #[.agg #[.int .i64 0,.int .i64 0],.int .i64 3]) (by simp [results,Tryz.results134,go_sem,r0,r1,z3]) rfl ⟨?_,(by repeat first | with_reducible (first | exact hW2 | apply below_drewN' | apply Below.drew | refine Below.alloc ?_ ?_ _ | refine Below.setCell ?_ ?_ _) | exact hW2 | omega | (simp <;> omega) | (have:=(hW2).size;first | omega | (simp <;> omega)))⟩
    obtain ⟨u1,u2,u3⟩:=hX.out
    rw [(hp true false hx hy).out] at u1 u2 u3
    simp [em,eM,ex,ey] at u1 u2 u3
    rw [← u1,← u2,← u3]
   | true =>
    simp only [hy] at HY
    replace HY:=fun W=>Lib.hid (HY W)
    go_wp2_with (first | (go_at_call 91;refine (HD _).out.mono ?_;rintro e w5 ⟨rfl,rfl⟩) | (go_at_call 79;refine (HU _).out.mono ?_;rintro e w5 ⟨rfl,rfl⟩) | (go_at_call 150;refine (HX _).out.mono ?_;rintro e w5 ⟨rfl,rfl⟩) | (go_at_call 150;refine (HY _).out.mono ?_;rintro e w5 ⟨rfl,rfl⟩))
    refine bodyPost_ret (v:=.tuple #[.agg #[.int .i64 x,.int .i64 y],.int .i64 0]) (by simp [results,Tryz.results134,go_sem,r0,r1,z3]) rfl ⟨?_,(by repeat first | with_reducible (first | exact hW2 | apply below_drewN' | apply Below.drew | refine Below.alloc ?_ ?_ _ | refine Below.setCell ?_ ?_ _) | exact hW2 | omega | (simp <;> omega) | (have:=(hW2).size;first | omega | (simp <;> omega)))⟩
    obtain ⟨u1,u2,u3⟩:=hX.out
    rw [(hp true true hx hy).out] at u1 u2 u3
    simp [em,eM,ex,ey] at u1 u2 u3
    rw [← u1,← u2,← u3]
 ·subst h
  have em:min B B=B:=by omega
  have eM:max B B=B:=by omega
  have HD:=fun W=>Lib.hid (down_c B 1048576 W (by omega) (by omega))
  have HU:=fun W=>Lib.hid (up_c B 1048576 W (by omega) (by omega))
  have HX:=fun W=>isPlace_c (B / 1048576) W
  have HY:=fun W=>isPlace_c (-(-B / 1048576)) W
  
  generalize ex:B / 1048576=x at HD HX
  generalize ey:-(-B / 1048576)=y at HU HY
  clear ml mh
  have hp:∀ bx by_:Bool,inB x (-100000) 100000=bx→inB y (-100000) 100000=by_→Hid ((if (inB (min B B / 1048576) (-100000) 100000 && inB (-(-max B B / 1048576)) (-100000) 100000)=true then (0:Int) else 3)=if (bx && by_)=true then 0 else 3):=fun bx by_ h1 h2=>by rw [em,eM,ex,ey,h1,h2];rfl
  cases hx:inB x (-100000) 100000 with
  | false =>
   simp only [hx] at HX
   replace HX:=fun W=>Lib.hid (HX W)
   go_wp2_with (first | (go_at_call 91;refine (HD _).out.mono ?_;rintro e w5 ⟨rfl,rfl⟩) | (go_at_call 79;refine (HU _).out.mono ?_;rintro e w5 ⟨rfl,rfl⟩) | (go_at_call 150;refine (HX _).out.mono ?_;rintro e w5 ⟨rfl,rfl⟩))
   refine bodyPost_ret (v:=.tuple #[.agg #[.int .i64 0,.int .i64 0],.int .i64 3]) (by simp [results,Tryz.results134,go_sem,r0,r1,z3]) rfl ⟨?_,(by repeat first | with_reducible (first | exact hW2 | apply below_drewN' | apply Below.drew | refine Below.alloc ?_ ?_ _ | refine Below.setCell ?_ ?_ _) | exact hW2 | omega | (simp <;> omega) | (have:=(hW2).size;first | omega | (simp <;> omega)))⟩
   obtain ⟨u1,u2,u3⟩:=hX.out
   rw [(hp false _ hx rfl).out] at u1 u2 u3
   simp [em,eM,ex,ey] at u1 u2 u3
   rw [← u1,← u2,← u3]
  | true =>
   simp only [hx] at HX
   replace HX:=fun W=>Lib.hid (HX W)
   cases hy:inB y (-100000) 100000 with
   | false =>
    simp only [hy] at HY
    replace HY:=fun W=>Lib.hid (HY W)
    go_wp2_with (first | (go_at_call 91;refine (HD _).out.mono ?_;rintro e w5 ⟨rfl,rfl⟩) | (go_at_call 79;refine (HU _).out.mono ?_;rintro e w5 ⟨rfl,rfl⟩) | (go_at_call 150;refine (HX _).out.mono ?_;rintro e w5 ⟨rfl,rfl⟩) | (go_at_call 150;refine (HY _).out.mono ?_;rintro e w5 ⟨rfl,rfl⟩))
    refine bodyPost_ret (v:=.tuple #[.agg #[.int .i64 0,.int .i64 0],.int .i64 3]) (by simp [results,Tryz.results134,go_sem,r0,r1,z3]) rfl ⟨?_,(by repeat first | with_reducible (first | exact hW2 | apply below_drewN' | apply Below.drew | refine Below.alloc ?_ ?_ _ | refine Below.setCell ?_ ?_ _) | exact hW2 | omega | (simp <;> omega) | (have:=(hW2).size;first | omega | (simp <;> omega)))⟩
    obtain ⟨u1,u2,u3⟩:=hX.out
    rw [(hp true false hx hy).out] at u1 u2 u3
    simp [em,eM,ex,ey] at u1 u2 u3
    rw [← u1,← u2,← u3]
   | true =>
    simp only [hy] at HY
    replace HY:=fun W=>Lib.hid (HY W)
    go_wp2_with (first | (go_at_call 91;refine (HD _).out.mono ?_;rintro e w5 ⟨rfl,rfl⟩) | (go_at_call 79;refine (HU _).out.mono ?_;rintro e w5 ⟨rfl,rfl⟩) | (go_at_call 150;refine (HX _).out.mono ?_;rintro e w5 ⟨rfl,rfl⟩) | (go_at_call 150;refine (HY _).out.mono ?_;rintro e w5 ⟨rfl,rfl⟩))
    refine bodyPost_ret (v:=.tuple #[.agg #[.int .i64 x,.int .i64 y],.int .i64 0]) (by simp [results,Tryz.results134,go_sem,r0,r1,z3]) rfl ⟨?_,(by repeat first | with_reducible (first | exact hW2 | apply below_drewN' | apply Below.drew | refine Below.alloc ?_ ?_ _ | refine Below.setCell ?_ ?_ _) | exact hW2 | omega | (simp <;> omega) | (have:=(hW2).size;first | omega | (simp <;> omega)))⟩
    obtain ⟨u1,u2,u3⟩:=hX.out
    rw [(hp true true hx hy).out] at u1 u2 u3
    simp [em,eM,ex,ey] at u1 u2 u3
    rw [← u1,← u2,← u3]
 ·have h2:¬ B < A:=by omega
  have em:min A B=A:=by omega
  have eM:max A B=B:=by omega
  have HD:=fun W=>Lib.hid (down_c A 1048576 W (by omega) (by omega))
  have HU:=fun W=>Lib.hid (up_c B 1048576 W (by omega) (by omega))
  have HX:=fun W=>isPlace_c (A / 1048576) W
  have HY:=fun W=>isPlace_c (-(-B / 1048576)) W
  
  generalize ex:A / 1048576=x at HD HX
  generalize ey:-(-B / 1048576)=y at HU HY
  clear ml mh
  have hp:∀ bx by_:Bool,inB x (-100000) 100000=bx→inB y (-100000) 100000=by_→Hid ((if (inB (min A B / 1048576) (-100000) 100000 && inB (-(-max A B / 1048576)) (-100000) 100000)=true then (0:Int) else 3)=if (bx && by_)=true then 0 else 3):=fun bx by_ h1 h2=>by rw [em,eM,ex,ey,h1,h2];rfl
  cases hx:inB x (-100000) 100000 with
  | false =>
   simp only [hx] at HX
   replace HX:=fun W=>Lib.hid (HX W)
   go_wp2_with (first | (go_at_call 91;refine (HD _).out.mono ?_;rintro e w5 ⟨rfl,rfl⟩) | (go_at_call 79;refine (HU _).out.mono ?_;rintro e w5 ⟨rfl,rfl⟩) | (go_at_call 150;refine (HX _).out.mono ?_;rintro e w5 ⟨rfl,rfl⟩))
   refine bodyPost_ret (v:=.tuple #[.agg #[.int .i64 0,.int .i64 0],.int .i64 3]) (by simp [results,Tryz.results134,go_sem,r0,r1,z3]) rfl ⟨?_,(by repeat first | with_reducible (first | exact hW2 | apply below_drewN' | apply Below.drew | refine Below.alloc ?_ ?_ _ | refine Below.setCell ?_ ?_ _) | exact hW2 | omega | (simp <;> omega) | (have:=(hW2).size;first | omega | (simp <;> omega)))⟩
   obtain ⟨u1,u2,u3⟩:=hX.out
   rw [(hp false _ hx rfl).out] at u1 u2 u3
   simp [em,eM,ex,ey] at u1 u2 u3
   rw [← u1,← u2,← u3]
  | true =>
   simp only [hx] at HX
   replace HX:=fun W=>Lib.hid (HX W)
   cases hy:inB y (-100000) 100000 with
   | false =>
    simp only [hy] at HY
    replace HY:=fun W=>Lib.hid (HY W)
    go_wp2_with (first | (go_at_call 91;refine (HD _).out.mono ?_;rintro e w5 ⟨rfl,rfl⟩) | (go_at_call 79;refine (HU _).out.mono ?_;rintro e w5 ⟨rfl,rfl⟩) | (go_at_call 150;refine (HX _).out.mono ?_;rintro e w5 ⟨rfl,rfl⟩) | (go_at_call 150;refine (HY _).out.mono ?_;rintro e w5 ⟨rfl,rfl⟩))
    refine bodyPost_ret (v:=.tuple #[.agg #[.int .i64 0,.int .i64 0],.int .i64 3]) (by simp [results,Tryz.results134,go_sem,r0,r1,z3]) rfl ⟨?_,(by repeat first | with_reducible (first | exact hW2 | apply below_drewN' | apply Below.drew | refine Below.alloc ?_ ?_ _ | refine Below.setCell ?_ ?_ _) | exact hW2 | omega | (simp <;> omega) | (have:=(hW2).size;first | omega | (simp <;> omega)))⟩
    obtain ⟨u1,u2,u3⟩:=hX.out
    rw [(hp true false hx hy).out] at u1 u2 u3
    simp [em,eM,ex,ey] at u1 u2 u3
    rw [← u1,← u2,← u3]
   | true =>
    simp only [hy] at HY
    replace HY:=fun W=>Lib.hid (HY W)
    go_wp2_with (first | (go_at_call 91;refine (HD _).out.mono ?_;rintro e w5 ⟨rfl,rfl⟩) | (go_at_call 79;refine (HU _).out.mono ?_;rintro e w5 ⟨rfl,rfl⟩) | (go_at_call 150;refine (HX _).out.mono ?_;rintro e w5 ⟨rfl,rfl⟩) | (go_at_call 150;refine (HY _).out.mono ?_;rintro e w5 ⟨rfl,rfl⟩))
    refine bodyPost_ret (v:=.tuple #[.agg #[.int .i64 x,.int .i64 y],.int .i64 0]) (by simp [results,Tryz.results134,go_sem,r0,r1,z3]) rfl ⟨?_,(by repeat first | with_reducible (first | exact hW2 | apply below_drewN' | apply Below.drew | refine Below.alloc ?_ ?_ _ | refine Below.setCell ?_ ?_ _) | exact hW2 | omega | (simp <;> omega) | (have:=(hW2).size;first | omega | (simp <;> omega)))⟩
    obtain ⟨u1,u2,u3⟩:=hX.out
    rw [(hp true true hx hy).out] at u1 u2 u3
    simp [em,eM,ex,ey] at u1 u2 u3
    rw [← u1,← u2,← u3]
theorem chartPlace1_c (fd ft:Int) (s:ByteArray) (b off c:Nat) (p0 p1 wd lf rt:Int) (f:Figure) (w:World) (hb:b < w.heap.size) (c0:w.cell? ⟨b,off,none⟩=some (.int .i64 p0)) (c1:w.cell? ⟨b,off+1,none⟩=some (.int .i64 p1))
  (hp0:-6 ≤ p0∧p0 ≤ 6) (hp1:-6 ≤ p1∧p1 ≤ 6) (hlf:100 ≤ lf∧lf ≤ 20000) (hrt:100 ≤ rt∧rt ≤ 20000) (hf:(1000 ≤ f.digits∧f.digits ≤ 9999)∧(-30 ≤ f.tens∧f.tens ≤ 30)) :
  Calls Tryz.prog 134 #[.agg #[.int .i64 fd,.int .i64 ft,.string s,.slice (some ⟨b,off,none⟩) 2 c,.int .i64 wd,.int .i64 lf,.int .i64 rt],.int .i64 1,f.agg] w fun e w'=>e=.returned (.tuple #[.agg #[.int .i64 (pl2 (rt * p1) f).1,.int .i64 (pl2 (rt * p1) f).2],.int .i64 (plCode (rt * p1) f)])∧Below w.heap.size w w':=by
 have q0:-120000 ≤ lf * p0∧lf * p0 ≤ 120000:=mul_abs (a:=lf) (b:=p0) (A:=20000) (B:=6) (by omega) (by omega)
 have q1:-120000 ≤ rt * p1∧rt * p1 ≤ 120000:=mul_abs (a:=rt) (b:=p1) (A:=20000) (B:=6) (by omega) (by omega)
 have HL:=fun W=>figureLog_c f W hf.1 hf.2
 have e1:logLow (f.digits * 100000)+f.tens * 1048576=figLo f.digits f.tens:=rfl
 have e2:logHigh (f.digits * 100000)+f.tens * 1048576=figHi f.digits f.tens:=rfl
 simp only [e1,e2] at HL
 have bd:=figLo_bd hf.1 hf.2
 generalize hx1:(pl2 (rt * p1) f).1=X1
 generalize hx2:(pl2 (rt * p1) f).2=X2
 generalize hx3:plCode (rt * p1) f=X3
 have hX:Hid ((pl2 (rt * p1) f).1=X1∧(pl2 (rt * p1) f).2=X2∧plCode (rt * p1) f=X3):=⟨hx1,hx2,hx3⟩
 clear hx1 hx2 hx3
 unfold pl2 plCode plLo plHi at hX
 generalize figLo f.digits f.tens=lo at *
 generalize figHi f.digits f.tens=hi at *
 clear e1 e2 hf
 unfold Figure.agg at HL ⊢
 replace HL:=fun W=>Lib.hid (HL W)
 have hW:Below w.heap.size w (((w.alloc (.cells #[.int .i64 fd,.int .i64 ft,.string s,.slice (some ⟨b,off,none⟩) 2 c,.int .i64 wd,.int .i64 lf,.int .i64 rt] 31)).alloc (.cells #[.int .i64 f.digits,.int .i64 f.tens] 26)).alloc (.cells #[.int .i64 0,.int .i64 0] 149)):=(by repeat first | with_reducible (first | exact Below.refl _ _ | apply below_drewN' | apply Below.drew | refine Below.alloc ?_ ?_ _ | refine Below.setCell ?_ ?_ _) | exact Below.refl _ _ | omega | (simp <;> omega) | (have:=(Below.refl _ _).size;first | omega | (simp <;> omega)))
 have B0:=((Blk.new w 31 #[.int .i64 fd,.int .i64 ft,.string s,.slice (some ⟨b,off,none⟩) 2 c,.int .i64 wd,.int .i64 lf,.int .i64 rt]).alloc (.cells #[.int .i64 f.digits,.int .i64 f.tens] 26)).alloc (.cells #[.int .i64 0,.int .i64 0] 149)
 have B2:=Blk.new' ((w.alloc (.cells #[.int .i64 fd,.int .i64 ft,.string s,.slice (some ⟨b,off,none⟩) 2 c,.int .i64 wd,.int .i64 lf,.int .i64 rt] 31)).alloc (.cells #[.int .i64 f.digits,.int .i64 f.tens] 26)) 149 #[.int .i64 0,.int .i64 0] (g:=w.heap.size+1+1) (by simp)
 go_enter Tryz.func134,Tryz.ntmps134
 go_wp2_with fail
 refine Calls.mono (HL _).out ?_;rintro e w1 ⟨rfl,hb1⟩
 have hW1:=hW.trans (hb1.mono hW.size)
 have D0:=(B0.below hb1 B0.lt).alloc (.cells #[.int .i64 lo,.int .i64 hi] 149)
 have D2:=(B2.below hb1 B2.lt).alloc (.cells #[.int .i64 lo,.int .i64 hi] 149)
 have z2:=(B2.below hb1 B2.lt).lt
 have D8:=Blk.new w1 149 #[.int .i64 lo,.int .i64 hi]
 have hW2:Below w.heap.size w (w1.alloc (.cells #[.int .i64 lo,.int .i64 hi] 149)):=(by repeat first | with_reducible (first | exact hW1 | apply below_drewN' | apply Below.drew | refine Below.alloc ?_ ?_ _ | refine Below.setCell ?_ ?_ _) | exact hW1 | omega | (simp <;> omega) | (have:=(hW1).size;first | omega | (simp <;> omega)))
 have x0:(w1.alloc (.cells #[.int .i64 lo,.int .i64 hi] 149)).cell? ⟨b,off,none⟩=some (.int .i64 p0):=by rw [hW2.cell hb];exact c0
 have x1:(w1.alloc (.cells #[.int .i64 lo,.int .i64 hi] 149)).cell? ⟨b,off+1,none⟩=some (.int .i64 p1):=by rw [hW2.cell hb];exact c1
 clear B0 B2 hW hb1 hW1 HL
 go_wp2_with fail
 generalize w1.alloc (.cells #[.int .i64 lo,.int .i64 hi] 149)=W at *
 generalize w1.heap.size=g at *
 have y3:W.cell? ⟨w.heap.size,3,none⟩=some (.slice (some ⟨b,off,none⟩) 2 c):=D0.cell 3
 have y5:W.cell? ⟨w.heap.size,5,none⟩=some (.int .i64 lf):=D0.cell 5
 have y6:W.cell? ⟨w.heap.size,6,none⟩=some (.int .i64 rt):=D0.cell 6
 have i0:W.cell? ⟨g,0,none⟩=some (.int .i64 lo):=D8.cell 0
 have i1:W.cell? ⟨g,1,none⟩=some (.int .i64 hi):=D8.cell 1
 go_quiet (fail)
 go_wp2_with fail
 go_quiet (fail)
 go_wp2_with fail
 generalize rt * p1=n at *
 have ml:=mul_abs (A:=33554432) (B:=120000) bd.1 q1
 have mh:=mul_abs (A:=33554432) (B:=120000) bd.2 q1
 simp only [Nat.reduceMul,Int.cast_ofNat_Int] at ml mh
 go_quiet (fail)
 generalize lo * n=A at *
 generalize hi * n=B at *
 clear bd q0 q1 x0 x1 y3 y5 y6 i0 i1 D0 D8 c0 c1
 refine then_world (R:=fun V=>Blk V (w.heap.size+1+1) 149 #[.int .i64 0,.int .i64 0]∧Below w.heap.size w V) ⟨D2,(by repeat first | with_reducible (first | exact hW2 | apply below_drewN' | apply Below.drew | refine Below.alloc ?_ ?_ _ | refine Below.setCell ?_ ?_ _) | exact hW2 | omega | (simp <;> omega) | (have:=(hW2).size;first | omega | (simp <;> omega)))⟩ (fun V hV=>?_)
 clear D2 hW2 z2
 obtain ⟨D2,hW2⟩:=hV
 have z3:=D2.lt
 have r0:V.cell? ⟨w.heap.size+1+1,0,none⟩=some (.int .i64 0):=D2.cell 0
 have r1:V.cell? ⟨w.heap.size+1+1,1,none⟩=some (.int .i64 0):=D2.cell 1
 have rf0:V.frozen? ⟨w.heap.size+1+1,0,none⟩=false:=D2.frozen 0
 have rf1:V.frozen? ⟨w.heap.size+1+1,1,none⟩=false:=D2.frozen 1
 rcases Int.lt_trichotomy B A with h | h | h
 ·have h2:¬ A < B:=by omega
  have em:min A B=B:=by omega
  have eM:max A B=A:=by omega
  have HD:=fun W=>Lib.hid (down_c B 1048576 W (by omega) (by omega))
  have HU:=fun W=>Lib.hid (up_c A 1048576 W (by omega) (by omega))
  have HX:=fun W=>isPlace_c (B / 1048576) W
  have HY:=fun W=>isPlace_c (-(-A / 1048576)) W
  
  generalize ex:B / 1048576=x at HD HX
  generalize ey:-(-A / 1048576)=y at HU HY
  clear ml mh
  have hp:∀ bx by_:Bool,inB x (-100000) 100000=bx→inB y (-100000) 100000=by_→Hid ((if (inB (min A B / 1048576) (-100000) 100000 && inB (-(-max A B / 1048576)) (-100000) 100000)=true then (0:Int) else 3)=if (bx && by_)=true then 0 else 3):=fun bx by_ h1 h2=>by rw [em,eM,ex,ey,h1,h2];rfl
  cases hx:inB x (-100000) 100000 with
  | false =>
   simp only [hx] at HX
   replace HX:=fun W=>Lib.hid (HX W)
   go_wp2_with (first | (go_at_call 91;refine (HD _).out.mono ?_;rintro e w5 ⟨rfl,rfl⟩) | (go_at_call 79;refine (HU _).out.mono ?_;rintro e w5 ⟨rfl,rfl⟩) | (go_at_call 150;refine (HX _).out.mono ?_;rintro e w5 ⟨rfl,rfl⟩))
   refine bodyPost_ret (v:=.tuple #[.agg #[.int .i64 0,.int .i64 0],.int .i64 3]) (by simp [results,Tryz.results134,go_sem,r0,r1,z3]) rfl ⟨?_,(by repeat first | with_reducible (first | exact hW2 | apply below_drewN' | apply Below.drew | refine Below.alloc ?_ ?_ _ | refine Below.setCell ?_ ?_ _) | exact hW2 | omega | (simp <;> omega) | (have:=(hW2).size;first | omega | (simp <;> omega)))⟩
   obtain ⟨u1,u2,u3⟩:=hX.out
   rw [(hp false _ hx rfl).out] at u1 u2 u3
   simp [em,eM,ex,ey] at u1 u2 u3
   rw [← u1,← u2,← u3]
  | true =>
   simp only [hx] at HX
   replace HX:=fun W=>Lib.hid (HX W)
   cases hy:inB y (-100000) 100000 with
   | false =>
    simp only [hy] at HY
    replace HY:=fun W=>Lib.hid (HY W)
    go_wp2_with (first | (go_at_call 91;refine (HD _).out.mono ?_;rintro e w5 ⟨rfl,rfl⟩) | (go_at_call 79;refine (HU _).out.mono ?_;rintro e w5 ⟨rfl,rfl⟩) | (go_at_call 150;refine (HX _).out.mono ?_;rintro e w5 ⟨rfl,rfl⟩) | (go_at_call 150;refine (HY _).out.mono ?_;rintro e w5 ⟨rfl,rfl⟩))
    refine bodyPost_ret (v:=.tuple #[.agg #[.int .i64 0,.int .i64 0],.int .i64 3]) (by simp [results,Tryz.results134,go_sem,r0,r1,z3]) rfl ⟨?_,(by repeat first | with_reducible (first | exact hW2 | apply below_drewN' | apply Below.drew | refine Below.alloc ?_ ?_ _ | refine Below.setCell ?_ ?_ _) | exact hW2 | omega | (simp <;> omega) | (have:=(hW2).size;first | omega | (simp <;> omega)))⟩
    obtain ⟨u1,u2,u3⟩:=hX.out
    rw [(hp true false hx hy).out] at u1 u2 u3
    simp [em,eM,ex,ey] at u1 u2 u3
    rw [← u1,← u2,← u3]
   | true =>
    simp only [hy] at HY
    replace HY:=fun W=>Lib.hid (HY W)
    go_wp2_with (first | (go_at_call 91;refine (HD _).out.mono ?_;rintro e w5 ⟨rfl,rfl⟩) | (go_at_call 79;refine (HU _).out.mono ?_;rintro e w5 ⟨rfl,rfl⟩) | (go_at_call 150;refine (HX _).out.mono ?_;rintro e w5 ⟨rfl,rfl⟩) | (go_at_call 150;refine (HY _).out.mono ?_;rintro e w5 ⟨rfl,rfl⟩))
    refine bodyPost_ret (v:=.tuple #[.agg #[.int .i64 x,.int .i64 y],.int .i64 0]) (by simp [results,Tryz.results134,go_sem,r0,r1,z3]) rfl ⟨?_,(by repeat first | with_reducible (first | exact hW2 | apply below_drewN' | apply Below.drew | refine Below.alloc ?_ ?_ _ | refine Below.setCell ?_ ?_ _) | exact hW2 | omega | (simp <;> omega) | (have:=(hW2).size;first | omega | (simp <;> omega)))⟩
    obtain ⟨u1,u2,u3⟩:=hX.out
    rw [(hp true true hx hy).out] at u1 u2 u3
    simp [em,eM,ex,ey] at u1 u2 u3
    rw [← u1,← u2,← u3]
 ·subst h
  have em:min B B=B:=by omega
  have eM:max B B=B:=by omega
  have HD:=fun W=>Lib.hid (down_c B 1048576 W (by omega) (by omega))
  have HU:=fun W=>Lib.hid (up_c B 1048576 W (by omega) (by omega))
  have HX:=fun W=>isPlace_c (B / 1048576) W
  have HY:=fun W=>isPlace_c (-(-B / 1048576)) W
  
  generalize ex:B / 1048576=x at HD HX
  generalize ey:-(-B / 1048576)=y at HU HY
  clear ml mh
  have hp:∀ bx by_:Bool,inB x (-100000) 100000=bx→inB y (-100000) 100000=by_→Hid ((if (inB (min B B / 1048576) (-100000) 100000 && inB (-(-max B B / 1048576)) (-100000) 100000)=true then (0:Int) else 3)=if (bx && by_)=true then 0 else 3):=fun bx by_ h1 h2=>by rw [em,eM,ex,ey,h1,h2];rfl
  cases hx:inB x (-100000) 100000 with
  | false =>
   simp only [hx] at HX
   replace HX:=fun W=>Lib.hid (HX W)
   go_wp2_with (first | (go_at_call 91;refine (HD _).out.mono ?_;rintro e w5 ⟨rfl,rfl⟩) | (go_at_call 79;refine (HU _).out.mono ?_;rintro e w5 ⟨rfl,rfl⟩) | (go_at_call 150;refine (HX _).out.mono ?_;rintro e w5 ⟨rfl,rfl⟩))
   refine bodyPost_ret (v:=.tuple #[.agg #[.int .i64 0,.int .i64 0],.int .i64 3]) (by simp [results,Tryz.results134,go_sem,r0,r1,z3]) rfl ⟨?_,(by repeat first | with_reducible (first | exact hW2 | apply below_drewN' | apply Below.drew | refine Below.alloc ?_ ?_ _ | refine Below.setCell ?_ ?_ _) | exact hW2 | omega | (simp <;> omega) | (have:=(hW2).size;first | omega | (simp <;> omega)))⟩
   obtain ⟨u1,u2,u3⟩:=hX.out
   rw [(hp false _ hx rfl).out] at u1 u2 u3
   simp [em,eM,ex,ey] at u1 u2 u3
   rw [← u1,← u2,← u3]
  | true =>
   simp only [hx] at HX
   replace HX:=fun W=>Lib.hid (HX W)
   cases hy:inB y (-100000) 100000 with
   | false =>
    simp only [hy] at HY
    replace HY:=fun W=>Lib.hid (HY W)
    go_wp2_with (first | (go_at_call 91;refine (HD _).out.mono ?_;rintro e w5 ⟨rfl,rfl⟩) | (go_at_call 79;refine (HU _).out.mono ?_;rintro e w5 ⟨rfl,rfl⟩) | (go_at_call 150;refine (HX _).out.mono ?_;rintro e w5 ⟨rfl,rfl⟩) | (go_at_call 150;refine (HY _).out.mono ?_;rintro e w5 ⟨rfl,rfl⟩))
    refine bodyPost_ret (v:=.tuple #[.agg #[.int .i64 0,.int .i64 0],.int .i64 3]) (by simp [results,Tryz.results134,go_sem,r0,r1,z3]) rfl ⟨?_,(by repeat first | with_reducible (first | exact hW2 | apply below_drewN' | apply Below.drew | refine Below.alloc ?_ ?_ _ | refine Below.setCell ?_ ?_ _) | exact hW2 | omega | (simp <;> omega) | (have:=(hW2).size;first | omega | (simp <;> omega)))⟩
    obtain ⟨u1,u2,u3⟩:=hX.out
    rw [(hp true false hx hy).out] at u1 u2 u3
    simp [em,eM,ex,ey] at u1 u2 u3
    rw [← u1,← u2,← u3]
   | true =>
    simp only [hy] at HY
    replace HY:=fun W=>Lib.hid (HY W)
    go_wp2_with (first | (go_at_call 91;refine (HD _).out.mono ?_;rintro e w5 ⟨rfl,rfl⟩) | (go_at_call 79;refine (HU _).out.mono ?_;rintro e w5 ⟨rfl,rfl⟩) | (go_at_call 150;refine (HX _).out.mono ?_;rintro e w5 ⟨rfl,rfl⟩) | (go_at_call 150;refine (HY _).out.mono ?_;rintro e w5 ⟨rfl,rfl⟩))
    refine bodyPost_ret (v:=.tuple #[.agg #[.int .i64 x,.int .i64 y],.int .i64 0]) (by simp [results,Tryz.results134,go_sem,r0,r1,z3]) rfl ⟨?_,(by repeat first | with_reducible (first | exact hW2 | apply below_drewN' | apply Below.drew | refine Below.alloc ?_ ?_ _ | refine Below.setCell ?_ ?_ _) | exact hW2 | omega | (simp <;> omega) | (have:=(hW2).size;first | omega | (simp <;> omega)))⟩
    obtain ⟨u1,u2,u3⟩:=hX.out
    rw [(hp true true hx hy).out] at u1 u2 u3
    simp [em,eM,ex,ey] at u1 u2 u3
    rw [← u1,← u2,← u3]
 ·have h2:¬ B < A:=by omega
  have em:min A B=A:=by omega
  have eM:max A B=B:=by omega
  have HD:=fun W=>Lib.hid (down_c A 1048576 W (by omega) (by omega))
  have HU:=fun W=>Lib.hid (up_c B 1048576 W (by omega) (by omega))
  have HX:=fun W=>isPlace_c (A / 1048576) W
  have HY:=fun W=>isPlace_c (-(-B / 1048576)) W
  
  generalize ex:A / 1048576=x at HD HX
  generalize ey:-(-B / 1048576)=y at HU HY
  clear ml mh
  have hp:∀ bx by_:Bool,inB x (-100000) 100000=bx→inB y (-100000) 100000=by_→Hid ((if (inB (min A B / 1048576) (-100000) 100000 && inB (-(-max A B / 1048576)) (-100000) 100000)=true then (0:Int) else 3)=if (bx && by_)=true then 0 else 3):=fun bx by_ h1 h2=>by rw [em,eM,ex,ey,h1,h2];rfl
  cases hx:inB x (-100000) 100000 with
  | false =>
   simp only [hx] at HX
   replace HX:=fun W=>Lib.hid (HX W)
   go_wp2_with (first | (go_at_call 91;refine (HD _).out.mono ?_;rintro e w5 ⟨rfl,rfl⟩) | (go_at_call 79;refine (HU _).out.mono ?_;rintro e w5 ⟨rfl,rfl⟩) | (go_at_call 150;refine (HX _).out.mono ?_;rintro e w5 ⟨rfl,rfl⟩))
   refine bodyPost_ret (v:=.tuple #[.agg #[.int .i64 0,.int .i64 0],.int .i64 3]) (by simp [results,Tryz.results134,go_sem,r0,r1,z3]) rfl ⟨?_,(by repeat first | with_reducible (first | exact hW2 | apply below_drewN' | apply Below.drew | refine Below.alloc ?_ ?_ _ | refine Below.setCell ?_ ?_ _) | exact hW2 | omega | (simp <;> omega) | (have:=(hW2).size;first | omega | (simp <;> omega)))⟩
   obtain ⟨u1,u2,u3⟩:=hX.out
   rw [(hp false _ hx rfl).out] at u1 u2 u3
   simp [em,eM,ex,ey] at u1 u2 u3
   rw [← u1,← u2,← u3]
  | true =>
   simp only [hx] at HX
   replace HX:=fun W=>Lib.hid (HX W)
   cases hy:inB y (-100000) 100000 with
   | false =>
    simp only [hy] at HY
    replace HY:=fun W=>Lib.hid (HY W)
    go_wp2_with (first | (go_at_call 91;refine (HD _).out.mono ?_;rintro e w5 ⟨rfl,rfl⟩) | (go_at_call 79;refine (HU _).out.mono ?_;rintro e w5 ⟨rfl,rfl⟩) | (go_at_call 150;refine (HX _).out.mono ?_;rintro e w5 ⟨rfl,rfl⟩) | (go_at_call 150;refine (HY _).out.mono ?_;rintro e w5 ⟨rfl,rfl⟩))
    refine bodyPost_ret (v:=.tuple #[.agg #[.int .i64 0,.int .i64 0],.int .i64 3]) (by simp [results,Tryz.results134,go_sem,r0,r1,z3]) rfl ⟨?_,(by repeat first | with_reducible (first | exact hW2 | apply below_drewN' | apply Below.drew | refine Below.alloc ?_ ?_ _ | refine Below.setCell ?_ ?_ _) | exact hW2 | omega | (simp <;> omega) | (have:=(hW2).size;first | omega | (simp <;> omega)))⟩
    obtain ⟨u1,u2,u3⟩:=hX.out
    rw [(hp true false hx hy).out] at u1 u2 u3
    simp [em,eM,ex,ey] at u1 u2 u3
    rw [← u1,← u2,← u3]
   | true =>
    simp only [hy] at HY
    replace HY:=fun W=>Lib.hid (HY W)
    go_wp2_with (first | (go_at_call 91;refine (HD _).out.mono ?_;rintro e w5 ⟨rfl,rfl⟩) | (go_at_call 79;refine (HU _).out.mono ?_;rintro e w5 ⟨rfl,rfl⟩) | (go_at_call 150;refine (HX _).out.mono ?_;rintro e w5 ⟨rfl,rfl⟩) | (go_at_call 150;refine (HY _).out.mono ?_;rintro e w5 ⟨rfl,rfl⟩))
    refine bodyPost_ret (v:=.tuple #[.agg #[.int .i64 x,.int .i64 y],.int .i64 0]) (by simp [results,Tryz.results134,go_sem,r0,r1,z3]) rfl ⟨?_,(by repeat first | with_reducible (first | exact hW2 | apply below_drewN' | apply Below.drew | refine Below.alloc ?_ ?_ _ | refine Below.setCell ?_ ?_ _) | exact hW2 | omega | (simp <;> omega) | (have:=(hW2).size;first | omega | (simp <;> omega)))⟩
    obtain ⟨u1,u2,u3⟩:=hX.out
    rw [(hp true true hx hy).out] at u1 u2 u3
    simp [em,eM,ex,ey] at u1 u2 u3
    rw [← u1,← u2,← u3]
end Go.Proofs.YtednjmldjbndhaaGreatDoor
