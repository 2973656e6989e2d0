/- The position of a figure on a scale, at any tens; its point: the reference. Conditions: bounds. -/
import Derived.Test.YtednjmldjbndhaaGreatKGr12
import Derived.Test.YtednjmldjbndhaaGreatKGr28
set_option linter.unusedSimpArgs false
set_option linter.unusedVariables false
set_option maxRecDepth 100000
set_option maxHeartbeats 8000000
namespace Go.Proofs.YtednjmldjbndhaaGreat
open Go.RowKit
def posT (s m t:Int):Int × Int :=
 let lo:=logLow (m * 100000)
 let hi:=logHigh (m * 100000)
 if s=1 then ((min (lo+1048576 * (t % 2)) (hi+1048576 * (t % 2))) / 2,-(-(max (lo+1048576 * (t % 2)) (hi+1048576 * (t % 2))) / 2)) else if s=2 then ((min (lo+1048576 * (t % 3)) (hi+1048576 * (t % 3))) / 3,-(-(max (lo+1048576 * (t % 3)) (hi+1048576 * (t % 3))) / 3)) else if s=3 then (1048576 - hi,1048576 - lo)
 else if s=4 then (if lo - logHigh 314200000 < 0 then (lo - logHigh 314200000+1048576,hi - logLow 314200000+1048576) else (lo - logHigh 314200000,hi - logLow 314200000))
 else (lo,hi)
theorem logLow_le {a:Int} (h:1000 ≤ a):∀ k:Nat,a+k ≤ 9999→logLow (a * 100000) ≤ logLow ((a+k) * 100000):=fun k=>by
 induction k with
 | zero=>intro _;simp
 | succ k ih =>
  intro hk
  have h1:=ih (by omega)
  have h2:=logLow_up (d:=a+k) (by omega)
  rw [show a+((k+1:Nat):Int)=a+k+1 by omega]
  omega
theorem logLow_mono {a b:Int} (h:1000 ≤ a) (hab:a ≤ b) (hb:b ≤ 9999):logLow (a * 100000) ≤ logLow (b * 100000):=by
 have:=logLow_le h (b - a).toNat (by omega)
 rwa [show a+((b - a).toNat:Int)=b by omega] at this
theorem log_3142:logLow 314200000 < logHigh 314200000:=by decide +kernel
theorem log_3143:logHigh 314200000 ≤ logLow 314300000:=by decide +kernel
def pointT (s m t:Int):Int:=((posT s m t).1+(posT s m t).2) / 2
theorem posT_bd {s m t:Int} (hs:0 ≤ s∧s ≤ 4) (hm:1000 ≤ m∧m ≤ 9999):(-1048576 ≤ (posT s m t).1∧(posT s m t).1 ≤ 4194304)∧(-1048576 ≤ (posT s m t).2∧(posT s m t).2 ≤ 4194304)∧0 ≤ (posT s m t).1+(posT s m t).2∧(posT s m t).1+(posT s m t).2 ≤ 2097153:=by
 have hx:100000000 ≤ m * 100000∧m * 100000 ≤ 1000000000:=by omega
 have h1:=logLow_bd hx
 have h2:=logHigh_bd hx
 have h3:=logLow_bd (x:=314200000) (by omega)
 have h4:=logHigh_bd (x:=314200000) (by omega)
 have h5:m ≤ 3142→logLow (m * 100000) ≤ logLow 314200000∧logHigh (m * 100000) ≤ logHigh 314200000:=fun h=>⟨logLow_mono (b:=3142) hm.1 h (by omega),logHigh_mono hx (by omega)⟩
 have h6:3143 ≤ m→logHigh 314200000 ≤ logLow (m * 100000):=fun h=>Int.le_trans log_3143 (logLow_mono (a:=3143) (by omega) h hm.2)
 have h7:3143 ≤ m→logHigh 314200000 ≤ logHigh (m * 100000):=fun h=>logHigh_mono (by omega) (by omega)
 have h8:=log_3142
 unfold posT
 simp only
 generalize logLow (m * 100000)=lo at *
 generalize logHigh (m * 100000)=hi at *
 generalize logLow 314200000=plo at *
 generalize logHigh 314200000=phi at *
 have hsc:s=0 ∨ s=1 ∨ s=2 ∨ s=3 ∨ s=4:=by omega
 rcases hsc with rfl | rfl | rfl | rfl | rfl
 all_goals simp only [Int.reduceEq,if_true,if_false]
 ·omega
 ·omega
 ·omega
 ·omega
 ·split <;> simp only <;> omega
theorem pointT_bd {s m t:Int} (hs:0 ≤ s∧s ≤ 4) (hm:1000 ≤ m∧m ≤ 9999):0 ≤ pointT s m t∧pointT s m t ≤ 1048576:=by
 have:=posT_bd (t:=t) hs hm
 unfold pointT
 omega
theorem l05PositionT_c (s m t:Int) (w:World) (hs:0 ≤ s∧s ≤ 4) (hm:1000 ≤ m∧m ≤ 9999) (ht:-1000000 ≤ t∧t ≤ 1000000) :
  Calls Tryz.prog 206 #[.int .i64 s,.agg #[.int .i64 m,.int .i64 t]] w fun e w'=>e=.returned (.agg #[.int .i64 (posT s m t).1,.int .i64 (posT s m t).2])∧Below w.heap.size w w':=by
 have hx:100000000 ≤ m * 100000∧m * 100000 ≤ 1000000000:=by omega
 have h1:=logLow_bd hx
 have h2:=logHigh_bd hx
 have h3:=logLow_bd (x:=314200000) (by omega)
 have h4:=logHigh_bd (x:=314200000) (by omega)
 have HL:=fun W=>Lib.hid (l03Log_c (m * 100000) W hx)
 have HP:=fun W=>Lib.hid (l03Log_c 314200000 W (by omega))
 have HS:=fun a b d h h2 hd W=>Lib.hid (l03Scale_c a b d W h h2 hd)
 have HB:=fun a b a' b' h h2 h3 h4 W=>Lib.hid (l03Sub_c a b a' b' W h h2 h3 h4)
 have HR:Hid ((posT s m t)=posT s m t):=rfl
 unfold posT at HR ⊢
 simp only
 generalize logLow (m * 100000)=lo at *
 generalize logHigh (m * 100000)=hi at *
 generalize logLow 314200000=plo at *
 generalize logHigh 314200000=phi at *
 clear HR
 have hsc:s=0 ∨ s=1 ∨ s=2 ∨ s=3 ∨ s=4:=by omega
 obtain ⟨ht1,ht2⟩:=ht
 rcases hsc with rfl | rfl | rfl | rfl | rfl
 all_goals simp only [Int.reduceEq,if_true,if_false]
 case inl =>
  go_enter Tryz.func206,Tryz.ntmps206
  go_wp2_with (first | (go_at_call 227;refine (HL _).out.mono ?_;rintro e w1 ⟨rfl,hb1⟩;have Bx:=((Blk.new w 51 #[.int .i64 m,.int .i64 t]).alloc (.cells #[.int .i64 0,.int .i64 0] 186)).below hb1 (by first | (simp;done) | (simp;omega));have Bg:=(Blk.new' (w.alloc (.cells #[.int .i64 m,.int .i64 t] 51)) 186 #[.int .i64 0,.int .i64 0] (g:=w.heap.size+1) (by simp)).below hb1 (by simp);have x0:w1.cell? ⟨w.heap.size,0,none⟩=some (.int .i64 m):=Bx.cell 0;have x1:w1.cell? ⟨w.heap.size,1,none⟩=some (.int .i64 t):=Bx.cell 1;have xz:=Bx.lt;have c0:w1.cell? ⟨w.heap.size+1,0,none⟩=some (.int .i64 0):=Bg.cell 0;have c1:w1.cell? ⟨w.heap.size+1,1,none⟩=some (.int .i64 0):=Bg.cell 1;have cf0:w1.frozen? ⟨w.heap.size+1,0,none⟩=false:=Bg.frozen 0;have cf1:w1.frozen? ⟨w.heap.size+1,1,none⟩=false:=Bg.frozen 1;have cz:=Bg.lt;have hB1:Below w.heap.size w w1:=((Below.alloc (Below.alloc (Below.refl _ _) (Nat.le_refl _) _) (by simp) _:Below w.heap.size w ((w.alloc (.cells #[.int .i64 m,.int .i64 t] 51)).alloc (.cells #[.int .i64 0,.int .i64 0] 186)))).trans (hb1.mono (by first | (simp;done) | (simp;omega)));have hB1s:=hB1.size))
  refine bodyPost_ret (v:=.agg #[.int .i64 (lo),.int .i64 (hi)]) (by simp [results,Tryz.results206,go_sem,c0,c1,cz]) rfl ⟨rfl,(by repeat first | with_reducible (first | exact hB1 | apply below_drewN' | apply Below.drew | refine Below.alloc ?_ ?_ _ | refine Below.setCell ?_ ?_ _) | exact hB1 | omega | (simp <;> omega) | (have:=(hB1).size;first | omega | (simp <;> omega)))⟩
 case inr.inl =>
  have hq:t % 2=0 ∨ t % 2=1:=by omega
  rcases hq with hq | hq
  ·simp only [hq,Int.mul_zero,Int.add_zero,Int.mul_one,Int.reduceMul]
   go_enter Tryz.func206,Tryz.ntmps206
   go_wp2_with (first | (go_at_call 227;refine (HL _).out.mono ?_;rintro e w1 ⟨rfl,hb1⟩;have Bx:=((Blk.new w 51 #[.int .i64 m,.int .i64 t]).alloc (.cells #[.int .i64 0,.int .i64 0] 186)).below hb1 (by first | (simp;done) | (simp;omega));have Bg:=(Blk.new' (w.alloc (.cells #[.int .i64 m,.int .i64 t] 51)) 186 #[.int .i64 0,.int .i64 0] (g:=w.heap.size+1) (by simp)).below hb1 (by simp);have x0:w1.cell? ⟨w.heap.size,0,none⟩=some (.int .i64 m):=Bx.cell 0;have x1:w1.cell? ⟨w.heap.size,1,none⟩=some (.int .i64 t):=Bx.cell 1;have xz:=Bx.lt;have c0:w1.cell? ⟨w.heap.size+1,0,none⟩=some (.int .i64 0):=Bg.cell 0;have c1:w1.cell? ⟨w.heap.size+1,1,none⟩=some (.int .i64 0):=Bg.cell 1;have cf0:w1.frozen? ⟨w.heap.size+1,0,none⟩=false:=Bg.frozen 0;have cf1:w1.frozen? ⟨w.heap.size+1,1,none⟩=false:=Bg.frozen 1;have cz:=Bg.lt;have hB1:Below w.heap.size w w1:=((Below.alloc (Below.alloc (Below.refl _ _) (Nat.le_refl _) _) (by simp) _:Below w.heap.size w ((w.alloc (.cells #[.int .i64 m,.int .i64 t] 51)).alloc (.cells #[.int .i64 0,.int .i64 0] 186)))).trans (hb1.mono (by first | (simp;done) | (simp;omega)));have hB1s:=hB1.size) | (go_at_call 125;refine (l01Mod_c _ _ _ (by omega) (by omega)).mono ?_;rintro e w' ⟨rfl,rfl⟩) | (go_at_call 228;refine (HS _ _ _ (by omega) (by omega) (by omega) _).out.mono ?_;rintro e w2 ⟨rfl,hb2⟩;have Bg2:=(Bg.alloc (.cells #[.int .i64 lo,.int .i64 hi] 186)).below hb2 (by first | (simp;done) | (simp;omega));have d0:w2.cell? ⟨w.heap.size+1,0,none⟩=some (.int .i64 0):=Bg2.cell 0;have d1:w2.cell? ⟨w.heap.size+1,1,none⟩=some (.int .i64 0):=Bg2.cell 1;have df0:w2.frozen? ⟨w.heap.size+1,0,none⟩=false:=Bg2.frozen 0;have df1:w2.frozen? ⟨w.heap.size+1,1,none⟩=false:=Bg2.frozen 1;have dz:=Bg2.lt;have hB2:=(hB1.alloc hB1s (.cells #[.int .i64 lo,.int .i64 hi] 186)).trans (hb2.mono (by first | (simp;done) | (simp;omega)))))
   refine bodyPost_ret (v:=.agg #[.int .i64 (min lo hi / 2),.int .i64 (-(-(max lo hi) / 2))]) (by simp [results,Tryz.results206,go_sem,d0,d1]) rfl ⟨rfl,(by repeat first | with_reducible (first | exact hB2 | apply below_drewN' | apply Below.drew | refine Below.alloc ?_ ?_ _ | refine Below.setCell ?_ ?_ _) | exact hB2 | omega | (simp <;> omega) | (have:=(hB2).size;first | omega | (simp <;> omega)))⟩
  ·simp only [hq,Int.mul_zero,Int.add_zero,Int.mul_one,Int.reduceMul]
   go_enter Tryz.func206,Tryz.ntmps206
   go_wp2_with (first | (go_at_call 227;refine (HL _).out.mono ?_;rintro e w1 ⟨rfl,hb1⟩;have Bx:=((Blk.new w 51 #[.int .i64 m,.int .i64 t]).alloc (.cells #[.int .i64 0,.int .i64 0] 186)).below hb1 (by first | (simp;done) | (simp;omega));have Bg:=(Blk.new' (w.alloc (.cells #[.int .i64 m,.int .i64 t] 51)) 186 #[.int .i64 0,.int .i64 0] (g:=w.heap.size+1) (by simp)).below hb1 (by simp);have x0:w1.cell? ⟨w.heap.size,0,none⟩=some (.int .i64 m):=Bx.cell 0;have x1:w1.cell? ⟨w.heap.size,1,none⟩=some (.int .i64 t):=Bx.cell 1;have xz:=Bx.lt;have c0:w1.cell? ⟨w.heap.size+1,0,none⟩=some (.int .i64 0):=Bg.cell 0;have c1:w1.cell? ⟨w.heap.size+1,1,none⟩=some (.int .i64 0):=Bg.cell 1;have cf0:w1.frozen? ⟨w.heap.size+1,0,none⟩=false:=Bg.frozen 0;have cf1:w1.frozen? ⟨w.heap.size+1,1,none⟩=false:=Bg.frozen 1;have cz:=Bg.lt;have hB1:Below w.heap.size w w1:=((Below.alloc (Below.alloc (Below.refl _ _) (Nat.le_refl _) _) (by simp) _:Below w.heap.size w ((w.alloc (.cells #[.int .i64 m,.int .i64 t] 51)).alloc (.cells #[.int .i64 0,.int .i64 0] 186)))).trans (hb1.mono (by first | (simp;done) | (simp;omega)));have hB1s:=hB1.size) | (go_at_call 125;refine (l01Mod_c _ _ _ (by omega) (by omega)).mono ?_;rintro e w' ⟨rfl,rfl⟩) | (go_at_call 228;refine (HS _ _ _ (by omega) (by omega) (by omega) _).out.mono ?_;rintro e w2 ⟨rfl,hb2⟩;have Bg2:=(Bg.alloc (.cells #[.int .i64 lo,.int .i64 hi] 186)).below hb2 (by first | (simp;done) | (simp;omega));have d0:w2.cell? ⟨w.heap.size+1,0,none⟩=some (.int .i64 0):=Bg2.cell 0;have d1:w2.cell? ⟨w.heap.size+1,1,none⟩=some (.int .i64 0):=Bg2.cell 1;have df0:w2.frozen? ⟨w.heap.size+1,0,none⟩=false:=Bg2.frozen 0;have df1:w2.frozen? ⟨w.heap.size+1,1,none⟩=false:=Bg2.frozen 1;have dz:=Bg2.lt;have hB2:=(hB1.alloc hB1s (.cells #[.int .i64 lo,.int .i64 hi] 186)).trans (hb2.mono (by first | (simp;done) | (simp;omega)))))
   refine bodyPost_ret (v:=.agg #[.int .i64 (min (lo+1048576) (hi+1048576) / 2),.int .i64 (-(-(max (lo+1048576) (hi+1048576)) / 2))]) (by simp [results,Tryz.results206,go_sem,d0,d1]) rfl ⟨rfl,(by repeat first | with_reducible (first | exact hB2 | apply below_drewN' | apply Below.drew | refine Below.alloc ?_ ?_ _ | refine Below.setCell ?_ ?_ _) | exact hB2 | omega | (simp <;> omega) | (have:=(hB2).size;first | omega | (simp <;> omega)))⟩
 case inr.inr.inl =>
  have hq:t % 3=0 ∨ t % 3=1 ∨ t % 3=2:=by omega
  rcases hq with hq | hq | hq
  ·simp only [hq,Int.mul_zero,Int.add_zero,Int.mul_one,Int.reduceMul]
   go_enter Tryz.func206,Tryz.ntmps206
   go_wp2_with (first | (go_at_call 227;refine (HL _).out.mono ?_;rintro e w1 ⟨rfl,hb1⟩;have Bx:=((Blk.new w 51 #[.int .i64 m,.int .i64 t]).alloc (.cells #[.int .i64 0,.int .i64 0] 186)).below hb1 (by first | (simp;done) | (simp;omega));have Bg:=(Blk.new' (w.alloc (.cells #[.int .i64 m,.int .i64 t] 51)) 186 #[.int .i64 0,.int .i64 0] (g:=w.heap.size+1) (by simp)).below hb1 (by simp);have x0:w1.cell? ⟨w.heap.size,0,none⟩=some (.int .i64 m):=Bx.cell 0;have x1:w1.cell? ⟨w.heap.size,1,none⟩=some (.int .i64 t):=Bx.cell 1;have xz:=Bx.lt;have c0:w1.cell? ⟨w.heap.size+1,0,none⟩=some (.int .i64 0):=Bg.cell 0;have c1:w1.cell? ⟨w.heap.size+1,1,none⟩=some (.int .i64 0):=Bg.cell 1;have cf0:w1.frozen? ⟨w.heap.size+1,0,none⟩=false:=Bg.frozen 0;have cf1:w1.frozen? ⟨w.heap.size+1,1,none⟩=false:=Bg.frozen 1;have cz:=Bg.lt;have hB1:Below w.heap.size w w1:=((Below.alloc (Below.alloc (Below.refl _ _) (Nat.le_refl _) _) (by simp) _:Below w.heap.size w ((w.alloc (.cells #[.int .i64 m,.int .i64 t] 51)).alloc (.cells #[.int .i64 0,.int .i64 0] 186)))).trans (hb1.mono (by first | (simp;done) | (simp;omega)));have hB1s:=hB1.size) | (go_at_call 125;refine (l01Mod_c _ _ _ (by omega) (by omega)).mono ?_;rintro e w' ⟨rfl,rfl⟩) | (go_at_call 228;refine (HS _ _ _ (by omega) (by omega) (by omega) _).out.mono ?_;rintro e w2 ⟨rfl,hb2⟩;have Bg2:=(Bg.alloc (.cells #[.int .i64 lo,.int .i64 hi] 186)).below hb2 (by first | (simp;done) | (simp;omega));have d0:w2.cell? ⟨w.heap.size+1,0,none⟩=some (.int .i64 0):=Bg2.cell 0;have d1:w2.cell? ⟨w.heap.size+1,1,none⟩=some (.int .i64 0):=Bg2.cell 1;have df0:w2.frozen? ⟨w.heap.size+1,0,none⟩=false:=Bg2.frozen 0;have df1:w2.frozen? ⟨w.heap.size+1,1,none⟩=false:=Bg2.frozen 1;have dz:=Bg2.lt;have hB2:=(hB1.alloc hB1s (.cells #[.int .i64 lo,.int .i64 hi] 186)).trans (hb2.mono (by first | (simp;done) | (simp;omega)))))
   refine bodyPost_ret (v:=.agg #[.int .i64 (min lo hi / 3),.int .i64 (-(-(max lo hi) / 3))]) (by simp [results,Tryz.results206,go_sem,d0,d1]) rfl ⟨rfl,(by repeat first | with_reducible (first | exact hB2 | apply below_drewN' | apply Below.drew | refine Below.alloc ?_ ?_ _ | refine Below.setCell ?_ ?_ _) | exact hB2 | omega | (simp <;> omega) | (have:=(hB2).size;first | omega | (simp <;> omega)))⟩
  ·simp only [hq,Int.mul_zero,Int.add_zero,Int.mul_one,Int.reduceMul]
   go_enter Tryz.func206,Tryz.ntmps206
   go_wp2_with (first | (go_at_call 227;refine (HL _).out.mono ?_;rintro e w1 ⟨rfl,hb1⟩;have Bx:=((Blk.new w 51 #[.int .i64 m,.int .i64 t]).alloc (.cells #[.int .i64 0,.int .i64 0] 186)).below hb1 (by first | (simp;done) | (simp;omega));have Bg:=(Blk.new' (w.alloc (.cells #[.int .i64 m,.int .i64 t] 51)) 186 #[.int .i64 0,.int .i64 0] (g:=w.heap.size+1) (by simp)).below hb1 (by simp);have x0:w1.cell? ⟨w.heap.size,0,none⟩=some (.int .i64 m):=Bx.cell 0;have x1:w1.cell? ⟨w.heap.size,1,none⟩=some (.int .i64 t):=Bx.cell 1;have xz:=Bx.lt;have c0:w1.cell? ⟨w.heap.size+1,0,none⟩=some (.int .i64 0):=Bg.cell 0;have c1:w1.cell? ⟨w.heap.size+1,1,none⟩=some (.int .i64 0):=Bg.cell 1;have cf0:w1.frozen? ⟨w.heap.size+1,0,none⟩=false:=Bg.frozen 0;have cf1:w1.frozen? ⟨w.heap.size+1,1,none⟩=false:=Bg.frozen 1;have cz:=Bg.lt;have hB1:Below w.heap.size w w1:=((Below.alloc (Below.alloc (Below.refl _ _) (Nat.le_refl _) _) (by simp) _:Below w.heap.size w ((w.alloc (.cells #[.int .i64 m,.int .i64 t] 51)).alloc (.cells #[.int .i64 0,.int .i64 0] 186)))).trans (hb1.mono (by first | (simp;done) | (simp;omega)));have hB1s:=hB1.size) | (go_at_call 125;refine (l01Mod_c _ _ _ (by omega) (by omega)).mono ?_;rintro e w' ⟨rfl,rfl⟩) | (go_at_call 228;refine (HS _ _ _ (by omega) (by omega) (by omega) _).out.mono ?_;rintro e w2 ⟨rfl,hb2⟩;have Bg2:=(Bg.alloc (.cells #[.int .i64 lo,.int .i64 hi] 186)).below hb2 (by first | (simp;done) | (simp;omega));have d0:w2.cell? ⟨w.heap.size+1,0,none⟩=some (.int .i64 0):=Bg2.cell 0;have d1:w2.cell? ⟨w.heap.size+1,1,none⟩=some (.int .i64 0):=Bg2.cell 1;have df0:w2.frozen? ⟨w.heap.size+1,0,none⟩=false:=Bg2.frozen 0;have df1:w2.frozen? ⟨w.heap.size+1,1,none⟩=false:=Bg2.frozen 1;have dz:=Bg2.lt;have hB2:=(hB1.alloc hB1s (.cells #[.int .i64 lo,.int .i64 hi] 186)).trans (hb2.mono (by first | (simp;done) | (simp;omega)))))
   refine bodyPost_ret (v:=.agg #[.int .i64 (min (lo+1048576) (hi+1048576) / 3),.int .i64 (-(-(max (lo+1048576) (hi+1048576)) / 3))]) (by simp [results,Tryz.results206,go_sem,d0,d1]) rfl ⟨rfl,(by repeat first | with_reducible (first | exact hB2 | apply below_drewN' | apply Below.drew | refine Below.alloc ?_ ?_ _ | refine Below.setCell ?_ ?_ _) | exact hB2 | omega | (simp <;> omega) | (have:=(hB2).size;first | omega | (simp <;> omega)))⟩
  ·simp only [hq,Int.mul_zero,Int.add_zero,Int.mul_one,Int.reduceMul]
   go_enter Tryz.func206,Tryz.ntmps206
   go_wp2_with (first | (go_at_call 227;refine (HL _).out.mono ?_;rintro e w1 ⟨rfl,hb1⟩;have Bx:=((Blk.new w 51 #[.int .i64 m,.int .i64 t]).alloc (.cells #[.int .i64 0,.int .i64 0] 186)).below hb1 (by first | (simp;done) | (simp;omega));have Bg:=(Blk.new' (w.alloc (.cells #[.int .i64 m,.int .i64 t] 51)) 186 #[.int .i64 0,.int .i64 0] (g:=w.heap.size+1) (by simp)).below hb1 (by simp);have x0:w1.cell? ⟨w.heap.size,0,none⟩=some (.int .i64 m):=Bx.cell 0;have x1:w1.cell? ⟨w.heap.size,1,none⟩=some (.int .i64 t):=Bx.cell 1;have xz:=Bx.lt;have c0:w1.cell? ⟨w.heap.size+1,0,none⟩=some (.int .i64 0):=Bg.cell 0;have c1:w1.cell? ⟨w.heap.size+1,1,none⟩=some (.int .i64 0):=Bg.cell 1;have cf0:w1.frozen? ⟨w.heap.size+1,0,none⟩=false:=Bg.frozen 0;have cf1:w1.frozen? ⟨w.heap.size+1,1,none⟩=false:=Bg.frozen 1;have cz:=Bg.lt;have hB1:Below w.heap.size w w1:=((Below.alloc (Below.alloc (Below.refl _ _) (Nat.le_refl _) _) (by simp) _:Below w.heap.size w ((w.alloc (.cells #[.int .i64 m,.int .i64 t] 51)).alloc (.cells #[.int .i64 0,.int .i64 0] 186)))).trans (hb1.mono (by first | (simp;done) | (simp;omega)));have hB1s:=hB1.size) | (go_at_call 125;refine (l01Mod_c _ _ _ (by omega) (by omega)).mono ?_;rintro e w' ⟨rfl,rfl⟩) | (go_at_call 228;refine (HS _ _ _ (by omega) (by omega) (by omega) _).out.mono ?_;rintro e w2 ⟨rfl,hb2⟩;have Bg2:=(Bg.alloc (.cells #[.int .i64 lo,.int .i64 hi] 186)).below hb2 (by first | (simp;done) | (simp;omega));have d0:w2.cell? ⟨w.heap.size+1,0,none⟩=some (.int .i64 0):=Bg2.cell 0;have d1:w2.cell? ⟨w.heap.size+1,1,none⟩=some (.int .i64 0):=Bg2.cell 1;have df0:w2.frozen? ⟨w.heap.size+1,0,none⟩=false:=Bg2.frozen 0;have df1:w2.frozen? ⟨w.heap.size+1,1,none⟩=false:=Bg2.frozen 1;have dz:=Bg2.lt;have hB2:=(hB1.alloc hB1s (.cells #[.int .i64 lo,.int .i64 hi] 186)).trans (hb2.mono (by first | (simp;done) | (simp;omega)))))
   refine bodyPost_ret (v:=.agg #[.int .i64 (min (lo+2097152) (hi+2097152) / 3),.int .i64 (-(-(max (lo+2097152) (hi+2097152)) / 3))]) (by simp [results,Tryz.results206,go_sem,d0,d1]) rfl ⟨rfl,(by repeat first | with_reducible (first | exact hB2 | apply below_drewN' | apply Below.drew | refine Below.alloc ?_ ?_ _ | refine Below.setCell ?_ ?_ _) | exact hB2 | omega | (simp <;> omega) | (have:=(hB2).size;first | omega | (simp <;> omega)))⟩
 case inr.inr.inr.inl =>
  go_enter Tryz.func206,Tryz.ntmps206
  go_wp2_with (first | (go_at_call 227;refine (HL _).out.mono ?_;rintro e w1 ⟨rfl,hb1⟩;have Bx:=((Blk.new w 51 #[.int .i64 m,.int .i64 t]).alloc (.cells #[.int .i64 0,.int .i64 0] 186)).below hb1 (by first | (simp;done) | (simp;omega));have Bg:=(Blk.new' (w.alloc (.cells #[.int .i64 m,.int .i64 t] 51)) 186 #[.int .i64 0,.int .i64 0] (g:=w.heap.size+1) (by simp)).below hb1 (by simp);have x0:w1.cell? ⟨w.heap.size,0,none⟩=some (.int .i64 m):=Bx.cell 0;have x1:w1.cell? ⟨w.heap.size,1,none⟩=some (.int .i64 t):=Bx.cell 1;have xz:=Bx.lt;have c0:w1.cell? ⟨w.heap.size+1,0,none⟩=some (.int .i64 0):=Bg.cell 0;have c1:w1.cell? ⟨w.heap.size+1,1,none⟩=some (.int .i64 0):=Bg.cell 1;have cf0:w1.frozen? ⟨w.heap.size+1,0,none⟩=false:=Bg.frozen 0;have cf1:w1.frozen? ⟨w.heap.size+1,1,none⟩=false:=Bg.frozen 1;have cz:=Bg.lt;have hB1:Below w.heap.size w w1:=((Below.alloc (Below.alloc (Below.refl _ _) (Nat.le_refl _) _) (by simp) _:Below w.heap.size w ((w.alloc (.cells #[.int .i64 m,.int .i64 t] 51)).alloc (.cells #[.int .i64 0,.int .i64 0] 186)))).trans (hb1.mono (by first | (simp;done) | (simp;omega)));have hB1s:=hB1.size))
  refine bodyPost_ret (v:=.agg #[.int .i64 (1048576 - hi),.int .i64 (1048576 - lo)]) (by simp [results,Tryz.results206,go_sem,c0,c1,cz]) rfl ⟨rfl,(by repeat first | with_reducible (first | exact hB1 | apply below_drewN' | apply Below.drew | refine Below.alloc ?_ ?_ _ | refine Below.setCell ?_ ?_ _) | exact hB1 | omega | (simp <;> omega) | (have:=(hB1).size;first | omega | (simp <;> omega)))⟩
 case inr.inr.inr.inr =>
  by_cases hneg:lo - phi < 0
  ·rw [if_pos hneg]
   go_enter Tryz.func206,Tryz.ntmps206
   go_wp2_with (first | (go_at_call 227;refine (HL _).out.mono ?_;rintro e w1 ⟨rfl,hb1⟩;have Bx:=((Blk.new w 51 #[.int .i64 m,.int .i64 t]).alloc (.cells #[.int .i64 0,.int .i64 0] 186)).below hb1 (by first | (simp;done) | (simp;omega));have Bg:=(Blk.new' (w.alloc (.cells #[.int .i64 m,.int .i64 t] 51)) 186 #[.int .i64 0,.int .i64 0] (g:=w.heap.size+1) (by simp)).below hb1 (by simp);have x0:w1.cell? ⟨w.heap.size,0,none⟩=some (.int .i64 m):=Bx.cell 0;have x1:w1.cell? ⟨w.heap.size,1,none⟩=some (.int .i64 t):=Bx.cell 1;have xz:=Bx.lt;have c0:w1.cell? ⟨w.heap.size+1,0,none⟩=some (.int .i64 0):=Bg.cell 0;have c1:w1.cell? ⟨w.heap.size+1,1,none⟩=some (.int .i64 0):=Bg.cell 1;have cf0:w1.frozen? ⟨w.heap.size+1,0,none⟩=false:=Bg.frozen 0;have cf1:w1.frozen? ⟨w.heap.size+1,1,none⟩=false:=Bg.frozen 1;have cz:=Bg.lt;have hB1:Below w.heap.size w w1:=((Below.alloc (Below.alloc (Below.refl _ _) (Nat.le_refl _) _) (by simp) _:Below w.heap.size w ((w.alloc (.cells #[.int .i64 m,.int .i64 t] 51)).alloc (.cells #[.int .i64 0,.int .i64 0] 186)))).trans (hb1.mono (by first | (simp;done) | (simp;omega)));have hB1s:=hB1.size))
   have Ba:=Blk.new w1 186 #[.int .i64 lo,.int .i64 hi]
   have Bg':=Bg.alloc (.cells #[.int .i64 lo,.int .i64 hi] 186)
   have hB3:=hB1.alloc hB1s (.cells #[.int .i64 lo,.int .i64 hi] 186)
   have hB3s:=hB3.size
   clear x0 x1 c0 c1 cf0 cf1 Bx
   generalize w1.alloc (.cells #[.int .i64 lo,.int .i64 hi] 186)=W3 at *
   have hAll:∀ w',Below W3.heap.size W3 w'→Below W3.heap.size W3 w'∧w'.cell? ⟨w1.heap.size,0,none⟩=some (.int .i64 lo)∧w'.cell? ⟨w1.heap.size,1,none⟩=some (.int .i64 hi):=fun w' hL =>
    ⟨hL,(hL.cell (p:=⟨w1.heap.size,0,none⟩) Ba.lt).trans (Ba.cell 0),(hL.cell (p:=⟨w1.heap.size,1,none⟩) Ba.lt).trans (Ba.cell 1)⟩
   have hI:=hAll W3.drew (Below.refl _ _).drew
   go_region_held3 (fun w'=>Below W3.heap.size W3 w'∧w'.cell? ⟨w1.heap.size,0,none⟩=some (.int .i64 lo)∧w'.cell? ⟨w1.heap.size,1,none⟩=some (.int .i64 hi))
    (first | exact hI | assumption | exact hk _ | exact hAll _ (bel_next (by assumption) (by assumption) (Nat.le_refl _)) | exact hAll _ (bel_alloc (by assumption) _ (Nat.le_refl _)) | exact hAll _ (bel_set2 (by assumption) (by omega)) | fail)
    (first | (go_at_call 227;refine (HP _).out.mono ?_;rintro e w5 ⟨rfl,hb5⟩;have hz5:=hb5.size;(try rw [size_drew'] at hz5);(try rw [size_alloc'] at hz5);(try first | (have BG:=BG.below hb5 BG.lt;have c0:w5.cell? ⟨_,0,none⟩=some (.int .i64 0):=BG.cell 0;have c1:w5.cell? ⟨_,1,none⟩=some (.int .i64 0):=BG.cell 1;have f0:=BG.frozen 0;have f1:=BG.frozen 1;have zg:=BG.lt) | (have BG:=(Blk.new _ 186 #[.int .i64 0,.int .i64 0]).below hb5 (by simp);have c0:w5.cell? ⟨_,0,none⟩=some (.int .i64 0):=BG.cell 0;have c1:w5.cell? ⟨_,1,none⟩=some (.int .i64 0):=BG.cell 1;have f0:=BG.frozen 0;have f1:=BG.frozen 1;have zg:=BG.lt) | (have BG:=(blk_newDrew _ 186 #[.int .i64 0,.int .i64 0]).below hb5 (by rw [size_drew',size_alloc'];omega);have c0:w5.cell? ⟨_,0,none⟩=some (.int .i64 0):=BG.cell 0;have c1:w5.cell? ⟨_,1,none⟩=some (.int .i64 0):=BG.cell 1;have f0:=BG.frozen 0;have f1:=BG.frozen 1;have zg:=BG.lt))) | (go_at_call 212;refine (HB _ _ _ _ (by omega) (by omega) (by omega) (by omega) _).out.mono ?_;rintro e w5 ⟨rfl,hb5⟩;have hz5:=hb5.size;(try rw [size_drew'] at hz5);(try rw [size_alloc'] at hz5);(try first | (have BG:=BG.below hb5 BG.lt;have c0:w5.cell? ⟨_,0,none⟩=some (.int .i64 0):=BG.cell 0;have c1:w5.cell? ⟨_,1,none⟩=some (.int .i64 0):=BG.cell 1;have f0:=BG.frozen 0;have f1:=BG.frozen 1;have zg:=BG.lt) | (have BG:=(Blk.new _ 186 #[.int .i64 0,.int .i64 0]).below hb5 (by simp);have c0:w5.cell? ⟨_,0,none⟩=some (.int .i64 0):=BG.cell 0;have c1:w5.cell? ⟨_,1,none⟩=some (.int .i64 0):=BG.cell 1;have f0:=BG.frozen 0;have f1:=BG.frozen 1;have zg:=BG.lt) | (have BG:=(blk_newDrew _ 186 #[.int .i64 0,.int .i64 0]).below hb5 (by rw [size_drew',size_alloc'];omega);have c0:w5.cell? ⟨_,0,none⟩=some (.int .i64 0):=BG.cell 0;have c1:w5.cell? ⟨_,1,none⟩=some (.int .i64 0):=BG.cell 1;have f0:=BG.frozen 0;have f1:=BG.frozen 1;have zg:=BG.lt));have hk':=bel_next hb5 (show Below W3.heap.size W3 _∧_ by assumption) (Nat.le_refl _);have hks:=hAll _ hk';have hk:=fun o=>hAll _ (hk'.alloc hk'.size o)))
   all_goals
    have hL:=(show Below W3.heap.size W3 _∧_ by assumption).1
    first
     | have hPk:=pack hL ((BG.two0 (u:=.int .i64 (lo - phi))).two1 (u:=.int .i64 (hi - plo)))
     | have hPk:=pack hL (Blk.new _ 186 #[.int .i64 (lo - phi),.int .i64 (hi - plo)])
    obtain ⟨w2,hB2,B2,hw⟩:=hPk
    rw [← hw]
    clear hw
    have Bg2:=Bg'.below hB2 Bg'.lt
    have hB4:=hB3.trans (hB2.mono hB3s)
    have d0:w2.cell? ⟨w.heap.size+1,0,none⟩=some (.int .i64 0):=Bg2.cell 0
    have d1:w2.cell? ⟨w.heap.size+1,1,none⟩=some (.int .i64 0):=Bg2.cell 1
    have df0:w2.frozen? ⟨w.heap.size+1,0,none⟩=false:=Bg2.frozen 0
    have df1:w2.frozen? ⟨w.heap.size+1,1,none⟩=false:=Bg2.frozen 1
    have q2:w2.cell? ⟨_,0,none⟩=some (.int .i64 (lo - phi)):=B2.cell 0
    have q3:w2.cell? ⟨_,1,none⟩=some (.int .i64 (hi - plo)):=B2.cell 1
    have hB4s:=hB4.size
    clear hAll hI
    go_wp2_with fail
    refine bodyPost_ret (v:=.agg #[.int .i64 (lo - phi+1048576),.int .i64 (hi - plo+1048576)]) (by simp [results,Tryz.results206,go_sem,d0,d1]) rfl ⟨rfl,(by repeat first | with_reducible (first | exact hB4 | apply below_drewN' | apply Below.drew | refine Below.alloc ?_ ?_ _ | refine Below.setCell ?_ ?_ _) | exact hB4 | omega | (simp <;> omega) | (have:=(hB4).size;first | omega | (simp <;> omega)))⟩
  ·rw [if_neg hneg]
   go_enter Tryz.func206,Tryz.ntmps206
   go_wp2_with (first | (go_at_call 227;refine (HL _).out.mono ?_;rintro e w1 ⟨rfl,hb1⟩;have Bx:=((Blk.new w 51 #[.int .i64 m,.int .i64 t]).alloc (.cells #[.int .i64 0,.int .i64 0] 186)).below hb1 (by first | (simp;done) | (simp;omega));have Bg:=(Blk.new' (w.alloc (.cells #[.int .i64 m,.int .i64 t] 51)) 186 #[.int .i64 0,.int .i64 0] (g:=w.heap.size+1) (by simp)).below hb1 (by simp);have x0:w1.cell? ⟨w.heap.size,0,none⟩=some (.int .i64 m):=Bx.cell 0;have x1:w1.cell? ⟨w.heap.size,1,none⟩=some (.int .i64 t):=Bx.cell 1;have xz:=Bx.lt;have c0:w1.cell? ⟨w.heap.size+1,0,none⟩=some (.int .i64 0):=Bg.cell 0;have c1:w1.cell? ⟨w.heap.size+1,1,none⟩=some (.int .i64 0):=Bg.cell 1;have cf0:w1.frozen? ⟨w.heap.size+1,0,none⟩=false:=Bg.frozen 0;have cf1:w1.frozen? ⟨w.heap.size+1,1,none⟩=false:=Bg.frozen 1;have cz:=Bg.lt;have hB1:Below w.heap.size w w1:=((Below.alloc (Below.alloc (Below.refl _ _) (Nat.le_refl _) _) (by simp) _:Below w.heap.size w ((w.alloc (.cells #[.int .i64 m,.int .i64 t] 51)).alloc (.cells #[.int .i64 0,.int .i64 0] 186)))).trans (hb1.mono (by first | (simp;done) | (simp;omega)));have hB1s:=hB1.size))
   have Ba:=Blk.new w1 186 #[.int .i64 lo,.int .i64 hi]
   have Bg':=Bg.alloc (.cells #[.int .i64 lo,.int .i64 hi] 186)
   have hB3:=hB1.alloc hB1s (.cells #[.int .i64 lo,.int .i64 hi] 186)
   have hB3s:=hB3.size
   clear x0 x1 c0 c1 cf0 cf1 Bx
   generalize w1.alloc (.cells #[.int .i64 lo,.int .i64 hi] 186)=W3 at *
   have hAll:∀ w',Below W3.heap.size W3 w'→Below W3.heap.size W3 w'∧w'.cell? ⟨w1.heap.size,0,none⟩=some (.int .i64 lo)∧w'.cell? ⟨w1.heap.size,1,none⟩=some (.int .i64 hi):=fun w' hL =>
    ⟨hL,(hL.cell (p:=⟨w1.heap.size,0,none⟩) Ba.lt).trans (Ba.cell 0),(hL.cell (p:=⟨w1.heap.size,1,none⟩) Ba.lt).trans (Ba.cell 1)⟩
   have hI:=hAll W3.drew (Below.refl _ _).drew
   go_region_held3 (fun w'=>Below W3.heap.size W3 w'∧w'.cell? ⟨w1.heap.size,0,none⟩=some (.int .i64 lo)∧w'.cell? ⟨w1.heap.size,1,none⟩=some (.int .i64 hi))
    (first | exact hI | assumption | exact hk _ | exact hAll _ (bel_next (by assumption) (by assumption) (Nat.le_refl _)) | exact hAll _ (bel_alloc (by assumption) _ (Nat.le_refl _)) | exact hAll _ (bel_set2 (by assumption) (by omega)) | fail)
    (first | (go_at_call 227;refine (HP _).out.mono ?_;rintro e w5 ⟨rfl,hb5⟩;have hz5:=hb5.size;(try rw [size_drew'] at hz5);(try rw [size_alloc'] at hz5);(try first | (have BG:=BG.below hb5 BG.lt;have c0:w5.cell? ⟨_,0,none⟩=some (.int .i64 0):=BG.cell 0;have c1:w5.cell? ⟨_,1,none⟩=some (.int .i64 0):=BG.cell 1;have f0:=BG.frozen 0;have f1:=BG.frozen 1;have zg:=BG.lt) | (have BG:=(Blk.new _ 186 #[.int .i64 0,.int .i64 0]).below hb5 (by simp);have c0:w5.cell? ⟨_,0,none⟩=some (.int .i64 0):=BG.cell 0;have c1:w5.cell? ⟨_,1,none⟩=some (.int .i64 0):=BG.cell 1;have f0:=BG.frozen 0;have f1:=BG.frozen 1;have zg:=BG.lt) | (have BG:=(blk_newDrew _ 186 #[.int .i64 0,.int .i64 0]).below hb5 (by rw [size_drew',size_alloc'];omega);have c0:w5.cell? ⟨_,0,none⟩=some (.int .i64 0):=BG.cell 0;have c1:w5.cell? ⟨_,1,none⟩=some (.int .i64 0):=BG.cell 1;have f0:=BG.frozen 0;have f1:=BG.frozen 1;have zg:=BG.lt))) | (go_at_call 212;refine (HB _ _ _ _ (by omega) (by omega) (by omega) (by omega) _).out.mono ?_;rintro e w5 ⟨rfl,hb5⟩;have hz5:=hb5.size;(try rw [size_drew'] at hz5);(try rw [size_alloc'] at hz5);(try first | (have BG:=BG.below hb5 BG.lt;have c0:w5.cell? ⟨_,0,none⟩=some (.int .i64 0):=BG.cell 0;have c1:w5.cell? ⟨_,1,none⟩=some (.int .i64 0):=BG.cell 1;have f0:=BG.frozen 0;have f1:=BG.frozen 1;have zg:=BG.lt) | (have BG:=(Blk.new _ 186 #[.int .i64 0,.int .i64 0]).below hb5 (by simp);have c0:w5.cell? ⟨_,0,none⟩=some (.int .i64 0):=BG.cell 0;have c1:w5.cell? ⟨_,1,none⟩=some (.int .i64 0):=BG.cell 1;have f0:=BG.frozen 0;have f1:=BG.frozen 1;have zg:=BG.lt) | (have BG:=(blk_newDrew _ 186 #[.int .i64 0,.int .i64 0]).below hb5 (by rw [size_drew',size_alloc'];omega);have c0:w5.cell? ⟨_,0,none⟩=some (.int .i64 0):=BG.cell 0;have c1:w5.cell? ⟨_,1,none⟩=some (.int .i64 0):=BG.cell 1;have f0:=BG.frozen 0;have f1:=BG.frozen 1;have zg:=BG.lt));have hk':=bel_next hb5 (show Below W3.heap.size W3 _∧_ by assumption) (Nat.le_refl _);have hks:=hAll _ hk';have hk:=fun o=>hAll _ (hk'.alloc hk'.size o)))
   all_goals
    have hL:=(show Below W3.heap.size W3 _∧_ by assumption).1
    first
     | have hPk:=pack hL ((BG.two0 (u:=.int .i64 (lo - phi))).two1 (u:=.int .i64 (hi - plo)))
     | have hPk:=pack hL (Blk.new _ 186 #[.int .i64 (lo - phi),.int .i64 (hi - plo)])
    obtain ⟨w2,hB2,B2,hw⟩:=hPk
    rw [← hw]
    clear hw
    have Bg2:=Bg'.below hB2 Bg'.lt
    have hB4:=hB3.trans (hB2.mono hB3s)
    have d0:w2.cell? ⟨w.heap.size+1,0,none⟩=some (.int .i64 0):=Bg2.cell 0
    have d1:w2.cell? ⟨w.heap.size+1,1,none⟩=some (.int .i64 0):=Bg2.cell 1
    have df0:w2.frozen? ⟨w.heap.size+1,0,none⟩=false:=Bg2.frozen 0
    have df1:w2.frozen? ⟨w.heap.size+1,1,none⟩=false:=Bg2.frozen 1
    have q2:w2.cell? ⟨_,0,none⟩=some (.int .i64 (lo - phi)):=B2.cell 0
    have q3:w2.cell? ⟨_,1,none⟩=some (.int .i64 (hi - plo)):=B2.cell 1
    have hB4s:=hB4.size
    clear hAll hI
    go_wp2_with fail
    refine bodyPost_ret (v:=.agg #[.int .i64 (lo - phi),.int .i64 (hi - plo)]) (by simp [results,Tryz.results206,go_sem,d0,d1]) rfl ⟨rfl,(by repeat first | with_reducible (first | exact hB4 | apply below_drewN' | apply Below.drew | refine Below.alloc ?_ ?_ _ | refine Below.setCell ?_ ?_ _) | exact hB4 | omega | (simp <;> omega) | (have:=(hB4).size;first | omega | (simp <;> omega)))⟩
theorem l11PointT_c (s m t:Int) (w:World) (hs:0 ≤ s∧s ≤ 4) (hm:1000 ≤ m∧m ≤ 9999) (ht:-1000000 ≤ t∧t ≤ 1000000) :
  Calls Tryz.prog 172 #[.int .i64 s,.agg #[.int .i64 m,.int .i64 t]] w fun e w'=>e=.returned (.int .i64 (pointT s m t))∧Below w.heap.size w w':=by
 obtain ⟨⟨p1,p2⟩,⟨p3,p4⟩,_⟩:=posT_bd (t:=t) hs hm
 have HL:=fun W=>Lib.hid (l05PositionT_c s m t W hs hm ht)
 unfold pointT
 generalize (posT s m t).1=lo at *
 generalize (posT s m t).2=hi at *
 have HD:=fun W=>Lib.hid (l01Floor_c (lo+hi) 2 W (by omega) (by omega))
 go_enter Tryz.func172,Tryz.ntmps172
 go_wp2_with fail
 refine (HL _).out.mono ?_;rintro e w1 ⟨rfl,hb1⟩
 have hB1:Below w.heap.size w w1:=((Below.refl _ _).alloc (Nat.le_refl _) _).trans (hb1.mono (by simp))
 have hB1s:=hB1.size
 go_wp2_with (go_at_call 207;refine (HD _).out.mono ?_;rintro e w2 ⟨rfl,rfl⟩)
 go_ret
 exact ⟨rfl,(by repeat first | with_reducible (first | exact hB1 | apply below_drewN' | apply Below.drew | refine Below.alloc ?_ ?_ _ | refine Below.setCell ?_ ?_ _) | exact hB1 | omega | (simp <;> omega) | (have:=(hB1).size;first | omega | (simp <;> omega)))⟩
end Go.Proofs.YtednjmldjbndhaaGreat
