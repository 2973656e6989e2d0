/- Whether a release keeps its bound: the program's and the reference's. Condition: the release is valid. -/
import Derived.Test.YtednjmldjbndhaaGreatDoorKCt17
import Derived.Test.YtednjmldjbndhaaGreatDoorKCt18
import Derived.Test.YtednjmldjbndhaaGreatDoorKCt6
set_option linter.unusedSimpArgs false
set_option linter.unusedVariables false
set_option maxRecDepth 100000
set_option maxHeartbeats 8000000
namespace Go.Proofs.YtednjmldjbndhaaGreatDoor
open Go.RowKit
def safeF (p q lf rt ey:Int):Int:=-(-((2+ey) * 1048576 * (lf+rt)) / (lf * rt))+3 * (max p (-p)+max q (-q)+2)+4
theorem safe_bd {lf rt ey:Int} (hlf:100 ≤ lf∧lf ≤ 20000) (hrt:100 ≤ rt∧rt ≤ 20000) (hey:0 ≤ ey∧ey ≤ 200) :
  (0 ≤ (2+ey) * 1048576 * (lf+rt)∧(2+ey) * 1048576 * (lf+rt) ≤ 10000000000000)∧(10000 ≤ lf * rt∧lf * rt ≤ 400000000):=by
 have h1:0 ≤ (2+ey) * 1048576∧(2+ey) * 1048576 ≤ 211812352:=by omega
 have h2:200 ≤ lf+rt∧lf+rt ≤ 40000:=by omega
 refine ⟨⟨Int.mul_nonneg h1.1 (by omega),?_⟩,?_,?_⟩
 ·have:=Int.mul_le_mul h1.2 h2.2 (by omega) (by omega:(0:Int) ≤ 211812352)
  omega
 ·have:=Int.mul_le_mul hlf.1 hrt.1 (by omega) (by omega:(0:Int) ≤ lf)
  omega
 ·have:=Int.mul_le_mul hlf.2 hrt.2 (by omega) (by omega:(0:Int) ≤ 20000)
  omega
theorem ceil_bd {n d:Int} (hn:0 ≤ n∧n ≤ 10000000000000) (hd:10000 ≤ d):0 ≤ -(-n / d)∧-(-n / d) ≤ 10000000000000:=by
 have h1:=Int.mul_ediv_add_emod (-n) d
 have h2:=Int.emod_nonneg (-n) (by omega:d ≠ 0)
 have h3:=Int.emod_lt_of_pos (-n) (by omega:0 < d)
 generalize -n / d=q at *
 constructor
 ·by_cases h:0 < q
  ·have:=Int.mul_le_mul (Int.le_refl d) (show (1:Int) ≤ q by omega) (by omega) (by omega)
   omega
  ·omega
 ·by_cases h:q < -10000000000000
  ·have h4:d * q ≤ d * (-10000000000001):=Int.mul_le_mul_of_nonneg_left (by omega) (by omega)
   have h5:(10000000000001:Int) * 10000 ≤ 10000000000001 * d:=Int.mul_le_mul_of_nonneg_left hd (by omega)
   have h6:d * (-10000000000001)=-(10000000000001 * d):=by rw [Int.mul_neg,Int.mul_comm]
   omega
  ·omega
theorem safeBound_c (fd ft:Int) (s:ByteArray) (b off c:Nat) (p q wd lf rt ey:Int) (w:World) (hb:b < w.heap.size) (c0:w.cell? ⟨b,off,none⟩=some (.int .i64 p)) (c1:w.cell? ⟨b,off+1,none⟩=some (.int .i64 q))
  (hp:-6 ≤ p∧p ≤ 6) (hq:-6 ≤ q∧q ≤ 6) (hlf:100 ≤ lf∧lf ≤ 20000) (hrt:100 ≤ rt∧rt ≤ 20000) (hey:0 ≤ ey∧ey ≤ 200) :
  Calls Tryz.prog 53 #[.agg #[.int .i64 fd,.int .i64 ft,.string s,.slice (some ⟨b,off,none⟩) 2 c,.int .i64 wd,.int .i64 lf,.int .i64 rt],.int .i64 ey] w fun e w'=>e=.returned (.int .i64 (safeF p q lf rt ey))∧Below w.heap.size w w':=by
 have hW:Below w.heap.size w (w.alloc (.cells #[.int .i64 fd,.int .i64 ft,.string s,.slice (some ⟨b,off,none⟩) 2 c,.int .i64 wd,.int .i64 lf,.int .i64 rt] 31)):=(by repeat first | with_reducible (first | exact Below.refl _ _ | apply below_drewN' | apply Below.drew | refine Below.alloc ?_ ?_ _ | refine Below.setCell ?_ ?_ _) | exact Below.refl _ _ | omega | (simp <;> omega) | (have:=(Below.refl _ _).size;first | omega | (simp <;> omega)))
 have B0:=Blk.new w 31 #[.int .i64 fd,.int .i64 ft,.string s,.slice (some ⟨b,off,none⟩) 2 c,.int .i64 wd,.int .i64 lf,.int .i64 rt]
 obtain ⟨hN,hD⟩:=safe_bd hlf hrt hey
 have hC:=ceil_bd hN hD.1
 have wN:IntKind.i64.wrap ((2+ey) * 1048576 * (lf+rt))=(2+ey) * 1048576 * (lf+rt):=IntWalk.i64_in _ (by omega)
 have wD:IntKind.i64.wrap (lf * rt)=lf * rt:=IntWalk.i64_in _ (by omega)
 have HU:=Lib.hid (fun W=>up_c ((2+ey) * 1048576 * (lf+rt)) (lf * rt) W (by omega) (by omega))
 have hR:Hid (safeF p q lf rt ey=-(-((2+ey) * 1048576 * (lf+rt)) / (lf * rt))+3 * (max p (-p)+max q (-q)+2)+4):=Lib.hid rfl
 generalize safeF p q lf rt ey=res at *
 generalize hz:-(-((2+ey) * 1048576 * (lf+rt)) / (lf * rt))=z at *
 have x0:(w.alloc (.cells #[.int .i64 fd,.int .i64 ft,.string s,.slice (some ⟨b,off,none⟩) 2 c,.int .i64 wd,.int .i64 lf,.int .i64 rt] 31)).cell? ⟨b,off,none⟩=some (.int .i64 p):=(hW.cell (p:=⟨b,off,none⟩) hb).trans c0
 have x1:(w.alloc (.cells #[.int .i64 fd,.int .i64 ft,.string s,.slice (some ⟨b,off,none⟩) 2 c,.int .i64 wd,.int .i64 lf,.int .i64 rt] 31)).cell? ⟨b,off+1,none⟩=some (.int .i64 q):=(hW.cell (p:=⟨b,off+1,none⟩) hb).trans c1
 have y3:(w.alloc (.cells #[.int .i64 fd,.int .i64 ft,.string s,.slice (some ⟨b,off,none⟩) 2 c,.int .i64 wd,.int .i64 lf,.int .i64 rt] 31)).cell? ⟨w.heap.size,3,none⟩=some (.slice (some ⟨b,off,none⟩) 2 c):=B0.cell 3
 clear c0 c1 hz
 go_enter Tryz.func53,Tryz.ntmps53
 go_wp2_with fail
 go_quiet (fail)
 refine then_world (R:=fun V=>Blk V w.heap.size 31 #[.int .i64 fd,.int .i64 ft,.string s,.slice (some ⟨b,off,none⟩) 2 c,.int .i64 wd,.int .i64 lf,.int .i64 rt]∧Below w.heap.size w V) ⟨B0,by first | exact below_drewN' hW _ | exact hW.drew | exact hW⟩ (fun V hV=>?_)
 clear x0 x1 y3 B0 hW
 obtain ⟨B0,hW⟩:=hV
 have y5:V.cell? ⟨w.heap.size,5,none⟩=some (.int .i64 lf):=B0.cell 5
 have y6:V.cell? ⟨w.heap.size,6,none⟩=some (.int .i64 rt):=B0.cell 6
 go_wp2_with (go_at_call 79;refine (HU.out _).mono ?_;rintro e w5 ⟨rfl,rfl⟩)
 all_goals go_ret
 all_goals exact ⟨by rw [hR.out];exact ret_int (by omega),hW⟩
theorem l27Safe_c (fd ft:Int) (s:ByteArray) (b off c:Nat) (p q wd lf rt ey:Int) (w:World) (hb:b < w.heap.size) (c0:w.cell? ⟨b,off,none⟩=some (.int .i64 p)) (c1:w.cell? ⟨b,off+1,none⟩=some (.int .i64 q))
  (hp:-6 ≤ p∧p ≤ 6) (hq:-6 ≤ q∧q ≤ 6) (hlf:100 ≤ lf∧lf ≤ 20000) (hrt:100 ≤ rt∧rt ≤ 20000) (hey:0 ≤ ey∧ey ≤ 200) :
  Calls Tryz.prog 74 #[.agg #[.int .i64 fd,.int .i64 ft,.string s,.slice (some ⟨b,off,none⟩) 2 c,.int .i64 wd,.int .i64 lf,.int .i64 rt],.int .i64 ey] w fun e w'=>e=.returned (.int .i64 (safeF p q lf rt ey))∧Below w.heap.size w w':=by
 have hW:Below w.heap.size w (w.alloc (.cells #[.int .i64 fd,.int .i64 ft,.string s,.slice (some ⟨b,off,none⟩) 2 c,.int .i64 wd,.int .i64 lf,.int .i64 rt] 31)):=(by repeat first | with_reducible (first | exact Below.refl _ _ | apply below_drewN' | apply Below.drew | refine Below.alloc ?_ ?_ _ | refine Below.setCell ?_ ?_ _) | exact Below.refl _ _ | omega | (simp <;> omega) | (have:=(Below.refl _ _).size;first | omega | (simp <;> omega)))
 have B0:=Blk.new w 31 #[.int .i64 fd,.int .i64 ft,.string s,.slice (some ⟨b,off,none⟩) 2 c,.int .i64 wd,.int .i64 lf,.int .i64 rt]
 obtain ⟨hN,hD⟩:=safe_bd hlf hrt hey
 have hC:=ceil_bd hN hD.1
 have wN:IntKind.i64.wrap ((2+ey) * 1048576 * (lf+rt))=(2+ey) * 1048576 * (lf+rt):=IntWalk.i64_in _ (by omega)
 have wD:IntKind.i64.wrap (lf * rt)=lf * rt:=IntWalk.i64_in _ (by omega)
 have HU:=Lib.hid (fun W=>l01Ceil_c ((2+ey) * 1048576 * (lf+rt)) (lf * rt) W (by omega) (by omega))
 have HP:=Lib.hid (fun W=>l01Abs_c p W (by omega))
 have HQ:=Lib.hid (fun W=>l01Abs_c q W (by omega))
 have hR:Hid (safeF p q lf rt ey=-(-((2+ey) * 1048576 * (lf+rt)) / (lf * rt))+3 * (max p (-p)+max q (-q)+2)+4):=Lib.hid rfl
 have hap:0 ≤ max p (-p)∧max p (-p) ≤ 6:=by omega
 have haq:0 ≤ max q (-q)∧max q (-q) ≤ 6:=by omega
 generalize safeF p q lf rt ey=res at *
 generalize hz:-(-((2+ey) * 1048576 * (lf+rt)) / (lf * rt))=z at *
 generalize max p (-p)=ap at *
 generalize max q (-q)=aq at *
 have x0:(w.alloc (.cells #[.int .i64 fd,.int .i64 ft,.string s,.slice (some ⟨b,off,none⟩) 2 c,.int .i64 wd,.int .i64 lf,.int .i64 rt] 31)).cell? ⟨b,off,none⟩=some (.int .i64 p):=(hW.cell (p:=⟨b,off,none⟩) hb).trans c0
 have x1:(w.alloc (.cells #[.int .i64 fd,.int .i64 ft,.string s,.slice (some ⟨b,off,none⟩) 2 c,.int .i64 wd,.int .i64 lf,.int .i64 rt] 31)).cell? ⟨b,off+1,none⟩=some (.int .i64 q):=(hW.cell (p:=⟨b,off+1,none⟩) hb).trans c1
 have y3:(w.alloc (.cells #[.int .i64 fd,.int .i64 ft,.string s,.slice (some ⟨b,off,none⟩) 2 c,.int .i64 wd,.int .i64 lf,.int .i64 rt] 31)).cell? ⟨w.heap.size,3,none⟩=some (.slice (some ⟨b,off,none⟩) 2 c):=B0.cell 3
 have y5:(w.alloc (.cells #[.int .i64 fd,.int .i64 ft,.string s,.slice (some ⟨b,off,none⟩) 2 c,.int .i64 wd,.int .i64 lf,.int .i64 rt] 31)).cell? ⟨w.heap.size,5,none⟩=some (.int .i64 lf):=B0.cell 5
 have y6:(w.alloc (.cells #[.int .i64 fd,.int .i64 ft,.string s,.slice (some ⟨b,off,none⟩) 2 c,.int .i64 wd,.int .i64 lf,.int .i64 rt] 31)).cell? ⟨w.heap.size,6,none⟩=some (.int .i64 rt):=B0.cell 6
 clear c0 c1 hz
 go_enter Tryz.func74,Tryz.ntmps74
 go_wp2_with (first | (go_at_call 104;refine (HU.out _).mono ?_;rintro e w5 ⟨rfl,rfl⟩) | fail)
 clear HU wN wD hN hD B0
 go_quiet (first | (go_at_call 105;with_reducible refine Calls.quiet_of_same ((HP.out _).mono fun _ _ ⟨h1,h2⟩=>⟨h1,h2.symm⟩)) | (go_at_call 105;with_reducible refine Calls.quiet_of_same ((HQ.out _).mono fun _ _ ⟨h1,h2⟩=>⟨h1,h2.symm⟩)))
 go_wp2
 go_ret
 exact ⟨by rw [hR.out];rfl,by first | exact below_drewN' hW _ | exact hW.drew | exact hW⟩
def Rl.kept (r:Rl):Bool:=match r.l with
 | [p,q]=>decide (safeF p q r.lf r.rt r.ey ≤ r.bo)
 | _=>false
theorem Rl.parts {r:Rl} (h:r.b=true):(100 ≤ r.lf∧r.lf ≤ 20000)∧(100 ≤ r.rt∧r.rt ≤ 20000)∧(0 ≤ r.ey∧r.ey ≤ 200)∧∃ p q,r.l=[p,q]∧(-6 ≤ p∧p ≤ 6)∧(-6 ≤ q∧q ≤ 6):=by
 unfold Rl.b relB at h
 simp only [Bool.and_eq_true,inB_true] at h
 obtain ⟨⟨⟨⟨⟨hc,_⟩,hey,_⟩,_⟩,_⟩,_⟩:=h
 obtain ⟨_,_,_,hlf,hrt,p,q,hl,hp,hq⟩:=chart_parts hc
 exact ⟨hlf,hrt,hey,p,q,hl,hp,hq⟩
theorem implIsKept_c (r:Rl) (A:Option Addr) (c:Nat) (w:World) (E:RlIn w A c r) (hb:r.b=true):Calls Tryz.prog 20 #[.agg (r.cells A c).toArray] w fun e w'=>e=.returned (.tuple #[.bool r.kept,.int .i64 0])∧Below w.heap.size w w':=by
 obtain ⟨hlf,hrt,hey,p,q,hl,hp,hq⟩:=Rl.parts hb
 have hR:Hid (r.kept=decide (safeF p q r.lf r.rt r.ey ≤ r.bo)):=Lib.hid (by unfold Rl.kept;rw [hl])
 have HI:=Lib.hid (fun W (hW:Below w.heap.size w W)=>(by have h:=implIsRl_c r A c W (E.later hW);rw [hb] at h;exact h:Calls Tryz.prog 52 #[.agg (r.cells A c).toArray] W fun e w'=>e=.returned (.bool true)∧Below W.heap.size W w'))
 have hs:=E.s
 rw [hl] at hs
 obtain ⟨b,off,rfl,hbB,hx⟩:=hs.at_ (i:=0) (by simp)
 obtain ⟨b1,off1,h1,_,hx1⟩:=hs.at_ (i:=1) (by simp)
 obtain ⟨rfl,rfl⟩:b=b1∧off=off1:=by simpa using h1
 have c0:w.cell? ⟨b,off,none⟩=some (.int .i64 p):=by simpa using hx 0 _ rfl
 have c1:w.cell? ⟨b,off+1,none⟩=some (.int .i64 q):=by simpa using hx1 0 _ rfl
 have HS:=Lib.hid (fun W (hW:Below w.heap.size w W)=>safeBound_c r.fd r.ft r.nm b off c p q r.wd r.lf r.rt r.ey W (Nat.lt_of_lt_of_le hbB hW.size) ((hW.cell (p:=⟨b,off,none⟩) hbB).trans c0) ((hW.cell (p:=⟨b,off+1,none⟩) hbB).trans c1) hp hq hlf hrt hey)
 have hW:Below w.heap.size w (w.alloc (.cells (r.cells (some ⟨b,off,none⟩) c).toArray 33)):=(by repeat first | with_reducible (first | exact Below.refl _ _ | apply below_drewN' | apply Below.drew | refine Below.alloc ?_ ?_ _ | refine Below.setCell ?_ ?_ _) | exact Below.refl _ _ | omega | (simp <;> omega) | (have:=(Below.refl _ _).size;first | omega | (simp <;> omega)))
 have B0:=Blk.new w 33 (r.cells (some ⟨b,off,none⟩) c).toArray
 have HB:Hid (∀ W,Blk W w.heap.size 33 (r.cells (some ⟨b,off,none⟩) c).toArray→W.rangeAt w.heap.size 0 [.int .i64 r.fd,.int .i64 r.ft,.string r.nm,.slice (some ⟨b,off,none⟩) 2 c,.int .i64 r.wd,.int .i64 r.lf,.int .i64 r.rt]∧W.cell? ⟨w.heap.size,15,none⟩=some (.int .i64 r.ey)∧W.cell? ⟨w.heap.size,16,none⟩=some (.int .i64 r.bo)):=Lib.hid (fun W h=>by
  have h2:=h
  unfold Rl.cells at h2
  rw [hl] at h2
  exact ⟨Blk.part (xs:=[]) (ys:=[.int .i64 r.lud,.int .i64 r.lut,.int .i64 r.hud,.int .i64 r.hut,.int .i64 r.lvd,.int .i64 r.lvt,.int .i64 r.hvd,.int .i64 r.hvt,.int .i64 r.ey,.int .i64 r.bo]) h2 rfl,h.cell 15,h.cell 16⟩)
 have hr:=B0.range
 have hcl:(r.cells (some ⟨b,off,none⟩) c).length=17:=rfl
 clear hl hs hx hx1 h1 c0 c1 hlf hrt hey hp hq hb E
 generalize r.kept=kb at *
 generalize safeF p q r.lf r.rt r.ey=sf at *
 generalize r.cells (some ⟨b,off,none⟩) c=cs at *
 generalize r.ey=ey at *
 generalize r.bo=bo at *
 go_enter Tryz.func20,Tryz.ntmps20
 go_wp2_with (first | (refine wpList_load_mid rfl 33 _ rfl (w.heap.size) 0 rfl (cs) _ hr Tryz.underlying33 rfl (by kernel_rfl) ?_) | fail)
 generalize w.alloc (.cells cs.toArray 33)=W at *
 clear hr
 refine Calls.mono (HI.out W hW) ?_;rintro e w1 ⟨rfl,hb1⟩
 replace B0:=B0.below hb1 B0.lt
 replace hW:=hW.trans (hb1.mono hW.size)
 clear hb1
 obtain ⟨y0,y1,y2⟩:=HB.out _ B0
 have hd:decide (bo ≥ sf)=kb:=by rw [hR.out]
 have hB0:=B0.lt
 go_wp2_with fail
 refine wp_region_all (fun a0 fL bA v=>∃ v7 v8 v9 v10 v11 v12 v13 v14 v2 v3:Value,bA=(((((((((a0.put (some 7) v7).put (some 8) v8).put (some 9) v9).put (some 10) v10).put (some 11) v11).put (some 12) v12).put (some 13) v13).put (some 14) v14).put (some 2) v2).put (some 3) v3∧(Below w1.heap.size w1 v)∧(fL 0=true→v7=.pointer (some ⟨w.heap.size,16,none⟩))∧(fL 1=true→v8=.int .i64 bo)∧(fL 2=true→v9=.pointer (some ⟨w.heap.size,0,none⟩))∧(fL 3=true→v10=.agg #[.int .i64 r.fd,.int .i64 r.ft,.string r.nm,.slice (some ⟨b,off,none⟩) 2 c,.int .i64 r.wd,.int .i64 r.lf,.int .i64 r.rt])∧(fL 4=true→v11=.pointer (some ⟨w.heap.size,15,none⟩))∧(fL 5=true→v12=.int .i64 ey)∧(fL 6=true→v13=.int .i64 sf)∧(fL 7=true→v14=.bool kb)∧(fL 8=true→v2=.bool kb)∧(fL 9=true→v3=.int .i64 0)) (by kernel_rfl) (by decide +kernel) ?_ ?_ ?_
 ·exact ⟨_,_,_,_,_,_,_,_,_,_,put_more (put_more (put_more (put_more (put_more (put_more (put_more (put_more (put_more (put_more (rfl) 7) 8) 9) 10) 11) 12) 13) 14) 2) 3,(Below.refl _ _).drew,nofun,nofun,nofun,nofun,nofun,nofun,nofun,nofun,nofun,nofun⟩
 ·rintro fL bA v ⟨v7,v8,v9,v10,v11,v12,v13,v14,v2,v3,rfl,hS,q0,q1,q2,q3,q4,q5,q6,q7,q8,q9⟩ i hi hf o ho hall
  simp only [Act.put,List.setIfInBounds_toArray,List.set_cons_zero,List.set_cons_succ]
  simp only [List.length_cons,List.length_nil] at hi
  have hn:i=0 ∨ i=1 ∨ i=2 ∨ i=3 ∨ i=4 ∨ i=5 ∨ i=6 ∨ i=7 ∨ i=8 ∨ i=9:=by omega
  clear hi
  rcases hn with rfl | rfl | rfl | rfl | rfl | rfl | rfl | rfl | rfl | rfl
  ·obtain rfl:=Option.some.inj ho
   clear hall ho
   refine wpOp_step rfl (fun K hK=>?_)
   go_simp
   exact hK _ _ ⟨_,_,_,_,_,_,_,_,_,_,rfl,hS,fun _=>rfl,q1,q2,q3,q4,q5,q6,q7,q8,q9⟩
  ·obtain rfl:=Option.some.inj ho
   obtain rfl:=q0 (hall ⟨0,.data⟩ (by simp) rfl)
   have z:=(hS.cell (p:=⟨w.heap.size,16,none⟩) hB0).trans y2
   clear hall ho
   refine wpOp_step rfl (fun K hK=>?_)
   go_simp
   exact hK _ _ ⟨_,_,_,_,_,_,_,_,_,_,rfl,hS,fun _=>rfl,fun _=>rfl,q2,q3,q4,q5,q6,q7,q8,q9⟩
  ·obtain rfl:=Option.some.inj ho
   clear hall ho
   refine wpOp_step rfl (fun K hK=>?_)
   go_simp
   exact hK _ _ ⟨_,_,_,_,_,_,_,_,_,_,rfl,hS,q0,q1,fun _=>rfl,q3,q4,q5,q6,q7,q8,q9⟩
  ·obtain rfl:=Option.some.inj ho
   obtain rfl:=q2 (hall ⟨2,.data⟩ (by simp) rfl)
   clear hall ho
   refine wpOp_step rfl (fun K hK=>?_)
   refine wp_load_mid 31 _ rfl w.heap.size 0 rfl [.int .i64 r.fd,.int .i64 r.ft,.string r.nm,.slice (some ⟨b,off,none⟩) 2 c,.int .i64 r.wd,.int .i64 r.lf,.int .i64 r.rt] _ (rangeAt_below y0 hS hB0) Tryz.underlying31 rfl (by kernel_rfl) ?_
   exact hK _ _ ⟨_,_,_,_,_,_,_,_,_,_,rfl,hS,q0,q1,fun _=>rfl,fun _=>rfl,q4,q5,q6,q7,q8,q9⟩
  ·obtain rfl:=Option.some.inj ho
   clear hall ho
   refine wpOp_step rfl (fun K hK=>?_)
   go_simp
   exact hK _ _ ⟨_,_,_,_,_,_,_,_,_,_,rfl,hS,q0,q1,q2,q3,fun _=>rfl,q5,q6,q7,q8,q9⟩
  ·obtain rfl:=Option.some.inj ho
   obtain rfl:=q4 (hall ⟨4,.data⟩ (by simp) rfl)
   have z:=(hS.cell (p:=⟨w.heap.size,15,none⟩) hB0).trans y1
   clear hall ho
   refine wpOp_step rfl (fun K hK=>?_)
   go_simp
   exact hK _ _ ⟨_,_,_,_,_,_,_,_,_,_,rfl,hS,q0,q1,q2,q3,fun _=>rfl,fun _=>rfl,q6,q7,q8,q9⟩
  ·obtain rfl:=Option.some.inj ho
   obtain rfl:=q3 (hall ⟨3,.data⟩ (by simp) rfl)
   obtain rfl:=q5 (hall ⟨5,.data⟩ (by simp) rfl)
   clear hall ho
   refine wpOp_step rfl (fun K hK=>?_)
   go_simp
   refine Calls.mono ((HS.out v (hW.trans (hS.mono hW.size)))) ?_;rintro e w1 ⟨rfl,hb1⟩
   go_simp
   exact hK _ _ ⟨_,_,_,_,_,_,_,_,_,_,rfl,hS.trans (hb1.mono hS.size),q0,q1,q2,fun _=>rfl,q4,fun _=>rfl,fun _=>rfl,q7,q8,q9⟩
  ·obtain rfl:=Option.some.inj ho
   obtain rfl:=q1 (hall ⟨1,.data⟩ (by simp) rfl)
   obtain rfl:=q6 (hall ⟨6,.data⟩ (by simp) rfl)
   clear hall ho
   refine wpOp_step rfl (fun K hK=>?_)
   go_simp
   exact hK _ _ ⟨_,_,_,_,_,_,_,_,_,_,rfl,hS,q0,fun _=>rfl,q2,q3,q4,q5,fun _=>rfl,fun _=>rfl,q8,q9⟩
  ·obtain rfl:=Option.some.inj ho
   obtain rfl:=q7 (hall ⟨7,.data⟩ (by simp) rfl)
   clear hall ho
   refine wpOp_step rfl (fun K hK=>?_)
   go_simp
   exact hK _ _ ⟨_,_,_,_,_,_,_,_,_,_,rfl,hS,q0,q1,q2,q3,q4,q5,q6,fun _=>rfl,fun _=>rfl,q9⟩
  ·obtain rfl:=Option.some.inj ho
   clear hall ho
   refine wpOp_step rfl (fun K hK=>?_)
   go_simp
   exact hK _ _ ⟨_,_,_,_,_,_,_,_,_,_,rfl,hS,q0,q1,q2,q3,q4,q5,q6,q7,q8,fun _=>rfl⟩
 ·rintro fL bA v ⟨v7,v8,v9,v10,v11,v12,v13,v14,v2,v3,rfl,hS,q0,q1,q2,q3,q4,q5,q6,q7,q8,q9⟩ hall
  simp only [Act.put,List.setIfInBounds_toArray,List.set_cons_zero,List.set_cons_succ]
  simp only [List.length_cons,List.length_nil] at hall
  obtain rfl:=q0 (hall 0 (by omega))
  obtain rfl:=q1 (hall 1 (by omega))
  obtain rfl:=q2 (hall 2 (by omega))
  obtain rfl:=q3 (hall 3 (by omega))
  obtain rfl:=q4 (hall 4 (by omega))
  obtain rfl:=q5 (hall 5 (by omega))
  obtain rfl:=q6 (hall 6 (by omega))
  obtain rfl:=q7 (hall 7 (by omega))
  obtain rfl:=q8 (hall 8 (by omega))
  obtain rfl:=q9 (hall 9 (by omega))
  clear hall
  go_wp2
  go_ret2
  exact ⟨rfl,hW.trans (hS.mono hW.size)⟩
theorem specIsKept_c (r:Rl) (A:Option Addr) (c:Nat) (w:World) (E:RlIn w A c r) (hb:r.b=true):Calls Tryz.prog 51 #[.agg (r.cells A c).toArray] w fun e w'=>e=.returned (.tuple #[.bool r.kept,.int .i64 0])∧Below w.heap.size w w':=by
 obtain ⟨hlf,hrt,hey,p,q,hl,hp,hq⟩:=Rl.parts hb
 have hR:Hid (r.kept=decide (safeF p q r.lf r.rt r.ey ≤ r.bo)):=Lib.hid (by unfold Rl.kept;rw [hl])
 have HI:=Lib.hid (fun W (hW:Below w.heap.size w W)=>(by have h:=specIsRl_c r A c W (E.later hW);rw [hb] at h;exact h:Calls Tryz.prog 57 #[.agg (r.cells A c).toArray] W fun e w'=>e=.returned (.bool true)∧Below W.heap.size W w'))
 have hs:=E.s
 rw [hl] at hs
 obtain ⟨b,off,rfl,hbB,hx⟩:=hs.at_ (i:=0) (by simp)
 obtain ⟨b1,off1,h1,_,hx1⟩:=hs.at_ (i:=1) (by simp)
 obtain ⟨rfl,rfl⟩:b=b1∧off=off1:=by simpa using h1
 have c0:w.cell? ⟨b,off,none⟩=some (.int .i64 p):=by simpa using hx 0 _ rfl
 have c1:w.cell? ⟨b,off+1,none⟩=some (.int .i64 q):=by simpa using hx1 0 _ rfl
 have HS:=Lib.hid (fun W (hW:Below w.heap.size w W)=>l27Safe_c r.fd r.ft r.nm b off c p q r.wd r.lf r.rt r.ey W (Nat.lt_of_lt_of_le hbB hW.size) ((hW.cell (p:=⟨b,off,none⟩) hbB).trans c0) ((hW.cell (p:=⟨b,off+1,none⟩) hbB).trans c1) hp hq hlf hrt hey)
 have hW:Below w.heap.size w (w.alloc (.cells (r.cells (some ⟨b,off,none⟩) c).toArray 33)):=(by repeat first | with_reducible (first | exact Below.refl _ _ | apply below_drewN' | apply Below.drew | refine Below.alloc ?_ ?_ _ | refine Below.setCell ?_ ?_ _) | exact Below.refl _ _ | omega | (simp <;> omega) | (have:=(Below.refl _ _).size;first | omega | (simp <;> omega)))
 have B0:=Blk.new w 33 (r.cells (some ⟨b,off,none⟩) c).toArray
 have HB:Hid (∀ W,Blk W w.heap.size 33 (r.cells (some ⟨b,off,none⟩) c).toArray→W.rangeAt w.heap.size 0 [.int .i64 r.fd,.int .i64 r.ft,.string r.nm,.slice (some ⟨b,off,none⟩) 2 c,.int .i64 r.wd,.int .i64 r.lf,.int .i64 r.rt]∧W.cell? ⟨w.heap.size,15,none⟩=some (.int .i64 r.ey)∧W.cell? ⟨w.heap.size,16,none⟩=some (.int .i64 r.bo)):=Lib.hid (fun W h=>by
  have h2:=h
  unfold Rl.cells at h2
  rw [hl] at h2
  exact ⟨Blk.part (xs:=[]) (ys:=[.int .i64 r.lud,.int .i64 r.lut,.int .i64 r.hud,.int .i64 r.hut,.int .i64 r.lvd,.int .i64 r.lvt,.int .i64 r.hvd,.int .i64 r.hvt,.int .i64 r.ey,.int .i64 r.bo]) h2 rfl,h.cell 15,h.cell 16⟩)
 have hr:=B0.range
 have hcl:(r.cells (some ⟨b,off,none⟩) c).length=17:=rfl
 clear hl hs hx hx1 h1 c0 c1 hlf hrt hey hp hq hb E
 generalize r.kept=kb at *
 generalize safeF p q r.lf r.rt r.ey=sf at *
 generalize r.cells (some ⟨b,off,none⟩) c=cs at *
 generalize r.ey=ey at *
 generalize r.bo=bo at *
 go_enter Tryz.func51,Tryz.ntmps51
 go_wp2_with (first | (refine wpList_load_mid rfl 33 _ rfl (w.heap.size) 0 rfl (cs) _ hr Tryz.underlying33 rfl (by kernel_rfl) ?_) | fail)
 generalize w.alloc (.cells cs.toArray 33)=W at *
 clear hr
 refine Calls.mono (HI.out W hW) ?_;rintro e w1 ⟨rfl,hb1⟩
 replace B0:=B0.below hb1 B0.lt
 replace hW:=hW.trans (hb1.mono hW.size)
 clear hb1
 obtain ⟨y0,y1,y2⟩:=HB.out _ B0
 have hd:decide (bo ≥ sf)=kb:=by rw [hR.out]
 have hB0:=B0.lt
 go_wp2_with fail
 refine wp_region_all (fun a0 fL bA v=>∃ v7 v8 v9 v10 v11 v12 v13 v14 v2 v3:Value,bA=(((((((((a0.put (some 7) v7).put (some 8) v8).put (some 9) v9).put (some 10) v10).put (some 11) v11).put (some 12) v12).put (some 13) v13).put (some 14) v14).put (some 2) v2).put (some 3) v3∧(Below w1.heap.size w1 v)∧(fL 0=true→v7=.pointer (some ⟨w.heap.size,16,none⟩))∧(fL 1=true→v8=.int .i64 bo)∧(fL 2=true→v9=.pointer (some ⟨w.heap.size,0,none⟩))∧(fL 3=true→v10=.agg #[.int .i64 r.fd,.int .i64 r.ft,.string r.nm,.slice (some ⟨b,off,none⟩) 2 c,.int .i64 r.wd,.int .i64 r.lf,.int .i64 r.rt])∧(fL 4=true→v11=.pointer (some ⟨w.heap.size,15,none⟩))∧(fL 5=true→v12=.int .i64 ey)∧(fL 6=true→v13=.int .i64 sf)∧(fL 7=true→v14=.bool kb)∧(fL 8=true→v2=.bool kb)∧(fL 9=true→v3=.int .i64 0)) (by kernel_rfl) (by decide +kernel) ?_ ?_ ?_
 ·exact ⟨_,_,_,_,_,_,_,_,_,_,put_more (put_more (put_more (put_more (put_more (put_more (put_more (put_more (put_more (put_more (rfl) 7) 8) 9) 10) 11) 12) 13) 14) 2) 3,(Below.refl _ _).drew,nofun,nofun,nofun,nofun,nofun,nofun,nofun,nofun,nofun,nofun⟩
 ·rintro fL bA v ⟨v7,v8,v9,v10,v11,v12,v13,v14,v2,v3,rfl,hS,q0,q1,q2,q3,q4,q5,q6,q7,q8,q9⟩ i hi hf o ho hall
  simp only [Act.put,List.setIfInBounds_toArray,List.set_cons_zero,List.set_cons_succ]
  simp only [List.length_cons,List.length_nil] at hi
  have hn:i=0 ∨ i=1 ∨ i=2 ∨ i=3 ∨ i=4 ∨ i=5 ∨ i=6 ∨ i=7 ∨ i=8 ∨ i=9:=by omega
  clear hi
  rcases hn with rfl | rfl | rfl | rfl | rfl | rfl | rfl | rfl | rfl | rfl
  ·obtain rfl:=Option.some.inj ho
   clear hall ho
   refine wpOp_step rfl (fun K hK=>?_)
   go_simp
   exact hK _ _ ⟨_,_,_,_,_,_,_,_,_,_,rfl,hS,fun _=>rfl,q1,q2,q3,q4,q5,q6,q7,q8,q9⟩
  ·obtain rfl:=Option.some.inj ho
   obtain rfl:=q0 (hall ⟨0,.data⟩ (by simp) rfl)
   have z:=(hS.cell (p:=⟨w.heap.size,16,none⟩) hB0).trans y2
   clear hall ho
   refine wpOp_step rfl (fun K hK=>?_)
   go_simp
   exact hK _ _ ⟨_,_,_,_,_,_,_,_,_,_,rfl,hS,fun _=>rfl,fun _=>rfl,q2,q3,q4,q5,q6,q7,q8,q9⟩
  ·obtain rfl:=Option.some.inj ho
   clear hall ho
   refine wpOp_step rfl (fun K hK=>?_)
   go_simp
   exact hK _ _ ⟨_,_,_,_,_,_,_,_,_,_,rfl,hS,q0,q1,fun _=>rfl,q3,q4,q5,q6,q7,q8,q9⟩
  ·obtain rfl:=Option.some.inj ho
   obtain rfl:=q2 (hall ⟨2,.data⟩ (by simp) rfl)
   clear hall ho
   refine wpOp_step rfl (fun K hK=>?_)
   refine wp_load_mid 31 _ rfl w.heap.size 0 rfl [.int .i64 r.fd,.int .i64 r.ft,.string r.nm,.slice (some ⟨b,off,none⟩) 2 c,.int .i64 r.wd,.int .i64 r.lf,.int .i64 r.rt] _ (rangeAt_below y0 hS hB0) Tryz.underlying31 rfl (by kernel_rfl) ?_
   exact hK _ _ ⟨_,_,_,_,_,_,_,_,_,_,rfl,hS,q0,q1,fun _=>rfl,fun _=>rfl,q4,q5,q6,q7,q8,q9⟩
  ·obtain rfl:=Option.some.inj ho
   clear hall ho
   refine wpOp_step rfl (fun K hK=>?_)
   go_simp
   exact hK _ _ ⟨_,_,_,_,_,_,_,_,_,_,rfl,hS,q0,q1,q2,q3,fun _=>rfl,q5,q6,q7,q8,q9⟩
  ·obtain rfl:=Option.some.inj ho
   obtain rfl:=q4 (hall ⟨4,.data⟩ (by simp) rfl)
   have z:=(hS.cell (p:=⟨w.heap.size,15,none⟩) hB0).trans y1
   clear hall ho
   refine wpOp_step rfl (fun K hK=>?_)
   go_simp
   exact hK _ _ ⟨_,_,_,_,_,_,_,_,_,_,rfl,hS,q0,q1,q2,q3,fun _=>rfl,fun _=>rfl,q6,q7,q8,q9⟩
  ·obtain rfl:=Option.some.inj ho
   obtain rfl:=q3 (hall ⟨3,.data⟩ (by simp) rfl)
   obtain rfl:=q5 (hall ⟨5,.data⟩ (by simp) rfl)
   clear hall ho
   refine wpOp_step rfl (fun K hK=>?_)
   go_simp
   refine Calls.mono ((HS.out v (hW.trans (hS.mono hW.size)))) ?_;rintro e w1 ⟨rfl,hb1⟩
   go_simp
   exact hK _ _ ⟨_,_,_,_,_,_,_,_,_,_,rfl,hS.trans (hb1.mono hS.size),q0,q1,q2,fun _=>rfl,q4,fun _=>rfl,fun _=>rfl,q7,q8,q9⟩
  ·obtain rfl:=Option.some.inj ho
   obtain rfl:=q1 (hall ⟨1,.data⟩ (by simp) rfl)
   obtain rfl:=q6 (hall ⟨6,.data⟩ (by simp) rfl)
   clear hall ho
   refine wpOp_step rfl (fun K hK=>?_)
   go_simp
   exact hK _ _ ⟨_,_,_,_,_,_,_,_,_,_,rfl,hS,q0,fun _=>rfl,q2,q3,q4,q5,fun _=>rfl,fun _=>rfl,q8,q9⟩
  ·obtain rfl:=Option.some.inj ho
   obtain rfl:=q7 (hall ⟨7,.data⟩ (by simp) rfl)
   clear hall ho
   refine wpOp_step rfl (fun K hK=>?_)
   go_simp
   exact hK _ _ ⟨_,_,_,_,_,_,_,_,_,_,rfl,hS,q0,q1,q2,q3,q4,q5,q6,fun _=>rfl,fun _=>rfl,q9⟩
  ·obtain rfl:=Option.some.inj ho
   clear hall ho
   refine wpOp_step rfl (fun K hK=>?_)
   go_simp
   exact hK _ _ ⟨_,_,_,_,_,_,_,_,_,_,rfl,hS,q0,q1,q2,q3,q4,q5,q6,q7,q8,fun _=>rfl⟩
 ·rintro fL bA v ⟨v7,v8,v9,v10,v11,v12,v13,v14,v2,v3,rfl,hS,q0,q1,q2,q3,q4,q5,q6,q7,q8,q9⟩ hall
  simp only [Act.put,List.setIfInBounds_toArray,List.set_cons_zero,List.set_cons_succ]
  simp only [List.length_cons,List.length_nil] at hall
  obtain rfl:=q0 (hall 0 (by omega))
  obtain rfl:=q1 (hall 1 (by omega))
  obtain rfl:=q2 (hall 2 (by omega))
  obtain rfl:=q3 (hall 3 (by omega))
  obtain rfl:=q4 (hall 4 (by omega))
  obtain rfl:=q5 (hall 5 (by omega))
  obtain rfl:=q6 (hall 6 (by omega))
  obtain rfl:=q7 (hall 7 (by omega))
  obtain rfl:=q8 (hall 8 (by omega))
  obtain rfl:=q9 (hall 9 (by omega))
  clear hall
  go_wp2
  go_ret2
  exact ⟨rfl,hW.trans (hS.mono hW.size)⟩
end Go.Proofs.YtednjmldjbndhaaGreatDoor
