/- Whether a release keeps its bound: the program's and the reference's. Condition: the release is valid. -/
import Derived.Test.YtednjmldjbndhaaGreatDoorKMr17
import Derived.Test.YtednjmldjbndhaaGreatDoorKMr20
import Derived.Test.YtednjmldjbndhaaGreatDoorKMr6
set_option linter.unusedSimpArgs false
set_option linter.unusedVariables false
set_option maxRecDepth 100000
set_option maxHeartbeats 8000000
namespace Go.Proofs.YtednjmldjbndhaaGreatDoor
open Go.RowKit
def safeF (p q lf rt ey:Int):Int:=-(-((2+ey) * 1048576 * (lf+rt)) / (lf * rt))+3 * (max p (-p)+max q (-q)+2)+4
theorem safe_bd {lf rt ey:Int} (hlf:100 ≤ lf∧lf ≤ 20000) (hrt:100 ≤ rt∧rt ≤ 20000) (hey:0 ≤ ey∧ey ≤ 200) :
  (0 ≤ (2+ey) * 1048576 * (lf+rt)∧(2+ey) * 1048576 * (lf+rt) ≤ 10000000000000)∧(10000 ≤ lf * rt∧lf * rt ≤ 400000000):=by
 have h1:0 ≤ (2+ey) * 1048576∧(2+ey) * 1048576 ≤ 211812352:=by omega
 have h2:200 ≤ lf+rt∧lf+rt ≤ 40000:=by omega
 refine ⟨⟨Int.mul_nonneg h1.1 (by omega),?_⟩,?_,?_⟩
 ·have:=Int.mul_le_mul h1.2 h2.2 (by omega) (by omega:(0:Int) ≤ 211812352)
  omega
 ·have:=Int.mul_le_mul hlf.1 hrt.1 (by omega) (by omega:(0:Int) ≤ lf)
  omega
 ·have:=Int.mul_le_mul hlf.2 hrt.2 (by omega) (by omega:(0:Int) ≤ 20000)
  omega
theorem ceil_bd {n d:Int} (hn:0 ≤ n∧n ≤ 10000000000000) (hd:10000 ≤ d):0 ≤ -(-n / d)∧-(-n / d) ≤ 10000000000000:=by
 have h1:=Int.mul_ediv_add_emod (-n) d
 have h2:=Int.emod_nonneg (-n) (by omega:d ≠ 0)
 have h3:=Int.emod_lt_of_pos (-n) (by omega:0 < d)
 generalize -n / d=q at *
 constructor
 ·by_cases h:0 < q
  ·have:=Int.mul_le_mul (Int.le_refl d) (show (1:Int) ≤ q by omega) (by omega) (by omega)
   omega
  ·omega
 ·by_cases h:q < -10000000000000
  ·have h4:d * q ≤ d * (-10000000000001):=Int.mul_le_mul_of_nonneg_left (by omega) (by omega)
   have h5:(10000000000001:Int) * 10000 ≤ 10000000000001 * d:=Int.mul_le_mul_of_nonneg_left hd (by omega)
   have h6:d * (-10000000000001)=-(10000000000001 * d):=by rw [Int.mul_neg,Int.mul_comm]
   omega
  ·omega
theorem l27Safe_c (fd ft:Int) (s:ByteArray) (b off c:Nat) (p q wd lf rt ey:Int) (w:World) (hb:b < w.heap.size) (c0:w.cell? ⟨b,off,none⟩=some (.int .i64 p)) (c1:w.cell? ⟨b,off+1,none⟩=some (.int .i64 q))
  (hp:-6 ≤ p∧p ≤ 6) (hq:-6 ≤ q∧q ≤ 6) (hlf:100 ≤ lf∧lf ≤ 20000) (hrt:100 ≤ rt∧rt ≤ 20000) (hey:0 ≤ ey∧ey ≤ 200) :
  Calls Tryz.prog 74 #[.agg #[.int .i64 fd,.int .i64 ft,.string s,.slice (some ⟨b,off,none⟩) 2 c,.int .i64 wd,.int .i64 lf,.int .i64 rt],.int .i64 ey] w fun e w'=>e=.returned (.int .i64 (safeF p q lf rt ey))∧Below w.heap.size w w':=by
 have hW:Below w.heap.size w (w.alloc (.cells #[.int .i64 fd,.int .i64 ft,.string s,.slice (some ⟨b,off,none⟩) 2 c,.int .i64 wd,.int .i64 lf,.int .i64 rt] 31)):=(by repeat first | with_reducible (first | exact Below.refl _ _ | apply below_drewN' | apply Below.drew | refine Below.alloc ?_ ?_ _ | refine Below.setCell ?_ ?_ _) | exact Below.refl _ _ | omega | (simp <;> omega) | (have:=(Below.refl _ _).size;first | omega | (simp <;> omega)))
 have B0:=Blk.new w 31 #[.int .i64 fd,.int .i64 ft,.string s,.slice (some ⟨b,off,none⟩) 2 c,.int .i64 wd,.int .i64 lf,.int .i64 rt]
 obtain ⟨hN,hD⟩:=safe_bd hlf hrt hey
 have hC:=ceil_bd hN hD.1
 have wN:IntKind.i64.wrap ((2+ey) * 1048576 * (lf+rt))=(2+ey) * 1048576 * (lf+rt):=IntWalk.i64_in _ (by omega)
 have wD:IntKind.i64.wrap (lf * rt)=lf * rt:=IntWalk.i64_in _ (by omega)
 have HU:=Lib.hid (fun W=>l01Ceil_c ((2+ey) * 1048576 * (lf+rt)) (lf * rt) W (by omega) (by omega))
 have HP:=Lib.hid (fun W=>l01Abs_c p W (by omega))
 have HQ:=Lib.hid (fun W=>l01Abs_c q W (by omega))
 have hR:Hid (safeF p q lf rt ey=-(-((2+ey) * 1048576 * (lf+rt)) / (lf * rt))+3 * (max p (-p)+max q (-q)+2)+4):=Lib.hid rfl
 have hap:0 ≤ max p (-p)∧max p (-p) ≤ 6:=by omega
 have haq:0 ≤ max q (-q)∧max q (-q) ≤ 6:=by omega
 generalize safeF p q lf rt ey=res at *
 generalize hz:-(-((2+ey) * 1048576 * (lf+rt)) / (lf * rt))=z at *
 generalize max p (-p)=ap at *
 generalize max q (-q)=aq at *
 have x0:(w.alloc (.cells #[.int .i64 fd,.int .i64 ft,.string s,.slice (some ⟨b,off,none⟩) 2 c,.int .i64 wd,.int .i64 lf,.int .i64 rt] 31)).cell? ⟨b,off,none⟩=some (.int .i64 p):=(hW.cell (p:=⟨b,off,none⟩) hb).trans c0
 have x1:(w.alloc (.cells #[.int .i64 fd,.int .i64 ft,.string s,.slice (some ⟨b,off,none⟩) 2 c,.int .i64 wd,.int .i64 lf,.int .i64 rt] 31)).cell? ⟨b,off+1,none⟩=some (.int .i64 q):=(hW.cell (p:=⟨b,off+1,none⟩) hb).trans c1
 have y3:(w.alloc (.cells #[.int .i64 fd,.int .i64 ft,.string s,.slice (some ⟨b,off,none⟩) 2 c,.int .i64 wd,.int .i64 lf,.int .i64 rt] 31)).cell? ⟨w.heap.size,3,none⟩=some (.slice (some ⟨b,off,none⟩) 2 c):=B0.cell 3
 have y5:(w.alloc (.cells #[.int .i64 fd,.int .i64 ft,.string s,.slice (some ⟨b,off,none⟩) 2 c,.int .i64 wd,.int .i64 lf,.int .i64 rt] 31)).cell? ⟨w.heap.size,5,none⟩=some (.int .i64 lf):=B0.cell 5
 have y6:(w.alloc (.cells #[.int .i64 fd,.int .i64 ft,.string s,.slice (some ⟨b,off,none⟩) 2 c,.int .i64 wd,.int .i64 lf,.int .i64 rt] 31)).cell? ⟨w.heap.size,6,none⟩=some (.int .i64 rt):=B0.cell 6
 clear c0 c1 hz
 go_enter Tryz.func74,Tryz.ntmps74
 go_wp2_with (first | (go_at_call 104;refine (HU.out _).mono ?_;rintro e w5 ⟨rfl,rfl⟩) | fail)
 clear HU wN wD hN hD B0
 go_quiet (first | (go_at_call 105;with_reducible refine Calls.quiet_of_same ((HP.out _).mono fun _ _ ⟨h1,h2⟩=>⟨h1,h2.symm⟩)) | (go_at_call 105;with_reducible refine Calls.quiet_of_same ((HQ.out _).mono fun _ _ ⟨h1,h2⟩=>⟨h1,h2.symm⟩)))
 go_wp2
 go_ret
 exact ⟨by rw [hR.out];rfl,by first | exact below_drewN' hW _ | exact hW.drew | exact hW⟩
def Rl.kept (r:Rl):Bool:=match r.l with
 | [p,q]=>decide (safeF p q r.lf r.rt r.ey ≤ r.bo)
 | _=>false
theorem Rl.parts {r:Rl} (h:r.b=true):(100 ≤ r.lf∧r.lf ≤ 20000)∧(100 ≤ r.rt∧r.rt ≤ 20000)∧(0 ≤ r.ey∧r.ey ≤ 200)∧∃ p q,r.l=[p,q]∧(-6 ≤ p∧p ≤ 6)∧(-6 ≤ q∧q ≤ 6):=by
 unfold Rl.b relB at h
 simp only [Bool.and_eq_true,inB_true] at h
 obtain ⟨⟨⟨⟨⟨hc,_⟩,hey,_⟩,_⟩,_⟩,_⟩:=h
 obtain ⟨_,_,_,hlf,hrt,p,q,hl,hp,hq⟩:=chart_parts hc
 exact ⟨hlf,hrt,hey,p,q,hl,hp,hq⟩
end Go.Proofs.YtednjmldjbndhaaGreatDoor
