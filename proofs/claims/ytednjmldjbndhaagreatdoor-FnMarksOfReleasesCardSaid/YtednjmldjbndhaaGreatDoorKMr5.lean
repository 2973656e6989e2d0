/- The small functions behind a mark's place: differences, halves and thirds of intervals. No condition beyond bounds. Sums of intervals, and the reference's logarithm of a figure. Conditions: bounds. Releases: plain. No program. -/
import Derived.Deep.RegionHeld3
import Derived.IntWalk
import Derived.Test.YtednjmldjbndhaaGreatDoorKMr2
import Derived.Test.YtednjmldjbndhaaGreatDoorKMr4
set_option linter.unusedSimpArgs false
set_option linter.unusedVariables false
set_option maxRecDepth 100000
set_option maxHeartbeats 8000000
namespace Go.Proofs.YtednjmldjbndhaaGreatDoor
open Go.RowKit
end Go.Proofs.YtednjmldjbndhaaGreatDoor
namespace Go.Proofs.YtednjmldjbndhaaGreatDoor
open Go.RowKit
theorem l03Figure_c (f:Figure) (w:World) (h:1000 ≤ f.digits∧f.digits ≤ 9999) (ht:-30 ≤ f.tens∧f.tens ≤ 30) :
  Calls Tryz.prog 164 #[f.agg] w fun e w'=>e=.returned (.agg #[.int .i64 (logLow (f.digits * 100000)+f.tens * 1048576),.int .i64 (logHigh (f.digits * 100000)+f.tens * 1048576)])∧Below w.heap.size w w':=by
 obtain ⟨d,t⟩:=f
 unfold Figure.agg
 simp only at *
 have hx:100000000 ≤ d * 100000∧d * 100000 ≤ 1000000000:=by omega
 have h1:=logLow_bd hx
 have h2:=logHigh_bd hx
 obtain ⟨h,h'⟩:=h
 obtain ⟨ht,ht'⟩:=ht
 have hlog:=fun W=>Lib.hid (l03Log_c (d * 100000) W hx)
 generalize logLow (d * 100000)=lo at *
 generalize logHigh (d * 100000)=hi at *
 go_enter Tryz.func164,Tryz.ntmps164
 go_wp2_with fail
 refine (hlog _).out.mono ?_;rintro e w1 ⟨rfl,hb1⟩
 have B0:Blk w1 w.heap.size 26 #[.int .i64 d,.int .i64 t]:=((Blk.new w _ _).alloc _).below hb1 (by simp;omega)
 have B1:Blk w1 (w.heap.size+1) 149 #[.int .i64 0,.int .i64 0]:=(Blk.new' _ _ _ (by simp)).below hb1 (by simp)
 have hb0:Below w.heap.size w w1:=(((Below.refl _ _).alloc (Nat.le_refl _) _).alloc (by simp) _).trans (hb1.mono (by simp;omega))
 clear hb1
 have z0:=B0.lt
 have z1:=B1.lt
 have c1:w1.cell? ⟨w.heap.size,1,none⟩=some (.int .i64 t):=B0.cell 1
 have d0:w1.cell? ⟨w.heap.size+1,0,none⟩=some (.int .i64 0):=B1.cell 0
 have d1:w1.cell? ⟨w.heap.size+1,1,none⟩=some (.int .i64 0):=B1.cell 1
 have f0:=B1.frozen 0
 have f1:=B1.frozen 1
 clear B0 B1
 go_wp2
 refine bodyPost_ret (v:=.agg #[.int .i64 (lo+t * 1048576),.int .i64 (hi+t * 1048576)]) (by simp [results,Tryz.results164,go_sem,d0,d1,z1]) rfl ⟨rfl,?_⟩
 have hbs:=hb0.size
 exact (by repeat first | with_reducible (first | exact hb0 | apply below_drewN' | apply Below.drew | refine Below.alloc ?_ ?_ _ | refine Below.setCell ?_ ?_ _) | exact hb0 | omega | (simp <;> omega) | (have:=(hb0).size;first | omega | (simp <;> omega)))

def figLo (d t:Int):Int:=logLow (d * 100000)+t * 1048576
def figHi (d t:Int):Int:=logHigh (d * 100000)+t * 1048576
theorem figLo_bd {d t:Int} (h:1000 ≤ d∧d ≤ 9999) (ht:-30 ≤ t∧t ≤ 30):(-33554432 ≤ figLo d t∧figLo d t ≤ 33554432)∧(-33554432 ≤ figHi d t∧figHi d t ≤ 33554432):=by
 have h1:=logLow_bd (x:=d * 100000) (by omega)
 have h2:=logHigh_bd (x:=d * 100000) (by omega)
 unfold figLo figHi
 omega
end Go.Proofs.YtednjmldjbndhaaGreatDoor
namespace Go.Proofs.YtednjmldjbndhaaGreatDoor
open Go.RowKit
def plLo (n lo hi:Int):Int:=min (lo * n) (hi * n) / 1048576
def plHi (n lo hi:Int):Int:=-(-max (lo * n) (hi * n) / 1048576)
def plCode (n:Int) (f:Figure):Int:=if (inB (plLo n (figLo f.digits f.tens) (figHi f.digits f.tens)) (-100000) 100000 && inB (plHi n (figLo f.digits f.tens) (figHi f.digits f.tens)) (-100000) 100000)=true then 0 else 3
def relB (fd ft:Int) (s:ByteArray) (l:List Int) (wd lf rt:Int) (lu hu lv hv:Figure) (ey bo:Int):Bool :=
 chartB fd ft s l wd lf rt && (figOK lu && figOK hu && figOK lv && figOK hv) && (inB ey 0 200 && inB bo 0 1048576) && (decide (0 ≤ cmpF hu lu) && decide (0 ≤ cmpF hv lv)) &&
  (decide (plCode (lf * l.getD 0 0) lu=0) && decide (plCode (lf * l.getD 0 0) hu=0)) && (decide (plCode (rt * l.getD 1 0) lv=0) && decide (plCode (rt * l.getD 1 0) hv=0))
end Go.Proofs.YtednjmldjbndhaaGreatDoor
