/- Places on a chart's scales: the reference's parts. Conditions: the chart's and the figure's bounds. Places on a chart's scales: the reference's scale. Conditions: the chart's bounds. append of rows to a slice of the call's own, in the words of Mem. Slices of int64: the laws' copies, comparisons and marks of them. No condition beyond the length. Errors: the structure, the laws' copies and comparisons of it. No condition beyond the length. Nested structs: the laws' copies and comparisons of them. No condition beyond the slices' lengths. Formulas: the laws' copies and comparisons of them. No condition beyond the lengths. -/
import Derived.Maps.AppendAt
import Derived.Deep.AppendLies
import Derived.OwnWalk
import Derived.StillTailTactics
import Derived.Test.YtednjmldjbndhaaGreatDoorKMr1
import Derived.Test.YtednjmldjbndhaaGreatDoorKMr2
import Derived.Test.YtednjmldjbndhaaGreatDoorKMr7
set_option linter.unusedSimpArgs false
set_option linter.unusedVariables false
set_option maxRecDepth 100000
set_option maxHeartbeats 8000000
namespace Go.Proofs.YtednjmldjbndhaaGreatDoor
open Go.RowKit
theorem l22Place_c (n:Int) (w:World):Calls Tryz.prog 154 #[.int .i64 n] w fun e w'=>e=.returned (.bool (inB n (-100000) 100000))∧w=w':=by
 go_enter Tryz.func154,Tryz.ntmps154
 go_wp2_with (go_at_call 71;refine (l01In_c _ _ _ _).mono ?_;rintro e w' ⟨rfl,rfl⟩)
 go_ret
 exact ⟨rfl,rfl⟩
theorem l23Log_c (fd ft:Int) (s:ByteArray) (A:Option Addr) (n c:Nat) (wd lf rt k:Int) (f:Figure) (w:World) (hk:k=0 ∨ k=1) (hf:(1000 ≤ f.digits∧f.digits ≤ 9999)∧(-30 ≤ f.tens∧f.tens ≤ 30)) :
  Calls Tryz.prog 153 #[.agg #[.int .i64 fd,.int .i64 ft,.string s,.slice A n c,.int .i64 wd,.int .i64 lf,.int .i64 rt],.int .i64 k,f.agg] w fun e w'=>e=.returned (.agg #[.int .i64 (figLo f.digits f.tens),.int .i64 (figHi f.digits f.tens)])∧Below w.heap.size w w':=by
 have HL:=fun W=>l03Figure_c f W hf.1 hf.2
 have e1:logLow (f.digits * 100000)+f.tens * 1048576=figLo f.digits f.tens:=rfl
 have e2:logHigh (f.digits * 100000)+f.tens * 1048576=figHi f.digits f.tens:=rfl
 simp only [e1,e2] at HL
 generalize figLo f.digits f.tens=lo at *
 generalize figHi f.digits f.tens=hi at *
 clear e1 e2 hf
 unfold Figure.agg at HL ⊢
 replace HL:=fun W=>Lib.hid (HL W)
 have hW:Below w.heap.size w (((w.alloc (.cells #[.int .i64 fd,.int .i64 ft,.string s,.slice A n c,.int .i64 wd,.int .i64 lf,.int .i64 rt] 31)).alloc (.cells #[.int .i64 f.digits,.int .i64 f.tens] 26)).alloc (.cells #[.int .i64 0,.int .i64 0] 149)):=(by repeat first | with_reducible (first | exact Below.refl _ _ | apply below_drewN' | apply Below.drew | refine Below.alloc ?_ ?_ _ | refine Below.setCell ?_ ?_ _) | exact Below.refl _ _ | omega | (simp <;> omega) | (have:=(Below.refl _ _).size;first | omega | (simp <;> omega)))
 have B2:=Blk.new' ((w.alloc (.cells #[.int .i64 fd,.int .i64 ft,.string s,.slice A n c,.int .i64 wd,.int .i64 lf,.int .i64 rt] 31)).alloc (.cells #[.int .i64 f.digits,.int .i64 f.tens] 26)) 149 #[.int .i64 0,.int .i64 0] (g:=w.heap.size+1+1) (by simp)
 rcases hk with rfl | rfl
 all_goals
  go_enter Tryz.func153,Tryz.ntmps153
  go_wp2_with fail
  refine Calls.mono (HL _).out ?_;rintro e w1 ⟨rfl,hb1⟩
  have hW1:=hW.trans (hb1.mono hW.size)
  have D2:=B2.below hb1 B2.lt
  have r0:w1.cell? ⟨w.heap.size+1+1,0,none⟩=some (.int .i64 0):=D2.cell 0
  have r1:w1.cell? ⟨w.heap.size+1+1,1,none⟩=some (.int .i64 0):=D2.cell 1
  have rf0:w1.frozen? ⟨w.heap.size+1+1,0,none⟩=false:=D2.frozen 0
  have rf1:w1.frozen? ⟨w.heap.size+1+1,1,none⟩=false:=D2.frozen 1
  go_wp2_with fail
  refine bodyPost_ret (v:=.agg #[.int .i64 lo,.int .i64 hi]) (by simp [results,Tryz.results153,go_sem,r0,r1]) rfl ⟨rfl,(by repeat first | with_reducible (first | exact hW1 | apply below_drewN' | apply Below.drew | refine Below.alloc ?_ ?_ _ | refine Below.setCell ?_ ?_ _) | exact hW1 | omega | (simp <;> omega) | (have:=(hW1).size;first | omega | (simp <;> omega)))⟩
theorem l23Modulus_c (fd ft:Int) (s:ByteArray) (b off c:Nat) (p0 p1 wd lf rt k:Int) (w:World) (hk:k=0 ∨ k=1) (hb:b < w.heap.size) (c0:w.cell? ⟨b,off,none⟩=some (.int .i64 p0)) (c1:w.cell? ⟨b,off+1,none⟩=some (.int .i64 p1))
  (hp0:-6 ≤ p0∧p0 ≤ 6) (hp1:-6 ≤ p1∧p1 ≤ 6) (hlf:100 ≤ lf∧lf ≤ 20000) (hrt:100 ≤ rt∧rt ≤ 20000) :
  Calls Tryz.prog 162 #[.agg #[.int .i64 fd,.int .i64 ft,.string s,.slice (some ⟨b,off,none⟩) 2 c,.int .i64 wd,.int .i64 lf,.int .i64 rt],.int .i64 k] w fun e w'=>e=.returned (.tuple #[.int .i64 (if k=0 then lf * p0 else rt * p1),.int .i64 1])∧Below w.heap.size w w':=by
 have q0:-120000 ≤ lf * p0∧lf * p0 ≤ 120000:=mul_abs (a:=lf) (b:=p0) (A:=20000) (B:=6) (by omega) (by omega)
 have q1:-120000 ≤ rt * p1∧rt * p1 ≤ 120000:=mul_abs (a:=rt) (b:=p1) (A:=20000) (B:=6) (by omega) (by omega)
 have hW:Below w.heap.size w (w.alloc (.cells #[.int .i64 fd,.int .i64 ft,.string s,.slice (some ⟨b,off,none⟩) 2 c,.int .i64 wd,.int .i64 lf,.int .i64 rt] 31)):=(by repeat first | with_reducible (first | exact Below.refl _ _ | apply below_drewN' | apply Below.drew | refine Below.alloc ?_ ?_ _ | refine Below.setCell ?_ ?_ _) | exact Below.refl _ _ | omega | (simp <;> omega) | (have:=(Below.refl _ _).size;first | omega | (simp <;> omega)))
 have B0:=Blk.new w 31 #[.int .i64 fd,.int .i64 ft,.string s,.slice (some ⟨b,off,none⟩) 2 c,.int .i64 wd,.int .i64 lf,.int .i64 rt]
 have x0:(w.alloc (.cells #[.int .i64 fd,.int .i64 ft,.string s,.slice (some ⟨b,off,none⟩) 2 c,.int .i64 wd,.int .i64 lf,.int .i64 rt] 31)).cell? ⟨b,off,none⟩=some (.int .i64 p0):=by rw [hW.cell hb];exact c0
 have x1:(w.alloc (.cells #[.int .i64 fd,.int .i64 ft,.string s,.slice (some ⟨b,off,none⟩) 2 c,.int .i64 wd,.int .i64 lf,.int .i64 rt] 31)).cell? ⟨b,off+1,none⟩=some (.int .i64 p1):=by rw [hW.cell hb];exact c1
 rcases hk with rfl | rfl
 all_goals
  simp only [if_pos,reduceIte,Int.reduceEq]
  go_enter Tryz.func162,Tryz.ntmps162
  go_wp2_with fail
  generalize w.alloc (.cells #[.int .i64 fd,.int .i64 ft,.string s,.slice (some ⟨b,off,none⟩) 2 c,.int .i64 wd,.int .i64 lf,.int .i64 rt] 31)=W at *
  have y3:W.cell? ⟨w.heap.size,3,none⟩=some (.slice (some ⟨b,off,none⟩) 2 c):=B0.cell 3
  have y5:W.cell? ⟨w.heap.size,5,none⟩=some (.int .i64 lf):=B0.cell 5
  have y6:W.cell? ⟨w.heap.size,6,none⟩=some (.int .i64 rt):=B0.cell 6
  go_quiet (fail)
  go_wp2_with fail
  first
   | refine bodyPost_ret (v:=.tuple #[.int .i64 (lf * p0),.int .i64 1]) (by simp [results,Tryz.results162,go_sem];done) rfl ⟨rfl,(by repeat first | with_reducible (first | exact hW | apply below_drewN' | apply Below.drew | refine Below.alloc ?_ ?_ _ | refine Below.setCell ?_ ?_ _) | exact hW | omega | (simp <;> omega) | (have:=(hW).size;first | omega | (simp <;> omega)))⟩
   | refine bodyPost_ret (v:=.tuple #[.int .i64 (rt * p1),.int .i64 1]) (by simp [results,Tryz.results162,go_sem];done) rfl ⟨rfl,(by repeat first | with_reducible (first | exact hW | apply below_drewN' | apply Below.drew | refine Below.alloc ?_ ?_ _ | refine Below.setCell ?_ ?_ _) | exact hW | omega | (simp <;> omega) | (have:=(hW).size;first | omega | (simp <;> omega)))⟩
end Go.Proofs.YtednjmldjbndhaaGreatDoor
namespace Go.Proofs.YtednjmldjbndhaaGreatDoor
open Go.RowKit
theorem l23Scale_c (fd ft:Int) (s:ByteArray) (b off c:Nat) (p0 p1 wd lf rt k lo hi:Int) (w:World) (hk:k=0 ∨ k=1) (hb:b < w.heap.size) (c0:w.cell? ⟨b,off,none⟩=some (.int .i64 p0)) (c1:w.cell? ⟨b,off+1,none⟩=some (.int .i64 p1))
  (hp0:-6 ≤ p0∧p0 ≤ 6) (hp1:-6 ≤ p1∧p1 ≤ 6) (hlf:100 ≤ lf∧lf ≤ 20000) (hrt:100 ≤ rt∧rt ≤ 20000) (bd:(-33554432 ≤ lo∧lo ≤ 33554432)∧-33554432 ≤ hi∧hi ≤ 33554432) :
  Calls Tryz.prog 152 #[.agg #[.int .i64 fd,.int .i64 ft,.string s,.slice (some ⟨b,off,none⟩) 2 c,.int .i64 wd,.int .i64 lf,.int .i64 rt],.int .i64 k,.agg #[.int .i64 lo,.int .i64 hi]] w fun e w'=>e=.returned (.agg #[.int .i64 (plLo (if k=0 then lf * p0 else rt * p1) lo hi),.int .i64 (plHi (if k=0 then lf * p0 else rt * p1) lo hi)])∧Below w.heap.size w w':=by
 have q0:-120000 ≤ lf * p0∧lf * p0 ≤ 120000:=mul_abs (a:=lf) (b:=p0) (A:=20000) (B:=6) (by omega) (by omega)
 have q1:-120000 ≤ rt * p1∧rt * p1 ≤ 120000:=mul_abs (a:=rt) (b:=p1) (A:=20000) (B:=6) (by omega) (by omega)
 have hW:Below w.heap.size w (((w.alloc (.cells #[.int .i64 fd,.int .i64 ft,.string s,.slice (some ⟨b,off,none⟩) 2 c,.int .i64 wd,.int .i64 lf,.int .i64 rt] 31)).alloc (.cells #[.int .i64 lo,.int .i64 hi] 149)).alloc (.cells #[.int .i64 0,.int .i64 0] 149)):=(by repeat first | with_reducible (first | exact Below.refl _ _ | apply below_drewN' | apply Below.drew | refine Below.alloc ?_ ?_ _ | refine Below.setCell ?_ ?_ _) | exact Below.refl _ _ | omega | (simp <;> omega) | (have:=(Below.refl _ _).size;first | omega | (simp <;> omega)))
 have HM:=l23Modulus_c fd ft s b off c p0 p1 wd lf rt k _ hk (Nat.lt_of_lt_of_le hb hW.size) (by rw [hW.cell hb];exact c0) (by rw [hW.cell hb];exact c1) hp0 hp1 hlf hrt
 have qn:-120000 ≤ (if k=0 then lf * p0 else rt * p1)∧(if k=0 then lf * p0 else rt * p1) ≤ 120000:=by split <;> assumption
 generalize (if k=0 then lf * p0 else rt * p1)=n at *
 have ml:=mul_abs (A:=33554432) (B:=120000) bd.1 qn
 have mh:=mul_abs (A:=33554432) (B:=120000) bd.2 qn
 simp only [Nat.reduceMul,Int.cast_ofNat_Int] at ml mh
 generalize hx1:plLo n lo hi=X1
 generalize hx2:plHi n lo hi=X2
 have hX:Hid (plLo n lo hi=X1∧plHi n lo hi=X2):=⟨hx1,hx2⟩
 clear hx1 hx2 qn q0 q1 bd
 unfold plLo plHi at hX
 replace HM:=Lib.hid HM
 have B1:=(Blk.new' (w.alloc (.cells #[.int .i64 fd,.int .i64 ft,.string s,.slice (some ⟨b,off,none⟩) 2 c,.int .i64 wd,.int .i64 lf,.int .i64 rt] 31)) 149 #[.int .i64 lo,.int .i64 hi] (g:=w.heap.size+1) (by simp)).alloc (.cells #[.int .i64 0,.int .i64 0] 149)
 have B2:=Blk.new' ((w.alloc (.cells #[.int .i64 fd,.int .i64 ft,.string s,.slice (some ⟨b,off,none⟩) 2 c,.int .i64 wd,.int .i64 lf,.int .i64 rt] 31)).alloc (.cells #[.int .i64 lo,.int .i64 hi] 149)) 149 #[.int .i64 0,.int .i64 0] (g:=w.heap.size+1+1) (by simp)
 go_enter Tryz.func152,Tryz.ntmps152
 go_wp2_with fail
 refine Calls.mono HM.out ?_;rintro e w1 ⟨rfl,hb1⟩
 have hW1:=hW.trans (hb1.mono hW.size)
 have D1:=B1.below hb1 B1.lt
 have D2:=B2.below hb1 B2.lt
 have i0:w1.cell? ⟨w.heap.size+1,0,none⟩=some (.int .i64 lo):=D1.cell 0
 have i1:w1.cell? ⟨w.heap.size+1,1,none⟩=some (.int .i64 hi):=D1.cell 1
 clear B1 B2 HM hW hb1 c0 c1
 go_wp2_with fail
 go_quiet (fail)
 generalize lo * n=A at *
 generalize hi * n=B at *
 refine then_world (R:=fun V=>Blk V (w.heap.size+1+1) 149 #[.int .i64 0,.int .i64 0]∧Below w.heap.size w V) ⟨D2,(by repeat first | with_reducible (first | exact hW1 | apply below_drewN' | apply Below.drew | refine Below.alloc ?_ ?_ _ | refine Below.setCell ?_ ?_ _) | exact hW1 | omega | (simp <;> omega) | (have:=(hW1).size;first | omega | (simp <;> omega)))⟩ (fun V hV=>?_)
 clear D1 D2 hW1 i0 i1
 obtain ⟨D2,hW2⟩:=hV
 have r0:V.cell? ⟨w.heap.size+1+1,0,none⟩=some (.int .i64 0):=D2.cell 0
 have r1:V.cell? ⟨w.heap.size+1+1,1,none⟩=some (.int .i64 0):=D2.cell 1
 have rf0:V.frozen? ⟨w.heap.size+1+1,0,none⟩=false:=D2.frozen 0
 have rf1:V.frozen? ⟨w.heap.size+1+1,1,none⟩=false:=D2.frozen 1
 rcases Int.lt_trichotomy B A with h | h | h
 ·have h2:¬ A < B:=by omega
  have em:min A B=B:=by omega
  have eM:max A B=A:=by omega
  have HD:=fun W=>Lib.hid (l01Floor_c B 1048576 W (by omega) (by omega))
  have HU:=fun W=>Lib.hid (l01Ceil_c A 1048576 W (by omega) (by omega))
  generalize ex:B / 1048576=x at HD
  generalize ey:-(-A / 1048576)=y at HU
  clear ml mh
  go_wp2_with (first | (go_at_call 132;refine (HD _).out.mono ?_;rintro e w5 ⟨rfl,rfl⟩) | (go_at_call 104;refine (HU _).out.mono ?_;rintro e w5 ⟨rfl,rfl⟩))
  refine bodyPost_ret (v:=.agg #[.int .i64 x,.int .i64 y]) (by simp [results,Tryz.results152,go_sem,r0,r1]) rfl ⟨?_,(by repeat first | with_reducible (first | exact hW2 | apply below_drewN' | apply Below.drew | refine Below.alloc ?_ ?_ _ | refine Below.setCell ?_ ?_ _) | exact hW2 | omega | (simp <;> omega) | (have:=(hW2).size;first | omega | (simp <;> omega)))⟩
  obtain ⟨u1,u2⟩:=hX.out
  rw [em,ex] at u1
  rw [eM,ey] at u2
  rw [← u1,← u2]
 ·subst h
  have em:min B B=B:=by omega
  have eM:max B B=B:=by omega
  have HD:=fun W=>Lib.hid (l01Floor_c B 1048576 W (by omega) (by omega))
  have HU:=fun W=>Lib.hid (l01Ceil_c B 1048576 W (by omega) (by omega))
  generalize ex:B / 1048576=x at HD
  generalize ey:-(-B / 1048576)=y at HU
  clear ml mh
  go_wp2_with (first | (go_at_call 132;refine (HD _).out.mono ?_;rintro e w5 ⟨rfl,rfl⟩) | (go_at_call 104;refine (HU _).out.mono ?_;rintro e w5 ⟨rfl,rfl⟩))
  refine bodyPost_ret (v:=.agg #[.int .i64 x,.int .i64 y]) (by simp [results,Tryz.results152,go_sem,r0,r1]) rfl ⟨?_,(by repeat first | with_reducible (first | exact hW2 | apply below_drewN' | apply Below.drew | refine Below.alloc ?_ ?_ _ | refine Below.setCell ?_ ?_ _) | exact hW2 | omega | (simp <;> omega) | (have:=(hW2).size;first | omega | (simp <;> omega)))⟩
  obtain ⟨u1,u2⟩:=hX.out
  rw [em,ex] at u1
  rw [eM,ey] at u2
  rw [← u1,← u2]
 ·have h2:¬ B < A:=by omega
  have em:min A B=A:=by omega
  have eM:max A B=B:=by omega
  have HD:=fun W=>Lib.hid (l01Floor_c A 1048576 W (by omega) (by omega))
  have HU:=fun W=>Lib.hid (l01Ceil_c B 1048576 W (by omega) (by omega))
  generalize ex:A / 1048576=x at HD
  generalize ey:-(-B / 1048576)=y at HU
  clear ml mh
  go_wp2_with (first | (go_at_call 132;refine (HD _).out.mono ?_;rintro e w5 ⟨rfl,rfl⟩) | (go_at_call 104;refine (HU _).out.mono ?_;rintro e w5 ⟨rfl,rfl⟩))
  refine bodyPost_ret (v:=.agg #[.int .i64 x,.int .i64 y]) (by simp [results,Tryz.results152,go_sem,r0,r1]) rfl ⟨?_,(by repeat first | with_reducible (first | exact hW2 | apply below_drewN' | apply Below.drew | refine Below.alloc ?_ ?_ _ | refine Below.setCell ?_ ?_ _) | exact hW2 | omega | (simp <;> omega) | (have:=(hW2).size;first | omega | (simp <;> omega)))⟩
  obtain ⟨u1,u2⟩:=hX.out
  rw [em,ex] at u1
  rw [eM,ey] at u2
  rw [← u1,← u2]
end Go.Proofs.YtednjmldjbndhaaGreatDoor
namespace Go.Proofs.YtednjmldjbndhaaGreatDoor
open Go.RowKit

theorem flat_of {xs:List (List Value)} {k:Nat} (hk:0 < k) (h:∀ x ∈ xs,x.length=k) {p:Nat} {u:Value} (hp:xs.flatten[p]?=some u):∃ i j x,p=i * k+j∧xs[i]?=some x∧x[j]?=some u:=by
 have hlt:p < xs.length * k:=by rw [← flat_length h];exact (List.getElem?_eq_some_iff.1 hp).1
 have hd:p / k < xs.length:=(Nat.div_lt_iff_lt_mul hk).2 hlt
 have hm:p % k < xs[p / k].length:=by rw [h _ (List.getElem_mem hd)];exact Nat.mod_lt _ hk
 have hg:=flat_get h (p / k) (p % k) _ _ (List.getElem?_eq_getElem hd) (List.getElem?_eq_getElem hm)
 rw [show p / k * k+p % k=p from by rw [Nat.mul_comm];exact Nat.div_add_mod p k] at hg
 rw [hg] at hp
 refine ⟨p / k,p % k,_,by rw [Nat.mul_comm];exact (Nat.div_add_mod p k).symm,List.getElem?_eq_getElem hd,?_⟩
 rw [List.getElem?_eq_getElem hm]
 exact hp

section
variable {P : Program} (w : World)
theorem run_append_of_nil (base:Nat) (t ty e:TypeId) (i:TypeInfo) (size:Nat) (ht:P.underlying t=some (.slice e)) (hi:P.info? e=some i)
  (v:Value) (n:Nat) (xs:List Value) (hown:w.ownsRow base e size v n xs) (c:Nat):(Builtin.append_ #[t,t] ty #[v,.slice none 0 c]).run P w=.ok v w:=by
 rcases hown.2 with ⟨rfl,rfl⟩ | ⟨g,cap,cur,rfl,_,_,hnc,_⟩
 ·simp [Builtin.append_,run_underlying ht,sizeOf,typeInfo,hi,Builtin.lenOf,Builtin.firstCells]
 ·simp [Builtin.append_,run_underlying ht,sizeOf,typeInfo,hi,Builtin.lenOf,Builtin.firstCells,hnc,storeCells]

theorem run_append_rows (base:Nat) (t ty e:TypeId) (i:TypeInfo) (z:Value) (k bytes:Nat) (ht:P.underlying t=some (.slice e)) (hi:P.info? e=some i) (hz:i.zero=some z)
  (hsize:i.size=k) (hby:i.bytes=bytes) (hzs:z.cells.size=k) (hk:0 < k)
  (v:Value) (xs:List (List Value)) (hown:Own w base e k v xs)
  (B:Nat) (A:Option Addr) (m c:Nat) (ys:List (List Value)) (hm:ys.length=m) (hr:Sl w B k A ys) (h1:∀ y ∈ ys,∀ u ∈ y,u.oneCell'=true)
  (h63:xs.length+m ≤ maxLen) (hbytes:(xs.length+m) * bytes ≤ 140737488355328) (hbase:base ≤ w.heap.size) :
  ∃ v' w',(Builtin.append_ #[t,t] ty #[v,.slice A m c]).run P w=.ok v' w'∧Own w' base e k v' (xs ++ ys)∧w.grownBy w' v.ownBlock∧(v'.ownBlock=v.ownBlock ∨ v'.ownBlock=some w.heap.size):=by
 have hys:∀ y ∈ ys,y.length=k:=fun y hy=>by obtain ⟨j,hj⟩:=List.mem_iff_getElem?.1 hy;exact (hr j y hj).1
 have hall:∀ x ∈ xs ++ ys,x.length=k:=fun x hx=>by
  rcases List.mem_append.1 hx with h | h
  ·exact hown.2 x h
  ·exact hys x h
 rcases A with _ | ad
 ·have hy:ys=[]:=by
   cases ys with
   | nil=>rfl
   | cons y r=>obtain ⟨_,b,off,h,_⟩:=hr 0 y rfl;cases h
  subst hy
  obtain rfl:m=0:=by simpa using hm.symm
  exact ⟨v,w,run_append_of_nil w base t ty e i k ht hi v _ _ hown.1 c,by rw [List.append_nil];exact hown,World.grownBy.refl w _,.inl rfl⟩
 ·have hcells:∀ j u,ys.flatten[j]?=some u→w.cell? (ad.add j)=some u:=by
   intro p u hp
   obtain ⟨i,j,x,rfl,hx,hu⟩:=flat_of hk hys hp
   obtain ⟨_,b,off,he,_,hc⟩:=hr i x hx
   obtain rfl:ad=⟨b,off,none⟩:=by injection he
   have:=hc j u hu
   rw [Nat.add_assoc] at this
   unfold Addr.add
   split
   ·rename_i h0;rw [h0] at this;exact this
   ·exact this
  obtain ⟨v',w',hrun,h2,h3,_,h5⟩:=run_append_own_at (P:=P) w base t ty e i z k bytes ht hi hz hsize hby hzs hk v _ _ hown.1 ad m c ys.flatten (by rw [flat_length hys,hm]) hcells
   (fun u hu=>by obtain ⟨y,hy,hu⟩:=List.mem_flatten.1 hu;exact h1 y hy u hu) h63 hbytes hbase
  refine ⟨v',w',hrun,⟨?_,hall⟩,h3,h5⟩
  rw [List.length_append,List.flatten_append,hm]
  exact h2

theorem wp_append_rows {o:Oper} {a:Act} {K:Act→World→Prop} {Q:Exit→Act→World→Prop} (s x:Operand) (t:TypeId)
  (ho:o.op=.call { callee:=.builtin .append,args:=#[s,x],argTypes:=#[t,t] })
  (base:Nat) (e:TypeId) (i:TypeInfo) (z:Value) (k bytes:Nat) (ht:P.underlying t=some (.slice e)) (hi:P.info? e=some i) (hz:i.zero=some z)
  (hsize:i.size=k) (hby:i.bytes=bytes) (hzs:z.cells.size=k) (hk:0 < k)
  (v:Value) (xs:List (List Value)) (hs:a.eval s=v) (hown:Own w base e k v xs)
  (B:Nat) (A:Option Addr) (m c:Nat) (ys:List (List Value)) (hx:a.eval x=.slice A m c) (hm:ys.length=m) (hr:Sl w B k A ys) (h1:∀ y ∈ ys,∀ u ∈ y,u.oneCell'=true)
  (h63:xs.length+m ≤ maxLen) (hbytes:(xs.length+m) * bytes ≤ 140737488355328) (hbase:base ≤ w.heap.size)
  (h:∀ v' w',Own w' base e k v' (xs ++ ys)→w.grownBy w' v.ownBlock→(v'.ownBlock=v.ownBlock ∨ v'.ownBlock=some w.heap.size)→K (a.put o.dst v') w'):o.wp P a w K Q:=by
 obtain ⟨v',w',hrun,h2,h3,h4⟩:=run_append_rows (P:=P) w base t o.type e i z k bytes ht hi hz hsize hby hzs hk v xs hown B A m c ys hm hr h1 h63 hbytes hbase
 unfold Oper.wp execOp
 simp only [ho,resolve,invoke,builtin,Sem.run_bind,Sem.run_pure,Result.andThen_ok,List.map_toArray,List.map_cons,List.map_nil,hs,hx,hrun]
 exact h v' w' h2 h3 h4

theorem wpList_append_rows {ops:Array Oper} {rest:List Oper} {o:Oper} {a:Act} {Q:Exit→Act→World→Prop} (hgd:o.guard=none) (s x:Operand) (t:TypeId)
  (ho:o.op=.call { callee:=.builtin .append,args:=#[s,x],argTypes:=#[t,t] })
  (base:Nat) (e:TypeId) (i:TypeInfo) (z:Value) (k bytes:Nat) (ht:P.underlying t=some (.slice e)) (hi:P.info? e=some i) (hz:i.zero=some z)
  (hsize:i.size=k) (hby:i.bytes=bytes) (hzs:z.cells.size=k) (hk:0 < k)
  (v:Value) (xs:List (List Value)) (hs:a.eval s=v) (hown:Own w base e k v xs)
  (B:Nat) (A:Option Addr) (m c:Nat) (ys:List (List Value)) (hx:a.eval x=.slice A m c) (hm:ys.length=m) (hr:Sl w B k A ys) (h1:∀ y ∈ ys,∀ u ∈ y,u.oneCell'=true)
  (h63:xs.length+m ≤ maxLen) (hbytes:(xs.length+m) * bytes ≤ 140737488355328) (hbase:base ≤ w.heap.size)
  (h:∀ v' w',Own w' base e k v' (xs ++ ys)→w.grownBy w' v.ownBlock→(v'.ownBlock=v.ownBlock ∨ v'.ownBlock=some w.heap.size)→wpList P ops Q rest (a.put o.dst v') w'):wpList P ops Q (o :: rest) a w :=
 wpList_plain hgd fun _ hK=>wp_append_rows w s x t ho base e i z k bytes ht hi hz hsize hby hzs hk v xs hs hown B A m c ys hx hm hr h1 h63 hbytes hbase fun v' w' h2 h3 h4=>hK _ _ (h v' w' h2 h3 h4)
theorem step_append_rows {ops:Array Oper} {o:Oper} {a:Act} {K:Act→World→Prop} {Q:Exit→Act→World→Prop} {E:Prop} (hgd:o.guard=none) (s x:Operand) (t:TypeId)
  (ho:o.op=.call { callee:=.builtin .append,args:=#[s,x],argTypes:=#[t,t] })
  (base:Nat) (e:TypeId) (i:TypeInfo) (z:Value) (k bytes:Nat) (ht:P.underlying t=some (.slice e)) (hi:P.info? e=some i) (hz:i.zero=some z)
  (hsize:i.size=k) (hby:i.bytes=bytes) (hzs:z.cells.size=k) (hk:0 < k)
  (v:Value) (xs:List (List Value)) (hs:a.eval s=v) (hown:Own w base e k v xs)
  (B:Nat) (A:Option Addr) (m c:Nat) (ys:List (List Value)) (hx:a.eval x=.slice A m c) (hm:ys.length=m) (hr:Sl w B k A ys) (h1:∀ y ∈ ys,∀ u ∈ y,u.oneCell'=true)
  (h63:xs.length+m ≤ maxLen) (hbytes:(xs.length+m) * bytes ≤ 140737488355328) (hbase:base ≤ w.heap.size)
  (h:∀ v' w',Own w' base e k v' (xs ++ ys)→w.grownBy w' v.ownBlock→(v'.ownBlock=v.ownBlock ∨ v'.ownBlock=some w.heap.size)→K (a.put o.dst v') w') :
  if Region.wanted o (yielded ops a.tmps)=true then Oper.wp P o a w K Q else E:=by
 have hw:Region.wanted o (yielded ops a.tmps)=true:=by simp [Region.wanted,hgd]
 rw [if_pos hw]
 exact wp_append_rows w s x t ho base e i z k bytes ht hi hz hsize hby hzs hk v xs hs hown B A m c ys hx hm hr h1 h63 hbytes hbase h
end

theorem Own.empty {w:World} {base:Nat} {e:TypeId} {k:Nat} (hb:base ≤ w.heap.size):Own (w.alloc (.cells #[] e)) base e k (.slice (some ⟨w.heap.size,0,none⟩) 0 0) []:=by
 refine ⟨?_,by simp⟩
 have:=World.ownsRow_lit (base:=base) (e:=e) (size:=k) w #[] 0 hb (Nat.zero_le _) (by simp)
 simpa using this
theorem below_app {B:Nat} {a w w':World} {v:Value} (h:Below B a w) (hg:w.grownBy w' v.ownBlock) (hB:B ≤ w.heap.size) (hr:∀ g,v.ownBlock=some g→B ≤ g):Below B a w':=h.grown hg hB hr
theorem Own.ownGe {w:World} {base:Nat} {e:TypeId} {k:Nat} {v:Value} {xs:List (List Value)} (h:Own w base e k v xs):∀ g,v.ownBlock=some g→base ≤ g:=fun g hg=>(h.1.lt g hg).1
theorem Own.kept {w w':World} {base:Nat} {e:TypeId} {k:Nat} {v:Value} {xs:List (List Value)} {row:Option Nat} (h:Own w base e k v xs) (hg:w.grownBy w' row) (hne:v.ownBlock=none ∨ v.ownBlock ≠ row):Own w' base e k v xs:=⟨h.1.kept hg hne,h.2⟩
theorem Sl.grown {w w':World} {B k:Nat} {A:Option Addr} {xs:List (List Value)} {row:Option Nat} (h:Sl w B k A xs) (hg:w.grownBy w' row) (hB:B ≤ w.heap.size) (hr:∀ g,row=some g→B ≤ g):Sl w' B k A xs :=
 h.keep fun p hp=>World.cell?_of_block (hg.block p.block (by omega) (fun e=>by have:=hr _ e.symm;omega))
theorem Own.le_cap {w:World} {base:Nat} {e:TypeId} {k n c:Nat} {A:Option Addr} {xs:List (List Value)} (h:Own w base e k (.slice A n c) xs):n ≤ c:=by
 obtain ⟨_,_,he,hf⟩:=h.form
 simp only [Value.slice.injEq] at he
 omega
def PostRows (t:TypeId) (k n:Nat) (rows:List (List Value)) (code:Int) (w:World) (e:Ending) (w':World):Prop :=
 ∃ A' c',e=.returned (.tuple #[.slice A' n c',.int .i64 code])∧Own w' w.heap.size t k (.slice A' n c') rows∧Below w.heap.size w w'
end Go.Proofs.YtednjmldjbndhaaGreatDoor
namespace Go.Proofs.YtednjmldjbndhaaGreatDoor
open Go.RowKit
def ic (n:Int):List Value:=[.int .i64 n]
theorem ic_one {x:List Int}:∀ y ∈ x.map ic,∀ u ∈ y,u.oneCell'=true:=fun y hy u hu=>by
 obtain ⟨n,_,rfl⟩:=List.mem_map.1 hy
 simp only [ic,List.mem_singleton] at hu
 subst hu
 rfl
theorem info_Int64:(Tryz.prog.info? 2).map (fun i=>(i.zero,i.size,i.bytes))=some (some (.int .i64 0),1,8):=by kernel_rfl
theorem Sl.int {w:World} {B:Nat} {A:Option Addr} {l:List Int} (h:Sl w B 1 A (l.map ic)) {k:Nat} (hk:k < l.length):∃ b off,A=some ⟨b,off,none⟩∧b < B∧w.cell? ⟨b,off+k,none⟩=some (.int .i64 l[k]):=by
 obtain ⟨b,off,rfl,hb,hc⟩:=h.at_ (i:=k) (by simpa using hk)
 refine ⟨b,off,rfl,hb,?_⟩
 have:=hc 0 (.int .i64 l[k]) (by simp [ic])
 simpa using this
end Go.Proofs.YtednjmldjbndhaaGreatDoor
namespace Go.Proofs.YtednjmldjbndhaaGreatDoor
open Go.RowKit
@[ext] structure Errors where
 engraving:Int
 parallax:Int
 eye:Int
deriving DecidableEq
def Errors.cells (s:Errors):List Value:=[.int .i64 s.engraving,.int .i64 s.parallax,.int .i64 s.eye]
def Errors.agg (s:Errors):Value:=.agg #[.int .i64 s.engraving,.int .i64 s.parallax,.int .i64 s.eye]

end Go.Proofs.YtednjmldjbndhaaGreatDoor
namespace Go.Proofs.YtednjmldjbndhaaGreatDoor
open Go.RowKit

end Go.Proofs.YtednjmldjbndhaaGreatDoor
namespace Go.Proofs.YtednjmldjbndhaaGreatDoor
open Go.RowKit

end Go.Proofs.YtednjmldjbndhaaGreatDoor
