/- The span of an interval: the program's searches. Condition: the units are in range. -/
import Derived.Deep.RegionHeld3
import Derived.Test.YtednjmldjbndhaaGreatKGr12
set_option linter.unusedSimpArgs false
set_option linter.unusedVariables false
set_option maxRecDepth 100000
set_option maxHeartbeats 8000000
namespace Go.Proofs.YtednjmldjbndhaaGreat
open Go.RowKit
theorem heldC {W w w1:World} {b1 b2:Nat} {u1 u2:Value} (hb:Below w.heap.size w w1) (h:w.cell? ⟨b1,0,none⟩=some u1∧w.cell? ⟨b2,0,none⟩=some u2∧Below W.heap.size W w∧b1 < w.heap.size∧b2 < w.heap.size) :
  w1.cell? ⟨b1,0,none⟩=some u1∧w1.cell? ⟨b2,0,none⟩=some u2∧Below W.heap.size W w1∧b1 < w1.heap.size∧b2 < w1.heap.size :=
 ⟨(hb.cell (p:=⟨b1,0,none⟩) h.2.2.2.1).trans h.1,(hb.cell (p:=⟨b2,0,none⟩) h.2.2.2.2).trans h.2.1,h.2.2.1.trans (hb.mono h.2.2.1.size),Nat.lt_of_lt_of_le h.2.2.2.1 hb.size,Nat.lt_of_lt_of_le h.2.2.2.2 hb.size⟩
theorem isUnits_c (n:Int) (w:World):Calls Tryz.prog 196 #[.int .i64 n] w fun e w'=>e=.returned (.bool (unitsB n))∧w=w':=by
 go_enter Tryz.func196,Tryz.ntmps196
 go_wp2_with (go_at_call 52;refine (within_c _ _ _ _).mono ?_;rintro e w' ⟨rfl,rfl⟩)
 go_ret
 exact ⟨rfl,rfl⟩
theorem l04Units_c (n:Int) (w:World):Calls Tryz.prog 216 #[.int .i64 n] w fun e w'=>e=.returned (.bool (unitsB n))∧w=w':=by
 go_enter Tryz.func216,Tryz.ntmps216
 go_wp2_with (go_at_call 56;refine (l01In_c _ _ _ _).mono ?_;rintro e w' ⟨rfl,rfl⟩)
 go_ret
 exact ⟨rfl,rfl⟩
theorem belTest_c (i:Nat) (t u:Int) (b1 b2:Nat) (W:World) (hi:i < 9000) (ht:-30 ≤ t∧t ≤ 30) (h1:W.cell? ⟨b1,0,none⟩=some (.int .i64 t)) (h2:W.cell? ⟨b2,0,none⟩=some (.int .i64 u)) (l1:b1 < W.heap.size) (l2:b2 < W.heap.size) :
  Calls Tryz.prog 224 #[.int .i64 i,.pointer (some ⟨b1,0,none⟩),.pointer (some ⟨b2,0,none⟩)] W fun e w'=>e=.returned (.bool (decide (u < figHi (1000+i) t)))∧Below W.heap.size W w':=by
 have HA:=fun W=>Lib.hid (figureLog_c ⟨1000+i,t⟩ W (by simp only;omega) ht)
 unfold Figure.agg at HA
 simp only at HA
 unfold figHi
 have hi':(i:Int) < 9000:=by omega
 have hs1:IntKind.i64.wrap (i:Int)=i:=IntWalk.i64_in _ (by omega)
 have hs2:IntKind.i64.wrap (1000+(i:Int))=1000+i:=IntWalk.i64_in _ (by omega)
 have hI:W.drew.cell? ⟨b1,0,none⟩=some (.int .i64 t)∧W.drew.cell? ⟨b2,0,none⟩=some (.int .i64 u)∧Below W.heap.size W W.drew∧b1 < W.drew.heap.size∧b2 < W.drew.heap.size:=⟨h1,h2,(Below.refl _ _).drew,l1,l2⟩
 have hfl:∀ (x y:Value) (w:World),(Instr.field 186 (.agg #[x,y]) 1).run Tryz.prog w=.ok y w:=fun x y w=>by simp [Instr.field,go_sem,asAgg]
 generalize logLow ((1000+(i:Int)) * 100000)+t * 1048576=lo at *
 generalize logHigh ((1000+(i:Int)) * 100000)+t * 1048576=hi at *
 go_enter Tryz.func224,Tryz.ntmps224
 go_wp2_with fail
 go_region_held3 (fun w'=>w'.cell? ⟨b1,0,none⟩=some (.int .i64 t)∧w'.cell? ⟨b2,0,none⟩=some (.int .i64 u)∧Below W.heap.size W w'∧b1 < w'.heap.size∧b2 < w'.heap.size)
  (first | exact hI | exact heldC (by assumption) (by assumption))
  (first | (go_at_call 186;refine (HA _).out.mono ?_;rintro e w1 ⟨rfl,hb1⟩))
 have hfin:∀ w1:World,(w1.cell? ⟨b1,0,none⟩=some (.int .i64 t)∧w1.cell? ⟨b2,0,none⟩=some (.int .i64 u)∧Below W.heap.size W w1∧b1 < w1.heap.size∧b2 < w1.heap.size)→Below W.heap.size W w1:=fun _ h=>h.2.2.1
 go_wp2
 go_ret
 exact ⟨rfl,hfin _ (by assumption)⟩
theorem aboTest_c (i:Nat) (t u:Int) (b1 b2:Nat) (W:World) (hi:i < 9000) (ht:-30 ≤ t∧t ≤ 30) (h1:W.cell? ⟨b1,0,none⟩=some (.int .i64 t)) (h2:W.cell? ⟨b2,0,none⟩=some (.int .i64 u)) (l1:b1 < W.heap.size) (l2:b2 < W.heap.size) :
  Calls Tryz.prog 225 #[.int .i64 i,.pointer (some ⟨b1,0,none⟩),.pointer (some ⟨b2,0,none⟩)] W fun e w'=>e=.returned (.bool (decide (u ≤ figLo (1000+i) t)))∧Below W.heap.size W w':=by
 have HA:=fun W=>Lib.hid (figureLog_c ⟨1000+i,t⟩ W (by simp only;omega) ht)
 unfold Figure.agg at HA
 simp only at HA
 unfold figLo
 have hi':(i:Int) < 9000:=by omega
 have hs1:IntKind.i64.wrap (i:Int)=i:=IntWalk.i64_in _ (by omega)
 have hs2:IntKind.i64.wrap (1000+(i:Int))=1000+i:=IntWalk.i64_in _ (by omega)
 have hI:W.drew.cell? ⟨b1,0,none⟩=some (.int .i64 t)∧W.drew.cell? ⟨b2,0,none⟩=some (.int .i64 u)∧Below W.heap.size W W.drew∧b1 < W.drew.heap.size∧b2 < W.drew.heap.size:=⟨h1,h2,(Below.refl _ _).drew,l1,l2⟩
 have hfl:∀ (x y:Value) (w:World),(Instr.field 186 (.agg #[x,y]) 0).run Tryz.prog w=.ok x w:=fun x y w=>by simp [Instr.field,go_sem,asAgg]
 generalize logLow ((1000+(i:Int)) * 100000)+t * 1048576=lo at *
 generalize logHigh ((1000+(i:Int)) * 100000)+t * 1048576=hi at *
 go_enter Tryz.func225,Tryz.ntmps225
 go_wp2_with fail
 go_region_held3 (fun w'=>w'.cell? ⟨b1,0,none⟩=some (.int .i64 t)∧w'.cell? ⟨b2,0,none⟩=some (.int .i64 u)∧Below W.heap.size W w'∧b1 < w'.heap.size∧b2 < w'.heap.size)
  (first | exact hI | exact heldC (by assumption) (by assumption))
  (first | (go_at_call 186;refine (HA _).out.mono ?_;rintro e w1 ⟨rfl,hb1⟩))
 have hfin:∀ w1:World,(w1.cell? ⟨b1,0,none⟩=some (.int .i64 t)∧w1.cell? ⟨b2,0,none⟩=some (.int .i64 u)∧Below W.heap.size W w1∧b1 < w1.heap.size∧b2 < w1.heap.size)→Below W.heap.size W w1:=fun _ h=>h.2.2.1
 go_wp2
 go_ret
 exact ⟨rfl,hfin _ (by assumption)⟩
def belR (u:Int):Value:=if -30 ≤ (u - 1) / 1048576 then .tuple #[.agg #[.int .i64 (999+belI u),.int .i64 ((u - 1) / 1048576)],.bool true] else .tuple #[.agg #[.int .i64 0,.int .i64 0],.bool false]
theorem figureBelow_c (u:Int) (w:World) (hu:unitsB u=true) :
  Calls Tryz.prog 197 #[.int .i64 u] w fun e w'=>e=.returned (belR u)∧Below w.heap.size w w':=by
 have hmf:∀ (fn:Fn) (first cap:Array Value) (w:World),(Instr.makeFunc fn first cap).run Tryz.prog w=.ok (.func fn first cap) w:=fun _ _ _ _=>rfl
 have hub:=unitsB_bd hu
 clear hu
 have hle:=belI_le u
 have HD:=fun W=>Lib.hid (down_c (u - 1) 1048576 W (by omega) (by omega))
 obtain ⟨t,ht⟩:∃ t,t=(u - 1) / 1048576:=⟨_,rfl⟩
 have hbd:-31 ≤ t∧t ≤ 29:=by omega
 by_cases h30:-30 ≤ t
 ·have HR:Hid (belR u=.tuple #[.agg #[.int .i64 (999+belI u),.int .i64 t],.bool true]):=by unfold Hid belR;rw [if_pos (by omega),ht]
  have HS:=fun (W2:World) (b1 b2:Nat) (k1:W2.cell? ⟨b1,0,none⟩=some (.int .i64 t)) (k2:W2.cell? ⟨b2,0,none⟩=some (.int .i64 u)) (l1:b1 < W2.heap.size) (l2:b2 < W2.heap.size)=>Lib.hid (search_c 224 #[.pointer (some ⟨b1,0,none⟩),.pointer (some ⟨b2,0,none⟩)] 9000 (belI u) (belP u) W2 (by omega) (enters_of Tryz.func224 (by kernel_rfl) rfl)
   (fun i W' hi hb=>by
    have hbs:=hb.size
    have:=belTest_c i t u b1 b2 W' hi (by omega) (by rw [hb.cell (p:=⟨b1,0,none⟩) l1];exact k1) (by rw [hb.cell (p:=⟨b2,0,none⟩) l2];exact k2) (by omega) (by omega)
    rw [ht] at this
    exact this)
   (belI_le u) (fun i hi=>belI_lo hi) (fun i h h'=>belI_hi h h'))
  rw [← ht] at HD
  have Ht:=Lib.hid ht;clear ht
  generalize belI u=r at *
  go_enter Tryz.func197,Tryz.ntmps197
  go_wp2_with (first | (go_at_call 150;refine (HD _).out.mono ?_;rintro e w1 ⟨rfl,rfl⟩))
  refine (HS _ _ _ (by simp [go_sem]) (by simp [go_sem]) (by simp) (by first | (simp;done) | (simp;omega) | omega)).out.mono ?_;rintro e w2 ⟨rfl,hb2⟩
  have B0:Blk w2 w.heap.size 2 #[.int .i64 u]:=(((Blk.new w _ _).alloc _).alloc _).below hb2 (by first | (simp;done) | (simp;omega) | omega)
  have B1:Blk w2 (w.heap.size+1) 51 #[.int .i64 0,.int .i64 0]:=((Blk.new' _ _ _ (by simp)).alloc _).below hb2 (by first | (simp;done) | (simp;omega) | omega)
  have B2:Blk w2 (w.heap.size+2) 2 #[.int .i64 t]:=(Blk.new' _ _ _ (by simp)).below hb2 (by first | (simp;done) | (simp;omega) | omega)
  have hB2:Below w.heap.size w w2:=Below.trans ((by repeat first | with_reducible (first | exact Below.refl _ _ | apply below_drewN' | apply Below.drew | refine Below.alloc ?_ ?_ _ | refine Below.setCell ?_ ?_ _) | exact Below.refl _ _ | omega | (simp <;> omega) | (have:=(Below.refl _ _).size;first | omega | (simp <;> omega)))) (hb2.mono (by first | (simp;done) | (simp;omega) | omega))
  have hs2:=hB2.size
  have q2:w2.cell? ⟨w.heap.size+2,0,none⟩=some (.int .i64 t):=B2.cell 0
  have q2':w2.cell? ⟨w.heap.size+1+1,0,none⟩=some (.int .i64 t):=B2.cell 0
  have r0:w2.cell? ⟨w.heap.size+1,0,none⟩=some (.int .i64 0):=B1.cell 0
  have r1:w2.cell? ⟨w.heap.size+1,1,none⟩=some (.int .i64 0):=B1.cell 1
  have f0:=B1.frozen 0
  have f1:=B1.frozen 1
  have z1:=B1.lt
  clear hb2
  go_wp2
  refine bodyPost_ret (v:=.tuple #[.agg #[.int .i64 (999+r),.int .i64 t],.bool true]) (by simp [results,Tryz.results197,go_sem,r0,r1]) rfl ⟨by rw [HR.out],(by repeat first | with_reducible (first | exact hB2 | apply below_drewN' | apply Below.drew | refine Below.alloc ?_ ?_ _ | refine Below.setCell ?_ ?_ _) | exact hB2 | omega | (simp <;> omega) | (have:=(hB2).size;first | omega | (simp <;> omega)))⟩
 ·have HR:Hid (belR u=.tuple #[.agg #[.int .i64 0,.int .i64 0],.bool false]):=by unfold Hid belR;rw [if_neg (by omega)]
  rw [← ht] at HD
  clear ht
  have h30':t < -30:=by omega
  go_enter Tryz.func197,Tryz.ntmps197
  go_wp2_with (first | (go_at_call 150;refine (HD _).out.mono ?_;rintro e w1 ⟨rfl,rfl⟩))
  refine bodyPost_ret (v:=.tuple #[.agg #[.int .i64 0,.int .i64 0],.bool false]) (by simp [results,Tryz.results197,go_sem]) rfl ⟨by rw [HR.out],(by repeat first | with_reducible (first | exact Below.refl _ _ | apply below_drewN' | apply Below.drew | refine Below.alloc ?_ ?_ _ | refine Below.setCell ?_ ?_ _) | exact Below.refl _ _ | omega | (simp <;> omega) | (have:=(Below.refl _ _).size;first | omega | (simp <;> omega)))⟩
def aboF (u:Int):Figure:=⟨numD (aboN u),numT (aboN u)⟩
def aboR (u:Int):Value:=.tuple #[.agg #[.int .i64 (numD (aboN u)),.int .i64 (numT (aboN u))],.bool (figOK (aboF u))]
theorem heldF {W w w1:World} {b1:Nat} {u1 u2:Value} (hb:Below w.heap.size w w1) (h:w.cell? ⟨b1,0,none⟩=some u1∧w.cell? ⟨b1,1,none⟩=some u2∧Below W.heap.size W w∧b1 < w.heap.size) :
  w1.cell? ⟨b1,0,none⟩=some u1∧w1.cell? ⟨b1,1,none⟩=some u2∧Below W.heap.size W w1∧b1 < w1.heap.size :=
 ⟨(hb.cell (p:=⟨b1,0,none⟩) h.2.2.2).trans h.1,(hb.cell (p:=⟨b1,1,none⟩) h.2.2.2).trans h.2.1,h.2.2.1.trans (hb.mono h.2.2.1.size),Nat.lt_of_lt_of_le h.2.2.2 hb.size⟩
theorem figureAbove_c (u:Int) (w:World) (hu:unitsB u=true) :
  Calls Tryz.prog 198 #[.int .i64 u] w fun e w'=>e=.returned (aboR u)∧Below w.heap.size w w':=by
 have hmf:∀ (fn:Fn) (first cap:Array Value) (w:World),(Instr.makeFunc fn first cap).run Tryz.prog w=.ok (.func fn first cap) w:=fun _ _ _ _=>rfl
 have hub:=unitsB_bd hu
 clear hu
 have hle:=aboI_le u
 have hND:=aboN_D u
 have HD:=fun W=>Lib.hid (down_c u 1048576 W (by omega) (by omega))
 obtain ⟨t,ht⟩:∃ t,t=u / 1048576:=⟨_,rfl⟩
 have hbd:-30 ≤ t∧t ≤ 30:=by omega
 have HS:=fun (W2:World) (b1 b2:Nat) (k1:W2.cell? ⟨b1,0,none⟩=some (.int .i64 t)) (k2:W2.cell? ⟨b2,0,none⟩=some (.int .i64 u)) (l1:b1 < W2.heap.size) (l2:b2 < W2.heap.size)=>Lib.hid (search_c 225 #[.pointer (some ⟨b1,0,none⟩),.pointer (some ⟨b2,0,none⟩)] 9000 (aboI u) (aboP u) W2 (by omega) (enters_of Tryz.func225 (by kernel_rfl) rfl)
  (fun i W' hi hb=>by
   have hbs:=hb.size
   have:=aboTest_c i t u b1 b2 W' hi (by omega) (by rw [hb.cell (p:=⟨b1,0,none⟩) l1];exact k1) (by rw [hb.cell (p:=⟨b2,0,none⟩) l2];exact k2) (by omega) (by omega)
   rw [ht] at this
   exact this)
  (aboI_le u) (fun i hi=>aboI_lo hi) (fun i h h'=>aboI_hi h h'))
 rw [← ht] at HD hND
 have HF:=fun W=>implIsFigure_c (aboF u) W
 unfold aboF Figure.agg at HF
 unfold aboR aboF
 generalize figOK ⟨numD (aboN u),numT (aboN u)⟩=ok at *
 clear ht
 generalize aboI u=r at *
 by_cases h9:r=9000
 ·obtain ⟨e1,e2⟩:=hND.1 h9
  rw [e1,e2] at HF ⊢
  have HF:=fun W=>Lib.hid (HF W)
  subst h9
  clear hND e1 e2
  go_enter Tryz.func198,Tryz.ntmps198
  go_wp2_with (first | (go_at_call 150;refine (HD _).out.mono ?_;rintro e w1 ⟨rfl,rfl⟩))
  refine (HS _ _ _ (by simp [go_sem]) (by simp [go_sem]) (by simp) (by first | (simp;done) | (simp;omega) | omega)).out.mono ?_;rintro e w2 ⟨rfl,hb2⟩
  have B0:Blk w2 w.heap.size 2 #[.int .i64 u]:=(((Blk.new w _ _).alloc _).alloc _).below hb2 (by first | (simp;done) | (simp;omega) | omega)
  have B1:Blk w2 (w.heap.size+1) 51 #[.int .i64 0,.int .i64 0]:=((Blk.new' _ _ _ (by simp)).alloc _).below hb2 (by first | (simp;done) | (simp;omega) | omega)
  have B2:Blk w2 (w.heap.size+2) 2 #[.int .i64 t]:=(Blk.new' _ _ _ (by simp)).below hb2 (by first | (simp;done) | (simp;omega) | omega)
  have hB2:Below w.heap.size w w2:=Below.trans ((by repeat first | with_reducible (first | exact Below.refl _ _ | apply below_drewN' | apply Below.drew | refine Below.alloc ?_ ?_ _ | refine Below.setCell ?_ ?_ _) | exact Below.refl _ _ | omega | (simp <;> omega) | (have:=(Below.refl _ _).size;first | omega | (simp <;> omega)))) (hb2.mono (by first | (simp;done) | (simp;omega) | omega))
  have hs2:=hB2.size
  have q2:w2.cell? ⟨w.heap.size+2,0,none⟩=some (.int .i64 t):=B2.cell 0
  have q2':w2.cell? ⟨w.heap.size+1+1,0,none⟩=some (.int .i64 t):=B2.cell 0
  have z2:=B2.lt
  clear hb2 HS HD
  go_wp2_with fail
  have B3:Blk (w2.alloc (.cells #[.int .i64 1000,.int .i64 (t+1)] 51)) w2.heap.size 51 #[.int .i64 1000,.int .i64 (t+1)]:=Blk.new _ _ _
  have B1':=B1.alloc (.cells #[.int .i64 1000,.int .i64 (t+1)] 51)
  have hB3:Below w.heap.size w (w2.alloc (.cells #[.int .i64 1000,.int .i64 (t+1)] 51)):=hB2.alloc hs2 _
  have hz3:w2.heap.size < (w2.alloc (.cells #[.int .i64 1000,.int .i64 (t+1)] 51)).heap.size:=by simp
  clear q2 q2' B0 B1 B2
  generalize w2.alloc (.cells #[.int .i64 1000,.int .i64 (t+1)] 51)=w3 at *
  have hs3:=hB3.size
  generalize hg:w2.heap.size=g at *
  have hneg:w.heap.size+1 ≠ g:=by have:=B1'.lt;omega
  have hI:w3.drew.cell? ⟨g,0,none⟩=some (.int .i64 1000)∧w3.drew.cell? ⟨g,1,none⟩=some (.int .i64 (t+1))∧Below w.heap.size w w3.drew∧g < w3.drew.heap.size:=⟨B3.cell 0,B3.cell 1,hB3.drew,hz3⟩
  have Bd:Blk w3.drew (w.heap.size+1) 51 #[.int .i64 0,.int .i64 0]:=B1'
  have Bs:Blk ((w3.drew.setCell ⟨w.heap.size+1,0,none⟩ (.int .i64 1000)).setCell ⟨w.heap.size+1,1,none⟩ (.int .i64 (t+1))) (w.heap.size+1) 51 #[.int .i64 1000,.int .i64 (t+1)]:=(Bd.set_ 0 _).set_ 1 _
  have hBd:Below w.heap.size w w3.drew:=hB3.drew
  have hBs:Below w.heap.size w ((w3.drew.setCell ⟨w.heap.size+1,0,none⟩ (.int .i64 1000)).setCell ⟨w.heap.size+1,1,none⟩ (.int .i64 (t+1))):=(by repeat first | with_reducible (first | exact hB3.drew | apply below_drewN' | apply Below.drew | refine Below.alloc ?_ ?_ _ | refine Below.setCell ?_ ?_ _) | exact hB3.drew | omega | (simp <;> omega) | (have:=(hB3.drew).size;first | omega | (simp <;> omega)))
  have d0:w3.drew.cell? ⟨w.heap.size+1,0,none⟩=some (.int .i64 0):=Bd.cell 0
  have d1:w3.drew.cell? ⟨w.heap.size+1,1,none⟩=some (.int .i64 0):=Bd.cell 1
  have e0:=Bd.frozen 0
  have e1:=Bd.frozen 1
  have hset:∀ (v:World),(v.cell? ⟨g,0,none⟩=some (.int .i64 1000)∧v.cell? ⟨g,1,none⟩=some (.int .i64 (t+1))∧Below w.heap.size w v∧g < v.heap.size)→((v.setCell ⟨w.heap.size+1,0,none⟩ (.int .i64 1000)).setCell ⟨w.heap.size+1,1,none⟩ (.int .i64 (t+1))).cell? ⟨g,0,none⟩=some (.int .i64 1000)∧((v.setCell ⟨w.heap.size+1,0,none⟩ (.int .i64 1000)).setCell ⟨w.heap.size+1,1,none⟩ (.int .i64 (t+1))).cell? ⟨g,1,none⟩=some (.int .i64 (t+1))∧Below w.heap.size w ((v.setCell ⟨w.heap.size+1,0,none⟩ (.int .i64 1000)).setCell ⟨w.heap.size+1,1,none⟩ (.int .i64 (t+1)))∧g < ((v.setCell ⟨w.heap.size+1,0,none⟩ (.int .i64 1000)).setCell ⟨w.heap.size+1,1,none⟩ (.int .i64 (t+1))).heap.size:=fun v ⟨k1,k2,k3,k4⟩ =>
   ⟨by rw [World.cell?_setCell_far _ _ _ _ hneg,World.cell?_setCell_far _ _ _ _ hneg];exact k1,by rw [World.cell?_setCell_far _ _ _ _ hneg,World.cell?_setCell_far _ _ _ _ hneg];exact k2,(k3.setCell (Nat.le_succ _) _).setCell (Nat.le_succ _) _,by simpa using k4⟩
  go_region_held3 (fun w'=>w'.cell? ⟨g,0,none⟩=some (.int .i64 1000)∧w'.cell? ⟨g,1,none⟩=some (.int .i64 (t+1))∧Below w.heap.size w w'∧g < w'.heap.size)
   (first | exact hI | exact heldF (by assumption) (by assumption) | exact hset _ (by assumption))
   (first | (go_at_call 158;refine (HF _).out.mono ?_;rintro e w4 ⟨rfl,hb4⟩;(first | (with_reducible have C4:=Bs.below hb4 Bs.lt) | (with_reducible have C4:=Bd.below hb4 Bd.lt));(have r0:w4.cell? ⟨w.heap.size+1,0,none⟩=some _:=C4.cell 0);(have r1:w4.cell? ⟨w.heap.size+1,1,none⟩=some _:=C4.cell 1);(have r2:=C4.frozen 0);(have r3:=C4.frozen 1)))
  all_goals
   have hBx:Below w.heap.size w w4:=by first | exact hBd.trans (hb4.mono hBd.size) | exact hBs.trans (hb4.mono hBs.size)
   go_wp2
   refine bodyPost_ret (v:=.tuple #[.agg #[.int .i64 1000,.int .i64 (t+1)],.bool ok]) (by simp [results,Tryz.results198,go_sem,r0,r1]) rfl ⟨rfl,(by repeat first | with_reducible (first | exact hBx | apply below_drewN' | apply Below.drew | refine Below.alloc ?_ ?_ _ | refine Below.setCell ?_ ?_ _) | exact hBx | omega | (simp <;> omega) | (have:=(hBx).size;first | omega | (simp <;> omega)))⟩
 ·obtain ⟨e1,e2⟩:=hND.2 (by omega)
  rw [e1,e2] at HF ⊢
  have HF:=fun W=>Lib.hid (HF W)
  have hr9:(r:Int) < 9000:=by omega
  have hrn:¬ (r:Int)=9000:=by omega
  have hr0:(0:Int) ≤ r:=by omega
  clear h9
  clear hND e1 e2
  go_enter Tryz.func198,Tryz.ntmps198
  go_wp2_with (first | (go_at_call 150;refine (HD _).out.mono ?_;rintro e w1 ⟨rfl,rfl⟩))
  refine (HS _ _ _ (by simp [go_sem]) (by simp [go_sem]) (by simp) (by first | (simp;done) | (simp;omega) | omega)).out.mono ?_;rintro e w2 ⟨rfl,hb2⟩
  have B0:Blk w2 w.heap.size 2 #[.int .i64 u]:=(((Blk.new w _ _).alloc _).alloc _).below hb2 (by first | (simp;done) | (simp;omega) | omega)
  have B1:Blk w2 (w.heap.size+1) 51 #[.int .i64 0,.int .i64 0]:=((Blk.new' _ _ _ (by simp)).alloc _).below hb2 (by first | (simp;done) | (simp;omega) | omega)
  have B2:Blk w2 (w.heap.size+2) 2 #[.int .i64 t]:=(Blk.new' _ _ _ (by simp)).below hb2 (by first | (simp;done) | (simp;omega) | omega)
  have hB2:Below w.heap.size w w2:=Below.trans ((by repeat first | with_reducible (first | exact Below.refl _ _ | apply below_drewN' | apply Below.drew | refine Below.alloc ?_ ?_ _ | refine Below.setCell ?_ ?_ _) | exact Below.refl _ _ | omega | (simp <;> omega) | (have:=(Below.refl _ _).size;first | omega | (simp <;> omega)))) (hb2.mono (by first | (simp;done) | (simp;omega) | omega))
  have hs2:=hB2.size
  have q2:w2.cell? ⟨w.heap.size+2,0,none⟩=some (.int .i64 t):=B2.cell 0
  have q2':w2.cell? ⟨w.heap.size+1+1,0,none⟩=some (.int .i64 t):=B2.cell 0
  have z2:=B2.lt
  clear hb2 HS HD
  go_wp2_with fail
  have B3:Blk (w2.alloc (.cells #[.int .i64 (1000+r),.int .i64 t] 51)) w2.heap.size 51 #[.int .i64 (1000+r),.int .i64 t]:=Blk.new _ _ _
  have B1':=B1.alloc (.cells #[.int .i64 (1000+r),.int .i64 t] 51)
  have hB3:Below w.heap.size w (w2.alloc (.cells #[.int .i64 (1000+r),.int .i64 t] 51)):=hB2.alloc hs2 _
  have hz3:w2.heap.size < (w2.alloc (.cells #[.int .i64 (1000+r),.int .i64 t] 51)).heap.size:=by simp
  clear q2 q2' B0 B1 B2
  generalize w2.alloc (.cells #[.int .i64 (1000+r),.int .i64 t] 51)=w3 at *
  have hs3:=hB3.size
  generalize hg:w2.heap.size=g at *
  have hneg:w.heap.size+1 ≠ g:=by have:=B1'.lt;omega
  have hI:w3.drew.cell? ⟨g,0,none⟩=some (.int .i64 (1000+r))∧w3.drew.cell? ⟨g,1,none⟩=some (.int .i64 t)∧Below w.heap.size w w3.drew∧g < w3.drew.heap.size:=⟨B3.cell 0,B3.cell 1,hB3.drew,hz3⟩
  have Bd:Blk w3.drew (w.heap.size+1) 51 #[.int .i64 0,.int .i64 0]:=B1'
  have Bs:Blk ((w3.drew.setCell ⟨w.heap.size+1,0,none⟩ (.int .i64 (1000+r))).setCell ⟨w.heap.size+1,1,none⟩ (.int .i64 t)) (w.heap.size+1) 51 #[.int .i64 (1000+r),.int .i64 t]:=(Bd.set_ 0 _).set_ 1 _
  have hBd:Below w.heap.size w w3.drew:=hB3.drew
  have hBs:Below w.heap.size w ((w3.drew.setCell ⟨w.heap.size+1,0,none⟩ (.int .i64 (1000+r))).setCell ⟨w.heap.size+1,1,none⟩ (.int .i64 t)):=(by repeat first | with_reducible (first | exact hB3.drew | apply below_drewN' | apply Below.drew | refine Below.alloc ?_ ?_ _ | refine Below.setCell ?_ ?_ _) | exact hB3.drew | omega | (simp <;> omega) | (have:=(hB3.drew).size;first | omega | (simp <;> omega)))
  have d0:w3.drew.cell? ⟨w.heap.size+1,0,none⟩=some (.int .i64 0):=Bd.cell 0
  have d1:w3.drew.cell? ⟨w.heap.size+1,1,none⟩=some (.int .i64 0):=Bd.cell 1
  have e0:=Bd.frozen 0
  have e1:=Bd.frozen 1
  have hset:∀ (v:World),(v.cell? ⟨g,0,none⟩=some (.int .i64 (1000+r))∧v.cell? ⟨g,1,none⟩=some (.int .i64 t)∧Below w.heap.size w v∧g < v.heap.size)→((v.setCell ⟨w.heap.size+1,0,none⟩ (.int .i64 (1000+r))).setCell ⟨w.heap.size+1,1,none⟩ (.int .i64 t)).cell? ⟨g,0,none⟩=some (.int .i64 (1000+r))∧((v.setCell ⟨w.heap.size+1,0,none⟩ (.int .i64 (1000+r))).setCell ⟨w.heap.size+1,1,none⟩ (.int .i64 t)).cell? ⟨g,1,none⟩=some (.int .i64 t)∧Below w.heap.size w ((v.setCell ⟨w.heap.size+1,0,none⟩ (.int .i64 (1000+r))).setCell ⟨w.heap.size+1,1,none⟩ (.int .i64 t))∧g < ((v.setCell ⟨w.heap.size+1,0,none⟩ (.int .i64 (1000+r))).setCell ⟨w.heap.size+1,1,none⟩ (.int .i64 t)).heap.size:=fun v ⟨k1,k2,k3,k4⟩ =>
   ⟨by rw [World.cell?_setCell_far _ _ _ _ hneg,World.cell?_setCell_far _ _ _ _ hneg];exact k1,by rw [World.cell?_setCell_far _ _ _ _ hneg,World.cell?_setCell_far _ _ _ _ hneg];exact k2,(k3.setCell (Nat.le_succ _) _).setCell (Nat.le_succ _) _,by simpa using k4⟩
  go_region_held3 (fun w'=>w'.cell? ⟨g,0,none⟩=some (.int .i64 (1000+r))∧w'.cell? ⟨g,1,none⟩=some (.int .i64 t)∧Below w.heap.size w w'∧g < w'.heap.size)
   (first | exact hI | exact heldF (by assumption) (by assumption) | exact hset _ (by assumption))
   (first | (go_at_call 158;refine (HF _).out.mono ?_;rintro e w4 ⟨rfl,hb4⟩;(first | (with_reducible have C4:=Bs.below hb4 Bs.lt) | (with_reducible have C4:=Bd.below hb4 Bd.lt));(have r0:w4.cell? ⟨w.heap.size+1,0,none⟩=some _:=C4.cell 0);(have r1:w4.cell? ⟨w.heap.size+1,1,none⟩=some _:=C4.cell 1);(have r2:=C4.frozen 0);(have r3:=C4.frozen 1)))
  all_goals
   have hBx:Below w.heap.size w w4:=by first | exact hBd.trans (hb4.mono hBd.size) | exact hBs.trans (hb4.mono hBs.size)
   go_wp2
   refine bodyPost_ret (v:=.tuple #[.agg #[.int .i64 (1000+r),.int .i64 t],.bool ok]) (by simp [results,Tryz.results198,go_sem,r0,r1]) rfl ⟨rfl,(by repeat first | with_reducible (first | exact hBx | apply below_drewN' | apply Below.drew | refine Below.alloc ?_ ?_ _ | refine Below.setCell ?_ ?_ _) | exact hBx | omega | (simp <;> omega) | (have:=(hBx).size;first | omega | (simp <;> omega)))⟩
end Go.Proofs.YtednjmldjbndhaaGreat
