/- What the reference's draws call: the plan of a chain that need not be valid, and its figure. Conditions: the lengths. -/
import Derived.Test.YtednjmldjbndhaaGreatKGr18
import Derived.Test.YtednjmldjbndhaaGreatKGr20
import Derived.Test.YtednjmldjbndhaaGreatKGr23
import Derived.Test.YtednjmldjbndhaaGreatKGr8
set_option linter.unusedSimpArgs false
set_option linter.unusedVariables false
set_option maxRecDepth 100000
set_option maxHeartbeats 8000000
namespace Go.Proofs.YtednjmldjbndhaaGreat
open Go.RowKit
def PfP (ms:List Move) (code:Int) (w:World) (e:Ending) (w':World):Prop:=∃ (A':Option Addr) (c':Nat),e=.returned (.tuple #[.slice A' ms.length c',.int .i64 code])∧Sl w' w'.heap.size 4 A' (ms.map Move.cells)∧(∀ q',q' < w.heap.size→Off A' q')∧ms.length ≤ c'∧Below w.heap.size w w'
def planL (L:Int) (l1 l2:List Int) (l3:List Term):List Move:=if planCode L l1 l2 l3=0 then (usualP l3).ms else []
theorem plan_parts {L:Int} {l1 l2:List Int} {l3:List Term} (h:planCode L l1 l2 l3=0):ruleB L l1 l2=true∧chainB l3=true∧(0:Int) ∈ l1∧(0:Int) ∈ l2:=by
 unfold planCode at h
 split at h
 ·rename_i h1
  rw [Bool.and_eq_true] at h1
  split at h
  ·rename_i h2
   rw [Bool.and_eq_true,decide_eq_true_eq,decide_eq_true_eq] at h2
   exact ⟨h1.1,h1.2,h2⟩
  ·cases h
 ·cases h
theorem planL_len (L:Int) (l1 l2:List Int) (l3:List Term):(planL L l1 l2 l3).length ≤ 19:=by
 unfold planL
 split
 ·rename_i h
  obtain ⟨k1,k2,k3,_⟩:=chainB_parts (plan_parts h).2.1
  exact (usual_ok k1 k2 k3).2
 ·simp
theorem specPlanFor_c (L:Int) (A1:Option Addr) (c1:Nat) (l1:List Int) (A2:Option Addr) (c2:Nat) (l2:List Int) (A3:Option Addr) (c3:Nat) (l3:List Term) (w:World) (E:ExIn w A1 c1 l1 A2 c2 l2 A3 c3 l3) :
  Calls Tryz.prog 91 #[.agg #[.int .i64 L,.slice A1 l1.length c1,.slice A2 l2.length c2],.slice A3 l3.length c3] w (PfP (planL L l1 l2 l3) (planCode L l1 l2 l3) w):=by
 have hW:Below w.heap.size w (w.alloc (.cells #[.int .i64 L,.slice A1 l1.length c1,.slice A2 l2.length c2] 26)):=(by repeat first | with_reducible (first | exact Below.refl _ _ | apply below_drewN' | apply Below.drew | refine Below.alloc ?_ ?_ _ | refine Below.setCell ?_ ?_ _) | exact Below.refl _ _ | omega | (simp <;> omega) | (have:=(Below.refl _ _).size;first | omega | (simp <;> omega)))
 have B0:=Blk.new w 26 #[.int .i64 L,.slice A1 l1.length c1,.slice A2 l2.length c2]
 have HC:=Lib.hid (have Q:=E.later hW;l14Code_c L A1 c1 l1 A2 c2 l2 A3 c3 l3 _ Q.h1 Q.h2 Q.h3 Q.k1 Q.k2 Q.s1 Q.s2 Q.s3)
 have HU:Hid (planCode L l1 l2 l3=0→∀ W,Below w.heap.size w W→_):=fun h W hW=>have P:=plan_parts h;have K:=chainB_parts P.2.1;l14UsualN_c L A1 c1 l1 A2 c2 l2 A3 c3 l3 W ((E.later hW).rule P.2.2.1 P.2.2.2) K.1 K.2.1 K.2.2.1 (E.later hW).s3
 have hpl:planCode L l1 l2 l3=0→planL L l1 l2 l3=(usualP l3).ms:=fun h=>by unfold planL;rw [if_pos h]
 have hpn:planCode L l1 l2 l3 ≠ 0→planL L l1 l2 l3=[]:=fun h=>by unfold planL;rw [if_neg h]
 clear E
 generalize planL L l1 l2 l3=pl at *
 generalize planCode L l1 l2 l3=pc at *
 unfold PfP
 by_cases h0:pc=0
 ·have hp:=hpl h0
  subst h0
  have HU2:=HU.out rfl
  rw [← hp] at HU2
  have HU2:=Lib.hid HU2
  clear HU hpl hpn hp
  go_enter Tryz.func91,Tryz.ntmps91
  go_wp2_with fail
  generalize w.alloc (.cells #[.int .i64 L,.slice A1 l1.length c1,.slice A2 l2.length c2] 26)=W at *
  refine Calls.mono HC.out ?_;rintro e w1 ⟨rfl,hb1⟩
  have hW1:=hW.trans (hb1.mono hW.size)
  have C0:=B0.below hb1 B0.lt
  have r0:w1.cell? ⟨w.heap.size,0,none⟩=some (.int .i64 L):=C0.cell 0
  have r1:w1.cell? ⟨w.heap.size,1,none⟩=some (.slice A1 l1.length c1):=C0.cell 1
  have r2:w1.cell? ⟨w.heap.size,2,none⟩=some (.slice A2 l2.length c2):=C0.cell 2
  clear B0 hW hb1 HC
  go_wp2_with fail
  refine Calls.mono (HU2.out w1 hW1) ?_;rintro e w2 ⟨A',c',rfl,hs,hb2,hn,hcp⟩
  have hW2:=hW1.trans (hb2.mono hW1.size)
  have Hs:=Lib.hid hs;have Hn:=Lib.hid hn;have Hc:=Lib.hid hcp
  clear hs hn hcp hb2
  go_wp2
  go_ret2
  exact ⟨A',c',rfl,Hs.out,fun q' hq'=>Hn.out q' (Nat.lt_of_lt_of_le hq' hW1.size),Hc.out,hW2⟩
 ·have hp:=hpn h0
  subst hp
  have hne:(pc != 0)=true:=by simpa using h0
  clear HU hpl hpn h0
  go_enter Tryz.func91,Tryz.ntmps91
  go_wp2_with fail
  refine Calls.mono HC.out ?_;rintro e w1 ⟨rfl,hb1⟩
  have hW1:=hW.trans (hb1.mono hW.size)
  go_wp2
  go_ret2
  exact ⟨none,0,rfl,Sl.nil_,fun _ _=>nofun,Nat.le_refl _,hW1⟩
def CfP (w:World) (e:Ending) (w':World):Prop:=∃ a b code:Int,e=.returned (.tuple #[.agg #[.int .i64 a,.int .i64 b],.int .i64 code])∧Below w.heap.size w w'
theorem specChainFigAny_c (A:Option Addr) (c:Nat) (l:List Term) (w:World) (hl:l.length ≤ 1000) (hs:Sl w w.heap.size 3 A (l.map Term.cells)):Calls Tryz.prog 92 #[.slice A l.length c] w (CfP w):=by
 cases hc:chainB l with
 | true =>
  exact (specChainFigure_c A c l w hc hs).mono fun _ _ ⟨he,hb⟩=>⟨_,_,_,he,hb⟩
 | false =>
  have HI:=fun W (hW:Below w.heap.size w W)=>Lib.hid (specIsChain_c A c l W (by omega) ((hs.below hW).more hW.size))
  rw [hc] at HI
  have hW:Below w.heap.size w (w.alloc (.cells #[.int .i64 0,.int .i64 0] 51)):=(by repeat first | with_reducible (first | exact Below.refl _ _ | apply below_drewN' | apply Below.drew | refine Below.alloc ?_ ?_ _ | refine Below.setCell ?_ ?_ _) | exact Below.refl _ _ | omega | (simp <;> omega) | (have:=(Below.refl _ _).size;first | omega | (simp <;> omega)))
  have HI:=Lib.hid HI
  clear hc hs
  unfold CfP
  go_enter Tryz.func92,Tryz.ntmps92
  go_wp2_with fail
  refine Calls.mono (HI.out _ hW).out ?_;rintro e w1 ⟨rfl,hb1⟩
  have hW1:=hW.trans (hb1.mono hW.size)
  have Bz:=(Blk.new w 51 #[.int .i64 0,.int .i64 0]).below hb1 (by simp)
  have d0:w1.cell? ⟨w.heap.size,0,none⟩=some (.int .i64 0):=Bz.cell 0
  have d1:w1.cell? ⟨w.heap.size,1,none⟩=some (.int .i64 0):=Bz.cell 1
  have f0:w1.frozen? ⟨w.heap.size,0,none⟩=false:=Bz.frozen 0
  have f1:w1.frozen? ⟨w.heap.size,1,none⟩=false:=Bz.frozen 1
  clear hb1 hW HI
  go_wp2
  refine bodyPost_ret (v:=.tuple #[.agg #[.int .i64 0,.int .i64 0],.int .i64 1]) (by simp [results,Tryz.results92,go_sem,d0,d1]) rfl ⟨0,0,1,rfl,(by repeat first | with_reducible (first | exact hW1 | apply below_drewN' | apply Below.drew | refine Below.alloc ?_ ?_ _ | refine Below.setCell ?_ ?_ _) | exact hW1 | omega | (simp <;> omega) | (have:=(hW1).size;first | omega | (simp <;> omega)))⟩
end Go.Proofs.YtednjmldjbndhaaGreat
