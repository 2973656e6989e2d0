/- The figure read at a point of scale C: the program's. Condition: the point is in range. -/
import Derived.Laws.EntriesVeiled
import Derived.Test.YtednjmldjbndhaaGreatKGr12
import Derived.Test.YtednjmldjbndhaaGreatKGr26
import Derived.Test.YtednjmldjbndhaaGreatKGr32
import Derived.Test.YtednjmldjbndhaaGreatKGr38
set_option linter.unusedSimpArgs false
set_option linter.unusedVariables false
set_option maxRecDepth 100000
set_option maxHeartbeats 8000000
namespace Go.Proofs.YtednjmldjbndhaaGreat
open Go.RowKit
def rdP (c:Int) (i:Nat):Bool:=decide (c ≤ pointC (1000+(i:Int)))
def rdI (c:Int):Nat:=(List.range 9000).findIdx (rdP c)
theorem rdI_le (c:Int):rdI c ≤ 9000:=by
 have:=List.findIdx_le_length (xs:=List.range 9000) (p:=rdP c)
 simpa [rdI] using this
theorem rdI_lo {c:Int} {i:Nat} (h:i < rdI c):rdP c i=false:=by
 have hl:=rdI_le c
 have:=List.not_of_lt_findIdx (p:=rdP c) (xs:=List.range 9000) h
 simpa using this
theorem rdI_at {c:Int} (h:rdI c < 9000):rdP c (rdI c)=true:=by
 have:=List.findIdx_getElem (p:=rdP c) (xs:=List.range 9000) (w:=by simpa [rdI] using h)
 simpa [rdI] using this
theorem pointC_le {d d':Int} (h:1000 ≤ d) (hd:d ≤ d') (h':d' ≤ 9999):pointC d ≤ pointC d':=by
 rcases Int.lt_or_eq_of_le hd with h1 | h1
 ·exact Int.le_of_lt (pointC_lt h h1 h')
 ·rw [h1];exact Int.le_refl _
theorem rdI_hi {c:Int} {i:Nat} (h:rdI c ≤ i) (hi:i < 9000):rdP c i=true:=by
 have h0:=rdI_at (c:=c) (by omega)
 unfold rdP at h0 ⊢
 simp only [decide_eq_true_eq] at h0 ⊢
 have:=pointC_le (d:=1000+(rdI c:Int)) (d':=1000+(i:Int)) (by omega) (by omega) (by omega)
 omega
theorem rdI_point {i:Nat} (hi:i < 9000):rdI (pointC (1000+(i:Int)))=i:=by
 have hle:=rdI_le (pointC (1000+(i:Int)))
 rcases Nat.lt_trichotomy (rdI (pointC (1000+(i:Int)))) i with h | h | h
 ·have h1:=rdI_at (c:=pointC (1000+(i:Int))) (by omega)
  unfold rdP at h1
  rw [decide_eq_true_eq] at h1
  have:=pointC_lt (d:=1000+(rdI (pointC (1000+(i:Int))):Int)) (d':=1000+(i:Int)) (by omega) (by omega) (by omega)
  omega
 ·exact h
 ·have h1:=rdI_lo h
  unfold rdP at h1
  simp at h1
def rdD (c:Int):Int:=if rdI c=0 then 1000 else if rdI c=9000 then 9999 else if c - pointC (999+(rdI c:Int)) ≤ pointC (1000+(rdI c:Int)) - c then 999+rdI c else 1000+rdI c
theorem rdD_near (c:Int):NearC c (rdD c):=by
 have hle:=rdI_le c
 have hlo:∀ x,1000 ≤ x∧x < 1000+(rdI c:Int)→pointC x < c:=fun x hx=>by
  have:=rdI_lo (c:=c) (i:=(x - 1000).toNat) (by omega)
  unfold rdP at this
  rw [show (1000:Int)+((x - 1000).toNat:Int)=x from by omega] at this
  simpa using this
 have hhi:∀ x,1000+(rdI c:Int) ≤ x∧x ≤ 9999→c ≤ pointC x:=fun x hx=>by
  have:=rdI_hi (c:=c) (i:=(x - 1000).toNat) (by omega) (by omega)
  unfold rdP at this
  rw [show (1000:Int)+((x - 1000).toNat:Int)=x from by omega] at this
  simpa using this
 unfold rdD
 by_cases h0:rdI c=0
 ·rw [if_pos h0]
  refine ⟨by omega,fun x hx=>?_⟩
  have h1:=pointC_le (d:=1000) (d':=x) (by omega) hx.1 hx.2
  have h2:=hhi 1000 (by omega)
  omega
 ·rw [if_neg h0]
  by_cases h9:rdI c=9000
  ·rw [if_pos h9]
   refine ⟨by omega,fun x hx=>?_⟩
   have h1:=pointC_le (d:=x) (d':=9999) hx.1 hx.2 (by omega)
   have h2:=hlo 9999 (by omega)
   omega
  ·rw [if_neg h9]
   have a1:=hlo (999+rdI c) (by omega)
   have a2:=hhi (1000+rdI c) (by omega)
   split
   ·rename_i hh
    refine ⟨by omega,fun x hx=>?_⟩
    rcases Int.lt_or_le x (1000+rdI c) with h | h
    ·have h1:=pointC_le (d:=x) (d':=999+rdI c) hx.1 (by omega) (by omega)
     omega
    ·have h1:=pointC_le (d:=1000+rdI c) (d':=x) (by omega) h hx.2
     omega
   ·rename_i hh
    refine ⟨by omega,fun x hx=>?_⟩
    rcases Int.lt_or_le x (1000+rdI c) with h | h
    ·have h1:=pointC_le (d:=x) (d':=999+rdI c) hx.1 (by omega) (by omega)
     omega
    ·have h1:=pointC_le (d:=1000+rdI c) (d':=x) (by omega) h hx.2
     omega
structure SegAt (b10 b8 g cap:Nat) (v:World):Prop where
 q:Blk v b10 24 #[.slice (some ⟨g,0,none⟩) 2 cap]∧Blk v g 2 #[.int .i64 1000,.int .i64 9999]
 t:Blk v b8 2 #[.int .i64 0]
theorem SegAt.below {b10 b8 g cap:Nat} {v v':World} (h:SegAt b10 b8 g cap v) (hb:Below v.heap.size v v'):SegAt b10 b8 g cap v' :=
 ⟨⟨h.q.1.below hb h.q.1.lt,h.q.2.below hb h.q.2.lt⟩,h.t.below hb h.t.lt⟩
theorem rdFig_c (i:Int) (b10 b8 g cap:Nat) (w:World) (hi:0 ≤ i∧i ≤ 9000) (G:SegAt b10 b8 g cap w) :
  Calls Tryz.prog 145 #[.int .i64 i,.pointer (some ⟨b10,0,none⟩),.pointer (some ⟨b8,0,none⟩)] w fun e w'=>e=.returned (.agg #[.int .i64 (1000+i),.int .i64 0])∧Below w.heap.size w w':=by
 have hal:Below w.heap.size w (w.alloc (.cells #[.int .i64 0,.int .i64 0] 51)):=(Below.refl _ _).alloc (Nat.le_refl _) _
 have B0:=Blk.new w 51 #[.int .i64 0,.int .i64 0]
 obtain ⟨⟨h1,h2⟩,h3⟩:=G
 have hs:IntKind.i64.wrap (1000+i)=1000+i:=IntWalk.i64_in _ (by omega)
 replace h1:=h1.below hal h1.lt
 replace h2:=h2.below hal h2.lt
 replace h3:=h3.below hal h3.lt
 go_enter Tryz.func145,Tryz.ntmps145
 go_wp2_with fail
 generalize hW:w.alloc (.cells #[.int .i64 0,.int .i64 0] 51)=W at *
 refine wp_region_sink 7 (fun a0 fL bA v=>∃ v5 v6 v7 v8 v9 v10 v11:Value,bA=((((((a0.put (some 5) v5).put (some 6) v6).put (some 7) v7).put (some 8) v8).put (some 9) v9).put (some 10) v10).put (some 11) v11∧(Below W.heap.size W v)∧(fL 0=true→v5=.slice (some ⟨g,0,none⟩) 2 cap)∧(fL 1=true→v6=.pointer (some ⟨g,0,none⟩))∧(fL 2=true→v7=.int .i64 1000)∧(fL 3=true→v8=.int .i64 i)∧(fL 4=true→v9=.int .i64 (1000+i))∧(fL 5=true→v10=.int .i64 0)∧(fL 6=true→v11=.agg #[.int .i64 (1000+i),.int .i64 0])) (by kernel_rfl) (by decide +kernel) ?_ ?_ ?_
 ·exact ⟨undef,undef,undef,undef,undef,undef,undef,by simp only [Act.put,List.setIfInBounds_toArray,List.set_cons_zero,List.set_cons_succ],(Below.refl _ _).drew,nofun,nofun,nofun,nofun,nofun,nofun,nofun⟩
 ·rintro fL bA v ⟨v5,v6,v7,v8,v9,v10,v11,rfl,hS,q0,q1,q2,q3,q4,q5,q6⟩ i hi hf o ho hall
  simp only [Act.put,List.setIfInBounds_toArray,List.set_cons_zero,List.set_cons_succ]
  have hn:i=0 ∨ i=1 ∨ i=2 ∨ i=3 ∨ i=4 ∨ i=5 ∨ i=6:=by omega
  clear hi
  rcases hn with rfl | rfl | rfl | rfl | rfl | rfl | rfl
  ·obtain rfl:=Option.some.inj ho
   have y0:v.cell? ⟨b10,0,none⟩=some (.slice (some ⟨g,0,none⟩) 2 cap):=(h1.below hS h1.lt).cell 0
   clear hall ho
   refine wpOp_step rfl (fun K hK=>?_)
   go_simp
   exact hK _ _ ⟨_,_,_,_,_,_,_,rfl,hS,fun _=>rfl,q1,q2,q3,q4,q5,q6⟩
  ·obtain rfl:=Option.some.inj ho
   obtain rfl:=q0 (hall ⟨0,.data⟩ (by simp) rfl)
   clear hall ho
   refine wpOp_step rfl (fun K hK=>?_)
   go_simp
   exact hK _ _ ⟨_,_,_,_,_,_,_,rfl,hS,fun _=>rfl,fun _=>rfl,q2,q3,q4,q5,q6⟩
  ·obtain rfl:=Option.some.inj ho
   obtain rfl:=q1 (hall ⟨1,.data⟩ (by simp) rfl)
   have y0:v.cell? ⟨g,0,none⟩=some (.int .i64 1000):=(h2.below hS h2.lt).cell 0
   clear hall ho
   refine wpOp_step rfl (fun K hK=>?_)
   go_simp
   exact hK _ _ ⟨_,_,_,_,_,_,_,rfl,hS,q0,fun _=>rfl,fun _=>rfl,q3,q4,q5,q6⟩
  ·obtain rfl:=Option.some.inj ho
   clear hall ho
   refine wpOp_step rfl (fun K hK=>?_)
   go_simp
   exact hK _ _ ⟨_,_,_,_,_,_,_,rfl,hS,q0,q1,q2,fun _=>rfl,q4,q5,q6⟩
  ·obtain rfl:=Option.some.inj ho
   obtain rfl:=q2 (hall ⟨2,.data⟩ (by simp) rfl)
   obtain rfl:=q3 (hall ⟨3,.data⟩ (by simp) rfl)
   clear hall ho
   refine wpOp_step rfl (fun K hK=>?_)
   go_simp
   exact hK _ _ ⟨_,_,_,_,_,_,_,rfl,hS,q0,q1,fun _=>rfl,fun _=>rfl,fun _=>rfl,q5,q6⟩
  ·obtain rfl:=Option.some.inj ho
   have y0:v.cell? ⟨b8,0,none⟩=some (.int .i64 0):=(h3.below hS h3.lt).cell 0
   clear hall ho
   refine wpOp_step rfl (fun K hK=>?_)
   go_simp
   exact hK _ _ ⟨_,_,_,_,_,_,_,rfl,hS,q0,q1,q2,q3,q4,fun _=>rfl,q6⟩
  ·obtain rfl:=Option.some.inj ho
   obtain rfl:=q4 (hall ⟨4,.data⟩ (by simp) rfl)
   obtain rfl:=q5 (hall ⟨5,.data⟩ (by simp) rfl)
   clear hall ho
   refine wpOp_step rfl (fun K hK=>?_)
   go_simp
   exact hK _ _ ⟨_,_,_,_,_,_,_,rfl,hS,q0,q1,q2,q3,fun _=>rfl,fun _=>rfl,fun _=>rfl⟩
 ·rintro fL bA v ⟨v5,v6,v7,v8,v9,v10,v11,rfl,hS,q0,q1,q2,q3,q4,q5,q6⟩ hall
  simp only [Act.put,List.setIfInBounds_toArray,List.set_cons_zero,List.set_cons_succ]
  obtain rfl:=q0 (hall 0 (by omega))
  obtain rfl:=q1 (hall 1 (by omega))
  obtain rfl:=q2 (hall 2 (by omega))
  obtain rfl:=q3 (hall 3 (by omega))
  obtain rfl:=q4 (hall 4 (by omega))
  obtain rfl:=q5 (hall 5 (by omega))
  obtain rfl:=q6 (hall 6 (by omega))
  clear hall
  simp only [List.drop_succ_cons,List.drop_zero]
  have F:=B0.below hS B0.lt
  have x0:v.cell? ⟨w.heap.size,0,none⟩=some (.int .i64 0):=F.cell 0
  have x1:v.cell? ⟨w.heap.size,1,none⟩=some (.int .i64 0):=F.cell 1
  have xf0:=F.frozen 0
  have xf1:=F.frozen 1
  have hv:=hal.trans (hS.mono hal.size)
  go_wp2
  refine bodyPost_ret (v:=.agg #[.int .i64 (1000+i),.int .i64 0]) (by simp [results,Tryz.results145,go_sem,x0,x1]) rfl ⟨rfl,(by repeat first | with_reducible (first | exact hv | apply below_drewN' | apply Below.drew | refine Below.alloc ?_ ?_ _ | refine Below.setCell ?_ ?_ _) | exact hv | omega | (simp <;> omega) | (have:=(hv).size;first | omega | (simp <;> omega)))⟩
structure RdC (b2 b11 b10 b8 g cap:Nat) (v:World):Prop where
 s:Blk v b2 2 #[.int .i64 0]
 f:Blk v b11 181 #[.func (.func 145) #[] #[.pointer (some ⟨b10,0,none⟩),.pointer (some ⟨b8,0,none⟩)]]
 g:SegAt b10 b8 g cap v
theorem RdC.below {b2 b11 b10 b8 g cap:Nat} {v v':World} (h:RdC b2 b11 b10 b8 g cap v) (hb:Below v.heap.size v v'):RdC b2 b11 b10 b8 g cap v':=⟨h.s.below hb h.s.lt,h.f.below hb h.f.lt,h.g.below hb⟩
theorem rdTest_c (i:Nat) (c:Int) (b2 b11 b10 b8 g cap bn:Nat) (w:World) (hi:i < 9000) (C:RdC b2 b11 b10 b8 g cap w) (N:Blk w bn 2 #[.int .i64 c]) :
  Calls Tryz.prog 148 #[.int .i64 i,.pointer (some ⟨b2,0,none⟩),.pointer (some ⟨b11,0,none⟩),.pointer (some ⟨bn,0,none⟩)] w fun e w'=>e=.returned (.bool (rdP c i))∧Below w.heap.size w w':=by
 have HF:=fun v (hS:Below w.heap.size w v)=>Lib.hid (rdFig_c i b10 b8 g cap v (by omega) (C.below hS).g)
 have HP:=fun v=>Lib.hid (pointOf_c (1000+i) 0 v (by omega))
 have hbd:=pointC_bd (m:=1000+i) (by omega)
 unfold rdP
 generalize pointC (1000+(i:Int))=pt at *
 go_enter Tryz.func148,Tryz.ntmps148
 go_wp2_with fail
 refine wp_region_sink 5 (fun a0 fL bA v=>∃ v7 v8 v9 v10 v11:Value,bA=((((a0.put (some 7) v7).put (some 8) v8).put (some 9) v9).put (some 10) v10).put (some 11) v11∧(Below w.heap.size w v)∧(fL 0=true→v7=.int .i64 0)∧(fL 1=true→v8=.func (.func 145) #[] #[.pointer (some ⟨b10,0,none⟩),.pointer (some ⟨b8,0,none⟩)])∧(fL 2=true→v9=.int .i64 i)∧(fL 3=true→v10=.agg #[.int .i64 (1000+(i:Int)),.int .i64 0])∧(fL 4=true→v11=.int .i64 pt)) (by kernel_rfl) (by decide +kernel) ?_ ?_ ?_
 ·exact ⟨undef,undef,undef,undef,undef,by simp only [Act.put,List.setIfInBounds_toArray,List.set_cons_zero,List.set_cons_succ],(Below.refl _ _).drew,nofun,nofun,nofun,nofun,nofun⟩
 ·rintro fL bA v ⟨v7,v8,v9,v10,v11,rfl,hS,q0,q1,q2,q3,q4⟩ i hi hf o ho hall
  simp only [Act.put,List.setIfInBounds_toArray,List.set_cons_zero,List.set_cons_succ]
  have hn:i=0 ∨ i=1 ∨ i=2 ∨ i=3 ∨ i=4:=by omega
  clear hi
  rcases hn with rfl | rfl | rfl | rfl | rfl
  ·obtain rfl:=Option.some.inj ho
   have y0:v.cell? ⟨b2,0,none⟩=some (.int .i64 0):=(C.below hS).s.cell 0
   clear hall ho
   refine wpOp_step rfl (fun K hK=>?_)
   go_simp
   exact hK _ _ ⟨_,_,_,_,_,rfl,hS,fun _=>rfl,q1,q2,q3,q4⟩
  ·obtain rfl:=Option.some.inj ho
   have y0:v.cell? ⟨b11,0,none⟩=some (.func (.func 145) #[] #[.pointer (some ⟨b10,0,none⟩),.pointer (some ⟨b8,0,none⟩)]):=(C.below hS).f.cell 0
   clear hall ho
   refine wpOp_step rfl (fun K hK=>?_)
   go_simp
   exact hK _ _ ⟨_,_,_,_,_,rfl,hS,q0,fun _=>rfl,q2,q3,q4⟩
  ·obtain rfl:=Option.some.inj ho
   clear hall ho
   refine wpOp_step rfl (fun K hK=>?_)
   go_simp
   exact hK _ _ ⟨_,_,_,_,_,rfl,hS,q0,q1,fun _=>rfl,q3,q4⟩
  ·obtain rfl:=Option.some.inj ho
   obtain rfl:=q1 (hall ⟨1,.data⟩ (by simp) rfl)
   obtain rfl:=q2 (hall ⟨2,.data⟩ (by simp) rfl)
   clear hall ho
   refine wpOp_step rfl (fun K hK=>?_)
   go_simp
   refine Calls.mono ((HF v hS).out) ?_;rintro e w1 ⟨rfl,hb1⟩
   go_simp
   exact hK _ _ ⟨_,_,_,_,_,rfl,hS.trans (hb1.mono hS.size),q0,fun _=>rfl,fun _=>rfl,fun _=>rfl,q4⟩
  ·obtain rfl:=Option.some.inj ho
   obtain rfl:=q0 (hall ⟨0,.data⟩ (by simp) rfl)
   obtain rfl:=q3 (hall ⟨3,.data⟩ (by simp) rfl)
   clear hall ho
   refine wpOp_step rfl (fun K hK=>?_)
   go_simp
   refine Calls.mono ((HP v).out) ?_;rintro e w1 ⟨rfl,hb1⟩
   go_simp
   exact hK _ _ ⟨_,_,_,_,_,rfl,hS.trans (hb1.mono hS.size),fun _=>rfl,q1,q2,fun _=>rfl,fun _=>rfl⟩
 ·rintro fL bA v ⟨v7,v8,v9,v10,v11,rfl,hS,q0,q1,q2,q3,q4⟩ hall
  simp only [Act.put,List.setIfInBounds_toArray,List.set_cons_zero,List.set_cons_succ]
  obtain rfl:=q0 (hall 0 (by omega))
  obtain rfl:=q1 (hall 1 (by omega))
  obtain rfl:=q2 (hall 2 (by omega))
  obtain rfl:=q3 (hall 3 (by omega))
  obtain rfl:=q4 (hall 4 (by omega))
  clear hall
  simp only [List.drop_succ_cons,List.drop_zero]
  have y0:v.cell? ⟨b2,0,none⟩=some (.int .i64 0):=(C.below hS).s.cell 0
  have y1:v.cell? ⟨bn,0,none⟩=some (.int .i64 c):=(N.below hS N.lt).cell 0
  go_wp2
  go_ret
  exact ⟨rfl,hS⟩
theorem rdFirst_c (c:Int) (b12 b2 b11 b10 b8 g cap:Nat) (w:World) (C:RdC b2 b11 b10 b8 g cap w) (Z:Blk w b12 3 #[.int .i64 9000]) :
  Calls Tryz.prog 146 #[.int .i64 c,.pointer (some ⟨b12,0,none⟩),.pointer (some ⟨b2,0,none⟩),.pointer (some ⟨b11,0,none⟩)] w fun e w'=>e=.returned (.int .i64 (rdI c))∧Below w.heap.size w w':=by
 have hmf:∀ (fn:Fn) (first cap:Array Value) (w:World),(Instr.makeFunc fn first cap).run Tryz.prog w=.ok (.func fn first cap) w:=fun _ _ _ _=>rfl
 have hal:Below w.heap.size w (w.alloc (.cells #[.int .i64 c] 2)):=(Below.refl _ _).alloc (Nat.le_refl _) _
 have N:=Blk.new w 2 #[.int .i64 c]
 have z0:(w.alloc (.cells #[.int .i64 c] 2)).cell? ⟨b12,0,none⟩=some (.int .i64 9000):=(Z.below hal Z.lt).cell 0
 replace C:=C.below hal
 have HS:=Lib.hid (search_c 148 #[.pointer (some ⟨b2,0,none⟩),.pointer (some ⟨b11,0,none⟩),.pointer (some ⟨w.heap.size,0,none⟩)] 9000 (rdI c) (rdP c) (w.alloc (.cells #[.int .i64 c] 2)) (by omega) (enters_of Tryz.func148 (by kernel_rfl) rfl)
  (fun i W hi hW=>rdTest_c i c b2 b11 b10 b8 g cap w.heap.size W hi (C.below hW) (N.below hW N.lt)) (rdI_le c) (fun i h=>rdI_lo h) (fun i h h'=>rdI_hi h h'))
 generalize rdI c=r at *
 go_enter Tryz.func146,Tryz.ntmps146
 go_wp2_with fail
 refine HS.out.mono ?_;rintro e w1 ⟨rfl,hb1⟩
 go_wp2
 go_ret
 exact ⟨rfl,hal.trans (hb1.mono hal.size)⟩
structure RdS (b2 b3 b5 b6:Nat) (c bd ls:Int) (v:World):Prop where
 s:Blk v b2 2 #[.int .i64 0]
 n:Blk v b3 2 #[.int .i64 c]
 b:Blk v b5 51 #[.int .i64 bd,.int .i64 0]
 l:Blk v b6 2 #[.int .i64 ls]
theorem RdS.below {b2 b3 b5 b6:Nat} {c bd ls:Int} {v v':World} (h:RdS b2 b3 b5 b6 c bd ls v) (hb:Below v.heap.size v v'):RdS b2 b3 b5 b6 c bd ls v':=⟨h.s.below hb h.s.lt,h.n.below hb h.n.lt,h.b.below hb h.b.lt,h.l.below hb h.l.lt⟩
def TryP (b2 b3 b5 b6:Nat) (c bd ls:Int) (w:World) (e:Ending) (w':World):Prop:=e=.returned (.tuple #[])∧RdS b2 b3 b5 b6 c bd ls w'∧Kb (fun k=>k=b5 ∨ k=b6) w w'
theorem kb_set {bad:Nat→Prop} {w v:World} {g j:Nat} {u:Value} (h:Kb bad w v) (hg:bad g):Kb bad w (v.setCell ⟨g,j,none⟩ u) :=
 ⟨h.os,h.tape,h.output,by simpa using h.size,fun k hk hn=>(Below.heap_setCell v ⟨g,j,none⟩ u k (fun e=>hn (e ▸ hg))).trans (h.block k hk hn)⟩
theorem rdTry_c (d c bd ls:Int) (b2 b3 b5 b6:Nat) (w:World) (hd:1000 ≤ d∧d ≤ 9999) (hc:0 ≤ c∧c ≤ 1048576) (C:RdS b2 b3 b5 b6 c bd ls w) (hne:b2 ≠ b5∧b2 ≠ b6∧b3 ≠ b5∧b3 ≠ b6∧b5 ≠ b6) (bd' ls':Int)
  (hu:((ls < 0 ∨ max (pointC d - c) (c - pointC d) < ls ∨ (max (pointC d - c) (c - pointC d)=ls∧d < bd))∧bd'=d∧ls'=max (pointC d - c) (c - pointC d)) ∨ ((0 ≤ ls∧ls < max (pointC d - c) (c - pointC d))∧bd'=bd∧ls'=ls)) :
  Calls Tryz.prog 140 #[.agg #[.int .i64 d,.int .i64 0],.pointer (some ⟨b2,0,none⟩),.pointer (some ⟨b3,0,none⟩),.pointer (some ⟨b6,0,none⟩),.pointer (some ⟨b5,0,none⟩)] w
   (TryP b2 b3 b5 b6 c bd' ls' w):=by
 have HP:=fun v=>Lib.hid (pointOf_c d 0 v hd)
 have hbd:=pointC_bd hd
 have HC:=fun v=>Lib.hid (compareFigures_c ⟨d,0⟩ ⟨bd,0⟩ v)
 have hcm:d < bd→cmpF ⟨d,0⟩ ⟨bd,0⟩ < 0:=fun h=>by
  unfold cmpF or2 cmpZ
  simp [h]
 generalize cmpF ⟨d,0⟩ ⟨bd,0⟩=cm at *
 unfold Figure.agg at HC
 simp only at HC
 generalize pointC d=pt at *
 have HD:=fun v=>Lib.hid (distance_c pt c v (by omega) (by omega))
 have hd0:0 ≤ max (pt - c) (c - pt):=by omega
 generalize hdi:max (pt - c) (c - pt)=di at *
 have hal:Below w.heap.size w (w.alloc (.cells #[.int .i64 d,.int .i64 0] 51)):=(Below.refl _ _).alloc (Nat.le_refl _) _
 have F:=Blk.new w 51 #[.int .i64 d,.int .i64 0]
 have hx:w.heap.size ≠ b5∧w.heap.size ≠ b6:=by
  have hz5:=C.b.lt
  have hz6:=C.l.lt
  omega
 replace C:=C.below hal
 unfold TryP
 go_enter Tryz.func140,Tryz.ntmps140
 go_wp2_with fail
 generalize w.alloc (.cells #[.int .i64 d,.int .i64 0] 51)=W at *
 refine wp_region_sink 5 (fun a0 fL bA v=>∃ v7 v8 v9 v10 v11:Value,bA=((((a0.put (some 7) v7).put (some 8) v8).put (some 9) v9).put (some 10) v10).put (some 11) v11∧(Below W.heap.size W v)∧(fL 0=true→v7=.int .i64 0)∧(fL 1=true→v8=.agg #[.int .i64 d,.int .i64 0])∧(fL 2=true→v9=.int .i64 pt)∧(fL 3=true→v10=.int .i64 c)∧(fL 4=true→v11=.int .i64 di)) (by kernel_rfl) (by decide +kernel) ?_ ?_ ?_
 ·exact ⟨undef,undef,undef,undef,undef,by simp only [Act.put,List.setIfInBounds_toArray,List.set_cons_zero,List.set_cons_succ],(Below.refl _ _).drew,nofun,nofun,nofun,nofun,nofun⟩
 ·rintro fL bA v ⟨v7,v8,v9,v10,v11,rfl,hS,q0,q1,q2,q3,q4⟩ i hi hf o ho hall
  simp only [Act.put,List.setIfInBounds_toArray,List.set_cons_zero,List.set_cons_succ]
  have hn:i=0 ∨ i=1 ∨ i=2 ∨ i=3 ∨ i=4:=by omega
  clear hi
  rcases hn with rfl | rfl | rfl | rfl | rfl
  ·obtain rfl:=Option.some.inj ho
   have y0:v.cell? ⟨b2,0,none⟩=some (.int .i64 0):=(C.below hS).s.cell 0
   clear hall ho
   refine wpOp_step rfl (fun K hK=>?_)
   go_simp
   exact hK _ _ ⟨_,_,_,_,_,rfl,hS,fun _=>rfl,q1,q2,q3,q4⟩
  ·obtain rfl:=Option.some.inj ho
   have y0:v.cell? ⟨w.heap.size,0,none⟩=some (.int .i64 d):=(F.below hS F.lt).cell 0
   have y1:v.cell? ⟨w.heap.size,1,none⟩=some (.int .i64 0):=(F.below hS F.lt).cell 1
   clear hall ho
   refine wpOp_step rfl (fun K hK=>?_)
   go_simp
   exact hK _ _ ⟨_,_,_,_,_,rfl,hS,q0,fun _=>rfl,q2,q3,q4⟩
  ·obtain rfl:=Option.some.inj ho
   obtain rfl:=q0 (hall ⟨0,.data⟩ (by simp) rfl)
   obtain rfl:=q1 (hall ⟨1,.data⟩ (by simp) rfl)
   clear hall ho
   refine wpOp_step rfl (fun K hK=>?_)
   go_simp
   refine Calls.mono ((HP v).out) ?_;rintro e w1 ⟨rfl,hb1⟩
   go_simp
   exact hK _ _ ⟨_,_,_,_,_,rfl,hS.trans (hb1.mono hS.size),fun _=>rfl,fun _=>rfl,fun _=>rfl,q3,q4⟩
  ·obtain rfl:=Option.some.inj ho
   have y0:v.cell? ⟨b3,0,none⟩=some (.int .i64 c):=(C.below hS).n.cell 0
   clear hall ho
   refine wpOp_step rfl (fun K hK=>?_)
   go_simp
   exact hK _ _ ⟨_,_,_,_,_,rfl,hS,q0,q1,q2,fun _=>rfl,q4⟩
  ·obtain rfl:=Option.some.inj ho
   obtain rfl:=q2 (hall ⟨2,.data⟩ (by simp) rfl)
   obtain rfl:=q3 (hall ⟨3,.data⟩ (by simp) rfl)
   clear hall ho
   refine wpOp_step rfl (fun K hK=>?_)
   go_simp
   refine Calls.mono (HD v).out ?_;rintro e w1 ⟨rfl,rfl⟩
   go_simp
   exact hK _ _ ⟨_,_,_,_,_,rfl,hS,q0,q1,fun _=>rfl,fun _=>rfl,fun _=>rfl⟩
 ·rintro fL bA v ⟨v7,v8,v9,v10,v11,rfl,hS,q0,q1,q2,q3,q4⟩ hall
  simp only [Act.put,List.setIfInBounds_toArray,List.set_cons_zero,List.set_cons_succ]
  obtain rfl:=q0 (hall 0 (by omega))
  obtain rfl:=q1 (hall 1 (by omega))
  obtain rfl:=q2 (hall 2 (by omega))
  obtain rfl:=q3 (hall 3 (by omega))
  obtain rfl:=q4 (hall 4 (by omega))
  clear hall
  simp only [List.drop_succ_cons,List.drop_zero]
  have C:=C.below hS
  have F:=F.below hS F.lt
  have hS:=hal.trans (hS.mono hal.size)
  have y0:v.cell? ⟨b6,0,none⟩=some (.int .i64 ls):=C.l.cell 0
  have y1:v.cell? ⟨w.heap.size,0,none⟩=some (.int .i64 d):=F.cell 0
  have y2:v.cell? ⟨w.heap.size,1,none⟩=some (.int .i64 0):=F.cell 1
  have y3:v.cell? ⟨b5,0,none⟩=some (.int .i64 bd):=C.b.cell 0
  have y4:v.cell? ⟨b5,1,none⟩=some (.int .i64 0):=C.b.cell 1
  have y5:=C.b.frozen 0
  have y6:=C.b.frozen 1
  have y7:=C.l.frozen 0
  have hfin:∀ (bd'':Int) (v':World),RdS b2 b3 b5 b6 c bd'' ls v'→Below w.heap.size w v'→RdS b2 b3 b5 b6 c d di (((v'.setCell ⟨b5,0,none⟩ (.int .i64 d)).setCell ⟨b5,1,none⟩ (.int .i64 0)).setCell ⟨b6,0,none⟩ (.int .i64 di))∧Kb (fun k=>k=b5 ∨ k=b6) w (((v'.setCell ⟨b5,0,none⟩ (.int .i64 d)).setCell ⟨b5,1,none⟩ (.int .i64 0)).setCell ⟨b6,0,none⟩ (.int .i64 di)):=fun _ v' C hS =>
   ⟨⟨((C.s.far hne.1 _).far hne.1 _).far hne.2.1 _,((C.n.far hne.2.2.1 _).far hne.2.2.1 _).far hne.2.2.2.1 _,((C.b.set_ 0 _).set_ 1 _).far hne.2.2.2.2 _,((C.l.far (Ne.symm hne.2.2.2.2) _).far (Ne.symm hne.2.2.2.2) _).set_ 0 _⟩,
    kb_set (kb_set (kb_set (Kb.of_below hS) (.inl rfl)) (.inl rfl)) (.inr rfl)⟩
  have hno:RdS b2 b3 b5 b6 c bd ls v∧Kb (fun k=>k=b5 ∨ k=b6) w v:=⟨C,Kb.of_below hS⟩
  have hne':b5 ≠ b6:=hne.2.2.2.2
  have hne2:b6 ≠ b5:=Ne.symm hne'
  have hfin:=Lib.hid hfin
  have hno:=Lib.hid hno
  rcases hu with ⟨h,rfl,rfl⟩ | ⟨⟨a0,a2⟩,rfl,rfl⟩
  ·by_cases a1:ls < 0
   ·clear h hcm
    go_wp2_with fail
    refine bodyPost_end (v:=.tuple #[]) (by simp [results,Tryz.results140,go_sem]) rfl ⟨rfl,hfin.out _ v C hS⟩
   ·by_cases a2:ls' < ls
    ·clear h hcm
     go_wp2_with fail
     refine bodyPost_end (v:=.tuple #[]) (by simp [results,Tryz.results140,go_sem]) rfl ⟨rfl,hfin.out _ v C hS⟩
    ·have h2:ls'=ls∧bd' < bd:=by omega
     obtain ⟨rfl,h2⟩:=h2
     have a4:=hcm h2
     clear h hcm
     go_wp2_with fail
     refine (HC _).out.mono ?_;rintro e w9 ⟨rfl,hb9⟩
     have F:=F.below hb9 F.lt
     have C:=C.below hb9
     have hS:=hS.trans (hb9.mono hS.size)
     have y1:w9.cell? ⟨w.heap.size,0,none⟩=some (.int .i64 bd'):=F.cell 0
     have y2:w9.cell? ⟨w.heap.size,1,none⟩=some (.int .i64 0):=F.cell 1
     have y5:=C.b.frozen 0
     have y6:=C.b.frozen 1
     have y7:=C.l.frozen 0
     have y3:w9.cell? ⟨b5,0,none⟩=some (.int .i64 bd):=C.b.cell 0
     have y4:w9.cell? ⟨b5,1,none⟩=some (.int .i64 0):=C.b.cell 1
     have y0:w9.cell? ⟨b6,0,none⟩=some (.int .i64 ls'):=C.l.cell 0
     clear hb9
     go_wp2_with fail
     refine bodyPost_end (v:=.tuple #[]) (by simp [results,Tryz.results140,go_sem]) rfl ⟨rfl,hfin.out _ w9 C hS⟩
  ·have a5:¬ ls' < 0:=by omega
   have a6:¬ di < ls':=by omega
   have a7:(di == ls')=false:=by simp;omega
   clear hcm
   go_wp2_with fail
   refine bodyPost_end (v:=.tuple #[]) (by simp [results,Tryz.results140,go_sem]) rfl ⟨rfl,hno.out⟩
theorem segments_c (w:World):Calls Tryz.prog 144 #[.int .i64 0] w fun e w'=>∃ g2 g1 c2 c1,e=.returned (.slice (some ⟨g2,0,none⟩) 1 c2)∧Blk w' g2 24 #[.slice (some ⟨g1,0,none⟩) 2 c1]∧Blk w' g1 2 #[.int .i64 1000,.int .i64 9999]∧w.heap.size ≤ g2∧w.heap.size ≤ g1∧Below w.heap.size w w':=by
 have h0:=(Blk.new w 2 #[.int .i64 1000,.int .i64 9999]).alloc (.cells #[.slice (some ⟨w.heap.size,0,none⟩) 2 2] 24)
 have h1:=Blk.new' (w.alloc (.cells #[.int .i64 1000,.int .i64 9999] 2)) 24 #[.slice (some ⟨w.heap.size,0,none⟩) 2 2] (g:=w.heap.size+1) (by simp)
 have hh:=Lib.hid (And.intro h1 h0)
 clear h0 h1
 go_enter Tryz.func144,Tryz.ntmps144
 go_wp2_with fail
 go_ret
 exact ⟨_,_,_,_,rfl,hh.out.1,hh.out.2,by omega,by omega,(by repeat first | with_reducible (first | exact Below.refl _ _ | apply below_drewN' | apply Below.drew | refine Below.alloc ?_ ?_ _ | refine Below.setCell ?_ ?_ _) | exact Below.refl _ _ | omega | (simp <;> omega) | (have:=(Below.refl _ _).size;first | omega | (simp <;> omega)))⟩
theorem RdC.kb {b2 b3 b5 b6 b11 b10 b8 g cap:Nat} {v v':World} (h:RdC b2 b11 b10 b8 g cap v) (hk:Kb (fun k=>k=b5 ∨ k=b6) v v') (hne:b2 ≠ b5∧b2 ≠ b6∧b3 ≠ b5∧b3 ≠ b6∧b5 ≠ b6) (h5:b5 < b6) (hl:b6 < b11∧b6 < b10∧b6 < b8∧b6 < g):RdC b2 b11 b10 b8 g cap v' :=
 ⟨h.s.kb hk (by omega),h.f.kb hk (by omega),⟨⟨h.g.q.1.kb hk (by omega),h.g.q.2.kb hk (by omega)⟩,h.g.t.kb hk (by omega)⟩⟩
structure RdA (w:World) (b2 b4 b6 b8 g2 g1 c2 c1:Nat) (v:World):Prop where
 hB:Below b2 w v
 R:Blk v b4 51 #[.int .i64 0,.int .i64 0]
 T8:Blk v b8 2 #[.int .i64 0]
 G2:Blk v g2 24 #[.slice (some ⟨g1,0,none⟩) 2 c1]
 G1:Blk v g1 2 #[.int .i64 1000,.int .i64 9999]
 l8:b6 < b8
 l2:b6 < g2
 l1:b6 < g1
 lb:b2 ≤ b6
theorem RdA.below {w v v':World} {b2 b4 b6 b8 g2 g1 c2 c1:Nat} (h:RdA w b2 b4 b6 b8 g2 g1 c2 c1 v) (hb:Below v.heap.size v v'):RdA w b2 b4 b6 b8 g2 g1 c2 c1 v' :=
 ⟨h.hB.trans (hb.mono (by have:=h.T8.lt;have:=h.l8;have:=h.lb;omega)),h.R.below hb h.R.lt,h.T8.below hb h.T8.lt,h.G2.below hb h.G2.lt,h.G1.below hb h.G1.lt,h.l8,h.l2,h.l1,h.lb⟩
theorem RdA.kb {w v v':World} {b2 b4 b5 b6 b8 g2 g1 c2 c1:Nat} (h:RdA w b2 b4 b6 b8 g2 g1 c2 c1 v) (hk:Kb (fun k=>k=b5 ∨ k=b6) v v') (h4:¬ (b4=b5 ∨ b4=b6)) (h5:b5 < b6) (hg:∀ k,k < b2→¬ (k=b5 ∨ k=b6)):RdA w b2 b4 b6 b8 g2 g1 c2 c1 v' :=
 ⟨below_kb h.hB hk (by have:=h.T8.lt;have:=h.l8;have:=h.lb;omega) hg,h.R.kb hk h4,h.T8.kb hk (by have:=h.l8;omega),h.G2.kb hk (by have:=h.l2;omega),h.G1.kb hk (by have:=h.l1;omega),h.l8,h.l2,h.l1,h.lb⟩
theorem readAt_c (c:Int) (w:World) (hc:0 ≤ c∧c ≤ 1048576):Calls Tryz.prog 84 #[.int .i64 0,.int .i64 c] w fun e w'=>e=.returned (.agg #[.int .i64 (rdD c),.int .i64 0])∧Below w.heap.size w w':=by
 have hmf:∀ (fn:Fn) (first cap:Array Value) (w:World),(Instr.makeFunc fn first cap).run Tryz.prog w=.ok (.func fn first cap) w:=fun _ _ _ _=>rfl
 have hrd:=Lib.hid (show rdD c=if rdI c=0 then 1000 else if rdI c=9000 then 9999 else if c - pointC (999+(rdI c:Int)) ≤ pointC (1000+(rdI c:Int)) - c then 999+(rdI c:Int) else 1000+(rdI c:Int) from rfl)
 generalize rdD c=rd at *
 have HDec:=fun W=>Lib.hid (decadesC_c W)
 have HSeg:=fun W=>Lib.hid (segments_c W)
 have hs2:=Blk.new w 2 #[.int .i64 0]
 have hs3:=Blk.new' (w.alloc (.cells #[.int .i64 0] 2)) 2 #[.int .i64 c] (g:=w.heap.size+1) (by simp)
 have hs4:=Blk.new' ((w.alloc (.cells #[.int .i64 0] 2)).alloc (.cells #[.int .i64 c] 2)) 51 #[.int .i64 0,.int .i64 0] (g:=w.heap.size+1+1) (by simp)
 have hs5:=Blk.new' (((w.alloc (.cells #[.int .i64 0] 2)).alloc (.cells #[.int .i64 c] 2)).alloc (.cells #[.int .i64 0,.int .i64 0] 51)) 51 #[.int .i64 0,.int .i64 0] (g:=w.heap.size+1+1+1) (by simp)
 have hs6:=Blk.new' ((((w.alloc (.cells #[.int .i64 0] 2)).alloc (.cells #[.int .i64 c] 2)).alloc (.cells #[.int .i64 0,.int .i64 0] 51)).alloc (.cells #[.int .i64 0,.int .i64 0] 51)) 2 #[.int .i64 (-1)] (g:=w.heap.size+1+1+1+1) (by simp)
 have D:=RdS.mk ((((hs2.alloc _).alloc _).alloc _).alloc _) (((hs3.alloc _).alloc _).alloc _) (hs5.alloc _) hs6
 have R:=((hs4.alloc _).alloc _:Blk (((((w.alloc (.cells #[.int .i64 0] 2)).alloc (.cells #[.int .i64 c] 2)).alloc (.cells #[.int .i64 0,.int .i64 0] 51)).alloc (.cells #[.int .i64 0,.int .i64 0] 51)).alloc (.cells #[.int .i64 (-1)] 2)) _ _ _)
 have hB:Below w.heap.size w (((((w.alloc (.cells #[.int .i64 0] 2)).alloc (.cells #[.int .i64 c] 2)).alloc (.cells #[.int .i64 0,.int .i64 0] 51)).alloc (.cells #[.int .i64 0,.int .i64 0] 51)).alloc (.cells #[.int .i64 (-1)] 2)):=(by repeat first | with_reducible (first | exact Below.refl _ _ | apply below_drewN' | apply Below.drew | refine Below.alloc ?_ ?_ _ | refine Below.setCell ?_ ?_ _) | exact Below.refl _ _ | omega | (simp <;> omega) | (have:=(Below.refl _ _).size;first | omega | (simp <;> omega)))
 clear hs2 hs3 hs4 hs5 hs6
 go_enter Tryz.func84,Tryz.ntmps84
 go_wp2_with fail
 generalize (((((w.alloc (.cells #[.int .i64 0] 2)).alloc (.cells #[.int .i64 c] 2)).alloc (.cells #[.int .i64 0,.int .i64 0] 51)).alloc (.cells #[.int .i64 0,.int .i64 0] 51)).alloc (.cells #[.int .i64 (-1)] 2))=w0 at *
 generalize hb6:w.heap.size+1+1+1+1=b6 at *
 generalize hb5:w.heap.size+1+1+1=b5 at *
 generalize hb4:w.heap.size+1+1=b4 at *
 generalize hb3:w.heap.size+1=b3 at *
 generalize hb2:w.heap.size=b2 at *
 have hne:b2 ≠ b5∧b2 ≠ b6∧b3 ≠ b5∧b3 ≠ b6∧b5 ≠ b6:=by omega
 have hn4:¬ (b4=b5 ∨ b4=b6):=by omega
 have hge:∀ k,k < b2→¬ (k=b5 ∨ k=b6):=fun k hk=>by omega
 have hlt6:b6 < w0.heap.size:=D.l.lt
 have hlt5:b5 < b6:=by omega
 have hlb:b2 ≤ b6:=by omega
 have hl4:w.heap.size ≤ b4:=by omega
 clear hb6 hb5 hb4 hb3
 refine Calls.mono (HDec _).out ?_;rintro e w1 ⟨rfl,hb⟩
 replace D:=D.below hb
 replace R:=R.below hb R.lt
 have hlt6:b6 < w1.heap.size:=D.l.lt
 replace hB:=hB.trans (hb.mono (by have:=hB.size;omega))
 clear hb HDec
 go_wp2_with fail
 go_loopw [19] (fun i wr=>∃ k:Nat,i=.int .i64 k∧Below b2 w wr∧Blk wr b4 51 #[.int .i64 0,.int .i64 0]∧(k=0∧RdS b2 b3 b5 b6 c 0 (-1) wr ∨ k=1∧∃ ls,RdS b2 b3 b5 b6 c rd ls wr)) (fun i _=>1 - (intOf i).toNat)
 case atStart=>exact ⟨0,rfl,hB,R,.inl ⟨rfl,D⟩⟩
 case round =>
  clear hB R D hlt6
  obtain ⟨k,rfl,hB,R,hk⟩:=hrel
  rcases hk with ⟨rfl,D⟩ | ⟨rfl,ls,D⟩
  ·have hlt6:b6 < wr.heap.size:=D.l.lt
   have hal:Below wr.heap.size wr (wr.alloc (.cells #[.int .i64 0] 2)):=(Below.refl _ _).alloc (Nat.le_refl _) _
   have T8:=Blk.new wr 2 #[.int .i64 0]
   replace D:=D.below hal
   replace R:=R.below hal R.lt
   replace hB:=hB.trans (hal.mono (by omega))
   have hs8:(wr.alloc (.cells #[.int .i64 0] 2)).cell? ⟨b2,0,none⟩=some (.int .i64 0):=D.s.cell 0
   clear hal
   go_wp2_with fail
   generalize wr.alloc (.cells #[.int .i64 0] 2)=w2 at *
   generalize wr.heap.size=b8 at *
   have h8w:=T8.lt
   refine Calls.mono (HSeg _).out ?_;rintro e w3 ⟨g2,g1,c2,c1,rfl,G2,G1,hg2,hg1,hb⟩
   have M:RdA w b2 b4 b6 b8 g2 g1 c2 c1 w3:=⟨hB.trans (hb.mono (by omega)),R.below hb R.lt,T8.below hb T8.lt,G2,G1,by omega,by omega,by omega,by omega⟩
   replace D:=D.below hb
   clear hB R T8 G2 G1 hb HSeg hs8 h8w hg2 hg1
   go_wp2_with fail
   go_loopw [25] (fun i wr=>∃ k:Nat,i=.int .i64 k∧RdA w b2 b4 b6 b8 g2 g1 c2 c1 wr∧(k=0∧RdS b2 b3 b5 b6 c 0 (-1) wr ∨ k=1∧∃ ls,RdS b2 b3 b5 b6 c (rd) ls wr)) (fun i _=>1 - (intOf i).toNat)
   case atStart=>exact ⟨0,rfl,M,.inl ⟨rfl,D⟩⟩
   case round =>
    clear M D
    obtain ⟨k,rfl,M,hk⟩:=hrel
    rcases hk with ⟨rfl,D⟩ | ⟨rfl,ls,D⟩
    ·have y0:wr.cell? ⟨g2,0,none⟩=some (.slice (some ⟨g1,0,none⟩) 2 c1):=M.G2.cell 0
     have h6w:b6 < wr.heap.size:=D.l.lt
     have h8w:=M.T8.lt
     have hal:Below wr.heap.size wr ((wr.alloc (.cells #[.slice (some ⟨g1,0,none⟩) 2 c1] 24)).alloc (.cells #[.func (.func 145) #[] #[.pointer (some ⟨wr.heap.size,0,none⟩),.pointer (some ⟨b8,0,none⟩)]] 181)):=(by repeat first | with_reducible (first | exact Below.refl _ _ | apply below_drewN' | apply Below.drew | refine Below.alloc ?_ ?_ _ | refine Below.setCell ?_ ?_ _) | exact Below.refl _ _ | omega | (simp <;> omega) | (have:=(Below.refl _ _).size;first | omega | (simp <;> omega)))
     have T10:=(Blk.new wr 24 #[.slice (some ⟨g1,0,none⟩) 2 c1]).alloc (.cells #[.func (.func 145) #[] #[.pointer (some ⟨wr.heap.size,0,none⟩),.pointer (some ⟨b8,0,none⟩)]] 181)
     have T11:=Blk.new' (wr.alloc (.cells #[.slice (some ⟨g1,0,none⟩) 2 c1] 24)) 181 #[.func (.func 145) #[] #[.pointer (some ⟨wr.heap.size,0,none⟩),.pointer (some ⟨b8,0,none⟩)]] (g:=wr.heap.size+1) (by simp)
     replace D:=D.below hal
     replace M:=M.below hal
     clear hal
     go_wp2_with fail
     generalize (wr.alloc (.cells #[.slice (some ⟨g1,0,none⟩) 2 c1] 24)).alloc (.cells #[.func (.func 145) #[] #[.pointer (some ⟨wr.heap.size,0,none⟩),.pointer (some ⟨b8,0,none⟩)]] 181)=W1 at *
     generalize hb11:wr.heap.size+1=b11 at *
     generalize hb10:wr.heap.size=b10 at *
     have C:RdC b2 b11 b10 b8 g1 c1 W1:=⟨D.s,T11,⟨⟨T10,M.G1⟩,M.T8⟩⟩
     clear T10 T11
     refine wp_region_sink 9 (fun a0 fL bA v=>∃ v30 v31 v32 v33 v34 v35 v36 v37 v12:Value,bA=((((((((a0.put (some 30) v30).put (some 31) v31).put (some 32) v32).put (some 33) v33).put (some 34) v34).put (some 35) v35).put (some 36) v36).put (some 37) v37).put (some 12) v12∧((Below W1.heap.size W1 v)∧(fL 8=true→∃ g:Nat,v12=.pointer (some ⟨g,0,none⟩)∧W1.heap.size ≤ g∧Blk v g 3 #[.int .i64 0]))∧(fL 0=true→v30=.slice (some ⟨g1,0,none⟩) 2 c1)∧(fL 1=true→v31=.pointer (some ⟨g1,1,none⟩))∧(fL 2=true→v32=.int .i64 9999)∧(fL 3=true→v33=.slice (some ⟨g1,0,none⟩) 2 c1)∧(fL 4=true→v34=.pointer (some ⟨g1,0,none⟩))∧(fL 5=true→v35=.int .i64 1000)∧(fL 6=true→v36=.int .i64 8999)∧(fL 7=true→v37=.int .i64 9000)∧(fL 8=true→True)) (by kernel_rfl) (by decide +kernel) ?_ ?_ ?_
     ·exact ⟨_,_,_,_,_,_,_,_,_,put_more (put_more (put_more (put_more (put_more (put_more (put_more (put_more (put_more (rfl) 30) 31) 32) 33) 34) 35) 36) 37) 12,⟨(Below.refl _ _).drew,nofun⟩,nofun,nofun,nofun,nofun,nofun,nofun,nofun,nofun,nofun⟩
     ·rintro fL bA v ⟨v30,v31,v32,v33,v34,v35,v36,v37,v12,rfl,hS,q0,q1,q2,q3,q4,q5,q6,q7,q8⟩ i hi hf o ho hall
      simp only [Act.put,List.setIfInBounds_toArray,List.set_cons_zero,List.set_cons_succ]
      have hn:i=0 ∨ i=1 ∨ i=2 ∨ i=3 ∨ i=4 ∨ i=5 ∨ i=6 ∨ i=7 ∨ i=8:=by omega
      clear hi
      rcases hn with rfl | rfl | rfl | rfl | rfl | rfl | rfl | rfl | rfl
      ·obtain rfl:=Option.some.inj ho
       have y0:v.cell? ⟨b10,0,none⟩=some (.slice (some ⟨g1,0,none⟩) 2 c1):=(C.below hS.1).g.q.1.cell 0
       clear hall ho
       refine wpOp_step rfl (fun K hK=>?_)
       go_simp
       exact hK _ _ ⟨_,_,_,_,_,_,_,_,_,rfl,hS,fun _=>rfl,q1,q2,q3,q4,q5,q6,q7,fun _=>trivial⟩
      ·obtain rfl:=Option.some.inj ho
       obtain rfl:=q0 (hall ⟨0,.data⟩ (by simp) rfl)
       clear hall ho
       refine wpOp_step rfl (fun K hK=>?_)
       go_simp
       exact hK _ _ ⟨_,_,_,_,_,_,_,_,_,rfl,hS,fun _=>rfl,fun _=>rfl,q2,q3,q4,q5,q6,q7,fun _=>trivial⟩
      ·obtain rfl:=Option.some.inj ho
       obtain rfl:=q1 (hall ⟨1,.data⟩ (by simp) rfl)
       have y0:v.cell? ⟨g1,1,none⟩=some (.int .i64 9999):=(C.below hS.1).g.q.2.cell 1
       clear hall ho
       refine wpOp_step rfl (fun K hK=>?_)
       go_simp
       exact hK _ _ ⟨_,_,_,_,_,_,_,_,_,rfl,hS,q0,fun _=>rfl,fun _=>rfl,q3,q4,q5,q6,q7,fun _=>trivial⟩
      ·obtain rfl:=Option.some.inj ho
       have y0:v.cell? ⟨b10,0,none⟩=some (.slice (some ⟨g1,0,none⟩) 2 c1):=(C.below hS.1).g.q.1.cell 0
       clear hall ho
       refine wpOp_step rfl (fun K hK=>?_)
       go_simp
       exact hK _ _ ⟨_,_,_,_,_,_,_,_,_,rfl,hS,q0,q1,q2,fun _=>rfl,q4,q5,q6,q7,fun _=>trivial⟩
      ·obtain rfl:=Option.some.inj ho
       obtain rfl:=q3 (hall ⟨3,.data⟩ (by simp) rfl)
       clear hall ho
       refine wpOp_step rfl (fun K hK=>?_)
       go_simp
       exact hK _ _ ⟨_,_,_,_,_,_,_,_,_,rfl,hS,q0,q1,q2,fun _=>rfl,fun _=>rfl,q5,q6,q7,fun _=>trivial⟩
      ·obtain rfl:=Option.some.inj ho
       obtain rfl:=q4 (hall ⟨4,.data⟩ (by simp) rfl)
       have y0:v.cell? ⟨g1,0,none⟩=some (.int .i64 1000):=(C.below hS.1).g.q.2.cell 0
       clear hall ho
       refine wpOp_step rfl (fun K hK=>?_)
       go_simp
       exact hK _ _ ⟨_,_,_,_,_,_,_,_,_,rfl,hS,q0,q1,q2,q3,fun _=>rfl,fun _=>rfl,q6,q7,fun _=>trivial⟩
      ·obtain rfl:=Option.some.inj ho
       obtain rfl:=q2 (hall ⟨2,.data⟩ (by simp) rfl)
       obtain rfl:=q5 (hall ⟨5,.data⟩ (by simp) rfl)
       clear hall ho
       refine wpOp_step rfl (fun K hK=>?_)
       go_simp
       exact hK _ _ ⟨_,_,_,_,_,_,_,_,_,rfl,hS,q0,q1,fun _=>rfl,q3,q4,fun _=>rfl,fun _=>rfl,q7,fun _=>trivial⟩
      ·obtain rfl:=Option.some.inj ho
       obtain rfl:=q6 (hall ⟨6,.data⟩ (by simp) rfl)
       clear hall ho
       refine wpOp_step rfl (fun K hK=>?_)
       go_simp
       exact hK _ _ ⟨_,_,_,_,_,_,_,_,_,rfl,hS,q0,q1,q2,q3,q4,q5,fun _=>rfl,fun _=>rfl,fun _=>trivial⟩
      ·obtain rfl:=Option.some.inj ho
       clear hall ho
       refine wpOp_step rfl (fun K hK=>?_)
       go_simp
       exact hK _ _ ⟨_,_,_,_,_,_,_,_,_,rfl,⟨hS.1.alloc hS.1.size _,fun _=>⟨v.heap.size,rfl,hS.1.size,Blk.new _ _ _⟩⟩,q0,q1,q2,q3,q4,q5,q6,q7,fun _=>trivial⟩
     ·rintro fL bA v ⟨v30,v31,v32,v33,v34,v35,v36,v37,v12,rfl,hS,q0,q1,q2,q3,q4,q5,q6,q7,q8⟩ hall
      simp only [Act.put,List.setIfInBounds_toArray,List.set_cons_zero,List.set_cons_succ]
      obtain rfl:=q0 (hall 0 (by omega))
      obtain rfl:=q1 (hall 1 (by omega))
      obtain rfl:=q2 (hall 2 (by omega))
      obtain rfl:=q3 (hall 3 (by omega))
      obtain rfl:=q4 (hall 4 (by omega))
      obtain rfl:=q5 (hall 5 (by omega))
      obtain rfl:=q6 (hall 6 (by omega))
      obtain rfl:=q7 (hall 7 (by omega))
      have e8:fL 8=true:=hall 8 (by omega)
      clear hall
      simp only [List.drop_succ_cons,List.drop_zero]
      obtain ⟨b12,rfl,h612,Z⟩:=hS.2 e8
      have hv:Below W1.heap.size W1 (v.setCell ⟨b12,0,none⟩ (.int .i64 9000)):=Below.setCell hS.1 h612 _
      have h6W:=D.l.lt
      have zx:v.cell? ⟨b12,0,none⟩=some (.int .i64 0):=Z.cell 0
      have zf:=Z.frozen 0
      replace Z:Blk (v.setCell ⟨b12,0,none⟩ (.int .i64 9000)) b12 3 #[.int .i64 9000]:=Z.set_ 0 _
      replace C:=C.below hv
      replace D:=D.below hv
      replace M:=M.below hv
      clear hS hv
      have z3:(v.setCell ⟨b12,0,none⟩ (.int .i64 9000)).cell? ⟨b3,0,none⟩=some (.int .i64 c):=D.n.cell 0
      go_wp2_with fail
      generalize v.setCell ⟨b12,0,none⟩ (.int .i64 9000)=W2 at *
      refine Calls.mono (rdFirst_c c b12 b2 b11 b10 b8 g1 c1 W2 C Z) ?_;rintro e w3 ⟨rfl,hb⟩
      replace C:=C.below hb
      replace D:=D.below hb
      replace M:=M.below hb
      replace Z:=Z.below hb Z.lt
      clear hb z3 zx zf
      have hrle:=rdI_le c
      have z12:w3.cell? ⟨b12,0,none⟩=some (.int .i64 9000):=Z.cell 0
      have z11:w3.cell? ⟨b11,0,none⟩=some (.func (.func 145) #[] #[.pointer (some ⟨b10,0,none⟩),.pointer (some ⟨b8,0,none⟩)]):=C.f.cell 0
      have h10:b6 < b10∧b6 < b11∧b6 < b12:=by omega
      have hdd:rd=if rdI c=0 then 1000 else if rdI c=9000 then 9999 else if c - pointC (999+(rdI c:Int)) ≤ pointC (1000+(rdI c:Int)) - c then 999+(rdI c:Int) else 1000+(rdI c:Int):=hrd.out
      have hlo:∀ k,rdI c=k+1→pointC (1000+(k:Int)) < c:=fun k hk=>by
       have:=rdI_lo (c:=c) (i:=k) (by omega)
       unfold rdP at this
       simpa using this
      have hhi:rdI c < 9000→c ≤ pointC (1000+(rdI c:Int)):=fun h=>by
       have:=rdI_at h
       unfold rdP at this
       simpa using this
      have hbp:∀ k:Nat,k < 9000→0 ≤ pointC (1000+(k:Int))∧pointC (1000+(k:Int)) ≤ 1048576:=fun k hk=>pointC_bd (by omega)
      generalize rdI c=r at *
      by_cases h9:r < 9000
      ·have h9':(r:Int) < 9000:=by omega
       have hr0:=hhi h9
       go_wp2_with fail
       refine Calls.mono (rdFig_c (r:Int) b10 b8 g1 c1 w3 (by omega) C.g) ?_;rintro e w4 ⟨rfl,hb⟩
       replace C:=C.below hb
       replace D:=D.below hb
       replace M:=M.below hb
       replace Z:=Z.below hb Z.lt
       clear hb z12 z11
       go_wp2_with fail
       refine (rdTry_c (1000+(r:Int)) c 0 (-1) b2 b3 b5 b6 w4 (by omega) hc D hne (1000+(r:Int)) (max (pointC (1000+(r:Int)) - c) (c - pointC (1000+(r:Int)))) (.inl ⟨.inl (by omega),rfl,rfl⟩)).mono ?_;rintro e w5 ⟨rfl,D5,hk⟩
       replace M:=M.kb hk hn4 hlt5 hge
       replace C:=C.kb hk hne hlt5 ⟨h10.2.1,h10.1,M.l8,M.l1⟩
       replace Z:=Z.kb hk (by omega)
       clear D hk
       by_cases hr:r=0
       ·subst hr
        rw [if_pos rfl] at hdd
        have hdd':rd=1000+((0:Nat):Int):=by rw [hdd];rfl
        clear hdd
        go_wp2
        go_roundw
        case rel=>exact ⟨1,rfl,M,.inr ⟨rfl,_,by rw [hdd'];exact D5⟩⟩
        case measure=>simp [intOf]
       ·obtain ⟨k,rfl⟩:∃ k,r=k+1:=⟨r - 1,by omega⟩
        rw [if_neg hr,if_neg (by omega)] at hdd
        have hl0:=hlo k rfl
        have hd9:(999:Int)+((k+1:Nat):Int)=1000+(k:Int):=by omega
        rw [hd9] at hdd
        have D:=D5
        clear D5
        have hu:∃ ls2,(((max (pointC (1000+((k+1:Nat):Int)) - c) (c - pointC (1000+((k+1:Nat):Int))) < 0 ∨ max (pointC (1000+(k:Int)) - c) (c - pointC (1000+(k:Int))) < max (pointC (1000+((k+1:Nat):Int)) - c) (c - pointC (1000+((k+1:Nat):Int))) ∨ (max (pointC (1000+(k:Int)) - c) (c - pointC (1000+(k:Int)))=max (pointC (1000+((k+1:Nat):Int)) - c) (c - pointC (1000+((k+1:Nat):Int)))∧(1000:Int)+(k:Int) < 1000+((k+1:Nat):Int)))∧rd=1000+(k:Int)∧ls2=max (pointC (1000+(k:Int)) - c) (c - pointC (1000+(k:Int)))) ∨ ((0 ≤ max (pointC (1000+((k+1:Nat):Int)) - c) (c - pointC (1000+((k+1:Nat):Int)))∧max (pointC (1000+((k+1:Nat):Int)) - c) (c - pointC (1000+((k+1:Nat):Int))) < max (pointC (1000+(k:Int)) - c) (c - pointC (1000+(k:Int))))∧rd=1000+((k+1:Nat):Int)∧ls2=max (pointC (1000+((k+1:Nat):Int)) - c) (c - pointC (1000+((k+1:Nat):Int))))):=by
         split at hdd
         ·exact ⟨_,.inl ⟨by omega,hdd,rfl⟩⟩
         ·exact ⟨_,.inr ⟨by omega,hdd,rfl⟩⟩
        obtain ⟨ls2,hu⟩:=hu
        have hu:=Lib.hid hu
        clear hdd
        generalize hls:max (pointC (1000+((k+1:Nat):Int)) - c) (c - pointC (1000+((k+1:Nat):Int)))=ls1 at *
        have hls:=Lib.hid hls
        have HF:=fun v (hS:Below w5.heap.size w5 v)=>Lib.hid (rdFig_c (k:Int) b10 b8 g1 c1 v (by omega) (C.below hS).g)
        have HP:=fun v=>Lib.hid (pointOf_c (1000+(k:Int)) 0 v (by omega))
        have HN:=fun v (hS:Below w5.heap.size w5 v)=>Lib.hid (rdFirst_c (pointC (1000+(k:Int))) b12 b2 b11 b10 b8 g1 c1 v (C.below hS) (Z.below hS Z.lt))
        rw [rdI_point (by omega)] at HN
        have HT:=fun v (C:RdS b2 b3 b5 b6 c (1000+((k+1:Nat):Int)) ls1 v)=>Lib.hid (rdTry_c (1000+(k:Int)) c (1000+((k+1:Nat):Int)) ls1 b2 b3 b5 b6 v (by omega) hc C hne rd ls2 hu.out)
        clear hu hlo hhi hbp hr0 hl0 hls
        generalize pointC (1000+(k:Int))=pk at *
        have hk0:(0:Int) < ((k+1:Nat):Int):=by omega
        have hk1:((k+1:Nat):Int) - 1=(k:Int):=by omega
        have hk2:IntKind.i64.wrap (k:Int)=(k:Int):=IntWalk.i64_in _ (by omega)
        go_wp2_with fail
        refine wp_region_sink 11 (fun a0 fL bA v=>∃ v52 v53 v54 v55 v56 v57 v58 v59 v60 v61 v62:Value,bA=((((((((((a0.put (some 52) v52).put (some 53) v53).put (some 54) v54).put (some 55) v55).put (some 56) v56).put (some 57) v57).put (some 58) v58).put (some 59) v59).put (some 60) v60).put (some 61) v61).put (some 62) v62∧(Below w5.heap.size w5 v)∧(fL 0=true→v52=.func (.func 140) #[] #[.pointer (some ⟨b2,0,none⟩),.pointer (some ⟨b3,0,none⟩),.pointer (some ⟨b6,0,none⟩),.pointer (some ⟨b5,0,none⟩)])∧(fL 1=true→v53=.func (.func 145) #[] #[.pointer (some ⟨b10,0,none⟩),.pointer (some ⟨b8,0,none⟩)])∧(fL 2=true→v54=.func (.func 146) #[] #[.pointer (some ⟨b12,0,none⟩),.pointer (some ⟨b2,0,none⟩),.pointer (some ⟨b11,0,none⟩)])∧(fL 3=true→v55=.int .i64 0)∧(fL 4=true→v56=.func (.func 145) #[] #[.pointer (some ⟨b10,0,none⟩),.pointer (some ⟨b8,0,none⟩)])∧(fL 5=true→v57=.int .i64 ((k+1:Nat):Int))∧(fL 6=true→v58=.int .i64 (k:Int))∧(fL 7=true→v59=.agg #[.int .i64 (1000+(k:Int)),.int .i64 0])∧(fL 8=true→v60=.int .i64 pk)∧(fL 9=true→v61=.int .i64 (k:Int))∧(fL 10=true→v62=.agg #[.int .i64 (1000+(k:Int)),.int .i64 0])) (by kernel_rfl) (by decide +kernel) ?_ ?_ ?_
        ·exact ⟨_,_,_,_,_,_,_,_,_,_,_,put_more (put_more (put_more (put_more (put_more (put_more (put_more (put_more (put_more (put_more (put_more (rfl) 52) 53) 54) 55) 56) 57) 58) 59) 60) 61) 62,(Below.refl _ _).drew,nofun,nofun,nofun,nofun,nofun,nofun,nofun,nofun,nofun,nofun,nofun⟩
        ·rintro fL bA v ⟨v52,v53,v54,v55,v56,v57,v58,v59,v60,v61,v62,rfl,hS,q0,q1,q2,q3,q4,q5,q6,q7,q8,q9,q10⟩ i hi hf o ho hall
         simp only [Act.put,List.setIfInBounds_toArray,List.set_cons_zero,List.set_cons_succ]
         have hn:i=0 ∨ i=1 ∨ i=2 ∨ i=3 ∨ i=4 ∨ i=5 ∨ i=6 ∨ i=7 ∨ i=8 ∨ i=9 ∨ i=10:=by omega
         clear hi
         rcases hn with rfl | rfl | rfl | rfl | rfl | rfl | rfl | rfl | rfl | rfl | rfl
         ·obtain rfl:=Option.some.inj ho
          clear hall ho
          refine wpOp_step rfl (fun K hK=>?_)
          go_simp
          exact hK _ _ ⟨_,_,_,_,_,_,_,_,_,_,_,rfl,hS,fun _=>rfl,q1,q2,q3,q4,q5,q6,q7,q8,q9,q10⟩
         ·obtain rfl:=Option.some.inj ho
          have y0:v.cell? ⟨b11,0,none⟩=some (.func (.func 145) #[] #[.pointer (some ⟨b10,0,none⟩),.pointer (some ⟨b8,0,none⟩)]):=(C.below hS).f.cell 0
          clear hall ho
          refine wpOp_step rfl (fun K hK=>?_)
          go_simp
          exact hK _ _ ⟨_,_,_,_,_,_,_,_,_,_,_,rfl,hS,q0,fun _=>rfl,q2,q3,q4,q5,q6,q7,q8,q9,q10⟩
         ·obtain rfl:=Option.some.inj ho
          clear hall ho
          refine wpOp_step rfl (fun K hK=>?_)
          go_simp
          exact hK _ _ ⟨_,_,_,_,_,_,_,_,_,_,_,rfl,hS,q0,q1,fun _=>rfl,q3,q4,q5,q6,q7,q8,q9,q10⟩
         ·obtain rfl:=Option.some.inj ho
          have y0:v.cell? ⟨b2,0,none⟩=some (.int .i64 0):=(C.below hS).s.cell 0
          clear hall ho
          refine wpOp_step rfl (fun K hK=>?_)
          go_simp
          exact hK _ _ ⟨_,_,_,_,_,_,_,_,_,_,_,rfl,hS,q0,q1,q2,fun _=>rfl,q4,q5,q6,q7,q8,q9,q10⟩
         ·obtain rfl:=Option.some.inj ho
          have y0:v.cell? ⟨b11,0,none⟩=some (.func (.func 145) #[] #[.pointer (some ⟨b10,0,none⟩),.pointer (some ⟨b8,0,none⟩)]):=(C.below hS).f.cell 0
          clear hall ho
          refine wpOp_step rfl (fun K hK=>?_)
          go_simp
          exact hK _ _ ⟨_,_,_,_,_,_,_,_,_,_,_,rfl,hS,q0,q1,q2,q3,fun _=>rfl,q5,q6,q7,q8,q9,q10⟩
         ·obtain rfl:=Option.some.inj ho
          clear hall ho
          refine wpOp_step rfl (fun K hK=>?_)
          go_simp
          exact hK _ _ ⟨_,_,_,_,_,_,_,_,_,_,_,rfl,hS,q0,q1,q2,q3,q4,fun _=>rfl,q6,q7,q8,q9,q10⟩
         ·obtain rfl:=Option.some.inj ho
          obtain rfl:=q5 (hall ⟨5,.data⟩ (by simp) rfl)
          clear hall ho
          refine wpOp_step rfl (fun K hK=>?_)
          go_simp
          exact hK _ _ ⟨_,_,_,_,_,_,_,_,_,_,_,rfl,hS,q0,q1,q2,q3,q4,fun _=>rfl,fun _=>rfl,q7,q8,q9,q10⟩
         ·obtain rfl:=Option.some.inj ho
          obtain rfl:=q4 (hall ⟨4,.data⟩ (by simp) rfl)
          obtain rfl:=q6 (hall ⟨6,.data⟩ (by simp) rfl)
          clear hall ho
          refine wpOp_step rfl (fun K hK=>?_)
          go_simp
          refine Calls.mono ((HF v hS).out) ?_;rintro e w1 ⟨rfl,hb1⟩
          go_simp
          exact hK _ _ ⟨_,_,_,_,_,_,_,_,_,_,_,rfl,hS.trans (hb1.mono hS.size),q0,q1,q2,q3,fun _=>rfl,q5,fun _=>rfl,fun _=>rfl,q8,q9,q10⟩
         ·obtain rfl:=Option.some.inj ho
          obtain rfl:=q3 (hall ⟨3,.data⟩ (by simp) rfl)
          obtain rfl:=q7 (hall ⟨7,.data⟩ (by simp) rfl)
          clear hall ho
          refine wpOp_step rfl (fun K hK=>?_)
          go_simp
          refine Calls.mono ((HP v).out) ?_;rintro e w1 ⟨rfl,hb1⟩
          go_simp
          exact hK _ _ ⟨_,_,_,_,_,_,_,_,_,_,_,rfl,hS.trans (hb1.mono hS.size),q0,q1,q2,fun _=>rfl,q4,q5,q6,fun _=>rfl,fun _=>rfl,q9,q10⟩
         ·obtain rfl:=Option.some.inj ho
          obtain rfl:=q2 (hall ⟨2,.data⟩ (by simp) rfl)
          obtain rfl:=q8 (hall ⟨8,.data⟩ (by simp) rfl)
          clear hall ho
          refine wpOp_step rfl (fun K hK=>?_)
          go_simp
          refine Calls.mono ((HN v hS).out) ?_;rintro e w1 ⟨rfl,hb1⟩
          go_simp
          exact hK _ _ ⟨_,_,_,_,_,_,_,_,_,_,_,rfl,hS.trans (hb1.mono hS.size),q0,q1,fun _=>rfl,q3,q4,q5,q6,q7,fun _=>rfl,fun _=>rfl,q10⟩
         ·obtain rfl:=Option.some.inj ho
          obtain rfl:=q1 (hall ⟨1,.data⟩ (by simp) rfl)
          obtain rfl:=q9 (hall ⟨9,.data⟩ (by simp) rfl)
          clear hall ho
          refine wpOp_step rfl (fun K hK=>?_)
          go_simp
          refine Calls.mono ((HF v hS).out) ?_;rintro e w1 ⟨rfl,hb1⟩
          go_simp
          exact hK _ _ ⟨_,_,_,_,_,_,_,_,_,_,_,rfl,hS.trans (hb1.mono hS.size),q0,fun _=>rfl,q2,q3,q4,q5,q6,q7,q8,fun _=>rfl,fun _=>rfl⟩
        ·rintro fL bA v ⟨v52,v53,v54,v55,v56,v57,v58,v59,v60,v61,v62,rfl,hS,q0,q1,q2,q3,q4,q5,q6,q7,q8,q9,q10⟩ hall
         simp only [Act.put,List.setIfInBounds_toArray,List.set_cons_zero,List.set_cons_succ]
         obtain rfl:=q0 (hall 0 (by omega))
         obtain rfl:=q1 (hall 1 (by omega))
         obtain rfl:=q2 (hall 2 (by omega))
         obtain rfl:=q3 (hall 3 (by omega))
         obtain rfl:=q4 (hall 4 (by omega))
         obtain rfl:=q5 (hall 5 (by omega))
         obtain rfl:=q6 (hall 6 (by omega))
         obtain rfl:=q7 (hall 7 (by omega))
         obtain rfl:=q8 (hall 8 (by omega))
         obtain rfl:=q9 (hall 9 (by omega))
         obtain rfl:=q10 (hall 10 (by omega))
         clear hall
         simp only [List.drop_succ_cons,List.drop_zero]
         go_wp2_with fail
         refine (HT v (D.below hS)).out.mono ?_;rintro e v2 ⟨rfl,D2,hk⟩
         have M2:=(M.below hS).kb hk hn4 hlt5 hge
         clear HF HP HN HT D M C Z
         go_wp2
         go_roundw
         case rel=>exact ⟨1,rfl,M2,.inr ⟨rfl,_,D2⟩⟩
         case measure=>simp [intOf]
      ·obtain ⟨k,rfl⟩:∃ k,r=k+1:=⟨8999,by omega⟩
       have hk8:k+1=9000:=by omega
       rw [if_neg (by omega),if_pos hk8] at hdd
       have h9':¬ ((k+1:Nat):Int) < 9000:=by omega
       have hdk:rd=1000+(k:Int):=by omega
       clear hdd hk8
       have HF:=fun v (hS:Below w3.heap.size w3 v)=>Lib.hid (rdFig_c (k:Int) b10 b8 g1 c1 v (by omega) (C.below hS).g)
       have HP:=fun v=>Lib.hid (pointOf_c (1000+(k:Int)) 0 v (by omega))
       have HN:=fun v (hS:Below w3.heap.size w3 v)=>Lib.hid (rdFirst_c (pointC (1000+(k:Int))) b12 b2 b11 b10 b8 g1 c1 v (C.below hS) (Z.below hS Z.lt))
       rw [rdI_point (by omega)] at HN
       have HT:=fun v (C:RdS b2 b3 b5 b6 c 0 (-1) v)=>Lib.hid (rdTry_c (1000+(k:Int)) c 0 (-1) b2 b3 b5 b6 v (by omega) hc C hne rd (max (pointC (1000+(k:Int)) - c) (c - pointC (1000+(k:Int)))) (.inl ⟨.inl (by omega),hdk,rfl⟩))
       clear hdk hlo hhi hbp
       generalize pointC (1000+(k:Int))=pk at *
       have hk0:(0:Int) < ((k+1:Nat):Int):=by omega
       have hk1:((k+1:Nat):Int) - 1=(k:Int):=by omega
       have hk2:IntKind.i64.wrap (k:Int)=(k:Int):=IntWalk.i64_in _ (by omega)
       go_wp2_with fail
       refine wp_region_sink 11 (fun a0 fL bA v=>∃ v52 v53 v54 v55 v56 v57 v58 v59 v60 v61 v62:Value,bA=((((((((((a0.put (some 52) v52).put (some 53) v53).put (some 54) v54).put (some 55) v55).put (some 56) v56).put (some 57) v57).put (some 58) v58).put (some 59) v59).put (some 60) v60).put (some 61) v61).put (some 62) v62∧(Below w3.heap.size w3 v)∧(fL 0=true→v52=.func (.func 140) #[] #[.pointer (some ⟨b2,0,none⟩),.pointer (some ⟨b3,0,none⟩),.pointer (some ⟨b6,0,none⟩),.pointer (some ⟨b5,0,none⟩)])∧(fL 1=true→v53=.func (.func 145) #[] #[.pointer (some ⟨b10,0,none⟩),.pointer (some ⟨b8,0,none⟩)])∧(fL 2=true→v54=.func (.func 146) #[] #[.pointer (some ⟨b12,0,none⟩),.pointer (some ⟨b2,0,none⟩),.pointer (some ⟨b11,0,none⟩)])∧(fL 3=true→v55=.int .i64 0)∧(fL 4=true→v56=.func (.func 145) #[] #[.pointer (some ⟨b10,0,none⟩),.pointer (some ⟨b8,0,none⟩)])∧(fL 5=true→v57=.int .i64 ((k+1:Nat):Int))∧(fL 6=true→v58=.int .i64 (k:Int))∧(fL 7=true→v59=.agg #[.int .i64 (1000+(k:Int)),.int .i64 0])∧(fL 8=true→v60=.int .i64 pk)∧(fL 9=true→v61=.int .i64 (k:Int))∧(fL 10=true→v62=.agg #[.int .i64 (1000+(k:Int)),.int .i64 0])) (by kernel_rfl) (by decide +kernel) ?_ ?_ ?_
       ·exact ⟨_,_,_,_,_,_,_,_,_,_,_,put_more (put_more (put_more (put_more (put_more (put_more (put_more (put_more (put_more (put_more (put_more (rfl) 52) 53) 54) 55) 56) 57) 58) 59) 60) 61) 62,(Below.refl _ _).drew,nofun,nofun,nofun,nofun,nofun,nofun,nofun,nofun,nofun,nofun,nofun⟩
       ·rintro fL bA v ⟨v52,v53,v54,v55,v56,v57,v58,v59,v60,v61,v62,rfl,hS,q0,q1,q2,q3,q4,q5,q6,q7,q8,q9,q10⟩ i hi hf o ho hall
        simp only [Act.put,List.setIfInBounds_toArray,List.set_cons_zero,List.set_cons_succ]
        have hn:i=0 ∨ i=1 ∨ i=2 ∨ i=3 ∨ i=4 ∨ i=5 ∨ i=6 ∨ i=7 ∨ i=8 ∨ i=9 ∨ i=10:=by omega
        clear hi
        rcases hn with rfl | rfl | rfl | rfl | rfl | rfl | rfl | rfl | rfl | rfl | rfl
        ·obtain rfl:=Option.some.inj ho
         clear hall ho
         refine wpOp_step rfl (fun K hK=>?_)
         go_simp
         exact hK _ _ ⟨_,_,_,_,_,_,_,_,_,_,_,rfl,hS,fun _=>rfl,q1,q2,q3,q4,q5,q6,q7,q8,q9,q10⟩
        ·obtain rfl:=Option.some.inj ho
         have y0:v.cell? ⟨b11,0,none⟩=some (.func (.func 145) #[] #[.pointer (some ⟨b10,0,none⟩),.pointer (some ⟨b8,0,none⟩)]):=(C.below hS).f.cell 0
         clear hall ho
         refine wpOp_step rfl (fun K hK=>?_)
         go_simp
         exact hK _ _ ⟨_,_,_,_,_,_,_,_,_,_,_,rfl,hS,q0,fun _=>rfl,q2,q3,q4,q5,q6,q7,q8,q9,q10⟩
        ·obtain rfl:=Option.some.inj ho
         clear hall ho
         refine wpOp_step rfl (fun K hK=>?_)
         go_simp
         exact hK _ _ ⟨_,_,_,_,_,_,_,_,_,_,_,rfl,hS,q0,q1,fun _=>rfl,q3,q4,q5,q6,q7,q8,q9,q10⟩
        ·obtain rfl:=Option.some.inj ho
         have y0:v.cell? ⟨b2,0,none⟩=some (.int .i64 0):=(C.below hS).s.cell 0
         clear hall ho
         refine wpOp_step rfl (fun K hK=>?_)
         go_simp
         exact hK _ _ ⟨_,_,_,_,_,_,_,_,_,_,_,rfl,hS,q0,q1,q2,fun _=>rfl,q4,q5,q6,q7,q8,q9,q10⟩
        ·obtain rfl:=Option.some.inj ho
         have y0:v.cell? ⟨b11,0,none⟩=some (.func (.func 145) #[] #[.pointer (some ⟨b10,0,none⟩),.pointer (some ⟨b8,0,none⟩)]):=(C.below hS).f.cell 0
         clear hall ho
         refine wpOp_step rfl (fun K hK=>?_)
         go_simp
         exact hK _ _ ⟨_,_,_,_,_,_,_,_,_,_,_,rfl,hS,q0,q1,q2,q3,fun _=>rfl,q5,q6,q7,q8,q9,q10⟩
        ·obtain rfl:=Option.some.inj ho
         clear hall ho
         refine wpOp_step rfl (fun K hK=>?_)
         go_simp
         exact hK _ _ ⟨_,_,_,_,_,_,_,_,_,_,_,rfl,hS,q0,q1,q2,q3,q4,fun _=>rfl,q6,q7,q8,q9,q10⟩
        ·obtain rfl:=Option.some.inj ho
         obtain rfl:=q5 (hall ⟨5,.data⟩ (by simp) rfl)
         clear hall ho
         refine wpOp_step rfl (fun K hK=>?_)
         go_simp
         exact hK _ _ ⟨_,_,_,_,_,_,_,_,_,_,_,rfl,hS,q0,q1,q2,q3,q4,fun _=>rfl,fun _=>rfl,q7,q8,q9,q10⟩
        ·obtain rfl:=Option.some.inj ho
         obtain rfl:=q4 (hall ⟨4,.data⟩ (by simp) rfl)
         obtain rfl:=q6 (hall ⟨6,.data⟩ (by simp) rfl)
         clear hall ho
         refine wpOp_step rfl (fun K hK=>?_)
         go_simp
         refine Calls.mono ((HF v hS).out) ?_;rintro e w1 ⟨rfl,hb1⟩
         go_simp
         exact hK _ _ ⟨_,_,_,_,_,_,_,_,_,_,_,rfl,hS.trans (hb1.mono hS.size),q0,q1,q2,q3,fun _=>rfl,q5,fun _=>rfl,fun _=>rfl,q8,q9,q10⟩
        ·obtain rfl:=Option.some.inj ho
         obtain rfl:=q3 (hall ⟨3,.data⟩ (by simp) rfl)
         obtain rfl:=q7 (hall ⟨7,.data⟩ (by simp) rfl)
         clear hall ho
         refine wpOp_step rfl (fun K hK=>?_)
         go_simp
         refine Calls.mono ((HP v).out) ?_;rintro e w1 ⟨rfl,hb1⟩
         go_simp
         exact hK _ _ ⟨_,_,_,_,_,_,_,_,_,_,_,rfl,hS.trans (hb1.mono hS.size),q0,q1,q2,fun _=>rfl,q4,q5,q6,fun _=>rfl,fun _=>rfl,q9,q10⟩
        ·obtain rfl:=Option.some.inj ho
         obtain rfl:=q2 (hall ⟨2,.data⟩ (by simp) rfl)
         obtain rfl:=q8 (hall ⟨8,.data⟩ (by simp) rfl)
         clear hall ho
         refine wpOp_step rfl (fun K hK=>?_)
         go_simp
         refine Calls.mono ((HN v hS).out) ?_;rintro e w1 ⟨rfl,hb1⟩
         go_simp
         exact hK _ _ ⟨_,_,_,_,_,_,_,_,_,_,_,rfl,hS.trans (hb1.mono hS.size),q0,q1,fun _=>rfl,q3,q4,q5,q6,q7,fun _=>rfl,fun _=>rfl,q10⟩
        ·obtain rfl:=Option.some.inj ho
         obtain rfl:=q1 (hall ⟨1,.data⟩ (by simp) rfl)
         obtain rfl:=q9 (hall ⟨9,.data⟩ (by simp) rfl)
         clear hall ho
         refine wpOp_step rfl (fun K hK=>?_)
         go_simp
         refine Calls.mono ((HF v hS).out) ?_;rintro e w1 ⟨rfl,hb1⟩
         go_simp
         exact hK _ _ ⟨_,_,_,_,_,_,_,_,_,_,_,rfl,hS.trans (hb1.mono hS.size),q0,fun _=>rfl,q2,q3,q4,q5,q6,q7,q8,fun _=>rfl,fun _=>rfl⟩
       ·rintro fL bA v ⟨v52,v53,v54,v55,v56,v57,v58,v59,v60,v61,v62,rfl,hS,q0,q1,q2,q3,q4,q5,q6,q7,q8,q9,q10⟩ hall
        simp only [Act.put,List.setIfInBounds_toArray,List.set_cons_zero,List.set_cons_succ]
        obtain rfl:=q0 (hall 0 (by omega))
        obtain rfl:=q1 (hall 1 (by omega))
        obtain rfl:=q2 (hall 2 (by omega))
        obtain rfl:=q3 (hall 3 (by omega))
        obtain rfl:=q4 (hall 4 (by omega))
        obtain rfl:=q5 (hall 5 (by omega))
        obtain rfl:=q6 (hall 6 (by omega))
        obtain rfl:=q7 (hall 7 (by omega))
        obtain rfl:=q8 (hall 8 (by omega))
        obtain rfl:=q9 (hall 9 (by omega))
        obtain rfl:=q10 (hall 10 (by omega))
        clear hall
        simp only [List.drop_succ_cons,List.drop_zero]
        go_wp2_with fail
        refine (HT v (D.below hS)).out.mono ?_;rintro e v2 ⟨rfl,D2,hk⟩
        have M2:=(M.below hS).kb hk hn4 hlt5 hge
        clear HF HP HN HT D M C Z
        go_wp2
        go_roundw
        case rel=>exact ⟨1,rfl,M2,.inr ⟨rfl,_,D2⟩⟩
        case measure=>simp [intOf]
    ·go_wp2
     go_roundw
     case rel=>exact ⟨1,rfl,M.hB,M.R,.inr ⟨rfl,_,D⟩⟩
     case measure=>simp [intOf]
  ·have y0:wr.cell? ⟨b5,0,none⟩=some (.int .i64 (rd)):=D.b.cell 0
   have y1:wr.cell? ⟨b5,1,none⟩=some (.int .i64 0):=D.b.cell 1
   have x0:wr.cell? ⟨b4,0,none⟩=some (.int .i64 0):=R.cell 0
   have x1:wr.cell? ⟨b4,1,none⟩=some (.int .i64 0):=R.cell 1
   have xf0:=R.frozen 0
   have xf1:=R.frozen 1
   have hB':Below w.heap.size w wr:=hb2 ▸ hB
   clear HSeg
   go_wp2
   refine bodyPost_ret (v:=.agg #[.int .i64 (rd),.int .i64 0]) (by simp [results,Tryz.results84,go_sem,x0,x1,xf0,xf1]) rfl ⟨rfl,(by repeat first | with_reducible (first | exact hB' | apply below_drewN' | apply Below.drew | refine Below.alloc ?_ ?_ _ | refine Below.setCell ?_ ?_ _) | exact hB' | omega | (simp <;> omega) | (have:=(hB').size;first | omega | (simp <;> omega)))⟩
end Go.Proofs.YtednjmldjbndhaaGreat
