/- The reference's draw of two releases. Condition: the code has at most 4096 bytes. -/
import Derived.Test.YtednjmldjbndhaaGreatDoorKMr41
set_option linter.unusedSimpArgs false
set_option linter.unusedVariables false
set_option maxRecDepth 100000
set_option maxHeartbeats 8000000
namespace Go.Proofs.YtednjmldjbndhaaGreatDoor
open Go.RowKit
theorem wp_store_part {P:Program} {op:Oper} {a:Act} {w:World} {K:Act→World→Prop} {Q:Exit→Act→World→Prop} (ty:TypeId) (x y:Operand) (ho:op.op=.store ty x y)
  (g o:Nat) (cs:List Value) (hx:a.eval x=.pointer (some ⟨g,o,none⟩)) (hy:a.eval y=.agg cs.toArray) {t:TypeId} {L:List Value} (hB:Blk w g t L.toArray) (hl:o+cs.length ≤ L.length)
  (hi:(P.info? ty).map (·.size)=some cs.length) (h1:∀ v ∈ cs,v.oneCell'=true)
  (h:∀ w2,w.grownBy w2 (some g)→Blk w2 g t (fillL L o cs).toArray→K (a.put op.dst undef) w2):op.wp P a w K Q:=by
 refine wp_store_mid ty x y ho g o cs.toArray hx hy (fun j hj=>⟨?_,hB.frozen _⟩) (by simpa using hi) (all_oneCell_toArray h1) ?_
 ·have hjl:o+j < L.length:=by simp at hj;omega
  rw [hB.cell]
  simp [hjl]
 ·have hc:w.setCells g o cs.toArray.toList=stores w g o cs:=stores_cells' g cs o w
  rw [hc]
  exact h _ (grownBy_stores cs o (World.grownBy.refl w (some g))) (Blk.setL cs o hB)
theorem fill_all (cs L:List Value) (h:L.length=cs.length):fillL L 0 cs=cs:=by
 have h2:=fill_mid cs L [] [] h
 simpa using h2
def CbS (A:Option Addr) (n c g lo:Nat) (w:World) (b5 b6:Nat) (v:World):Prop:=∃ (r s:Rl) (B C:Option Addr) (d k:Nat),((r.nm.size ≤ 7∧r.l.length ≤ 6∧r.l.length ≤ d)∧(s.nm.size ≤ 7∧s.l.length ≤ 6∧s.l.length ≤ k))∧(PwN v lo B r.l∧PwN v lo C s.l)∧Src v A n c g∧Below w.heap.size w v ∧
 (Blk v w.heap.size 33 Rl.zero.toArray∧Blk v (w.heap.size+1) 33 Rl.zero.toArray)∧Blk v b5 33 (r.cells B d).toArray∧Blk v b6 33 (s.cells C k).toArray
structure FnS (w:World) (b5 b6:Nat) (l m:List Int) (B C:Option Addr) (rc sc:List Value) (f2 f3:Bool) (v:World):Prop where
 hb:Below w.heap.size w v
 pr:PwN v (w.heap.size+2) B l
 ps:PwN v (w.heap.size+2) C m
 x5:Blk v b5 33 rc.toArray
 x6:Blk v b6 33 sc.toArray
 z2:Blk v w.heap.size 33 (bif f2 then rc else Rl.zero).toArray
 z3:Blk v (w.heap.size+1) 33 (bif f3 then sc else Rl.zero).toArray
section
variable {w : World} {b5 b6 : Nat} {l m : List Int} {B C : Option Addr} {rc sc : List Value} {f2 f3 : Bool} {v v' : World}
theorem FnS.drew (h:FnS w b5 b6 l m B C rc sc f2 f3 v):FnS w b5 b6 l m B C rc sc f2 f3 v.drew :=
 have k:=(Below.refl v.heap.size v).drew
 ⟨h.hb.drew,h.pr.below k,h.ps.below k,h.x5.below k h.x5.lt,h.x6.below k h.x6.lt,h.z2.below k h.z2.lt,h.z3.below k h.z3.lt⟩
theorem FnS.s2 (h:FnS w b5 b6 l m B C rc sc f2 f3 v) (h5:w.heap.size+2 ≤ b5) (h6:w.heap.size+2 ≤ b6) (hg:v.grownBy v' (some w.heap.size)) (hB:Blk v' w.heap.size 33 rc.toArray):FnS w b5 b6 l m B C rc sc true f3 v' :=
 ⟨h.hb.grown hg h.hb.size (fun r e=>by cases e;exact Nat.le_refl _),h.pr.src hg (by omega),h.ps.src hg (by omega),h.x5.src hg (by omega),h.x6.src hg (by omega),hB,h.z3.src hg (by omega)⟩
theorem FnS.s3 (h:FnS w b5 b6 l m B C rc sc f2 f3 v) (h5:w.heap.size+2 ≤ b5) (h6:w.heap.size+2 ≤ b6) (hg:v.grownBy v' (some (w.heap.size+1))) (hB:Blk v' (w.heap.size+1) 33 sc.toArray):FnS w b5 b6 l m B C rc sc f2 true v' :=
 ⟨h.hb.grown hg h.hb.size (fun r e=>by cases e;exact Nat.le_succ _),h.pr.src hg (by omega),h.ps.src hg (by omega),h.x5.src hg (by omega),h.x6.src hg (by omega),h.z2.src hg (by omega),hB⟩
end
theorem drawChangesBetween_c (A:Option Addr) (n c:Nat) (w:World) (hn:n ≤ 4096) (hb:Bytes w A n w.heap.size):Calls Tryz.prog 22 #[.slice A n c] w (DCb w):=by
 have hal:Below w.heap.size w ((w.alloc (.cells #[.int .i64 0,.int .i64 0,.string ⟨#[]⟩,.slice none 0 0,.int .i64 0,.int .i64 0,.int .i64 0,.int .i64 0,.int .i64 0,.int .i64 0,.int .i64 0,.int .i64 0,.int .i64 0,.int .i64 0,.int .i64 0,.int .i64 0,.int .i64 0] 33)).alloc (.cells #[.int .i64 0,.int .i64 0,.string ⟨#[]⟩,.slice none 0 0,.int .i64 0,.int .i64 0,.int .i64 0,.int .i64 0,.int .i64 0,.int .i64 0,.int .i64 0,.int .i64 0,.int .i64 0,.int .i64 0,.int .i64 0,.int .i64 0,.int .i64 0] 33)):=((Below.refl _ _).alloc (Nat.le_refl _) _).alloc (by simp) _
 have B2:Blk ((w.alloc (.cells #[.int .i64 0,.int .i64 0,.string ⟨#[]⟩,.slice none 0 0,.int .i64 0,.int .i64 0,.int .i64 0,.int .i64 0,.int .i64 0,.int .i64 0,.int .i64 0,.int .i64 0,.int .i64 0,.int .i64 0,.int .i64 0,.int .i64 0,.int .i64 0] 33)).alloc (.cells #[.int .i64 0,.int .i64 0,.string ⟨#[]⟩,.slice none 0 0,.int .i64 0,.int .i64 0,.int .i64 0,.int .i64 0,.int .i64 0,.int .i64 0,.int .i64 0,.int .i64 0,.int .i64 0,.int .i64 0,.int .i64 0,.int .i64 0,.int .i64 0] 33)) w.heap.size 33 Rl.zero.toArray:=(Blk.new w 33 #[.int .i64 0,.int .i64 0,.string ⟨#[]⟩,.slice none 0 0,.int .i64 0,.int .i64 0,.int .i64 0,.int .i64 0,.int .i64 0,.int .i64 0,.int .i64 0,.int .i64 0,.int .i64 0,.int .i64 0,.int .i64 0,.int .i64 0,.int .i64 0]).alloc _
 have B3:Blk ((w.alloc (.cells #[.int .i64 0,.int .i64 0,.string ⟨#[]⟩,.slice none 0 0,.int .i64 0,.int .i64 0,.int .i64 0,.int .i64 0,.int .i64 0,.int .i64 0,.int .i64 0,.int .i64 0,.int .i64 0,.int .i64 0,.int .i64 0,.int .i64 0,.int .i64 0] 33)).alloc (.cells #[.int .i64 0,.int .i64 0,.string ⟨#[]⟩,.slice none 0 0,.int .i64 0,.int .i64 0,.int .i64 0,.int .i64 0,.int .i64 0,.int .i64 0,.int .i64 0,.int .i64 0,.int .i64 0,.int .i64 0,.int .i64 0,.int .i64 0,.int .i64 0] 33)) (w.heap.size+1) 33 Rl.zero.toArray:=Blk.new' (w.alloc (.cells #[.int .i64 0,.int .i64 0,.string ⟨#[]⟩,.slice none 0 0,.int .i64 0,.int .i64 0,.int .i64 0,.int .i64 0,.int .i64 0,.int .i64 0,.int .i64 0,.int .i64 0,.int .i64 0,.int .i64 0,.int .i64 0,.int .i64 0,.int .i64 0] 33)) 33 #[.int .i64 0,.int .i64 0,.string ⟨#[]⟩,.slice none 0 0,.int .i64 0,.int .i64 0,.int .i64 0,.int .i64 0,.int .i64 0,.int .i64 0,.int .i64 0,.int .i64 0,.int .i64 0,.int .i64 0,.int .i64 0,.int .i64 0,.int .i64 0] (g:=w.heap.size+1) (by simp)
 have hz:((w.alloc (.cells #[.int .i64 0,.int .i64 0,.string ⟨#[]⟩,.slice none 0 0,.int .i64 0,.int .i64 0,.int .i64 0,.int .i64 0,.int .i64 0,.int .i64 0,.int .i64 0,.int .i64 0,.int .i64 0,.int .i64 0,.int .i64 0,.int .i64 0,.int .i64 0] 33)).alloc (.cells #[.int .i64 0,.int .i64 0,.string ⟨#[]⟩,.slice none 0 0,.int .i64 0,.int .i64 0,.int .i64 0,.int .i64 0,.int .i64 0,.int .i64 0,.int .i64 0,.int .i64 0,.int .i64 0,.int .i64 0,.int .i64 0,.int .i64 0,.int .i64 0] 33)).heap.size=w.heap.size+2:=by simp
 have hF:=Lib.hid (l01From_c A n c ((w.alloc (.cells #[.int .i64 0,.int .i64 0,.string ⟨#[]⟩,.slice none 0 0,.int .i64 0,.int .i64 0,.int .i64 0,.int .i64 0,.int .i64 0,.int .i64 0,.int .i64 0,.int .i64 0,.int .i64 0,.int .i64 0,.int .i64 0,.int .i64 0,.int .i64 0] 33)).alloc (.cells #[.int .i64 0,.int .i64 0,.string ⟨#[]⟩,.slice none 0 0,.int .i64 0,.int .i64 0,.int .i64 0,.int .i64 0,.int .i64 0,.int .i64 0,.int .i64 0,.int .i64 0,.int .i64 0,.int .i64 0,.int .i64 0,.int .i64 0,.int .i64 0] 33)) hn ((hb.keep fun p hp=>hal.cell hp).more hal.size))
 clear hb
 unfold DCb
 go_enter Tryz.func22,Tryz.ntmps22
 go_wp2_with fail
 generalize (w.alloc (.cells #[.int .i64 0,.int .i64 0,.string ⟨#[]⟩,.slice none 0 0,.int .i64 0,.int .i64 0,.int .i64 0,.int .i64 0,.int .i64 0,.int .i64 0,.int .i64 0,.int .i64 0,.int .i64 0,.int .i64 0,.int .i64 0,.int .i64 0,.int .i64 0] 33)).alloc (.cells #[.int .i64 0,.int .i64 0,.string ⟨#[]⟩,.slice none 0 0,.int .i64 0,.int .i64 0,.int .i64 0,.int .i64 0,.int .i64 0,.int .i64 0,.int .i64 0,.int .i64 0,.int .i64 0,.int .i64 0,.int .i64 0,.int .i64 0,.int .i64 0] 33)=w1 at *
 refine hF.out.mono ?_;rintro e w4 ⟨rfl,hS,hB⟩
 clear hF
 replace B2:=B2.below hB B2.lt
 replace B3:=B3.below hB B3.lt
 replace hB:=hal.trans (hB.mono (by omega))
 clear hal
 rw [hz] at hS
 rw [hz]
 clear hz
 go_wp2_with fail
 have hgl:=hS.lt
 refine (l33Release_c A n c _ _ hS).mono ?_;rintro e w5 ⟨r,B,d,rfl,hr,P,hS5,hg⟩
 have hB5:=below_src hB hg hB.size (by omega)
 replace B2:=B2.src hg (by omega)
 replace B3:=B3.src hg (by omega)
 have hw4:w.heap.size+2 < w5.heap.size:=Nat.lt_of_lt_of_le hgl hg.size
 have hs45:=hg.size
 have hu:=P.ub
 clear hS hB hg
 have hel:(r.cells B d).length=17:=rfl
 have heo:=Rl.one r B d
 have Q5:=Blk.new w5 33 (r.cells B d).toArray
 have hr5:=Q5.range
 have hz6:(w5.alloc (.cells (r.cells B d).toArray 33)).heap.size=w5.heap.size+1:=by simp
 have hp:=P.alloc (.cells (r.cells B d).toArray 33)
 have hS6:=hS5.alloc (.cells (r.cells B d).toArray 33)
 have hB6:=hB5.alloc hB5.size (.cells (r.cells B d).toArray 33)
 have X2:=B2.alloc (.cells (r.cells B d).toArray 33)
 have X3:=B3.alloc (.cells (r.cells B d).toArray 33)
 clear P hS5 hB5 B2 B3
 generalize hrc:r.cells B d=rc at *
 replace hrc:=Lib.hid hrc
 go_wp2_with (refine wpList_store_new rfl _ _ rfl rc rfl rfl (by rw [hel];kernel_rfl) (by rw [hel];rfl) heo ?_;refine Hid.out ?_)
 refine Lib.hid ?_
 generalize w5.alloc (.cells rc.toArray 33)=v5 at *
 have X6:=Blk.new v5 33 rc.toArray
 replace hp:=hp.alloc (.cells rc.toArray 33)
 replace hS6:=hS6.alloc (.cells rc.toArray 33)
 replace hB6:=hB6.alloc hB6.size (.cells rc.toArray 33)
 replace X2:=X2.alloc (.cells rc.toArray 33)
 replace X3:=X3.alloc (.cells rc.toArray 33)
 have X5:=Q5.alloc (.cells rc.toArray 33)
 clear Q5
 replace hz6:=Lib.hid hz6
 go_wp2_with (first | (refine wpList_store_new rfl _ _ rfl rc rfl rfl (by rw [hel];kernel_rfl) (by rw [hel];rfl) heo ?_) | (refine wpList_load_mid rfl 33 _ rfl (w5.heap.size) 0 rfl (rc) _ hr5 Tryz.underlying33 rfl (by kernel_rfl) ?_) | fail)
 generalize v5.alloc (.cells rc.toArray 33)=w6 at *
 rw [hz6.out]
 rw [hz6.out] at X6
 clear hr5 hz6
 have hg6:=hS6.lt
 refine (l01Next_c A n c _ _ _ hS6).mono ?_;rintro e w7 ⟨x,rfl,_,_,hS7,hg⟩
 have hB7:=below_src hB6 hg hB6.size (by omega)
 replace X2:=X2.src hg (by omega)
 replace X3:=X3.src hg (by omega)
 replace X5:=X5.src hg (by omega)
 replace X6:=X6.src hg (by omega)
 replace hp:=hp.src hg (by omega)
 clear hS6 hB6 hg hg6
 go_upto_block 0 with fail
 go_cut [14,18,23,30] (fun s1 s2 s3 s4 wx=>CbS A n c (w.heap.size+2) (w4.heap.size+1) w w5.heap.size (w5.heap.size+1) wx)
 case first =>
  rw [← hrc.out] at X5 X6
  clear hrc
  have hg7:w.heap.size+2 < w7.heap.size:=hS7.lt
  have hs57:w5.heap.size < w7.heap.size:=X5.lt
  by_cases h0:x=0
  ·subst h0
   go_wp2_with fail
   refine (l27Draw_c A n c _ _ hS7).mono ?_;rintro e w8 ⟨s,C,k,rfl,hs,P8,hS8,hg⟩
   have hB8:=below_src hB7 hg hB7.size (by omega)
   have h67:=X6.lt
   replace X2:=X2.src hg (by omega)
   replace X3:=X3.src hg (by omega)
   replace X5:=X5.src hg (by omega)
   replace X6:=X6.src hg (by omega)
   replace hp:=hp.src hg (by omega)
   have hg7s:=hg.size
   have h57:=hp.nb
   clear hS7 hB7 hg
   have hsl:(s.cells C k).length=17:=rfl
   have hso:=Rl.one s C k
   generalize hsc:s.cells C k=sc at *
   replace hsc:=Lib.hid hsc
   go_wp2_with (refine wpList_store_part rfl 33 _ _ rfl (w5.heap.size+1) 0 sc rfl rfl X6 (by rw [hsl];simp [Rl.cells]) (by rw [hsl];kernel_rfl) hso ?_;intro w9 hg9 D9;refine Hid.out ?_)
   refine Lib.hid ?_
   rw [fill_all sc _ (by rw [hsl];rfl),← hsc.out] at D9
   have hp9:=hp.keep_ hg9.size (fun b off e h1 h2=>hg9.block b h1 (fun e2=>by have:=hu b off e;simp only [Option.some.injEq] at e2;omega))
   have P9:=(P8.keep_ hg9.size (fun b off e h1 h2=>hg9.block b h1 (fun e2=>by simp only [Option.some.injEq] at e2;omega))).weak (show w4.heap.size+1 ≤ w7.heap.size+1 by omega)
   go_wp2_with fail
   go_meet
   case rel=>exact ⟨r,s,B,C,d,k,⟨hr,hs⟩,⟨hp9,P9⟩,hS8.grown hg9 (fun r e=>by cases e;omega),hB8.grown hg9 hB8.size (fun r e=>by cases e;omega),⟨X2.src hg9 (by omega),X3.src hg9 (by omega)⟩,X5.src hg9 (by omega),D9⟩
  by_cases h1:x=1
  ·subst h1
   go_wp2_with fail
   refine (l01Next_c A n c _ _ _ hS7).mono ?_;rintro e w8 ⟨y,rfl,⟨ya,yb⟩,yd,hS8,hg⟩
   have hB8:=below_src hB7 hg hB7.size (by omega)
   replace X2:=X2.src hg (by omega)
   replace X3:=X3.src hg (by omega)
   replace X5:=X5.src hg (by omega)
   replace X6:=X6.src hg (by omega)
   replace hp:=hp.src hg (by omega)
   clear hS7 hB7 hg
   have c6:w8.cell? ⟨w5.heap.size+1,15,none⟩=some (.int .i64 r.ey):=X6.cell 15
   have f6:=X6.frozen 15
   have h68:=X6.lt
   have hg9:=grown_one w8 (w5.heap.size+1) 15 (.int .i64 (y))
   have D9:Blk (w8.setCell ⟨w5.heap.size+1,15,none⟩ (.int .i64 (y))) (w5.heap.size+1) 33 ((⟨r.fd,r.ft,r.nm,r.l,r.wd,r.lf,r.rt,r.lud,r.lut,r.hud,r.hut,r.lvd,r.lvt,r.hvd,r.hvt,y,r.bo⟩:Rl).cells B d).toArray:=X6.set_ 15 _
   have hp9:=hp.keep_ hg9.size (fun b off e h1 h2=>hg9.block b h1 (fun e2=>by have:=hu b off e;simp only [Option.some.injEq] at e2;omega))
   have R9:CbS A n c (w.heap.size+2) (w4.heap.size+1) w w5.heap.size (w5.heap.size+1) (w8.setCell ⟨w5.heap.size+1,15,none⟩ (.int .i64 (y))):=⟨r,⟨r.fd,r.ft,r.nm,r.l,r.wd,r.lf,r.rt,r.lud,r.lut,r.hud,r.hut,r.lvd,r.lvt,r.hvd,r.hvt,y,r.bo⟩,B,B,d,d,⟨hr,hr⟩,⟨hp9,hp9⟩,hS8.grown hg9 (fun r e=>by cases e;omega),hB8.grown hg9 hB8.size (fun r e=>by cases e;omega),⟨X2.src hg9 (by omega),X3.src hg9 (by omega)⟩,X5.src hg9 (by omega),D9⟩
   clear hg9 D9 hp9 X2 X3 X5 X6 hp
   go_wp2_with fail
   go_meet
   case rel=>exact R9
  by_cases h2:x=2
  ·subst h2
   go_wp2_with fail
   refine (l01Next_c A n c _ _ _ hS7).mono ?_;rintro e w8 ⟨y,rfl,⟨ya,yb⟩,yd,hS8,hg⟩
   have hB8:=below_src hB7 hg hB7.size (by omega)
   replace X2:=X2.src hg (by omega)
   replace X3:=X3.src hg (by omega)
   replace X5:=X5.src hg (by omega)
   replace X6:=X6.src hg (by omega)
   replace hp:=hp.src hg (by omega)
   clear hS7 hB7 hg
   have c6:w8.cell? ⟨w5.heap.size+1,5,none⟩=some (.int .i64 r.lf):=X6.cell 5
   have f6:=X6.frozen 5
   have h68:=X6.lt
   have hw9:IntKind.i64.wrap (1000+y)=1000+y:=IntWalk.i64_in _ (by omega)
   have hg9:=grown_one w8 (w5.heap.size+1) 5 (.int .i64 (1000+y))
   have D9:Blk (w8.setCell ⟨w5.heap.size+1,5,none⟩ (.int .i64 (1000+y))) (w5.heap.size+1) 33 ((⟨r.fd,r.ft,r.nm,r.l,r.wd,1000+y,r.rt,r.lud,r.lut,r.hud,r.hut,r.lvd,r.lvt,r.hvd,r.hvt,r.ey,r.bo⟩:Rl).cells B d).toArray:=X6.set_ 5 _
   have hp9:=hp.keep_ hg9.size (fun b off e h1 h2=>hg9.block b h1 (fun e2=>by have:=hu b off e;simp only [Option.some.injEq] at e2;omega))
   have R9:CbS A n c (w.heap.size+2) (w4.heap.size+1) w w5.heap.size (w5.heap.size+1) (w8.setCell ⟨w5.heap.size+1,5,none⟩ (.int .i64 (1000+y))):=⟨r,⟨r.fd,r.ft,r.nm,r.l,r.wd,1000+y,r.rt,r.lud,r.lut,r.hud,r.hut,r.lvd,r.lvt,r.hvd,r.hvt,r.ey,r.bo⟩,B,B,d,d,⟨hr,hr⟩,⟨hp9,hp9⟩,hS8.grown hg9 (fun r e=>by cases e;omega),hB8.grown hg9 hB8.size (fun r e=>by cases e;omega),⟨X2.src hg9 (by omega),X3.src hg9 (by omega)⟩,X5.src hg9 (by omega),D9⟩
   clear hg9 D9 hp9 X2 X3 X5 X6 hp
   go_wp2_with fail
   go_meet
   case rel=>exact R9
  by_cases h3:x=3
  ·subst h3
   go_wp2_with fail
   refine (l01Next_c A n c _ _ _ hS7).mono ?_;rintro e w8 ⟨y,rfl,⟨ya,yb⟩,yd,hS8,hg⟩
   have hB8:=below_src hB7 hg hB7.size (by omega)
   replace X2:=X2.src hg (by omega)
   replace X3:=X3.src hg (by omega)
   replace X5:=X5.src hg (by omega)
   replace X6:=X6.src hg (by omega)
   replace hp:=hp.src hg (by omega)
   clear hS7 hB7 hg
   have c6:w8.cell? ⟨w5.heap.size+1,16,none⟩=some (.int .i64 r.bo):=X6.cell 16
   have f6:=X6.frozen 16
   have h68:=X6.lt
   have hg9:=grown_one w8 (w5.heap.size+1) 16 (.int .i64 (y))
   have D9:Blk (w8.setCell ⟨w5.heap.size+1,16,none⟩ (.int .i64 (y))) (w5.heap.size+1) 33 ((⟨r.fd,r.ft,r.nm,r.l,r.wd,r.lf,r.rt,r.lud,r.lut,r.hud,r.hut,r.lvd,r.lvt,r.hvd,r.hvt,r.ey,y⟩:Rl).cells B d).toArray:=X6.set_ 16 _
   have hp9:=hp.keep_ hg9.size (fun b off e h1 h2=>hg9.block b h1 (fun e2=>by have:=hu b off e;simp only [Option.some.injEq] at e2;omega))
   have R9:CbS A n c (w.heap.size+2) (w4.heap.size+1) w w5.heap.size (w5.heap.size+1) (w8.setCell ⟨w5.heap.size+1,16,none⟩ (.int .i64 (y))):=⟨r,⟨r.fd,r.ft,r.nm,r.l,r.wd,r.lf,r.rt,r.lud,r.lut,r.hud,r.hut,r.lvd,r.lvt,r.hvd,r.hvt,r.ey,y⟩,B,B,d,d,⟨hr,hr⟩,⟨hp9,hp9⟩,hS8.grown hg9 (fun r e=>by cases e;omega),hB8.grown hg9 hB8.size (fun r e=>by cases e;omega),⟨X2.src hg9 (by omega),X3.src hg9 (by omega)⟩,X5.src hg9 (by omega),D9⟩
   clear hg9 D9 hp9 X2 X3 X5 X6 hp
   go_wp2_with fail
   go_meet
   case rel=>exact R9
  have e0:(x == 0)=false:=by simpa using h0
  have e1:(x == 1)=false:=by simpa using h1
  have e2:(x == 2)=false:=by simpa using h2
  have e3:(x == 3)=false:=by simpa using h3
  go_wp2_with fail
  go_meet
  case rel=>exact ⟨r,r,B,B,d,d,⟨hr,hr⟩,⟨hp,hp⟩,hS7,hB7,⟨X2,X3⟩,X5,X6⟩
 case rest =>
  clear X2 X3 X5 X6 hp hS7 hB7 hr hu hrc
  obtain ⟨r,s,B,C,d,k,⟨hr,hs⟩,⟨p1,p2⟩,_,hB,⟨X2,X3⟩,X5,X6⟩:=hcut
  have hw4l:w.heap.size+2 ≤ w4.heap.size+1:=by omega
  have h1:FnS w w5.heap.size (w5.heap.size+1) r.l s.l B C (r.cells B d) (s.cells C k) false false wc.drew:=FnS.drew ⟨hB,p1.weak hw4l,p2.weak hw4l,X5,X6,X2,X3⟩
  have hrl:(r.cells B d).length=17:=rfl
  have hro:=Rl.one r B d
  have hsl:(s.cells C k).length=17:=rfl
  have hso:=Rl.one s C k
  clear X2 X3 X5 X6 p1 p2 hB
  generalize hrr:r.cells B d=rd at *
  generalize hsc:s.cells C k=sc at *
  replace hrr:=Lib.hid hrr
  replace hsc:=Lib.hid hsc
  have h5:w.heap.size+2 ≤ w5.heap.size:=by omega
  have h6:w.heap.size+2 ≤ w5.heap.size+1:=by omega
  go_wp2_with fail
  refine wp_region_all (fun a0 fL bA v=>∃ v35 v36:Value,bA=(a0.put (some 35) v35).put (some 36) v36∧(FnS w w5.heap.size (w5.heap.size+1) r.l s.l B C rd sc (fL 2) (fL 3) v)∧(fL 0=true→v35=.agg rd.toArray)∧(fL 1=true→v36=.agg sc.toArray)) (by kernel_rfl) (by decide +kernel) ?_ ?_ ?_
  ·exact ⟨_,_,put_more (put_more (rfl) 35) 36,h1,nofun,nofun⟩
  ·rintro fL bA v ⟨v35,v36,rfl,hS,q0,q1⟩ i hi hf o ho hall
   simp only [Act.put,List.setIfInBounds_toArray,List.set_cons_zero,List.set_cons_succ]
   simp only [List.length_cons,List.length_nil] at hi
   have hn:i=0 ∨ i=1 ∨ i=2 ∨ i=3:=by omega
   clear hi
   rcases hn with rfl | rfl | rfl | rfl
   ·obtain rfl:=Option.some.inj ho
    clear hall ho
    refine wpOp_step rfl (fun K hK=>?_)
    refine wp_load_mid 33 _ rfl w5.heap.size 0 rfl rd _ hS.x5.range Tryz.underlying33 rfl (by rw [hrl];kernel_rfl) ?_
    exact hK _ _ ⟨_,_,rfl,hS,fun _=>rfl,q1⟩
   ·obtain rfl:=Option.some.inj ho
    clear hall ho
    refine wpOp_step rfl (fun K hK=>?_)
    refine wp_load_mid 33 _ rfl (w5.heap.size+1) 0 rfl sc _ hS.x6.range Tryz.underlying33 rfl (by rw [hsl];kernel_rfl) ?_
    exact hK _ _ ⟨_,_,rfl,hS,q0,fun _=>rfl⟩
   ·obtain rfl:=Option.some.inj ho
    obtain rfl:=q0 (hall ⟨0,.data⟩ (by simp) rfl)
    clear hall ho
    refine wpOp_step rfl (fun K hK=>?_)
    have hz2:=hS.z2
    have hl2:(bif fL 2 then rd else Rl.zero).length=rd.length:=by rw [hf,hrl];rfl
    refine wp_store_part 33 _ _ rfl w.heap.size 0 rd rfl rfl hz2 (by rw [hl2];omega) (by rw [hrl];kernel_rfl) hro ?_
    intro w9 hg9 D9
    rw [fill_all _ _ hl2] at D9
    exact hK _ _ ⟨_,_,rfl,hS.s2 h5 h6 hg9 D9,fun _=>rfl,q1⟩
   ·obtain rfl:=Option.some.inj ho
    obtain rfl:=q1 (hall ⟨1,.data⟩ (by simp) rfl)
    clear hall ho
    refine wpOp_step rfl (fun K hK=>?_)
    have hz2:=hS.z3
    have hl2:(bif fL 3 then sc else Rl.zero).length=sc.length:=by rw [hf,hsl];rfl
    refine wp_store_part 33 _ _ rfl (w.heap.size+1) 0 sc rfl rfl hz2 (by rw [hl2];omega) (by rw [hsl];kernel_rfl) hso ?_
    intro w9 hg9 D9
    rw [fill_all _ _ hl2] at D9
    exact hK _ _ ⟨_,_,rfl,hS.s3 h5 h6 hg9 D9,q0,fun _=>rfl⟩
  rintro fL bA v ⟨v35,v36,rfl,hS,q0,q1⟩ hall
  simp only [Act.put,List.setIfInBounds_toArray,List.set_cons_zero,List.set_cons_succ]
  simp only [List.length_cons,List.length_nil] at hall
  obtain rfl:=q0 (hall 0 (by omega))
  obtain rfl:=q1 (hall 1 (by omega))
  have e2:fL 2=true:=hall 2 (by omega)
  have e3:fL 3=true:=hall 3 (by omega)
  clear hall
  rw [e2,e3] at hS
  go_wp2_with fail
  refine bodyPost_ret (res_cells2 (j:=2) (k:=3) (us:=rd) (vs:=sc) Tryz.results22 rfl rfl (aggRe v) (by rw [hrl];exact szReC v) hS.z2 (aggRe v) (by rw [hsl];exact szReC v) hS.z3) rfl ⟨r,s,B,C,d,k,by rw [hrr.out,hsc.out],RlS.in_ hr hS.pr,RlS.in_ hs hS.ps,hS.hb⟩
end Go.Proofs.YtednjmldjbndhaaGreatDoor
