/- The laws' comparisons of charts, releases, lists of entries and of texts. Conditions: the lengths. -/
import Derived.Test.YtednjmldjbndhaaGreatDoorKMr20
import Derived.Test.YtednjmldjbndhaaGreatDoorKMr27
set_option linter.unusedSimpArgs false
set_option linter.unusedVariables false
set_option maxRecDepth 100000
set_option maxHeartbeats 8000000
namespace Go.Proofs.YtednjmldjbndhaaGreatDoor
open Go.RowKit
theorem likeCharts_c (fd ft:Int) (s:ByteArray) (A:Option Addr) (c:Nat) (l:List Int) (wd lf rt fd' ft':Int) (s':ByteArray) (A':Option Addr) (c':Nat) (l':List Int) (wd' lf' rt':Int) (w:World) (hl:l.length ≤ 1048576) (hl':l'.length ≤ 1048576) (hs:Sl w w.heap.size 1 A (l.map ic)) (hs':Sl w w.heap.size 1 A' (l'.map ic)) :
  Calls Tryz.prog 63 #[.agg #[.int .i64 fd,.int .i64 ft,.string s,.slice A l.length c,.int .i64 wd,.int .i64 lf,.int .i64 rt],.agg #[.int .i64 fd',.int .i64 ft',.string s',.slice A' l'.length c',.int .i64 wd',.int .i64 lf',.int .i64 rt']] w fun e w'=>e=.returned (.bool (sameFB fd ft s l fd' ft' s' l' && (wd == wd') && (lf == lf') && (rt == rt')))∧Below w.heap.size w w':=by
 have hW:Below w.heap.size w ((w.alloc (.cells #[.int .i64 fd,.int .i64 ft,.string s,.slice A l.length c,.int .i64 wd,.int .i64 lf,.int .i64 rt] 31)).alloc (.cells #[.int .i64 fd',.int .i64 ft',.string s',.slice A' l'.length c',.int .i64 wd',.int .i64 lf',.int .i64 rt'] 31)):=(by repeat first | with_reducible (first | exact Below.refl _ _ | apply below_drewN' | apply Below.drew | refine Below.alloc ?_ ?_ _ | refine Below.setCell ?_ ?_ _) | exact Below.refl _ _ | omega | (simp <;> omega) | (have:=(Below.refl _ _).size;first | omega | (simp <;> omega)))
 have B1:=(Blk.new w 31 #[.int .i64 fd,.int .i64 ft,.string s,.slice A l.length c,.int .i64 wd,.int .i64 lf,.int .i64 rt]).alloc (.cells #[.int .i64 fd',.int .i64 ft',.string s',.slice A' l'.length c',.int .i64 wd',.int .i64 lf',.int .i64 rt'] 31)
 have B2:=Blk.new' (w.alloc (.cells #[.int .i64 fd,.int .i64 ft,.string s,.slice A l.length c,.int .i64 wd,.int .i64 lf,.int .i64 rt] 31)) 31 #[.int .i64 fd',.int .i64 ft',.string s',.slice A' l'.length c',.int .i64 wd',.int .i64 lf',.int .i64 rt'] (g:=w.heap.size+1) (by simp)
 have hE:=Lib.hid (likeFormulas_c fd ft s A c l fd' ft' s' A' c' l' _ hl hl' ((hs.below hW).more hW.size) ((hs'.below hW).more hW.size))
 have hR:Hid (∀ a0 a1 a2 a3:Bool,(a0=false) ∨ (a0=true∧a1=false) ∨ (a0=true∧a1=true∧a2=false) ∨ (a0=true∧a1=true∧a2=true∧a3=false) ∨ (a0=true∧a1=true∧a2=true∧a3=true)):=Lib.hid (by decide)
 generalize sameFB fd ft s l fd' ft' s' l'=q0 at *
 generalize hq1:(wd == wd')=q1 at *
 generalize hq2:(lf == lf')=q2 at *
 generalize hq3:(rt == rt')=q3 at *
 clear hs hs'
 have HB1:=Lib.hid B1
 have HB2:=Lib.hid B2
 clear B1 B2
 rcases hR.out q0 q1 q2 q3 with rfl | ⟨rfl,rfl⟩ | ⟨rfl,rfl,rfl⟩ | ⟨rfl,rfl,rfl,rfl⟩ | ⟨rfl,rfl,rfl,rfl⟩
 all_goals
  go_enter Tryz.func63,Tryz.ntmps63
  go_wp2_with (go_at_call 94;refine Calls.mono hE.out ?_;rintro e w1 ⟨rfl,hb1⟩;have hW1:=hW.trans (hb1.mono hW.size);have B1:=HB1.out.below hb1 HB1.out.lt;have B2:=HB2.out.below hb1 HB2.out.lt;have x4:w1.cell? ⟨w.heap.size,4,none⟩=some (.int .i64 wd):=B1.cell 4;have y4:w1.cell? ⟨w.heap.size+1,4,none⟩=some (.int .i64 wd'):=B2.cell 4;have x5:w1.cell? ⟨w.heap.size,5,none⟩=some (.int .i64 lf):=B1.cell 5;have y5:w1.cell? ⟨w.heap.size+1,5,none⟩=some (.int .i64 lf'):=B2.cell 5;have x6:w1.cell? ⟨w.heap.size,6,none⟩=some (.int .i64 rt):=B1.cell 6;have y6:w1.cell? ⟨w.heap.size+1,6,none⟩=some (.int .i64 rt'):=B2.cell 6;clear B1 B2 hb1)
  go_ret
  exact ⟨rfl,hW1⟩
theorem alike_all (a b:Rl):(alike a b).all id=(sameFB a.fd a.ft a.nm a.l b.fd b.ft b.nm b.l && (a.wd == b.wd) && (a.lf == b.lf) && (a.rt == b.rt) && (decide (a.lud=b.lud) && decide (a.lut=b.lut)) && (decide (a.hud=b.hud) && decide (a.hut=b.hut)) && (decide (a.lvd=b.lvd) && decide (a.lvt=b.lvt)) && (decide (a.hvd=b.hvd) && decide (a.hvt=b.hvt)) && (a.ey == b.ey) && (a.bo == b.bo)):=by
 unfold alike
 simp only [List.all_cons,List.all_nil,id,Bool.and_true,Bool.and_assoc]
theorem likeRl_c (r:Rl) (A:Option Addr) (c:Nat) (s:Rl) (A':Option Addr) (c':Nat) (w:World) (E:RlIn w A c r) (E':RlIn w A' c' s) :
  Calls Tryz.prog 35 #[.agg (r.cells A c).toArray,.agg (s.cells A' c').toArray] w fun e w'=>e=.returned (.bool ((alike r s).all id))∧Below w.heap.size w w':=by
 have hW:Below w.heap.size w ((w.alloc (.cells (r.cells A c).toArray 33)).alloc (.cells (s.cells A' c').toArray 33)):=(by repeat first | with_reducible (first | exact Below.refl _ _ | apply below_drewN' | apply Below.drew | refine Below.alloc ?_ ?_ _ | refine Below.setCell ?_ ?_ _) | exact Below.refl _ _ | omega | (simp <;> omega) | (have:=(Below.refl _ _).size;first | omega | (simp <;> omega)))
 have B1:=(Blk.new w 33 (r.cells A c).toArray).alloc (.cells (s.cells A' c').toArray 33)
 have B2:=Blk.new' (w.alloc (.cells (r.cells A c).toArray 33)) 33 (s.cells A' c').toArray (g:=w.heap.size+1) (by simp)
 have hE:=Lib.hid (fun W (hW:Below w.heap.size w W)=>likeCharts_c r.fd r.ft r.nm A c r.l r.wd r.lf r.rt s.fd s.ft s.nm A' c' s.l s.wd s.lf s.rt W E.h E'.h (E.later hW).s (E'.later hW).s)
 have hp1:∀ W,Blk W w.heap.size 33 (r.cells A c).toArray→W.rangeAt w.heap.size 0 [.int .i64 r.fd,.int .i64 r.ft,.string r.nm,.slice A r.l.length c,.int .i64 r.wd,.int .i64 r.lf,.int .i64 r.rt]:=fun W h=>Blk.part (xs:=[]) (ys:=[.int .i64 r.lud,.int .i64 r.lut,.int .i64 r.hud,.int .i64 r.hut,.int .i64 r.lvd,.int .i64 r.lvt,.int .i64 r.hvd,.int .i64 r.hvt,.int .i64 r.ey,.int .i64 r.bo]) h rfl
 have hp2:∀ W,Blk W (w.heap.size+1) 33 (s.cells A' c').toArray→W.rangeAt (w.heap.size+1) 0 [.int .i64 s.fd,.int .i64 s.ft,.string s.nm,.slice A' s.l.length c',.int .i64 s.wd,.int .i64 s.lf,.int .i64 s.rt]:=fun W h=>Blk.part (xs:=[]) (ys:=[.int .i64 s.lud,.int .i64 s.lut,.int .i64 s.hud,.int .i64 s.hut,.int .i64 s.lvd,.int .i64 s.lvt,.int .i64 s.hvd,.int .i64 s.hvt,.int .i64 s.ey,.int .i64 s.bo]) h rfl
 have r1:=hp1 _ B1
 have r2:=hp2 _ B2
 have hF1:=eqFig2 r.lud r.lut s.lud s.lut
 have hF2:=eqFig2 r.hud r.hut s.hud s.hut
 have hF3:=eqFig2 r.lvd r.lvt s.lvd s.lvt
 have hF4:=eqFig2 r.hvd r.hvt s.hvd s.hvt
 have hG:Tryz.prog.eqGuardType Tryz.prog.depth 26=false:=by kernel_rfl
 have hR:Hid (∀ a0 a1 a2 a3 a4 a5 a6:Bool,(a0=false) ∨ (a0=true∧a1=false) ∨ (a0=true∧a1=true∧a2=false) ∨ (a0=true∧a1=true∧a2=true∧a3=false) ∨ (a0=true∧a1=true∧a2=true∧a3=true∧a4=false) ∨ (a0=true∧a1=true∧a2=true∧a3=true∧a4=true∧a5=false) ∨ (a0=true∧a1=true∧a2=true∧a3=true∧a4=true∧a5=true∧a6=false) ∨ (a0=true∧a1=true∧a2=true∧a3=true∧a4=true∧a5=true∧a6=true)):=Lib.hid (fun a0 a1 a2 a3 a4 a5 a6=>by cases a0 with | false=>exact .inl rfl | true=>cases a1 with | false=>exact .inr (.inl ⟨rfl,rfl⟩) | true=>cases a2 with | false=>exact .inr (.inr (.inl ⟨rfl,rfl,rfl⟩)) | true=>cases a3 with | false=>exact .inr (.inr (.inr (.inl ⟨rfl,rfl,rfl,rfl⟩))) | true=>cases a4 with | false=>exact .inr (.inr (.inr (.inr (.inl ⟨rfl,rfl,rfl,rfl,rfl⟩)))) | true=>cases a5 with | false=>exact .inr (.inr (.inr (.inr (.inr (.inl ⟨rfl,rfl,rfl,rfl,rfl,rfl⟩))))) | true=>cases a6 with | false=>exact .inr (.inr (.inr (.inr (.inr (.inr (.inl ⟨rfl,rfl,rfl,rfl,rfl,rfl,rfl⟩)))))) | true=>exact .inr (.inr (.inr (.inr (.inr (.inr (.inr ⟨rfl,rfl,rfl,rfl,rfl,rfl,rfl⟩)))))))
 rw [alike_all]
 clear E E' hp1 hp2
 generalize (sameFB r.fd r.ft r.nm r.l s.fd s.ft s.nm s.l && (r.wd == s.wd) && (r.lf == s.lf) && (r.rt == s.rt))=q0 at *
 generalize (decide (r.lud=s.lud) && decide (r.lut=s.lut))=q1 at *
 generalize (decide (r.hud=s.hud) && decide (r.hut=s.hut))=q2 at *
 generalize (decide (r.lvd=s.lvd) && decide (r.lvt=s.lvt))=q3 at *
 generalize (decide (r.hvd=s.hvd) && decide (r.hvt=s.hvt))=q4 at *
 generalize hq5:(r.ey == s.ey)=q5 at *
 generalize hq6:(r.bo == s.bo)=q6 at *
 have HB1:=Lib.hid B1
 have HC1:Hid (∀ W,Blk W w.heap.size 33 (r.cells A c).toArray→∀ j u,(r.cells A c)[j]?=some u→W.cell? ⟨w.heap.size,j,none⟩=some u):=Lib.hid fun W h j u hu=>(h.cell j).trans (by simpa using hu)
 have HC2:Hid (∀ W,Blk W (w.heap.size+1) 33 (s.cells A' c').toArray→∀ j u,(s.cells A' c')[j]?=some u→W.cell? ⟨w.heap.size+1,j,none⟩=some u):=Lib.hid fun W h j u hu=>(h.cell j).trans (by simpa using hu)
 have HB2:=Lib.hid B2
 clear B1 B2
 have z7:(r.cells A c)[7]?=some (.int .i64 r.lud):=rfl
 have u7:(s.cells A' c')[7]?=some (.int .i64 s.lud):=rfl
 have z8:(r.cells A c)[8]?=some (.int .i64 r.lut):=rfl
 have u8:(s.cells A' c')[8]?=some (.int .i64 s.lut):=rfl
 have z9:(r.cells A c)[9]?=some (.int .i64 r.hud):=rfl
 have u9:(s.cells A' c')[9]?=some (.int .i64 s.hud):=rfl
 have z10:(r.cells A c)[10]?=some (.int .i64 r.hut):=rfl
 have u10:(s.cells A' c')[10]?=some (.int .i64 s.hut):=rfl
 have z11:(r.cells A c)[11]?=some (.int .i64 r.lvd):=rfl
 have u11:(s.cells A' c')[11]?=some (.int .i64 s.lvd):=rfl
 have z12:(r.cells A c)[12]?=some (.int .i64 r.lvt):=rfl
 have u12:(s.cells A' c')[12]?=some (.int .i64 s.lvt):=rfl
 have z13:(r.cells A c)[13]?=some (.int .i64 r.hvd):=rfl
 have u13:(s.cells A' c')[13]?=some (.int .i64 s.hvd):=rfl
 have z14:(r.cells A c)[14]?=some (.int .i64 r.hvt):=rfl
 have u14:(s.cells A' c')[14]?=some (.int .i64 s.hvt):=rfl
 have z15:(r.cells A c)[15]?=some (.int .i64 r.ey):=rfl
 have u15:(s.cells A' c')[15]?=some (.int .i64 s.ey):=rfl
 have z16:(r.cells A c)[16]?=some (.int .i64 r.bo):=rfl
 have u16:(s.cells A' c')[16]?=some (.int .i64 s.bo):=rfl
 generalize r.cells A c=ca at *
 generalize s.cells A' c'=cb at *
 rcases hR.out q0 q1 q2 q3 q4 q5 q6 with rfl | ⟨rfl,rfl⟩ | ⟨rfl,rfl,rfl⟩ | ⟨rfl,rfl,rfl,rfl⟩ | ⟨rfl,rfl,rfl,rfl,rfl⟩ | ⟨rfl,rfl,rfl,rfl,rfl,rfl⟩ | ⟨rfl,rfl,rfl,rfl,rfl,rfl,rfl⟩ | ⟨rfl,rfl,rfl,rfl,rfl,rfl,rfl⟩
 all_goals
  go_enter Tryz.func35,Tryz.ntmps35
  go_wp2_with (first | (refine wpList_load_mid rfl 31 _ rfl (w.heap.size) 0 rfl ([Value.int .i64 r.fd,.int .i64 r.ft,.string r.nm,.slice A r.l.length c,.int .i64 r.wd,.int .i64 r.lf,.int .i64 r.rt]) _ r1 Tryz.underlying31 rfl (by kernel_rfl) ?_) | (refine wpList_load_mid rfl 31 _ rfl (w.heap.size+1) 0 rfl ([Value.int .i64 s.fd,.int .i64 s.ft,.string s.nm,.slice A' s.l.length c',.int .i64 s.wd,.int .i64 s.lf,.int .i64 s.rt]) _ r2 Tryz.underlying31 rfl (by kernel_rfl) ?_) | (go_at_call 63;refine Calls.mono (hE.out _ hW) ?_;rintro e w1 ⟨rfl,hb1⟩;have hW1:=hW.trans (hb1.mono hW.size);have B1:=HB1.out.below hb1 HB1.out.lt;have B2:=HB2.out.below hb1 HB2.out.lt;have x7:w1.cell? ⟨w.heap.size,7,none⟩=some (.int .i64 r.lud):=HC1.out _ B1 7 _ z7;have y7:w1.cell? ⟨w.heap.size+1,7,none⟩=some (.int .i64 s.lud):=HC2.out _ B2 7 _ u7;have x8:w1.cell? ⟨w.heap.size,8,none⟩=some (.int .i64 r.lut):=HC1.out _ B1 8 _ z8;have y8:w1.cell? ⟨w.heap.size+1,8,none⟩=some (.int .i64 s.lut):=HC2.out _ B2 8 _ u8;have x9:w1.cell? ⟨w.heap.size,9,none⟩=some (.int .i64 r.hud):=HC1.out _ B1 9 _ z9;have y9:w1.cell? ⟨w.heap.size+1,9,none⟩=some (.int .i64 s.hud):=HC2.out _ B2 9 _ u9;have x10:w1.cell? ⟨w.heap.size,10,none⟩=some (.int .i64 r.hut):=HC1.out _ B1 10 _ z10;have y10:w1.cell? ⟨w.heap.size+1,10,none⟩=some (.int .i64 s.hut):=HC2.out _ B2 10 _ u10;have x11:w1.cell? ⟨w.heap.size,11,none⟩=some (.int .i64 r.lvd):=HC1.out _ B1 11 _ z11;have y11:w1.cell? ⟨w.heap.size+1,11,none⟩=some (.int .i64 s.lvd):=HC2.out _ B2 11 _ u11;have x12:w1.cell? ⟨w.heap.size,12,none⟩=some (.int .i64 r.lvt):=HC1.out _ B1 12 _ z12;have y12:w1.cell? ⟨w.heap.size+1,12,none⟩=some (.int .i64 s.lvt):=HC2.out _ B2 12 _ u12;have x13:w1.cell? ⟨w.heap.size,13,none⟩=some (.int .i64 r.hvd):=HC1.out _ B1 13 _ z13;have y13:w1.cell? ⟨w.heap.size+1,13,none⟩=some (.int .i64 s.hvd):=HC2.out _ B2 13 _ u13;have x14:w1.cell? ⟨w.heap.size,14,none⟩=some (.int .i64 r.hvt):=HC1.out _ B1 14 _ z14;have y14:w1.cell? ⟨w.heap.size+1,14,none⟩=some (.int .i64 s.hvt):=HC2.out _ B2 14 _ u14;have x15:w1.cell? ⟨w.heap.size,15,none⟩=some (.int .i64 r.ey):=HC1.out _ B1 15 _ z15;have y15:w1.cell? ⟨w.heap.size+1,15,none⟩=some (.int .i64 s.ey):=HC2.out _ B2 15 _ u15;have x16:w1.cell? ⟨w.heap.size,16,none⟩=some (.int .i64 r.bo):=HC1.out _ B1 16 _ z16;have y16:w1.cell? ⟨w.heap.size+1,16,none⟩=some (.int .i64 s.bo):=HC2.out _ B2 16 _ u16;clear B1 B2 hb1 r1 r2))
  go_ret
  exact ⟨rfl,hW1⟩
end Go.Proofs.YtednjmldjbndhaaGreatDoor
