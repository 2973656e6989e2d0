/- The reference's draws of the laws on catalogues and on the marks of releases. Condition: the code has at most 4096 bytes. -/
import Derived.Test.YtednjmldjbndhaaGreatDoorKMr40
set_option linter.unusedSimpArgs false
set_option linter.unusedVariables false
set_option maxRecDepth 100000
set_option maxHeartbeats 8000000
namespace Go.Proofs.YtednjmldjbndhaaGreatDoor
open Go.RowKit
theorem res_cells2 {P:Program} {fn:Func} {tm:Array Value} {j k:Nat} {t s:TypeId} {g h:Nat} {w:World} {us vs:List Value} {t' s':TypeId} (hr:fn.results=#[.cell j s,.cell k t]) (hj:tm.getD j undef=.pointer (some ⟨h,0,none⟩))
  (ht:tm.getD k undef=.pointer (some ⟨g,0,none⟩)) (hA':(isAgg s).run P w=.ok true w) (hS':(sizeOf s).run P w=.ok us.length w) (hB':Blk w h s' us.toArray) (hA:(isAgg t).run P w=.ok true w) (hS:(sizeOf t).run P w=.ok vs.length w) (hB:Blk w g t' vs.toArray) :
  (results fn tm).run P w=.ok (.tuple #[.agg us.toArray,.agg vs.toArray]) w:=by
 have hl:=run_loadCells_list (P:=P) w ⟨g,0,none⟩ vs (fun j v hv=>by
  have:=hB.cell j
  rw [show (⟨g,0,none⟩:Addr).add j=⟨g,j,none⟩ by cases j <;> simp [Addr.add],this]
  simpa using hv)
 have hm:=run_loadCells_list (P:=P) w ⟨h,0,none⟩ us (fun j v hv=>by
  have:=hB'.cell j
  rw [show (⟨h,0,none⟩:Addr).add j=⟨h,j,none⟩ by cases j <;> simp [Addr.add],this]
  simpa using hv)
 unfold loadCells at hl hm
 rw [Array.getD_eq_getD_getElem?] at ht hj
 unfold results
 rw [hr]
 simp [asAddr,loadVar,ht,hj,hA,hS,hl,hA',hS',hm,go_sem,List.mapM_cons]
def DKe (w:World) (e:Ending) (w':World):Prop:=∃ (es:List EnR) (Al:Option Addr) (cl:Nat),e=.returned (.slice Al es.length cl)∧EnsIn w' Al es∧(es.length ≤ 13∧es.length ≤ cl)∧Below w.heap.size w w'
def DLa (w:World) (e:Ending) (w':World):Prop:=∃ (es:List EnR) (Al:Option Addr) (cl:Nat) (t:ByteArray),e=.returned (.tuple #[.slice Al es.length cl,.string t])∧EnsIn w' Al es∧(es.length ≤ 13∧es.length ≤ cl)∧t.size ≤ 100∧Below w.heap.size w w'
def DMr (w:World) (e:Ending) (w':World):Prop:=∃ (r:Rl) (B:Option Addr) (d:Nat),e=.returned (.agg (r.cells B d).toArray)∧RlIn w' B d r∧Below w.heap.size w w'
def DCb (w:World) (e:Ending) (w':World):Prop:=∃ (r s:Rl) (B C:Option Addr) (d k:Nat),e=.returned (.tuple #[.agg (r.cells B d).toArray,.agg (s.cells C k).toArray])∧RlIn w' B d r∧RlIn w' C k s∧Below w.heap.size w w'
theorem drawTitles_c (A:Option Addr) (n c:Nat) (w:World) (hn:n ≤ 4096) (hb:Bytes w A n w.heap.size):Calls Tryz.prog 31 #[.slice A n c] w (DKe w):=by
 have hF:=Lib.hid (l01From_c A n c w hn hb)
 clear hb
 unfold DKe
 go_enter Tryz.func31,Tryz.ntmps31
 go_wp2_with fail
 refine hF.out.mono ?_;rintro e w4 ⟨rfl,hS,hB⟩
 clear hF
 go_wp2_with fail
 refine (l33Draw_c A n c _ _ hS).mono ?_;rintro e w5 ⟨es,Al,cl,rfl,hE,hS5,hg⟩
 have hB5:=below_src hB hg hB.size (Nat.le_refl _)
 clear hS hg hB
 go_wp2
 go_ret
 exact ⟨es,Al,cl,rfl,hE.in_,⟨hE.n,by have:=hE.o.le_cap;simpa using this⟩,hB5⟩
theorem drawMarkOf_c (A:Option Addr) (n c:Nat) (w:World) (hn:n ≤ 4096) (hb:Bytes w A n w.heap.size):Calls Tryz.prog 25 #[.slice A n c] w (DMr w):=by
 have B0:=Blk.new w 33 #[.int .i64 0,.int .i64 0,.string ⟨#[]⟩,.slice none 0 0,.int .i64 0,.int .i64 0,.int .i64 0,.int .i64 0,.int .i64 0,.int .i64 0,.int .i64 0,.int .i64 0,.int .i64 0,.int .i64 0,.int .i64 0,.int .i64 0,.int .i64 0]
 have hal:Below w.heap.size w (w.alloc (.cells #[.int .i64 0,.int .i64 0,.string ⟨#[]⟩,.slice none 0 0,.int .i64 0,.int .i64 0,.int .i64 0,.int .i64 0,.int .i64 0,.int .i64 0,.int .i64 0,.int .i64 0,.int .i64 0,.int .i64 0,.int .i64 0,.int .i64 0,.int .i64 0] 33)):=(Below.refl _ _).alloc (Nat.le_refl _) _
 have hF:=Lib.hid (l01From_c A n c (w.alloc (.cells #[.int .i64 0,.int .i64 0,.string ⟨#[]⟩,.slice none 0 0,.int .i64 0,.int .i64 0,.int .i64 0,.int .i64 0,.int .i64 0,.int .i64 0,.int .i64 0,.int .i64 0,.int .i64 0,.int .i64 0,.int .i64 0,.int .i64 0,.int .i64 0] 33)) hn ((hb.keep fun p hp=>hal.cell hp).more hal.size))
 have hz:(w.alloc (.cells #[.int .i64 0,.int .i64 0,.string ⟨#[]⟩,.slice none 0 0,.int .i64 0,.int .i64 0,.int .i64 0,.int .i64 0,.int .i64 0,.int .i64 0,.int .i64 0,.int .i64 0,.int .i64 0,.int .i64 0,.int .i64 0,.int .i64 0,.int .i64 0] 33)).heap.size=w.heap.size+1:=by simp
 clear hb
 unfold DMr
 go_enter Tryz.func25,Tryz.ntmps25
 go_wp2_with fail
 generalize w.alloc (.cells #[.int .i64 0,.int .i64 0,.string ⟨#[]⟩,.slice none 0 0,.int .i64 0,.int .i64 0,.int .i64 0,.int .i64 0,.int .i64 0,.int .i64 0,.int .i64 0,.int .i64 0,.int .i64 0,.int .i64 0,.int .i64 0,.int .i64 0,.int .i64 0] 33)=w3 at *
 refine hF.out.mono ?_;rintro e w4 ⟨rfl,hS,hB⟩
 clear hF
 have hB4:=hal.trans (hB.mono (by omega))
 replace B0:=B0.below hB (by omega)
 clear hB hal
 rw [hz] at hS
 rw [hz]
 clear hz
 go_wp2_with fail
 refine (l27Draw_c A n c _ _ hS).mono ?_;rintro e w6 ⟨r,B,d,rfl,hr,P,hS6,hg6⟩
 have hB6:=below_src hB4 hg6 hB4.size (Nat.le_succ _)
 replace B0:=B0.src hg6 (by omega)
 have hgl:=hS.lt
 clear hg6 hB4 hS hS6
 have hfl:(r.cells B d).length=17:=rfl
 have hfo:=Rl.one r B d
 have hIn:=Lib.hid hr
 generalize hfc:r.cells B d=fc at *
 replace hfc:=Lib.hid hfc
 go_wp2_with (refine wpList_store_part rfl 33 _ _ rfl w.heap.size 0 fc rfl rfl B0 (by rw [hfl];simp) (by rw [hfl];kernel_rfl) hfo ?_;intro w9 hg9 D9;refine Hid.out ?_)
 refine Lib.hid ?_
 have R9:Blk w9 w.heap.size 33 fc.toArray:=by
  have h:=fill_mid fc [Value.int .i64 0,.int .i64 0,.string ⟨#[]⟩,.slice none 0 0,.int .i64 0,.int .i64 0,.int .i64 0,.int .i64 0,.int .i64 0,.int .i64 0,.int .i64 0,.int .i64 0,.int .i64 0,.int .i64 0,.int .i64 0,.int .i64 0,.int .i64 0] [] [] (by rw [hfl];rfl)
  simp only [List.nil_append,List.append_nil,List.length_nil] at h
  rw [← h]
  exact D9
 have P9:=P.keep_ hg9.size (fun b' off e hb1 hb2=>hg9.block b' hb1 (fun e2=>by simp only [Option.some.injEq] at e2;omega))
 have hB9:=hB6.grown hg9 hB6.size (fun r e=>by cases e;exact Nat.le_refl _)
 clear D9 B0 P hB6 hg9
 go_wp2_with fail
 refine bodyPost_ret (res_cells (k:=2) (vs:=fc) Tryz.results25 rfl (aggRe w9) (by rw [hfl];exact szReC w9) R9) rfl ⟨r,B,d,by rw [hfc.out],RlS.in_ hIn.out P9,hB9⟩
def tit4b:Array Value:=#[.string ⟨#[118,111,108,116]⟩,.string ⟨#[102,108,111,119]⟩,.string ⟨#[119,105,110,100]⟩,.string ⟨#[110,111,110,101]⟩]
theorem tit4b_at {r:Nat} (h:r < 4):∃ y:ByteArray,tit4b[r]?=some (.string y)∧y.size ≤ 100:=by
 have:r=0 ∨ r=1 ∨ r=2 ∨ r=3:=by omega
 rcases this with rfl | rfl | rfl | rfl
 all_goals exact ⟨_,rfl,by decide⟩
structure LaS (A:Option Addr) (n c g lo:Nat) (w w5:World) (V:Value) (es:List EnR) (v:World):Prop where
 s:Src v A n c g
 b:Below w.heap.size w v
 l:EnsD v lo V es
theorem drawLatestOf_c (A:Option Addr) (n c:Nat) (w:World) (hn:n ≤ 4096) (hb:Bytes w A n w.heap.size):Calls Tryz.prog 28 #[.slice A n c] w (DLa w):=by
 have hF:=Lib.hid (l01From_c A n c w hn hb)
 clear hb
 unfold DLa
 go_enter Tryz.func28,Tryz.ntmps28
 go_wp2_with fail
 refine hF.out.mono ?_;rintro e w4 ⟨rfl,hS,hB⟩
 clear hF
 go_wp2_with fail
 refine (l33Draw_c A n c _ _ hS).mono ?_;rintro e w5 ⟨es,Al,cl,rfl,hE,hS5,hg⟩
 have hB5:=below_src hB hg hB.size (Nat.le_refl _)
 have hgl:=hS.lt
 have hg0:w.heap.size < w5.heap.size:=hS5.lt
 clear hS hg hB
 go_upto_region 3 with fail
 have h1:LaS A n c w.heap.size w4.heap.size w w5 (.slice Al es.length cl) es w5.drew:=⟨hS5.keep fun _ _=>rfl,hB5.drew,hE.below (Below.refl _ _).drew⟩
 clear hE hS5 hB5
 refine wp_region_sink 7 (fun a0 fL bA v=>∃ v10 v11 v12 v13 v14 v15 v2:Value,bA=((((((a0.put (some 10) v10).put (some 11) v11).put (some 12) v12).put (some 13) v13).put (some 14) v14).put (some 15) v15).put (some 2) v2∧(PkS (LaS A n c w.heap.size w4.heap.size w w5 (.slice Al es.length cl) es) tit4b 4 w.heap.size (fL 1) (fL 3) (fL 4) (fL 5) v11 v13 v14 v15 v)∧(fL 0=true→v10=.slice Al es.length cl)∧(fL 1=true→True)∧(fL 2=true→v12=.pointer (some ⟨w.heap.size,0,none⟩))∧(fL 3=true→True)∧(fL 4=true→True)∧(fL 5=true→True)∧(fL 6=true→v2=.slice Al es.length cl)) (by kernel_rfl) (by decide +kernel) ?_ ?_ ?_
 ·exact ⟨_,_,_,_,_,_,_,put_more (put_more (put_more (put_more (put_more (put_more (put_more (rfl) 10) 11) 12) 13) 14) 15) 2,PkS.start h1 hg0,nofun,nofun,nofun,nofun,nofun,nofun,nofun⟩
 ·rintro fL bA v ⟨v10,v11,v12,v13,v14,v15,v2,rfl,hS,q0,q1,q2,q3,q4,q5,q6⟩ i hi hf o ho hall
  simp only [Act.put,List.setIfInBounds_toArray,List.set_cons_zero,List.set_cons_succ]
  have hn:i=0 ∨ i=1 ∨ i=2 ∨ i=3 ∨ i=4 ∨ i=5 ∨ i=6:=by omega
  clear hi
  rcases hn with rfl | rfl | rfl | rfl | rfl | rfl | rfl
  ·obtain rfl:=Option.some.inj ho
   clear hall ho
   refine wpOp_step rfl (fun K hK=>?_)
   go_simp
   exact hK _ _ ⟨_,_,_,_,_,_,_,rfl,hS,fun _=>rfl,fun _=>trivial,q2,fun _=>trivial,fun _=>trivial,fun _=>trivial,q6⟩
  ·obtain rfl:=Option.some.inj ho
   clear hall ho
   refine wpOp_step rfl (fun K hK=>?_)
   go_simp
   exact hK _ _ ⟨_,_,_,_,_,_,_,rfl,hS.mk1 ⟨hS.i.s.alloc _,hS.i.b.alloc hS.i.b.size _,hS.i.l.alloc _⟩,q0,fun _=>trivial,q2,fun _=>trivial,fun _=>trivial,fun _=>trivial,q6⟩
  ·obtain rfl:=Option.some.inj ho
   clear hall ho
   refine wpOp_step rfl (fun K hK=>?_)
   go_simp
   exact hK _ _ ⟨_,_,_,_,_,_,_,rfl,hS,q0,fun _=>trivial,fun _=>rfl,fun _=>trivial,fun _=>trivial,fun _=>trivial,q6⟩
  ·obtain rfl:=Option.some.inj ho
   obtain rfl:=q2 (hall ⟨2,.data⟩ (by simp) rfl)
   clear hall ho
   refine wpOp_step rfl (fun K hK=>?_)
   go_simp
   refine Calls.mono (l01Next_c A n c w.heap.size 4 v hS.i.s) ?_;rintro e w6 ⟨qq,rfl,⟨qa1,qa2⟩,qd,hS5,hg5⟩
   obtain ⟨r,rfl⟩:=Int.eq_ofNat_of_zero_le qa1
   go_simp
   exact hK _ _ ⟨_,_,_,_,_,_,_,rfl,hS.pick r (by omega) hg5 ⟨hS5,below_src hS.i.b hg5 hS.i.b.size (Nat.le_refl _),hS.i.l.src hg5 hgl⟩,q0,fun _=>trivial,fun _=>rfl,fun _=>trivial,fun _=>trivial,fun _=>trivial,q6⟩
  ·obtain rfl:=Option.some.inj ho
   have e1:fL 1=true:=hall ⟨1,.data⟩ (by simp) rfl
   have e3:fL 3=true:=hall ⟨3,.data⟩ (by simp) rfl
   obtain ⟨bb,rfl,hB1,hn1⟩:=hS.qA e1
   obtain ⟨r,hr,rfl⟩:=hS.qI e3
   have hr2:(r:Int) < 4:=by omega
   clear hall ho
   refine wpOp_step rfl (fun K hK=>?_)
   go_simp
   exact hK _ _ ⟨_,_,_,_,_,_,_,rfl,hS.ix hr hB1 hn1,q0,fun _=>trivial,q2,fun _=>trivial,fun _=>trivial,fun _=>trivial,q6⟩
  ·obtain rfl:=Option.some.inj ho
   have e4:fL 4=true:=hall ⟨4,.data⟩ (by simp) rfl
   obtain ⟨r,bb,hr,rfl,hB1,hn1⟩:=hS.qP e4
   obtain ⟨y,hy,hysz⟩:=tit4b_at hr
   have yc:v.cell? ⟨bb,r,none⟩=some (.string y):=hB1.cl r hy
   clear hall ho
   refine wpOp_step rfl (fun K hK=>?_)
   go_simp
   exact hK _ _ ⟨_,_,_,_,_,_,_,rfl,hS.ld hr hy,q0,fun _=>trivial,q2,fun _=>trivial,fun _=>trivial,fun _=>trivial,q6⟩
  ·obtain rfl:=Option.some.inj ho
   obtain rfl:=q0 (hall ⟨0,.data⟩ (by simp) rfl)
   clear hall ho
   refine wpOp_step rfl (fun K hK=>?_)
   go_simp
   exact hK _ _ ⟨_,_,_,_,_,_,_,rfl,hS,fun _=>rfl,fun _=>trivial,q2,fun _=>trivial,fun _=>trivial,fun _=>trivial,fun _=>rfl⟩
 rintro fL bA v ⟨v10,v11,v12,v13,v14,v15,v2,rfl,hS,q0,q1,q2,q3,q4,q5,q6⟩ hall
 simp only [Act.put,List.setIfInBounds_toArray,List.set_cons_zero,List.set_cons_succ]
 obtain rfl:=q0 (hall 0 (by omega))
 have e1:fL 1=true:=hall 1 (by omega)
 obtain rfl:=q2 (hall 2 (by omega))
 have e3:fL 3=true:=hall 3 (by omega)
 have e4:fL 4=true:=hall 4 (by omega)
 have e5:fL 5=true:=hall 5 (by omega)
 obtain rfl:=q6 (hall 6 (by omega))
 clear hall
 simp only [List.drop_succ_cons,List.drop_zero]
 obtain ⟨rr,ti,hrr,hti,rfl⟩:=hS.qT e5
 have htz:ti.size ≤ 100:=(tit4b_at hrr).elim fun y h=>by rw [hti] at h;cases h.1;exact h.2
 have hE8:=hS.i.l
 have hB8:=hS.i.b
 clear hS h1 hti
 go_wp2
 go_ret2
 exact ⟨es,Al,cl,_,rfl,hE8.in_,⟨hE8.n,by have:=hE8.o.le_cap;simpa using this⟩,htz,hB8⟩
end Go.Proofs.YtednjmldjbndhaaGreatDoor
