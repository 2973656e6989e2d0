/- The latest entry of a title: the program's and the reference's. Conditions: the lengths. -/
import Derived.Test.YtednjmldjbndhaaGreatDoorKMr21
set_option linter.unusedSimpArgs false
set_option linter.unusedVariables false
set_option maxRecDepth 100000
set_option maxHeartbeats 8000000
namespace Go.Proofs.YtednjmldjbndhaaGreatDoor
open Go.RowKit
def newer (l:List En) (b:Int) (e:En):Bool:=match l[b.toNat]? with | some x=>decide (x.ve < e.ve) | none=>false
def bestTo (l:List En) (t:ByteArray):Nat→Int
 | 0=>-1
 | k+1=>match l[k]? with
  | some e=>if ((e.ti.toList == t.toList) && (decide (bestTo l t k < 0) || newer l (bestTo l t k) e))=true then (k:Int) else bestTo l t k
  | none=>bestTo l t k
theorem bestTo_bd (l:List En) (t:ByteArray):∀ k:Nat,-1 ≤ bestTo l t k∧bestTo l t k < (k:Int)
 | 0=>by simp [bestTo]
 | k+1=>by
  have ih:=bestTo_bd l t k
  unfold bestTo
  split
  ·split <;> omega
  ·omega
theorem bestTo_succ {l:List En} {t:ByteArray} {k:Nat} (hk:k < l.length):bestTo l t (k+1)=if ((l[k].ti.toList == t.toList) && (decide (bestTo l t k < 0) || newer l (bestTo l t k) l[k]))=true then (k:Int) else bestTo l t k:=by
 conv=>lhs;unfold bestTo
 rw [List.getElem?_eq_getElem hk]
def latN (l:List En) (t:ByteArray):Int:=if catB l=true then (if bestTo l t l.length < 0 then 0 else bestTo l t l.length) else 0
def latC (l:List En) (t:ByteArray):Int:=if catB l=true then (if bestTo l t l.length < 0 then 4 else 0) else 1
theorem implLatestOf_c (A:Option Addr) (c:Nat) (es:List EnR) (t:ByteArray) (w:World) (E:EnsIn w A es) (_hc:es.length ≤ c) :
  Calls Tryz.prog 29 #[.slice A es.length c,.string t] w fun x w'=>x=.returned (.tuple #[.int .i64 (latN (ens es) t),.int .i64 (latC (ens es) t)])∧Below w.heap.size w w':=by
 have hl:=E.n
 have hs:=E.s
 have HC:=Lib.hid (implIsCat_c A c es w E _hc)
 have hbd:=Lib.hid (bestTo_bd (ens es) t)
 have hst:=Lib.hid (fun k (hk:k < es.length)=>(bestTo_succ (l:=ens es) (t:=t) (k:=k) (by rw [ens_len];exact hk)).trans (by rw [ens_get hk]))
 have hnw:=Lib.hid (fun (m:Nat) (hm:m < es.length) (e:En)=>(by unfold newer;rw [Int.toNat_natCast,List.getElem?_eq_getElem (by rw [ens_len];exact hm),ens_get hm]:newer (ens es) (m:Int) e=decide (es[m].e.ve < e.ve)))
 have hR:Hid (latN (ens es) t=(if catB (ens es)=true then (if bestTo (ens es) t es.length < 0 then 0 else bestTo (ens es) t es.length) else 0)∧latC (ens es) t=(if catB (ens es)=true then (if bestTo (ens es) t es.length < 0 then 4 else 0) else 1)):=Lib.hid (by unfold latN latC;rw [ens_len];exact ⟨rfl,rfl⟩)
 clear E
 have hone:=Lib.hid (fun (x:EnR)=>x.e.one x.A x.c)
 generalize catB (ens es)=cb at *
 generalize latN (ens es) t=rn at *
 generalize latC (ens es) t=rc at *
 generalize hbe:bestTo (ens es) t=be at *
 replace hbe:=Lib.hid hbe
 cases cb with
 | false =>
  obtain ⟨rfl,rfl⟩:=hR.out
  go_enter Tryz.func29,Tryz.ntmps29
  go_wp2_with fail
  refine Calls.mono HC.out ?_;rintro x w1 ⟨rfl,hb1⟩
  go_wp2
  go_ret2
  exact ⟨rfl,hb1⟩
 | true =>
 go_enter Tryz.func29,Tryz.ntmps29
 go_wp2_with fail
 refine Calls.mono HC.out ?_;rintro x w1 ⟨rfl,hb1⟩
 have hbz:be 0=-1:=by rw [← hbe.out];rfl
 go_wp2_with fail
 go_loopw [6,14] (fun b i wr=>∃ k:Nat,k ≤ es.length∧i=.int .i64 k∧b=.int .i64 (be k)∧Below w.heap.size w wr) (fun _ i _=>es.length - (intOf i).toNat)
 case atStart=>exact ⟨0,Nat.zero_le _,rfl,by rw [hbz],hb1⟩
 case round =>
  obtain ⟨k,hk,rfl,rfl,hb⟩:=hrel
  have hbk:=hbd.out k
  by_cases hlt:k < es.length
  ·have hnx:=Lib.hid (hst.out k hlt)
   obtain ⟨b,off,rfl,hbB,hc'⟩:=hs.rg (i:=k) (by simpa using hlt)
   simp only [List.getElem_map] at hc'
   have hcl:es[k].cells.length=20:=rfl
   have hon:∀ v ∈ es[k].cells,v.oneCell'=true:=es[k].e.one es[k].A es[k].c
   have hk0:es[k].cells[0]?=some (.string es[k].e.ti):=rfl
   have hk1:es[k].cells[1]?=some (.int .i64 es[k].e.ve):=rfl
   have hnk:Hid (∀ m:Nat,be k=(m:Int)→(hm:m < es.length)→newer (ens es) (be k) es[k].e=decide (es[m].e.ve < es[k].e.ve)):=Lib.hid (fun m hbm hm=>by rw [hbm];exact hnw.out m hm es[k].e)
   replace hc':=rangeAt_below hc' hb hbB
   have hbw:Below wr.heap.size wr (wr.alloc (.cells es[k].cells.toArray 35)):=(Below.refl _ _).alloc (Nat.le_refl _) _
   have D0:=Blk.new wr 35 es[k].cells.toArray
   have x0:(wr.alloc (.cells es[k].cells.toArray 35)).cell? ⟨wr.heap.size,0,none⟩=some (.string es[k].e.ti):=D0.cell 0
   have x1:(wr.alloc (.cells es[k].cells.toArray 35)).cell? ⟨wr.heap.size,1,none⟩=some (.int .i64 es[k].e.ve):=D0.cell 1
   have hgl:=D0.lt
   clear D0
   generalize newer (ens es) (be k) es[k].e=nw at *
   generalize es[k].e.ti=tk at *
   generalize es[k].e.ve=vk at *
   generalize es[k].cells=cs at *
   go_wp2_with (first | (refine wpList_load_mid rfl 35 _ rfl (b) (off+k * 20) rfl (cs) _ hc' Tryz.underlying35 rfl (by kernel_rfl) ?_) | (refine wpList_store_new rfl _ _ rfl cs rfl rfl (by rw [hcl];kernel_rfl) (by rw [hcl];rfl) hon ?_) | fail)
   replace hb:=hb.trans (hbw.mono hb.size)
   clear hbw hc' hk0 hk1 hon hcl
   generalize wr.alloc (.cells cs.toArray 35)=W at *
   generalize wr.heap.size=g at *
   generalize cs.toArray=ca at *
   generalize be k=bk at *
   have hbl:b < W.heap.size:=Nat.lt_of_lt_of_le hbB hb.size
   cases hq:(tk.toList == t.toList) with
   | false =>
    replace hnx:Hid (be (k+1)=bk):=Lib.hid (hnx.out.trans (by rw [hq];rfl))
    refine wp_region_all (fun a0 fL bA v=>∃ v19 v20 v21 v22 v23 v24 v25 v26 v27 v28 v29 v30 v31 v32 v33 v34 v35 v36:Value,bA=(((((((((((((((((a0.put (some 19) v19).put (some 20) v20).put (some 21) v21).put (some 22) v22).put (some 23) v23).put (some 24) v24).put (some 25) v25).put (some 26) v26).put (some 27) v27).put (some 28) v28).put (some 29) v29).put (some 30) v30).put (some 31) v31).put (some 32) v32).put (some 33) v33).put (some 34) v34).put (some 35) v35).put (some 36) v36∧(Below W.heap.size W v)∧(fL 0=true→v19=.pointer (some ⟨g,0,none⟩))∧(fL 1=true→v20=.string tk)∧(fL 2=true→v21=.string t)∧(fL 3=true→v22=.bool false)∧(fL 4=true→v23=.bool false)∧(fL 5=true→v24=undef)∧(fL 6=true→v25=undef)∧(fL 7=true→v26=undef)∧(fL 8=true→v27=undef)∧(fL 9=true→v28=undef)∧(fL 10=true→v29=undef)∧(fL 11=true→v30=undef)∧(fL 12=true→v31=undef)∧(fL 13=true→v32=undef)∧(fL 14=true→v33=undef)∧(fL 15=true→v34=undef)∧(fL 16=true→v35=undef)∧(fL 17=true→v36=.bool false)) (by kernel_rfl) (by decide +kernel) ?_ ?_ ?_
    ·exact ⟨_,_,_,_,_,_,_,_,_,_,_,_,_,_,_,_,_,_,put_more (put_more (put_more (put_more (put_more (put_more (put_more (put_more (put_more (put_more (put_more (put_more (put_more (put_more (put_more (put_more (put_more (put_more (rfl) 19) 20) 21) 22) 23) 24) 25) 26) 27) 28) 29) 30) 31) 32) 33) 34) 35) 36,(Below.refl _ _).drew,nofun,nofun,nofun,nofun,nofun,nofun,nofun,nofun,nofun,nofun,nofun,nofun,nofun,nofun,nofun,nofun,nofun,nofun⟩
    ·rintro fL bA v ⟨v19,v20,v21,v22,v23,v24,v25,v26,v27,v28,v29,v30,v31,v32,v33,v34,v35,v36,rfl,hS,q0,q1,q2,q3,q4,q5,q6,q7,q8,q9,q10,q11,q12,q13,q14,q15,q16,q17⟩ i hi hf o ho hall
     simp only [Act.put,List.setIfInBounds_toArray,List.set_cons_zero,List.set_cons_succ]
     simp only [List.length_cons,List.length_nil] at hi
     have hn:i=0 ∨ i=1 ∨ i=2 ∨ i=3 ∨ i=4 ∨ i=5 ∨ i=6 ∨ i=7 ∨ i=8 ∨ i=9 ∨ i=10 ∨ i=11 ∨ i=12 ∨ i=13 ∨ i=14 ∨ i=15 ∨ i=16 ∨ i=17:=by omega
     clear hi
     rcases hn with rfl | rfl | rfl | rfl | rfl | rfl | rfl | rfl | rfl | rfl | rfl | rfl | rfl | rfl | rfl | rfl | rfl | rfl
     ·obtain rfl:=Option.some.inj ho
      clear hall ho
      refine wpOp_step rfl (fun K hK=>?_)
      go_simp
      exact hK _ _ ⟨_,_,_,_,_,_,_,_,_,_,_,_,_,_,_,_,_,_,rfl,hS,fun _=>rfl,q1,q2,q3,q4,q5,q6,q7,q8,q9,q10,q11,q12,q13,q14,q15,q16,q17⟩
     ·obtain rfl:=Option.some.inj ho
      obtain rfl:=q0 (hall ⟨0,.data⟩ (by simp) rfl)
      have y0:=(hS.cell (p:=⟨g,0,none⟩) hgl).trans x0
      clear hall ho
      refine wpOp_step rfl (fun K hK=>?_)
      go_simp
      exact hK _ _ ⟨_,_,_,_,_,_,_,_,_,_,_,_,_,_,_,_,_,_,rfl,hS,fun _=>rfl,fun _=>rfl,q2,q3,q4,q5,q6,q7,q8,q9,q10,q11,q12,q13,q14,q15,q16,q17⟩
     ·obtain rfl:=Option.some.inj ho
      clear hall ho
      refine wpOp_step rfl (fun K hK=>?_)
      go_simp
      exact hK _ _ ⟨_,_,_,_,_,_,_,_,_,_,_,_,_,_,_,_,_,_,rfl,hS,q0,q1,fun _=>rfl,q3,q4,q5,q6,q7,q8,q9,q10,q11,q12,q13,q14,q15,q16,q17⟩
     ·obtain rfl:=Option.some.inj ho
      obtain rfl:=q1 (hall ⟨1,.data⟩ (by simp) rfl)
      obtain rfl:=q2 (hall ⟨2,.data⟩ (by simp) rfl)
      clear hall ho
      refine wpOp_step rfl (fun K hK=>?_)
      go_simp
      exact hK _ _ ⟨_,_,_,_,_,_,_,_,_,_,_,_,_,_,_,_,_,_,rfl,hS,q0,fun _=>rfl,fun _=>rfl,fun _=>rfl,q4,q5,q6,q7,q8,q9,q10,q11,q12,q13,q14,q15,q16,q17⟩
     ·obtain rfl:=Option.some.inj ho
      obtain rfl:=q3 (hall ⟨3,.data⟩ (by simp) rfl)
      clear hall ho
      refine wpOp_step rfl (fun K hK=>?_)
      go_simp
      exact hK _ _ ⟨_,_,_,_,_,_,_,_,_,_,_,_,_,_,_,_,_,_,rfl,hS,q0,q1,q2,fun _=>rfl,fun _=>rfl,q5,q6,q7,q8,q9,q10,q11,q12,q13,q14,q15,q16,q17⟩
     ·obtain rfl:=Option.some.inj ho
      obtain rfl:=q4 (hall ⟨4,.guard⟩ (by simp) rfl)
      clear hall ho
      refine wpOp_step rfl (fun K hK=>?_)
      go_simp
      exact hK _ _ ⟨_,_,_,_,_,_,_,_,_,_,_,_,_,_,_,_,_,_,rfl,hS,q0,q1,q2,q3,fun _=>rfl,fun _=>rfl,q6,q7,q8,q9,q10,q11,q12,q13,q14,q15,q16,q17⟩
     ·obtain rfl:=Option.some.inj ho
      obtain rfl:=q5 (hall ⟨5,.data⟩ (by simp) rfl)
      obtain rfl:=q4 (hall ⟨4,.guard⟩ (by simp) rfl)
      clear hall ho
      refine wpOp_step rfl (fun K hK=>?_)
      go_simp
      exact hK _ _ ⟨_,_,_,_,_,_,_,_,_,_,_,_,_,_,_,_,_,_,rfl,hS,q0,q1,q2,q3,fun _=>rfl,fun _=>rfl,fun _=>rfl,q7,q8,q9,q10,q11,q12,q13,q14,q15,q16,q17⟩
     ·obtain rfl:=Option.some.inj ho
      obtain rfl:=q6 (hall ⟨6,.data⟩ (by simp) rfl)
      obtain rfl:=q4 (hall ⟨4,.guard⟩ (by simp) rfl)
      clear hall ho
      refine wpOp_step rfl (fun K hK=>?_)
      go_simp
      exact hK _ _ ⟨_,_,_,_,_,_,_,_,_,_,_,_,_,_,_,_,_,_,rfl,hS,q0,q1,q2,q3,fun _=>rfl,q5,fun _=>rfl,fun _=>rfl,q8,q9,q10,q11,q12,q13,q14,q15,q16,q17⟩
     ·obtain rfl:=Option.some.inj ho
      obtain rfl:=q7 (hall ⟨7,.guard⟩ (by simp) rfl)
      clear hall ho
      refine wpOp_step rfl (fun K hK=>?_)
      go_simp
      exact hK _ _ ⟨_,_,_,_,_,_,_,_,_,_,_,_,_,_,_,_,_,_,rfl,hS,q0,q1,q2,q3,q4,q5,q6,fun _=>rfl,fun _=>rfl,q9,q10,q11,q12,q13,q14,q15,q16,q17⟩
     ·obtain rfl:=Option.some.inj ho
      obtain rfl:=q8 (hall ⟨8,.data⟩ (by simp) rfl)
      obtain rfl:=q7 (hall ⟨7,.guard⟩ (by simp) rfl)
      clear hall ho
      refine wpOp_step rfl (fun K hK=>?_)
      go_simp
      exact hK _ _ ⟨_,_,_,_,_,_,_,_,_,_,_,_,_,_,_,_,_,_,rfl,hS,q0,q1,q2,q3,q4,q5,q6,fun _=>rfl,fun _=>rfl,fun _=>rfl,q10,q11,q12,q13,q14,q15,q16,q17⟩
     ·obtain rfl:=Option.some.inj ho
      obtain rfl:=q7 (hall ⟨7,.guard⟩ (by simp) rfl)
      clear hall ho
      refine wpOp_step rfl (fun K hK=>?_)
      go_simp
      exact hK _ _ ⟨_,_,_,_,_,_,_,_,_,_,_,_,_,_,_,_,_,_,rfl,hS,q0,q1,q2,q3,q4,q5,q6,fun _=>rfl,q8,q9,fun _=>rfl,q11,q12,q13,q14,q15,q16,q17⟩
     ·obtain rfl:=Option.some.inj ho
      obtain rfl:=q7 (hall ⟨7,.guard⟩ (by simp) rfl)
      clear hall ho
      refine wpOp_step rfl (fun K hK=>?_)
      go_simp
      exact hK _ _ ⟨_,_,_,_,_,_,_,_,_,_,_,_,_,_,_,_,_,_,rfl,hS,q0,q1,q2,q3,q4,q5,q6,fun _=>rfl,q8,q9,q10,fun _=>rfl,q12,q13,q14,q15,q16,q17⟩
     ·obtain rfl:=Option.some.inj ho
      obtain rfl:=q10 (hall ⟨10,.data⟩ (by simp) rfl)
      obtain rfl:=q11 (hall ⟨11,.data⟩ (by simp) rfl)
      obtain rfl:=q7 (hall ⟨7,.guard⟩ (by simp) rfl)
      clear hall ho
      refine wpOp_step rfl (fun K hK=>?_)
      go_simp
      exact hK _ _ ⟨_,_,_,_,_,_,_,_,_,_,_,_,_,_,_,_,_,_,rfl,hS,q0,q1,q2,q3,q4,q5,q6,fun _=>rfl,q8,q9,fun _=>rfl,fun _=>rfl,fun _=>rfl,q13,q14,q15,q16,q17⟩
     ·obtain rfl:=Option.some.inj ho
      obtain rfl:=q12 (hall ⟨12,.data⟩ (by simp) rfl)
      obtain rfl:=q7 (hall ⟨7,.guard⟩ (by simp) rfl)
      clear hall ho
      refine wpOp_step rfl (fun K hK=>?_)
      go_simp
      exact hK _ _ ⟨_,_,_,_,_,_,_,_,_,_,_,_,_,_,_,_,_,_,rfl,hS,q0,q1,q2,q3,q4,q5,q6,fun _=>rfl,q8,q9,q10,q11,fun _=>rfl,fun _=>rfl,q14,q15,q16,q17⟩
     ·obtain rfl:=Option.some.inj ho
      obtain rfl:=q13 (hall ⟨13,.data⟩ (by simp) rfl)
      obtain rfl:=q7 (hall ⟨7,.guard⟩ (by simp) rfl)
      clear hall ho
      refine wpOp_step rfl (fun K hK=>?_)
      go_simp
      exact hK _ _ ⟨_,_,_,_,_,_,_,_,_,_,_,_,_,_,_,_,_,_,rfl,hS,q0,q1,q2,q3,q4,q5,q6,fun _=>rfl,q8,q9,q10,q11,q12,fun _=>rfl,fun _=>rfl,q15,q16,q17⟩
     ·obtain rfl:=Option.some.inj ho
      obtain rfl:=q9 (hall ⟨9,.data⟩ (by simp) rfl)
      obtain rfl:=q14 (hall ⟨14,.data⟩ (by simp) rfl)
      obtain rfl:=q7 (hall ⟨7,.guard⟩ (by simp) rfl)
      clear hall ho
      refine wpOp_step rfl (fun K hK=>?_)
      go_simp
      exact hK _ _ ⟨_,_,_,_,_,_,_,_,_,_,_,_,_,_,_,_,_,_,rfl,hS,q0,q1,q2,q3,q4,q5,q6,fun _=>rfl,q8,fun _=>rfl,q10,q11,q12,q13,fun _=>rfl,fun _=>rfl,q16,q17⟩
     ·obtain rfl:=Option.some.inj ho
      obtain rfl:=q7 (hall ⟨7,.data⟩ (by simp) rfl)
      obtain rfl:=q15 (hall ⟨15,.data⟩ (by simp) rfl)
      obtain rfl:=q4 (hall ⟨4,.guard⟩ (by simp) rfl)
      clear hall ho
      refine wpOp_step rfl (fun K hK=>?_)
      go_simp
      exact hK _ _ ⟨_,_,_,_,_,_,_,_,_,_,_,_,_,_,_,_,_,_,rfl,hS,q0,q1,q2,q3,fun _=>rfl,q5,q6,fun _=>rfl,q8,q9,q10,q11,q12,q13,q14,fun _=>rfl,fun _=>rfl,q17⟩
     ·obtain rfl:=Option.some.inj ho
      obtain rfl:=q4 (hall ⟨4,.data⟩ (by simp) rfl)
      obtain rfl:=q16 (hall ⟨16,.data⟩ (by simp) rfl)
      clear hall ho
      refine wpOp_step rfl (fun K hK=>?_)
      go_simp
      exact hK _ _ ⟨_,_,_,_,_,_,_,_,_,_,_,_,_,_,_,_,_,_,rfl,hS,q0,q1,q2,q3,fun _=>rfl,q5,q6,q7,q8,q9,q10,q11,q12,q13,q14,q15,fun _=>rfl,fun _=>rfl⟩
    ·rintro fL bA v ⟨v19,v20,v21,v22,v23,v24,v25,v26,v27,v28,v29,v30,v31,v32,v33,v34,v35,v36,rfl,hS,q0,q1,q2,q3,q4,q5,q6,q7,q8,q9,q10,q11,q12,q13,q14,q15,q16,q17⟩ hall
     simp only [Act.put,List.setIfInBounds_toArray,List.set_cons_zero,List.set_cons_succ]
     simp only [List.length_cons,List.length_nil] at hall
     obtain rfl:=q0 (hall 0 (by omega))
     obtain rfl:=q1 (hall 1 (by omega))
     obtain rfl:=q2 (hall 2 (by omega))
     obtain rfl:=q3 (hall 3 (by omega))
     obtain rfl:=q4 (hall 4 (by omega))
     obtain rfl:=q5 (hall 5 (by omega))
     obtain rfl:=q6 (hall 6 (by omega))
     obtain rfl:=q7 (hall 7 (by omega))
     obtain rfl:=q8 (hall 8 (by omega))
     obtain rfl:=q9 (hall 9 (by omega))
     obtain rfl:=q10 (hall 10 (by omega))
     obtain rfl:=q11 (hall 11 (by omega))
     obtain rfl:=q12 (hall 12 (by omega))
     obtain rfl:=q13 (hall 13 (by omega))
     obtain rfl:=q14 (hall 14 (by omega))
     obtain rfl:=q15 (hall 15 (by omega))
     obtain rfl:=q16 (hall 16 (by omega))
     obtain rfl:=q17 (hall 17 (by omega))
     clear hall
     go_wp2
     go_roundw
     case rel=>exact ⟨k+1,by omega,by go_num,by rw [hnx.out],hb.trans (hS.mono hb.size)⟩
     case measure=>simp [intOf];omega
   | true =>
    by_cases h0:bk < 0
    ·have d0:decide (bk < 0)=true:=decide_eq_true h0
     replace hnx:Hid (be (k+1)=(k:Int)):=Lib.hid (hnx.out.trans (by rw [hq,d0];rfl))
     refine wp_region_all (fun a0 fL bA v=>∃ v19 v20 v21 v22 v23 v24 v25 v26 v27 v28 v29 v30 v31 v32 v33 v34 v35 v36:Value,bA=(((((((((((((((((a0.put (some 19) v19).put (some 20) v20).put (some 21) v21).put (some 22) v22).put (some 23) v23).put (some 24) v24).put (some 25) v25).put (some 26) v26).put (some 27) v27).put (some 28) v28).put (some 29) v29).put (some 30) v30).put (some 31) v31).put (some 32) v32).put (some 33) v33).put (some 34) v34).put (some 35) v35).put (some 36) v36∧(Below W.heap.size W v)∧(fL 0=true→v19=.pointer (some ⟨g,0,none⟩))∧(fL 1=true→v20=.string tk)∧(fL 2=true→v21=.string t)∧(fL 3=true→v22=.bool true)∧(fL 4=true→v23=.bool true)∧(fL 5=true→v24=.int .i64 bk)∧(fL 6=true→v25=.bool true)∧(fL 7=true→v26=.bool true)∧(fL 8=true→v27=undef)∧(fL 9=true→v28=undef)∧(fL 10=true→v29=undef)∧(fL 11=true→v30=undef)∧(fL 12=true→v31=undef)∧(fL 13=true→v32=undef)∧(fL 14=true→v33=undef)∧(fL 15=true→v34=undef)∧(fL 16=true→v35=.bool true)∧(fL 17=true→v36=.bool true)) (by kernel_rfl) (by decide +kernel) ?_ ?_ ?_
     ·exact ⟨_,_,_,_,_,_,_,_,_,_,_,_,_,_,_,_,_,_,put_more (put_more (put_more (put_more (put_more (put_more (put_more (put_more (put_more (put_more (put_more (put_more (put_more (put_more (put_more (put_more (put_more (put_more (rfl) 19) 20) 21) 22) 23) 24) 25) 26) 27) 28) 29) 30) 31) 32) 33) 34) 35) 36,(Below.refl _ _).drew,nofun,nofun,nofun,nofun,nofun,nofun,nofun,nofun,nofun,nofun,nofun,nofun,nofun,nofun,nofun,nofun,nofun,nofun⟩
     ·rintro fL bA v ⟨v19,v20,v21,v22,v23,v24,v25,v26,v27,v28,v29,v30,v31,v32,v33,v34,v35,v36,rfl,hS,q0,q1,q2,q3,q4,q5,q6,q7,q8,q9,q10,q11,q12,q13,q14,q15,q16,q17⟩ i hi hf o ho hall
      simp only [Act.put,List.setIfInBounds_toArray,List.set_cons_zero,List.set_cons_succ]
      simp only [List.length_cons,List.length_nil] at hi
      have hn:i=0 ∨ i=1 ∨ i=2 ∨ i=3 ∨ i=4 ∨ i=5 ∨ i=6 ∨ i=7 ∨ i=8 ∨ i=9 ∨ i=10 ∨ i=11 ∨ i=12 ∨ i=13 ∨ i=14 ∨ i=15 ∨ i=16 ∨ i=17:=by omega
      clear hi
      rcases hn with rfl | rfl | rfl | rfl | rfl | rfl | rfl | rfl | rfl | rfl | rfl | rfl | rfl | rfl | rfl | rfl | rfl | rfl
      ·obtain rfl:=Option.some.inj ho
       clear hall ho
       refine wpOp_step rfl (fun K hK=>?_)
       go_simp
       exact hK _ _ ⟨_,_,_,_,_,_,_,_,_,_,_,_,_,_,_,_,_,_,rfl,hS,fun _=>rfl,q1,q2,q3,q4,q5,q6,q7,q8,q9,q10,q11,q12,q13,q14,q15,q16,q17⟩
      ·obtain rfl:=Option.some.inj ho
       obtain rfl:=q0 (hall ⟨0,.data⟩ (by simp) rfl)
       have y0:=(hS.cell (p:=⟨g,0,none⟩) hgl).trans x0
       clear hall ho
       refine wpOp_step rfl (fun K hK=>?_)
       go_simp
       exact hK _ _ ⟨_,_,_,_,_,_,_,_,_,_,_,_,_,_,_,_,_,_,rfl,hS,fun _=>rfl,fun _=>rfl,q2,q3,q4,q5,q6,q7,q8,q9,q10,q11,q12,q13,q14,q15,q16,q17⟩
      ·obtain rfl:=Option.some.inj ho
       clear hall ho
       refine wpOp_step rfl (fun K hK=>?_)
       go_simp
       exact hK _ _ ⟨_,_,_,_,_,_,_,_,_,_,_,_,_,_,_,_,_,_,rfl,hS,q0,q1,fun _=>rfl,q3,q4,q5,q6,q7,q8,q9,q10,q11,q12,q13,q14,q15,q16,q17⟩
      ·obtain rfl:=Option.some.inj ho
       obtain rfl:=q1 (hall ⟨1,.data⟩ (by simp) rfl)
       obtain rfl:=q2 (hall ⟨2,.data⟩ (by simp) rfl)
       clear hall ho
       refine wpOp_step rfl (fun K hK=>?_)
       go_simp
       exact hK _ _ ⟨_,_,_,_,_,_,_,_,_,_,_,_,_,_,_,_,_,_,rfl,hS,q0,fun _=>rfl,fun _=>rfl,fun _=>rfl,q4,q5,q6,q7,q8,q9,q10,q11,q12,q13,q14,q15,q16,q17⟩
      ·obtain rfl:=Option.some.inj ho
       obtain rfl:=q3 (hall ⟨3,.data⟩ (by simp) rfl)
       clear hall ho
       refine wpOp_step rfl (fun K hK=>?_)
       go_simp
       exact hK _ _ ⟨_,_,_,_,_,_,_,_,_,_,_,_,_,_,_,_,_,_,rfl,hS,q0,q1,q2,fun _=>rfl,fun _=>rfl,q5,q6,q7,q8,q9,q10,q11,q12,q13,q14,q15,q16,q17⟩
      ·obtain rfl:=Option.some.inj ho
       obtain rfl:=q4 (hall ⟨4,.guard⟩ (by simp) rfl)
       clear hall ho
       refine wpOp_step rfl (fun K hK=>?_)
       go_simp
       exact hK _ _ ⟨_,_,_,_,_,_,_,_,_,_,_,_,_,_,_,_,_,_,rfl,hS,q0,q1,q2,q3,fun _=>rfl,fun _=>rfl,q6,q7,q8,q9,q10,q11,q12,q13,q14,q15,q16,q17⟩
      ·obtain rfl:=Option.some.inj ho
       obtain rfl:=q5 (hall ⟨5,.data⟩ (by simp) rfl)
       obtain rfl:=q4 (hall ⟨4,.guard⟩ (by simp) rfl)
       clear hall ho
       refine wpOp_step rfl (fun K hK=>?_)
       go_simp
       exact hK _ _ ⟨_,_,_,_,_,_,_,_,_,_,_,_,_,_,_,_,_,_,rfl,hS,q0,q1,q2,q3,fun _=>rfl,fun _=>rfl,fun _=>rfl,q7,q8,q9,q10,q11,q12,q13,q14,q15,q16,q17⟩
      ·obtain rfl:=Option.some.inj ho
       obtain rfl:=q6 (hall ⟨6,.data⟩ (by simp) rfl)
       obtain rfl:=q4 (hall ⟨4,.guard⟩ (by simp) rfl)
       clear hall ho
       refine wpOp_step rfl (fun K hK=>?_)
       go_simp
       exact hK _ _ ⟨_,_,_,_,_,_,_,_,_,_,_,_,_,_,_,_,_,_,rfl,hS,q0,q1,q2,q3,fun _=>rfl,q5,fun _=>rfl,fun _=>rfl,q8,q9,q10,q11,q12,q13,q14,q15,q16,q17⟩
      ·obtain rfl:=Option.some.inj ho
       obtain rfl:=q7 (hall ⟨7,.guard⟩ (by simp) rfl)
       clear hall ho
       refine wpOp_step rfl (fun K hK=>?_)
       go_simp
       exact hK _ _ ⟨_,_,_,_,_,_,_,_,_,_,_,_,_,_,_,_,_,_,rfl,hS,q0,q1,q2,q3,q4,q5,q6,fun _=>rfl,fun _=>rfl,q9,q10,q11,q12,q13,q14,q15,q16,q17⟩
      ·obtain rfl:=Option.some.inj ho
       obtain rfl:=q8 (hall ⟨8,.data⟩ (by simp) rfl)
       obtain rfl:=q7 (hall ⟨7,.guard⟩ (by simp) rfl)
       clear hall ho
       refine wpOp_step rfl (fun K hK=>?_)
       go_simp
       exact hK _ _ ⟨_,_,_,_,_,_,_,_,_,_,_,_,_,_,_,_,_,_,rfl,hS,q0,q1,q2,q3,q4,q5,q6,fun _=>rfl,fun _=>rfl,fun _=>rfl,q10,q11,q12,q13,q14,q15,q16,q17⟩
      ·obtain rfl:=Option.some.inj ho
       obtain rfl:=q7 (hall ⟨7,.guard⟩ (by simp) rfl)
       clear hall ho
       refine wpOp_step rfl (fun K hK=>?_)
       go_simp
       exact hK _ _ ⟨_,_,_,_,_,_,_,_,_,_,_,_,_,_,_,_,_,_,rfl,hS,q0,q1,q2,q3,q4,q5,q6,fun _=>rfl,q8,q9,fun _=>rfl,q11,q12,q13,q14,q15,q16,q17⟩
      ·obtain rfl:=Option.some.inj ho
       obtain rfl:=q7 (hall ⟨7,.guard⟩ (by simp) rfl)
       clear hall ho
       refine wpOp_step rfl (fun K hK=>?_)
       go_simp
       exact hK _ _ ⟨_,_,_,_,_,_,_,_,_,_,_,_,_,_,_,_,_,_,rfl,hS,q0,q1,q2,q3,q4,q5,q6,fun _=>rfl,q8,q9,q10,fun _=>rfl,q12,q13,q14,q15,q16,q17⟩
      ·obtain rfl:=Option.some.inj ho
       obtain rfl:=q10 (hall ⟨10,.data⟩ (by simp) rfl)
       obtain rfl:=q11 (hall ⟨11,.data⟩ (by simp) rfl)
       obtain rfl:=q7 (hall ⟨7,.guard⟩ (by simp) rfl)
       clear hall ho
       refine wpOp_step rfl (fun K hK=>?_)
       go_simp
       exact hK _ _ ⟨_,_,_,_,_,_,_,_,_,_,_,_,_,_,_,_,_,_,rfl,hS,q0,q1,q2,q3,q4,q5,q6,fun _=>rfl,q8,q9,fun _=>rfl,fun _=>rfl,fun _=>rfl,q13,q14,q15,q16,q17⟩
      ·obtain rfl:=Option.some.inj ho
       obtain rfl:=q12 (hall ⟨12,.data⟩ (by simp) rfl)
       obtain rfl:=q7 (hall ⟨7,.guard⟩ (by simp) rfl)
       clear hall ho
       refine wpOp_step rfl (fun K hK=>?_)
       go_simp
       exact hK _ _ ⟨_,_,_,_,_,_,_,_,_,_,_,_,_,_,_,_,_,_,rfl,hS,q0,q1,q2,q3,q4,q5,q6,fun _=>rfl,q8,q9,q10,q11,fun _=>rfl,fun _=>rfl,q14,q15,q16,q17⟩
      ·obtain rfl:=Option.some.inj ho
       obtain rfl:=q13 (hall ⟨13,.data⟩ (by simp) rfl)
       obtain rfl:=q7 (hall ⟨7,.guard⟩ (by simp) rfl)
       clear hall ho
       refine wpOp_step rfl (fun K hK=>?_)
       go_simp
       exact hK _ _ ⟨_,_,_,_,_,_,_,_,_,_,_,_,_,_,_,_,_,_,rfl,hS,q0,q1,q2,q3,q4,q5,q6,fun _=>rfl,q8,q9,q10,q11,q12,fun _=>rfl,fun _=>rfl,q15,q16,q17⟩
      ·obtain rfl:=Option.some.inj ho
       obtain rfl:=q9 (hall ⟨9,.data⟩ (by simp) rfl)
       obtain rfl:=q14 (hall ⟨14,.data⟩ (by simp) rfl)
       obtain rfl:=q7 (hall ⟨7,.guard⟩ (by simp) rfl)
       clear hall ho
       refine wpOp_step rfl (fun K hK=>?_)
       go_simp
       exact hK _ _ ⟨_,_,_,_,_,_,_,_,_,_,_,_,_,_,_,_,_,_,rfl,hS,q0,q1,q2,q3,q4,q5,q6,fun _=>rfl,q8,fun _=>rfl,q10,q11,q12,q13,fun _=>rfl,fun _=>rfl,q16,q17⟩
      ·obtain rfl:=Option.some.inj ho
       obtain rfl:=q7 (hall ⟨7,.data⟩ (by simp) rfl)
       obtain rfl:=q15 (hall ⟨15,.data⟩ (by simp) rfl)
       obtain rfl:=q4 (hall ⟨4,.guard⟩ (by simp) rfl)
       clear hall ho
       refine wpOp_step rfl (fun K hK=>?_)
       go_simp
       exact hK _ _ ⟨_,_,_,_,_,_,_,_,_,_,_,_,_,_,_,_,_,_,rfl,hS,q0,q1,q2,q3,fun _=>rfl,q5,q6,fun _=>rfl,q8,q9,q10,q11,q12,q13,q14,fun _=>rfl,fun _=>rfl,q17⟩
      ·obtain rfl:=Option.some.inj ho
       obtain rfl:=q4 (hall ⟨4,.data⟩ (by simp) rfl)
       obtain rfl:=q16 (hall ⟨16,.data⟩ (by simp) rfl)
       clear hall ho
       refine wpOp_step rfl (fun K hK=>?_)
       go_simp
       exact hK _ _ ⟨_,_,_,_,_,_,_,_,_,_,_,_,_,_,_,_,_,_,rfl,hS,q0,q1,q2,q3,fun _=>rfl,q5,q6,q7,q8,q9,q10,q11,q12,q13,q14,q15,fun _=>rfl,fun _=>rfl⟩
     ·rintro fL bA v ⟨v19,v20,v21,v22,v23,v24,v25,v26,v27,v28,v29,v30,v31,v32,v33,v34,v35,v36,rfl,hS,q0,q1,q2,q3,q4,q5,q6,q7,q8,q9,q10,q11,q12,q13,q14,q15,q16,q17⟩ hall
      simp only [Act.put,List.setIfInBounds_toArray,List.set_cons_zero,List.set_cons_succ]
      simp only [List.length_cons,List.length_nil] at hall
      obtain rfl:=q0 (hall 0 (by omega))
      obtain rfl:=q1 (hall 1 (by omega))
      obtain rfl:=q2 (hall 2 (by omega))
      obtain rfl:=q3 (hall 3 (by omega))
      obtain rfl:=q4 (hall 4 (by omega))
      obtain rfl:=q5 (hall 5 (by omega))
      obtain rfl:=q6 (hall 6 (by omega))
      obtain rfl:=q7 (hall 7 (by omega))
      obtain rfl:=q8 (hall 8 (by omega))
      obtain rfl:=q9 (hall 9 (by omega))
      obtain rfl:=q10 (hall 10 (by omega))
      obtain rfl:=q11 (hall 11 (by omega))
      obtain rfl:=q12 (hall 12 (by omega))
      obtain rfl:=q13 (hall 13 (by omega))
      obtain rfl:=q14 (hall 14 (by omega))
      obtain rfl:=q15 (hall 15 (by omega))
      obtain rfl:=q16 (hall 16 (by omega))
      obtain rfl:=q17 (hall 17 (by omega))
      clear hall
      go_wp2
      go_roundw
      case rel=>exact ⟨k+1,by omega,by go_num,by rw [hnx.out],hb.trans (hS.mono hb.size)⟩
      case measure=>simp [intOf];omega
    ·have d0:decide (bk < 0)=false:=decide_eq_false h0
     obtain ⟨m,rfl⟩:∃ m:Nat,bk=(m:Int):=⟨bk.toNat,by omega⟩
     have hml:m < es.length:=by omega
     have hnm:=Lib.hid (hnk.out m rfl hml)
     obtain ⟨bj,offj,hbe',hbB',hcm⟩:=hs.at_ (i:=m) (by simpa using hml)
     obtain ⟨rfl,rfl⟩:b=bj∧off=offj:=by simpa using hbe'
     simp only [List.getElem_map] at hcm
     have y1:W.cell? ⟨b,off+m * 20+1,none⟩=some (.int .i64 es[m].e.ve):=(hb.cell (p:=⟨b,off+m * 20+1,none⟩) hbB).trans (by simpa using hcm 1 _ rfl)
     have hj1:(m:Int) < (es.length:Int):=by omega
     have hj0:(0:Int) ≤ (m:Int):=by omega
     clear hcm hbe' hnk
     generalize es[m].e.ve=vm at *
     by_cases hv:vm < vk
     ·have d2:decide (vm < vk)=true:=decide_eq_true hv
      have d3:decide (vk > vm)=true:=decide_eq_true hv
      replace hnx:Hid (be (k+1)=(k:Int)):=Lib.hid (hnx.out.trans (by rw [hq,hnm.out,d2,Bool.or_true];rfl))
      refine wp_region_all (fun a0 fL bA v=>∃ v19 v20 v21 v22 v23 v24 v25 v26 v27 v28 v29 v30 v31 v32 v33 v34 v35 v36:Value,bA=(((((((((((((((((a0.put (some 19) v19).put (some 20) v20).put (some 21) v21).put (some 22) v22).put (some 23) v23).put (some 24) v24).put (some 25) v25).put (some 26) v26).put (some 27) v27).put (some 28) v28).put (some 29) v29).put (some 30) v30).put (some 31) v31).put (some 32) v32).put (some 33) v33).put (some 34) v34).put (some 35) v35).put (some 36) v36∧(Below W.heap.size W v)∧(fL 0=true→v19=.pointer (some ⟨g,0,none⟩))∧(fL 1=true→v20=.string tk)∧(fL 2=true→v21=.string t)∧(fL 3=true→v22=.bool true)∧(fL 4=true→v23=.bool true)∧(fL 5=true→v24=.int .i64 m)∧(fL 6=true→v25=.bool false)∧(fL 7=true→v26=.bool false)∧(fL 8=true→v27=.pointer (some ⟨g,1,none⟩))∧(fL 9=true→v28=.int .i64 vk)∧(fL 10=true→v29=.slice (some ⟨b,off,none⟩) es.length c)∧(fL 11=true→v30=.int .i64 m)∧(fL 12=true→v31=.pointer (some ⟨b,off+m * 20,none⟩))∧(fL 13=true→v32=.pointer (some ⟨b,off+m * 20+1,none⟩))∧(fL 14=true→v33=.int .i64 vm)∧(fL 15=true→v34=.bool true)∧(fL 16=true→v35=.bool true)∧(fL 17=true→v36=.bool true)) (by kernel_rfl) (by decide +kernel) ?_ ?_ ?_
      ·exact ⟨_,_,_,_,_,_,_,_,_,_,_,_,_,_,_,_,_,_,put_more (put_more (put_more (put_more (put_more (put_more (put_more (put_more (put_more (put_more (put_more (put_more (put_more (put_more (put_more (put_more (put_more (put_more (rfl) 19) 20) 21) 22) 23) 24) 25) 26) 27) 28) 29) 30) 31) 32) 33) 34) 35) 36,(Below.refl _ _).drew,nofun,nofun,nofun,nofun,nofun,nofun,nofun,nofun,nofun,nofun,nofun,nofun,nofun,nofun,nofun,nofun,nofun,nofun⟩
      ·rintro fL bA v ⟨v19,v20,v21,v22,v23,v24,v25,v26,v27,v28,v29,v30,v31,v32,v33,v34,v35,v36,rfl,hS,q0,q1,q2,q3,q4,q5,q6,q7,q8,q9,q10,q11,q12,q13,q14,q15,q16,q17⟩ i hi hf o ho hall
       simp only [Act.put,List.setIfInBounds_toArray,List.set_cons_zero,List.set_cons_succ]
       simp only [List.length_cons,List.length_nil] at hi
       have hn:i=0 ∨ i=1 ∨ i=2 ∨ i=3 ∨ i=4 ∨ i=5 ∨ i=6 ∨ i=7 ∨ i=8 ∨ i=9 ∨ i=10 ∨ i=11 ∨ i=12 ∨ i=13 ∨ i=14 ∨ i=15 ∨ i=16 ∨ i=17:=by omega
       clear hi
       rcases hn with rfl | rfl | rfl | rfl | rfl | rfl | rfl | rfl | rfl | rfl | rfl | rfl | rfl | rfl | rfl | rfl | rfl | rfl
       ·obtain rfl:=Option.some.inj ho
        clear hall ho
        refine wpOp_step rfl (fun K hK=>?_)
        go_simp
        exact hK _ _ ⟨_,_,_,_,_,_,_,_,_,_,_,_,_,_,_,_,_,_,rfl,hS,fun _=>rfl,q1,q2,q3,q4,q5,q6,q7,q8,q9,q10,q11,q12,q13,q14,q15,q16,q17⟩
       ·obtain rfl:=Option.some.inj ho
        obtain rfl:=q0 (hall ⟨0,.data⟩ (by simp) rfl)
        have y0:=(hS.cell (p:=⟨g,0,none⟩) hgl).trans x0
        clear hall ho
        refine wpOp_step rfl (fun K hK=>?_)
        go_simp
        exact hK _ _ ⟨_,_,_,_,_,_,_,_,_,_,_,_,_,_,_,_,_,_,rfl,hS,fun _=>rfl,fun _=>rfl,q2,q3,q4,q5,q6,q7,q8,q9,q10,q11,q12,q13,q14,q15,q16,q17⟩
       ·obtain rfl:=Option.some.inj ho
        clear hall ho
        refine wpOp_step rfl (fun K hK=>?_)
        go_simp
        exact hK _ _ ⟨_,_,_,_,_,_,_,_,_,_,_,_,_,_,_,_,_,_,rfl,hS,q0,q1,fun _=>rfl,q3,q4,q5,q6,q7,q8,q9,q10,q11,q12,q13,q14,q15,q16,q17⟩
       ·obtain rfl:=Option.some.inj ho
        obtain rfl:=q1 (hall ⟨1,.data⟩ (by simp) rfl)
        obtain rfl:=q2 (hall ⟨2,.data⟩ (by simp) rfl)
        clear hall ho
        refine wpOp_step rfl (fun K hK=>?_)
        go_simp
        exact hK _ _ ⟨_,_,_,_,_,_,_,_,_,_,_,_,_,_,_,_,_,_,rfl,hS,q0,fun _=>rfl,fun _=>rfl,fun _=>rfl,q4,q5,q6,q7,q8,q9,q10,q11,q12,q13,q14,q15,q16,q17⟩
       ·obtain rfl:=Option.some.inj ho
        obtain rfl:=q3 (hall ⟨3,.data⟩ (by simp) rfl)
        clear hall ho
        refine wpOp_step rfl (fun K hK=>?_)
        go_simp
        exact hK _ _ ⟨_,_,_,_,_,_,_,_,_,_,_,_,_,_,_,_,_,_,rfl,hS,q0,q1,q2,fun _=>rfl,fun _=>rfl,q5,q6,q7,q8,q9,q10,q11,q12,q13,q14,q15,q16,q17⟩
       ·obtain rfl:=Option.some.inj ho
        obtain rfl:=q4 (hall ⟨4,.guard⟩ (by simp) rfl)
        clear hall ho
        refine wpOp_step rfl (fun K hK=>?_)
        go_simp
        exact hK _ _ ⟨_,_,_,_,_,_,_,_,_,_,_,_,_,_,_,_,_,_,rfl,hS,q0,q1,q2,q3,fun _=>rfl,fun _=>rfl,q6,q7,q8,q9,q10,q11,q12,q13,q14,q15,q16,q17⟩
       ·obtain rfl:=Option.some.inj ho
        obtain rfl:=q5 (hall ⟨5,.data⟩ (by simp) rfl)
        obtain rfl:=q4 (hall ⟨4,.guard⟩ (by simp) rfl)
        clear hall ho
        refine wpOp_step rfl (fun K hK=>?_)
        go_simp
        exact hK _ _ ⟨_,_,_,_,_,_,_,_,_,_,_,_,_,_,_,_,_,_,rfl,hS,q0,q1,q2,q3,fun _=>rfl,fun _=>rfl,fun _=>rfl,q7,q8,q9,q10,q11,q12,q13,q14,q15,q16,q17⟩
       ·obtain rfl:=Option.some.inj ho
        obtain rfl:=q6 (hall ⟨6,.data⟩ (by simp) rfl)
        obtain rfl:=q4 (hall ⟨4,.guard⟩ (by simp) rfl)
        clear hall ho
        refine wpOp_step rfl (fun K hK=>?_)
        go_simp
        exact hK _ _ ⟨_,_,_,_,_,_,_,_,_,_,_,_,_,_,_,_,_,_,rfl,hS,q0,q1,q2,q3,fun _=>rfl,q5,fun _=>rfl,fun _=>rfl,q8,q9,q10,q11,q12,q13,q14,q15,q16,q17⟩
       ·obtain rfl:=Option.some.inj ho
        obtain rfl:=q7 (hall ⟨7,.guard⟩ (by simp) rfl)
        clear hall ho
        refine wpOp_step rfl (fun K hK=>?_)
        go_simp
        exact hK _ _ ⟨_,_,_,_,_,_,_,_,_,_,_,_,_,_,_,_,_,_,rfl,hS,q0,q1,q2,q3,q4,q5,q6,fun _=>rfl,fun _=>rfl,q9,q10,q11,q12,q13,q14,q15,q16,q17⟩
       ·obtain rfl:=Option.some.inj ho
        obtain rfl:=q8 (hall ⟨8,.data⟩ (by simp) rfl)
        obtain rfl:=q7 (hall ⟨7,.guard⟩ (by simp) rfl)
        have y0:=(hS.cell (p:=⟨g,1,none⟩) hgl).trans x1
        clear hall ho
        refine wpOp_step rfl (fun K hK=>?_)
        go_simp
        exact hK _ _ ⟨_,_,_,_,_,_,_,_,_,_,_,_,_,_,_,_,_,_,rfl,hS,q0,q1,q2,q3,q4,q5,q6,fun _=>rfl,fun _=>rfl,fun _=>rfl,q10,q11,q12,q13,q14,q15,q16,q17⟩
       ·obtain rfl:=Option.some.inj ho
        obtain rfl:=q7 (hall ⟨7,.guard⟩ (by simp) rfl)
        clear hall ho
        refine wpOp_step rfl (fun K hK=>?_)
        go_simp
        exact hK _ _ ⟨_,_,_,_,_,_,_,_,_,_,_,_,_,_,_,_,_,_,rfl,hS,q0,q1,q2,q3,q4,q5,q6,fun _=>rfl,q8,q9,fun _=>rfl,q11,q12,q13,q14,q15,q16,q17⟩
       ·obtain rfl:=Option.some.inj ho
        obtain rfl:=q7 (hall ⟨7,.guard⟩ (by simp) rfl)
        clear hall ho
        refine wpOp_step rfl (fun K hK=>?_)
        go_simp
        exact hK _ _ ⟨_,_,_,_,_,_,_,_,_,_,_,_,_,_,_,_,_,_,rfl,hS,q0,q1,q2,q3,q4,q5,q6,fun _=>rfl,q8,q9,q10,fun _=>rfl,q12,q13,q14,q15,q16,q17⟩
       ·obtain rfl:=Option.some.inj ho
        obtain rfl:=q10 (hall ⟨10,.data⟩ (by simp) rfl)
        obtain rfl:=q11 (hall ⟨11,.data⟩ (by simp) rfl)
        obtain rfl:=q7 (hall ⟨7,.guard⟩ (by simp) rfl)
        clear hall ho
        refine wpOp_step rfl (fun K hK=>?_)
        go_simp
        exact hK _ _ ⟨_,_,_,_,_,_,_,_,_,_,_,_,_,_,_,_,_,_,rfl,hS,q0,q1,q2,q3,q4,q5,q6,fun _=>rfl,q8,q9,fun _=>rfl,fun _=>rfl,fun _=>rfl,q13,q14,q15,q16,q17⟩
       ·obtain rfl:=Option.some.inj ho
        obtain rfl:=q12 (hall ⟨12,.data⟩ (by simp) rfl)
        obtain rfl:=q7 (hall ⟨7,.guard⟩ (by simp) rfl)
        clear hall ho
        refine wpOp_step rfl (fun K hK=>?_)
        go_simp
        exact hK _ _ ⟨_,_,_,_,_,_,_,_,_,_,_,_,_,_,_,_,_,_,rfl,hS,q0,q1,q2,q3,q4,q5,q6,fun _=>rfl,q8,q9,q10,q11,fun _=>rfl,fun _=>rfl,q14,q15,q16,q17⟩
       ·obtain rfl:=Option.some.inj ho
        obtain rfl:=q13 (hall ⟨13,.data⟩ (by simp) rfl)
        obtain rfl:=q7 (hall ⟨7,.guard⟩ (by simp) rfl)
        have y0:=(hS.cell (p:=⟨b,off+m * 20+1,none⟩) hbl).trans y1
        clear hall ho
        refine wpOp_step rfl (fun K hK=>?_)
        go_simp
        exact hK _ _ ⟨_,_,_,_,_,_,_,_,_,_,_,_,_,_,_,_,_,_,rfl,hS,q0,q1,q2,q3,q4,q5,q6,fun _=>rfl,q8,q9,q10,q11,q12,fun _=>rfl,fun _=>rfl,q15,q16,q17⟩
       ·obtain rfl:=Option.some.inj ho
        obtain rfl:=q9 (hall ⟨9,.data⟩ (by simp) rfl)
        obtain rfl:=q14 (hall ⟨14,.data⟩ (by simp) rfl)
        obtain rfl:=q7 (hall ⟨7,.guard⟩ (by simp) rfl)
        clear hall ho
        refine wpOp_step rfl (fun K hK=>?_)
        go_simp
        exact hK _ _ ⟨_,_,_,_,_,_,_,_,_,_,_,_,_,_,_,_,_,_,rfl,hS,q0,q1,q2,q3,q4,q5,q6,fun _=>rfl,q8,fun _=>rfl,q10,q11,q12,q13,fun _=>rfl,fun _=>rfl,q16,q17⟩
       ·obtain rfl:=Option.some.inj ho
        obtain rfl:=q7 (hall ⟨7,.data⟩ (by simp) rfl)
        obtain rfl:=q15 (hall ⟨15,.data⟩ (by simp) rfl)
        obtain rfl:=q4 (hall ⟨4,.guard⟩ (by simp) rfl)
        clear hall ho
        refine wpOp_step rfl (fun K hK=>?_)
        go_simp
        exact hK _ _ ⟨_,_,_,_,_,_,_,_,_,_,_,_,_,_,_,_,_,_,rfl,hS,q0,q1,q2,q3,fun _=>rfl,q5,q6,fun _=>rfl,q8,q9,q10,q11,q12,q13,q14,fun _=>rfl,fun _=>rfl,q17⟩
       ·obtain rfl:=Option.some.inj ho
        obtain rfl:=q4 (hall ⟨4,.data⟩ (by simp) rfl)
        obtain rfl:=q16 (hall ⟨16,.data⟩ (by simp) rfl)
        clear hall ho
        refine wpOp_step rfl (fun K hK=>?_)
        go_simp
        exact hK _ _ ⟨_,_,_,_,_,_,_,_,_,_,_,_,_,_,_,_,_,_,rfl,hS,q0,q1,q2,q3,fun _=>rfl,q5,q6,q7,q8,q9,q10,q11,q12,q13,q14,q15,fun _=>rfl,fun _=>rfl⟩
      ·rintro fL bA v ⟨v19,v20,v21,v22,v23,v24,v25,v26,v27,v28,v29,v30,v31,v32,v33,v34,v35,v36,rfl,hS,q0,q1,q2,q3,q4,q5,q6,q7,q8,q9,q10,q11,q12,q13,q14,q15,q16,q17⟩ hall
       simp only [Act.put,List.setIfInBounds_toArray,List.set_cons_zero,List.set_cons_succ]
       simp only [List.length_cons,List.length_nil] at hall
       obtain rfl:=q0 (hall 0 (by omega))
       obtain rfl:=q1 (hall 1 (by omega))
       obtain rfl:=q2 (hall 2 (by omega))
       obtain rfl:=q3 (hall 3 (by omega))
       obtain rfl:=q4 (hall 4 (by omega))
       obtain rfl:=q5 (hall 5 (by omega))
       obtain rfl:=q6 (hall 6 (by omega))
       obtain rfl:=q7 (hall 7 (by omega))
       obtain rfl:=q8 (hall 8 (by omega))
       obtain rfl:=q9 (hall 9 (by omega))
       obtain rfl:=q10 (hall 10 (by omega))
       obtain rfl:=q11 (hall 11 (by omega))
       obtain rfl:=q12 (hall 12 (by omega))
       obtain rfl:=q13 (hall 13 (by omega))
       obtain rfl:=q14 (hall 14 (by omega))
       obtain rfl:=q15 (hall 15 (by omega))
       obtain rfl:=q16 (hall 16 (by omega))
       obtain rfl:=q17 (hall 17 (by omega))
       clear hall
       go_wp2
       go_roundw
       case rel=>exact ⟨k+1,by omega,by go_num,by rw [hnx.out],hb.trans (hS.mono hb.size)⟩
       case measure=>simp [intOf];omega
     ·have d2:decide (vm < vk)=false:=decide_eq_false hv
      have d3:decide (vk > vm)=false:=decide_eq_false hv
      replace hnx:Hid (be (k+1)=(m:Int)):=Lib.hid (hnx.out.trans (by rw [hq,d0,hnm.out,d2];rfl))
      refine wp_region_all (fun a0 fL bA v=>∃ v19 v20 v21 v22 v23 v24 v25 v26 v27 v28 v29 v30 v31 v32 v33 v34 v35 v36:Value,bA=(((((((((((((((((a0.put (some 19) v19).put (some 20) v20).put (some 21) v21).put (some 22) v22).put (some 23) v23).put (some 24) v24).put (some 25) v25).put (some 26) v26).put (some 27) v27).put (some 28) v28).put (some 29) v29).put (some 30) v30).put (some 31) v31).put (some 32) v32).put (some 33) v33).put (some 34) v34).put (some 35) v35).put (some 36) v36∧(Below W.heap.size W v)∧(fL 0=true→v19=.pointer (some ⟨g,0,none⟩))∧(fL 1=true→v20=.string tk)∧(fL 2=true→v21=.string t)∧(fL 3=true→v22=.bool true)∧(fL 4=true→v23=.bool true)∧(fL 5=true→v24=.int .i64 m)∧(fL 6=true→v25=.bool false)∧(fL 7=true→v26=.bool false)∧(fL 8=true→v27=.pointer (some ⟨g,1,none⟩))∧(fL 9=true→v28=.int .i64 vk)∧(fL 10=true→v29=.slice (some ⟨b,off,none⟩) es.length c)∧(fL 11=true→v30=.int .i64 m)∧(fL 12=true→v31=.pointer (some ⟨b,off+m * 20,none⟩))∧(fL 13=true→v32=.pointer (some ⟨b,off+m * 20+1,none⟩))∧(fL 14=true→v33=.int .i64 vm)∧(fL 15=true→v34=.bool false)∧(fL 16=true→v35=.bool false)∧(fL 17=true→v36=.bool false)) (by kernel_rfl) (by decide +kernel) ?_ ?_ ?_
      ·exact ⟨_,_,_,_,_,_,_,_,_,_,_,_,_,_,_,_,_,_,put_more (put_more (put_more (put_more (put_more (put_more (put_more (put_more (put_more (put_more (put_more (put_more (put_more (put_more (put_more (put_more (put_more (put_more (rfl) 19) 20) 21) 22) 23) 24) 25) 26) 27) 28) 29) 30) 31) 32) 33) 34) 35) 36,(Below.refl _ _).drew,nofun,nofun,nofun,nofun,nofun,nofun,nofun,nofun,nofun,nofun,nofun,nofun,nofun,nofun,nofun,nofun,nofun,nofun⟩
      ·rintro fL bA v ⟨v19,v20,v21,v22,v23,v24,v25,v26,v27,v28,v29,v30,v31,v32,v33,v34,v35,v36,rfl,hS,q0,q1,q2,q3,q4,q5,q6,q7,q8,q9,q10,q11,q12,q13,q14,q15,q16,q17⟩ i hi hf o ho hall
       simp only [Act.put,List.setIfInBounds_toArray,List.set_cons_zero,List.set_cons_succ]
       simp only [List.length_cons,List.length_nil] at hi
       have hn:i=0 ∨ i=1 ∨ i=2 ∨ i=3 ∨ i=4 ∨ i=5 ∨ i=6 ∨ i=7 ∨ i=8 ∨ i=9 ∨ i=10 ∨ i=11 ∨ i=12 ∨ i=13 ∨ i=14 ∨ i=15 ∨ i=16 ∨ i=17:=by omega
       clear hi
       rcases hn with rfl | rfl | rfl | rfl | rfl | rfl | rfl | rfl | rfl | rfl | rfl | rfl | rfl | rfl | rfl | rfl | rfl | rfl
       ·obtain rfl:=Option.some.inj ho
        clear hall ho
        refine wpOp_step rfl (fun K hK=>?_)
        go_simp
        exact hK _ _ ⟨_,_,_,_,_,_,_,_,_,_,_,_,_,_,_,_,_,_,rfl,hS,fun _=>rfl,q1,q2,q3,q4,q5,q6,q7,q8,q9,q10,q11,q12,q13,q14,q15,q16,q17⟩
       ·obtain rfl:=Option.some.inj ho
        obtain rfl:=q0 (hall ⟨0,.data⟩ (by simp) rfl)
        have y0:=(hS.cell (p:=⟨g,0,none⟩) hgl).trans x0
        clear hall ho
        refine wpOp_step rfl (fun K hK=>?_)
        go_simp
        exact hK _ _ ⟨_,_,_,_,_,_,_,_,_,_,_,_,_,_,_,_,_,_,rfl,hS,fun _=>rfl,fun _=>rfl,q2,q3,q4,q5,q6,q7,q8,q9,q10,q11,q12,q13,q14,q15,q16,q17⟩
       ·obtain rfl:=Option.some.inj ho
        clear hall ho
        refine wpOp_step rfl (fun K hK=>?_)
        go_simp
        exact hK _ _ ⟨_,_,_,_,_,_,_,_,_,_,_,_,_,_,_,_,_,_,rfl,hS,q0,q1,fun _=>rfl,q3,q4,q5,q6,q7,q8,q9,q10,q11,q12,q13,q14,q15,q16,q17⟩
       ·obtain rfl:=Option.some.inj ho
        obtain rfl:=q1 (hall ⟨1,.data⟩ (by simp) rfl)
        obtain rfl:=q2 (hall ⟨2,.data⟩ (by simp) rfl)
        clear hall ho
        refine wpOp_step rfl (fun K hK=>?_)
        go_simp
        exact hK _ _ ⟨_,_,_,_,_,_,_,_,_,_,_,_,_,_,_,_,_,_,rfl,hS,q0,fun _=>rfl,fun _=>rfl,fun _=>rfl,q4,q5,q6,q7,q8,q9,q10,q11,q12,q13,q14,q15,q16,q17⟩
       ·obtain rfl:=Option.some.inj ho
        obtain rfl:=q3 (hall ⟨3,.data⟩ (by simp) rfl)
        clear hall ho
        refine wpOp_step rfl (fun K hK=>?_)
        go_simp
        exact hK _ _ ⟨_,_,_,_,_,_,_,_,_,_,_,_,_,_,_,_,_,_,rfl,hS,q0,q1,q2,fun _=>rfl,fun _=>rfl,q5,q6,q7,q8,q9,q10,q11,q12,q13,q14,q15,q16,q17⟩
       ·obtain rfl:=Option.some.inj ho
        obtain rfl:=q4 (hall ⟨4,.guard⟩ (by simp) rfl)
        clear hall ho
        refine wpOp_step rfl (fun K hK=>?_)
        go_simp
        exact hK _ _ ⟨_,_,_,_,_,_,_,_,_,_,_,_,_,_,_,_,_,_,rfl,hS,q0,q1,q2,q3,fun _=>rfl,fun _=>rfl,q6,q7,q8,q9,q10,q11,q12,q13,q14,q15,q16,q17⟩
       ·obtain rfl:=Option.some.inj ho
        obtain rfl:=q5 (hall ⟨5,.data⟩ (by simp) rfl)
        obtain rfl:=q4 (hall ⟨4,.guard⟩ (by simp) rfl)
        clear hall ho
        refine wpOp_step rfl (fun K hK=>?_)
        go_simp
        exact hK _ _ ⟨_,_,_,_,_,_,_,_,_,_,_,_,_,_,_,_,_,_,rfl,hS,q0,q1,q2,q3,fun _=>rfl,fun _=>rfl,fun _=>rfl,q7,q8,q9,q10,q11,q12,q13,q14,q15,q16,q17⟩
       ·obtain rfl:=Option.some.inj ho
        obtain rfl:=q6 (hall ⟨6,.data⟩ (by simp) rfl)
        obtain rfl:=q4 (hall ⟨4,.guard⟩ (by simp) rfl)
        clear hall ho
        refine wpOp_step rfl (fun K hK=>?_)
        go_simp
        exact hK _ _ ⟨_,_,_,_,_,_,_,_,_,_,_,_,_,_,_,_,_,_,rfl,hS,q0,q1,q2,q3,fun _=>rfl,q5,fun _=>rfl,fun _=>rfl,q8,q9,q10,q11,q12,q13,q14,q15,q16,q17⟩
       ·obtain rfl:=Option.some.inj ho
        obtain rfl:=q7 (hall ⟨7,.guard⟩ (by simp) rfl)
        clear hall ho
        refine wpOp_step rfl (fun K hK=>?_)
        go_simp
        exact hK _ _ ⟨_,_,_,_,_,_,_,_,_,_,_,_,_,_,_,_,_,_,rfl,hS,q0,q1,q2,q3,q4,q5,q6,fun _=>rfl,fun _=>rfl,q9,q10,q11,q12,q13,q14,q15,q16,q17⟩
       ·obtain rfl:=Option.some.inj ho
        obtain rfl:=q8 (hall ⟨8,.data⟩ (by simp) rfl)
        obtain rfl:=q7 (hall ⟨7,.guard⟩ (by simp) rfl)
        have y0:=(hS.cell (p:=⟨g,1,none⟩) hgl).trans x1
        clear hall ho
        refine wpOp_step rfl (fun K hK=>?_)
        go_simp
        exact hK _ _ ⟨_,_,_,_,_,_,_,_,_,_,_,_,_,_,_,_,_,_,rfl,hS,q0,q1,q2,q3,q4,q5,q6,fun _=>rfl,fun _=>rfl,fun _=>rfl,q10,q11,q12,q13,q14,q15,q16,q17⟩
       ·obtain rfl:=Option.some.inj ho
        obtain rfl:=q7 (hall ⟨7,.guard⟩ (by simp) rfl)
        clear hall ho
        refine wpOp_step rfl (fun K hK=>?_)
        go_simp
        exact hK _ _ ⟨_,_,_,_,_,_,_,_,_,_,_,_,_,_,_,_,_,_,rfl,hS,q0,q1,q2,q3,q4,q5,q6,fun _=>rfl,q8,q9,fun _=>rfl,q11,q12,q13,q14,q15,q16,q17⟩
       ·obtain rfl:=Option.some.inj ho
        obtain rfl:=q7 (hall ⟨7,.guard⟩ (by simp) rfl)
        clear hall ho
        refine wpOp_step rfl (fun K hK=>?_)
        go_simp
        exact hK _ _ ⟨_,_,_,_,_,_,_,_,_,_,_,_,_,_,_,_,_,_,rfl,hS,q0,q1,q2,q3,q4,q5,q6,fun _=>rfl,q8,q9,q10,fun _=>rfl,q12,q13,q14,q15,q16,q17⟩
       ·obtain rfl:=Option.some.inj ho
        obtain rfl:=q10 (hall ⟨10,.data⟩ (by simp) rfl)
        obtain rfl:=q11 (hall ⟨11,.data⟩ (by simp) rfl)
        obtain rfl:=q7 (hall ⟨7,.guard⟩ (by simp) rfl)
        clear hall ho
        refine wpOp_step rfl (fun K hK=>?_)
        go_simp
        exact hK _ _ ⟨_,_,_,_,_,_,_,_,_,_,_,_,_,_,_,_,_,_,rfl,hS,q0,q1,q2,q3,q4,q5,q6,fun _=>rfl,q8,q9,fun _=>rfl,fun _=>rfl,fun _=>rfl,q13,q14,q15,q16,q17⟩
       ·obtain rfl:=Option.some.inj ho
        obtain rfl:=q12 (hall ⟨12,.data⟩ (by simp) rfl)
        obtain rfl:=q7 (hall ⟨7,.guard⟩ (by simp) rfl)
        clear hall ho
        refine wpOp_step rfl (fun K hK=>?_)
        go_simp
        exact hK _ _ ⟨_,_,_,_,_,_,_,_,_,_,_,_,_,_,_,_,_,_,rfl,hS,q0,q1,q2,q3,q4,q5,q6,fun _=>rfl,q8,q9,q10,q11,fun _=>rfl,fun _=>rfl,q14,q15,q16,q17⟩
       ·obtain rfl:=Option.some.inj ho
        obtain rfl:=q13 (hall ⟨13,.data⟩ (by simp) rfl)
        obtain rfl:=q7 (hall ⟨7,.guard⟩ (by simp) rfl)
        have y0:=(hS.cell (p:=⟨b,off+m * 20+1,none⟩) hbl).trans y1
        clear hall ho
        refine wpOp_step rfl (fun K hK=>?_)
        go_simp
        exact hK _ _ ⟨_,_,_,_,_,_,_,_,_,_,_,_,_,_,_,_,_,_,rfl,hS,q0,q1,q2,q3,q4,q5,q6,fun _=>rfl,q8,q9,q10,q11,q12,fun _=>rfl,fun _=>rfl,q15,q16,q17⟩
       ·obtain rfl:=Option.some.inj ho
        obtain rfl:=q9 (hall ⟨9,.data⟩ (by simp) rfl)
        obtain rfl:=q14 (hall ⟨14,.data⟩ (by simp) rfl)
        obtain rfl:=q7 (hall ⟨7,.guard⟩ (by simp) rfl)
        clear hall ho
        refine wpOp_step rfl (fun K hK=>?_)
        go_simp
        exact hK _ _ ⟨_,_,_,_,_,_,_,_,_,_,_,_,_,_,_,_,_,_,rfl,hS,q0,q1,q2,q3,q4,q5,q6,fun _=>rfl,q8,fun _=>rfl,q10,q11,q12,q13,fun _=>rfl,fun _=>rfl,q16,q17⟩
       ·obtain rfl:=Option.some.inj ho
        obtain rfl:=q7 (hall ⟨7,.data⟩ (by simp) rfl)
        obtain rfl:=q15 (hall ⟨15,.data⟩ (by simp) rfl)
        obtain rfl:=q4 (hall ⟨4,.guard⟩ (by simp) rfl)
        clear hall ho
        refine wpOp_step rfl (fun K hK=>?_)
        go_simp
        exact hK _ _ ⟨_,_,_,_,_,_,_,_,_,_,_,_,_,_,_,_,_,_,rfl,hS,q0,q1,q2,q3,fun _=>rfl,q5,q6,fun _=>rfl,q8,q9,q10,q11,q12,q13,q14,fun _=>rfl,fun _=>rfl,q17⟩
       ·obtain rfl:=Option.some.inj ho
        obtain rfl:=q4 (hall ⟨4,.data⟩ (by simp) rfl)
        obtain rfl:=q16 (hall ⟨16,.data⟩ (by simp) rfl)
        clear hall ho
        refine wpOp_step rfl (fun K hK=>?_)
        go_simp
        exact hK _ _ ⟨_,_,_,_,_,_,_,_,_,_,_,_,_,_,_,_,_,_,rfl,hS,q0,q1,q2,q3,fun _=>rfl,q5,q6,q7,q8,q9,q10,q11,q12,q13,q14,q15,fun _=>rfl,fun _=>rfl⟩
      ·rintro fL bA v ⟨v19,v20,v21,v22,v23,v24,v25,v26,v27,v28,v29,v30,v31,v32,v33,v34,v35,v36,rfl,hS,q0,q1,q2,q3,q4,q5,q6,q7,q8,q9,q10,q11,q12,q13,q14,q15,q16,q17⟩ hall
       simp only [Act.put,List.setIfInBounds_toArray,List.set_cons_zero,List.set_cons_succ]
       simp only [List.length_cons,List.length_nil] at hall
       obtain rfl:=q0 (hall 0 (by omega))
       obtain rfl:=q1 (hall 1 (by omega))
       obtain rfl:=q2 (hall 2 (by omega))
       obtain rfl:=q3 (hall 3 (by omega))
       obtain rfl:=q4 (hall 4 (by omega))
       obtain rfl:=q5 (hall 5 (by omega))
       obtain rfl:=q6 (hall 6 (by omega))
       obtain rfl:=q7 (hall 7 (by omega))
       obtain rfl:=q8 (hall 8 (by omega))
       obtain rfl:=q9 (hall 9 (by omega))
       obtain rfl:=q10 (hall 10 (by omega))
       obtain rfl:=q11 (hall 11 (by omega))
       obtain rfl:=q12 (hall 12 (by omega))
       obtain rfl:=q13 (hall 13 (by omega))
       obtain rfl:=q14 (hall 14 (by omega))
       obtain rfl:=q15 (hall 15 (by omega))
       obtain rfl:=q16 (hall 16 (by omega))
       obtain rfl:=q17 (hall 17 (by omega))
       clear hall
       go_wp2
       go_roundw
       case rel=>exact ⟨k+1,by omega,by go_num,by rw [hnx.out],hb.trans (hS.mono hb.size)⟩
       case measure=>simp [intOf];omega
  ·have:k=es.length:=by omega
   subst this
   obtain ⟨hr1,hr2⟩:=hR.out
   by_cases h0:be es.length < 0
   ·rw [if_pos trivial,if_pos h0] at hr1 hr2
    subst hr1 hr2
    go_wp2
    go_ret2
    exact ⟨rfl,hb⟩
   ·rw [if_pos trivial,if_neg h0] at hr1 hr2
    subst hr1 hr2
    go_wp2
    go_ret2
    exact ⟨rfl,hb⟩
theorem specLatestOf_c (A:Option Addr) (c:Nat) (es:List EnR) (t:ByteArray) (w:World) (E:EnsIn w A es) (_hc:es.length ≤ c) :
  Calls Tryz.prog 30 #[.slice A es.length c,.string t] w fun x w'=>x=.returned (.tuple #[.int .i64 (latN (ens es) t),.int .i64 (latC (ens es) t)])∧Below w.heap.size w w':=by
 have hl:=E.n
 have hs:=E.s
 have HC:=Lib.hid (specIsCat_c A c es w E)
 have hbd:=Lib.hid (bestTo_bd (ens es) t)
 have hst:=Lib.hid (fun k (hk:k < es.length)=>(bestTo_succ (l:=ens es) (t:=t) (k:=k) (by rw [ens_len];exact hk)).trans (by rw [ens_get hk]))
 have hnw:=Lib.hid (fun (m:Nat) (hm:m < es.length) (e:En)=>(by unfold newer;rw [Int.toNat_natCast,List.getElem?_eq_getElem (by rw [ens_len];exact hm),ens_get hm]:newer (ens es) (m:Int) e=decide (es[m].e.ve < e.ve)))
 have hR:Hid (latN (ens es) t=(if catB (ens es)=true then (if bestTo (ens es) t es.length < 0 then 0 else bestTo (ens es) t es.length) else 0)∧latC (ens es) t=(if catB (ens es)=true then (if bestTo (ens es) t es.length < 0 then 4 else 0) else 1)):=Lib.hid (by unfold latN latC;rw [ens_len];exact ⟨rfl,rfl⟩)
 clear E
 have hone:=Lib.hid (fun (x:EnR)=>x.e.one x.A x.c)
 generalize catB (ens es)=cb at *
 generalize latN (ens es) t=rn at *
 generalize latC (ens es) t=rc at *
 generalize hbe:bestTo (ens es) t=be at *
 replace hbe:=Lib.hid hbe
 cases cb with
 | false =>
  obtain ⟨rfl,rfl⟩:=hR.out
  go_enter Tryz.func30,Tryz.ntmps30
  go_wp2_with fail
  refine Calls.mono HC.out ?_;rintro x w1 ⟨rfl,hb1⟩
  go_wp2
  go_ret2
  exact ⟨rfl,hb1⟩
 | true =>
 go_enter Tryz.func30,Tryz.ntmps30
 go_wp2_with fail
 refine Calls.mono HC.out ?_;rintro x w1 ⟨rfl,hb1⟩
 have hbz:be 0=-1:=by rw [← hbe.out];rfl
 go_wp2_with fail
 go_loopw [6,7] (fun b i wr=>∃ k:Nat,k ≤ es.length∧i=.int .i64 k∧b=.int .i64 (be k)∧Below w.heap.size w wr) (fun _ i _=>es.length - (intOf i).toNat)
 case atStart=>exact ⟨0,Nat.zero_le _,rfl,by rw [hbz],hb1⟩
 case round =>
  obtain ⟨k,hk,rfl,rfl,hb⟩:=hrel
  have hbk:=hbd.out k
  by_cases hlt:k < es.length
  ·have hnx:=Lib.hid (hst.out k hlt)
   obtain ⟨b,off,rfl,hbB,hc'⟩:=hs.rg (i:=k) (by simpa using hlt)
   simp only [List.getElem_map] at hc'
   have hcl:es[k].cells.length=20:=rfl
   have hon:∀ v ∈ es[k].cells,v.oneCell'=true:=es[k].e.one es[k].A es[k].c
   have hk0:es[k].cells[0]?=some (.string es[k].e.ti):=rfl
   have hk1:es[k].cells[1]?=some (.int .i64 es[k].e.ve):=rfl
   have hnk:Hid (∀ m:Nat,be k=(m:Int)→(hm:m < es.length)→newer (ens es) (be k) es[k].e=decide (es[m].e.ve < es[k].e.ve)):=Lib.hid (fun m hbm hm=>by rw [hbm];exact hnw.out m hm es[k].e)
   replace hc':=rangeAt_below hc' hb hbB
   have x0:wr.cell? ⟨b,off+k * 20,none⟩=some (.string es[k].e.ti):=by simpa using hc' 0 _ hk0
   have x1:wr.cell? ⟨b,off+k * 20+1,none⟩=some (.int .i64 es[k].e.ve):=by simpa using hc' 1 _ hk1
   clear hc' hk0 hk1 hon hcl
   generalize newer (ens es) (be k) es[k].e=nw at *
   generalize es[k].e.ti=tk at *
   generalize es[k].e.ve=vk at *
   generalize wr=W at *
   go_wp2_with fail
   generalize be k=bk at *
   cases hq:(tk.toList == t.toList) with
   | false =>
    replace hnx:Hid (be (k+1)=bk):=Lib.hid (hnx.out.trans (by rw [hq];rfl))
    go_quiet (fail)
    go_wp2
    go_roundw
    case rel=>exact ⟨k+1,by omega,by go_num,by rw [hnx.out],(by first | exact below_drewN' hb _ | exact hb.drew | exact hb)⟩
    case measure=>simp [intOf];omega
   | true =>
    by_cases h0:bk < 0
    ·have d0:decide (bk < 0)=true:=decide_eq_true h0
     replace hnx:Hid (be (k+1)=(k:Int)):=Lib.hid (hnx.out.trans (by rw [hq,d0];rfl))
     go_quiet (fail)
     go_wp2
     go_roundw
     case rel=>exact ⟨k+1,by omega,by go_num,by rw [hnx.out],(by first | exact below_drewN' hb _ | exact hb.drew | exact hb)⟩
     case measure=>simp [intOf];omega
    ·have d0:decide (bk < 0)=false:=decide_eq_false h0
     obtain ⟨m,rfl⟩:∃ m:Nat,bk=(m:Int):=⟨bk.toNat,by omega⟩
     have hml:m < es.length:=by omega
     have hnm:=Lib.hid (hnk.out m rfl hml)
     obtain ⟨bj,offj,hbe',hbB',hcm⟩:=hs.at_ (i:=m) (by simpa using hml)
     obtain ⟨rfl,rfl⟩:b=bj∧off=offj:=by simpa using hbe'
     simp only [List.getElem_map] at hcm
     have y1:W.cell? ⟨b,off+m * 20+1,none⟩=some (.int .i64 es[m].e.ve):=(hb.cell (p:=⟨b,off+m * 20+1,none⟩) hbB).trans (by simpa using hcm 1 _ rfl)
     have hj1:(m:Int) < (es.length:Int):=by omega
     have hj0:(0:Int) ≤ (m:Int):=by omega
     clear hcm hbe' hnk
     generalize es[m].e.ve=vm at *
     by_cases hv:vm < vk
     ·have d2:decide (vm < vk)=true:=decide_eq_true hv
      have d3:decide (vk > vm)=true:=decide_eq_true hv
      replace hnx:Hid (be (k+1)=(k:Int)):=Lib.hid (hnx.out.trans (by rw [hq,hnm.out,d2,Bool.or_true];rfl))
      go_quiet (fail)
      go_wp2
      go_roundw
      case rel=>exact ⟨k+1,by omega,by go_num,by rw [hnx.out],(by first | exact below_drewN' hb _ | exact hb.drew | exact hb)⟩
      case measure=>simp [intOf];omega
     ·have d2:decide (vm < vk)=false:=decide_eq_false hv
      have d3:decide (vk > vm)=false:=decide_eq_false hv
      replace hnx:Hid (be (k+1)=(m:Int)):=Lib.hid (hnx.out.trans (by rw [hq,d0,hnm.out,d2];rfl))
      go_quiet (fail)
      go_wp2
      go_roundw
      case rel=>exact ⟨k+1,by omega,by go_num,by rw [hnx.out],(by first | exact below_drewN' hb _ | exact hb.drew | exact hb)⟩
      case measure=>simp [intOf];omega
  ·have:k=es.length:=by omega
   subst this
   obtain ⟨hr1,hr2⟩:=hR.out
   by_cases h0:be es.length < 0
   ·rw [if_pos trivial,if_pos h0] at hr1 hr2
    subst hr1 hr2
    go_wp2
    go_ret2
    exact ⟨rfl,hb⟩
   ·rw [if_pos trivial,if_neg h0] at hr1 hr2
    subst hr1 hr2
    go_wp2
    go_ret2
    exact ⟨rfl,hb⟩
end Go.Proofs.YtednjmldjbndhaaGreatDoor
