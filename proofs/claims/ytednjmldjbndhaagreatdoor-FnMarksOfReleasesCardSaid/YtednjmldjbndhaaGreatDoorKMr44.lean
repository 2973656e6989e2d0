/- The law on the marks of releases: walked. Condition: none. -/
import Derived.Deep.DeepCutAuto
import Derived.Deep.CutBlock
import Derived.Test.YtednjmldjbndhaaGreatDoorKMr22
import Derived.Test.YtednjmldjbndhaaGreatDoorKMr31
import Derived.Test.YtednjmldjbndhaaGreatDoorKMr42
import Derived.Test.YtednjmldjbndhaaGreatDoorKMr43
set_option linter.unusedSimpArgs false
set_option linter.unusedVariables false
set_option maxRecDepth 100000
set_option maxHeartbeats 8000000
namespace Go.Proofs.YtednjmldjbndhaaGreatDoor
open Go.Shelf Go.RowKit Go.Lib Go.Sort
theorem lawMarks_c (A:Option Addr) (n c:Nat) (w:World) (hn:n ≤ 140737488351232) (hb:Bytes w A n w.heap.size) :
  Calls Tryz.prog 4 #[.slice A n c] w fun e w'=>e=.returned (.bool true)∧Below w.heap.size w w':=by
 have hG:=big_c A n c w hn
 by_cases hbig:4096 < n
 ·rw [decide_eq_true hbig] at hG
  have HG:=Lib.hid hG;clear hG hb
  go_enter Tryz.func4,Tryz.ntmps4
  go_wp2_with (go_at_call 5;refine HG.out.mono ?_;rintro e w1 ⟨rfl,rfl⟩)
  go_ret
  exact ⟨rfl,Below.refl _ _⟩
 ·rw [decide_eq_false hbig] at hG
  have HG:=Lib.hid hG;clear hG
  have hn':n ≤ 4096:=by omega
  have HB:=Lib.hid hb;clear hb
  go_enter Tryz.func4,Tryz.ntmps4
  go_wp2_with (go_at_call 5;refine HG.out.mono ?_;rintro e w1 ⟨rfl,rfl⟩)
  clear HG
  refine (drawChangesBetween_c A n c w hn' HB.out).mono ?_;rintro e w1 ⟨ra,rb,Ba,Bb,da,db,rfl,hE,hF,hB⟩
  have HMF:Hid (_→_):=Lib.hid (fun h:chgCode ra rb=0=>mr_facts h)
  have hal:Below w1.heap.size w1 ((w1.alloc (.cells #[.int .i64 0,.int .i64 0,.string ⟨#[]⟩,.slice none 0 0,.int .i64 0,.int .i64 0,.int .i64 0,.int .i64 0,.int .i64 0,.int .i64 0,.int .i64 0,.int .i64 0,.int .i64 0,.int .i64 0,.int .i64 0,.int .i64 0,.int .i64 0] 33)).alloc (.cells #[.int .i64 0,.int .i64 0,.string ⟨#[]⟩,.slice none 0 0,.int .i64 0,.int .i64 0,.int .i64 0,.int .i64 0,.int .i64 0,.int .i64 0,.int .i64 0,.int .i64 0,.int .i64 0,.int .i64 0,.int .i64 0,.int .i64 0,.int .i64 0] 33)):=((Below.refl _ _).alloc (Nat.le_refl _) _).alloc (by simp) _
  have X:Blk ((w1.alloc (.cells #[.int .i64 0,.int .i64 0,.string ⟨#[]⟩,.slice none 0 0,.int .i64 0,.int .i64 0,.int .i64 0,.int .i64 0,.int .i64 0,.int .i64 0,.int .i64 0,.int .i64 0,.int .i64 0,.int .i64 0,.int .i64 0,.int .i64 0,.int .i64 0] 33)).alloc (.cells #[.int .i64 0,.int .i64 0,.string ⟨#[]⟩,.slice none 0 0,.int .i64 0,.int .i64 0,.int .i64 0,.int .i64 0,.int .i64 0,.int .i64 0,.int .i64 0,.int .i64 0,.int .i64 0,.int .i64 0,.int .i64 0,.int .i64 0,.int .i64 0] 33)) w1.heap.size 33 Rl.zero.toArray:=(Blk.new w1 33 #[.int .i64 0,.int .i64 0,.string ⟨#[]⟩,.slice none 0 0,.int .i64 0,.int .i64 0,.int .i64 0,.int .i64 0,.int .i64 0,.int .i64 0,.int .i64 0,.int .i64 0,.int .i64 0,.int .i64 0,.int .i64 0,.int .i64 0,.int .i64 0]).alloc _
  have Y:Blk ((w1.alloc (.cells #[.int .i64 0,.int .i64 0,.string ⟨#[]⟩,.slice none 0 0,.int .i64 0,.int .i64 0,.int .i64 0,.int .i64 0,.int .i64 0,.int .i64 0,.int .i64 0,.int .i64 0,.int .i64 0,.int .i64 0,.int .i64 0,.int .i64 0,.int .i64 0] 33)).alloc (.cells #[.int .i64 0,.int .i64 0,.string ⟨#[]⟩,.slice none 0 0,.int .i64 0,.int .i64 0,.int .i64 0,.int .i64 0,.int .i64 0,.int .i64 0,.int .i64 0,.int .i64 0,.int .i64 0,.int .i64 0,.int .i64 0,.int .i64 0,.int .i64 0] 33)) (w1.heap.size+1) 33 Rl.zero.toArray:=Blk.new' (w1.alloc (.cells #[.int .i64 0,.int .i64 0,.string ⟨#[]⟩,.slice none 0 0,.int .i64 0,.int .i64 0,.int .i64 0,.int .i64 0,.int .i64 0,.int .i64 0,.int .i64 0,.int .i64 0,.int .i64 0,.int .i64 0,.int .i64 0,.int .i64 0,.int .i64 0] 33)) 33 #[.int .i64 0,.int .i64 0,.string ⟨#[]⟩,.slice none 0 0,.int .i64 0,.int .i64 0,.int .i64 0,.int .i64 0,.int .i64 0,.int .i64 0,.int .i64 0,.int .i64 0,.int .i64 0,.int .i64 0,.int .i64 0,.int .i64 0,.int .i64 0] (g:=w1.heap.size+1) (by simp)
  have hal':Below w1.heap.size w1 ((w1.alloc (.cells #[.int .i64 0,.int .i64 0,.string ⟨#[]⟩,.slice none 0 0,.int .i64 0,.int .i64 0,.int .i64 0,.int .i64 0,.int .i64 0,.int .i64 0,.int .i64 0,.int .i64 0,.int .i64 0,.int .i64 0,.int .i64 0,.int .i64 0,.int .i64 0] 33)).alloc (.cells #[.int .i64 0,.int .i64 0,.string ⟨#[]⟩,.slice none 0 0,.int .i64 0,.int .i64 0,.int .i64 0,.int .i64 0,.int .i64 0,.int .i64 0,.int .i64 0,.int .i64 0,.int .i64 0,.int .i64 0,.int .i64 0,.int .i64 0,.int .i64 0] 33)):=hal
  have hla:(ra.cells Ba da).length=17:=rfl
  have hlb:(rb.cells Bb db).length=17:=rfl
  have hoa:=Rl.one ra Ba da
  have hob:=Rl.one rb Bb db
  have HI:=fun W (E:RlIn W Ba da ra) (F:RlIn W Bb db rb)=>Lib.hid (implChg_c ra rb Ba da Bb db W E F)
  have HS:=fun W (E:RlIn W Ba da ra) (F:RlIn W Bb db rb)=>Lib.hid (specChg_c ra rb Ba da Bb db W E F)
  have HBK:=fun W (E:RlIn W Ba da ra) (F:RlIn W Bb db rb)=>Lib.hid (implChg_c rb ra Bb db Ba da W F E)
  have HMA:=fun W (E:RlIn W Ba da ra)=>Lib.hid (implMarkRl_c ra Ba da W E)
  have HMB:=fun W (F:RlIn W Bb db rb)=>Lib.hid (implMarkRl_c rb Bb db W F)
  have HLR:=fun W (E:RlIn W Ba da ra) (F:RlIn W Bb db rb)=>Lib.hid (likeRl_c ra Ba da rb Bb db W E F)
  have hcl:=Lib.hid (chgRes_len ra rb)
  unfold PostRows at HI HS HBK
  generalize ra.cells Ba da=ca at *
  generalize rb.cells Bb db=cb at *
  clear hal'
  go_wp2_with (refine wpList_store_part rfl 33 _ _ rfl w1.heap.size 0 ca rfl rfl X (by rw [hla];simp [Rl.zero]) (by rw [hla];kernel_rfl) hoa ?_;intro u1 hg1 D1;refine Hid.out ?_)
  refine Lib.hid ?_
  rw [fill_all ca _ (by rw [hla];rfl)] at D1
  have Y1:=Y.src hg1 (by omega)
  have hal1:=hal.grown hg1 hal.size (fun r e=>by cases e;exact Nat.le_refl _)
  clear X Y hal hg1
  go_wp2_with (refine wpList_store_part rfl 33 _ _ rfl (w1.heap.size+1) 0 cb rfl rfl Y1 (by rw [hlb];simp [Rl.zero]) (by rw [hlb];kernel_rfl) hob ?_;intro u2 hg2 D2;refine Hid.out ?_)
  refine Lib.hid ?_
  rw [fill_all cb _ (by rw [hlb];rfl)] at D2
  have X:=D1.src hg2 (by omega)
  have Y:=D2
  have hal:=hal1.grown hg2 hal1.size (fun r e=>by cases e;exact Nat.le_succ _)
  clear D1 D2 Y1 hal1 hg2 hoa hob
  replace hE:=hE.later hal
  replace hF:=hF.later hal
  replace hB:=hB.trans (hal.mono hB.size)
  clear hal
  generalize hR:chgRes ra rb=R at *
  generalize hbad:chgCode ra rb=bad at *
  replace hR:=Lib.hid hR
  replace hbad:=Lib.hid hbad
  have hX:=X.range
  have hY:=Y.range
  go_wp2_with (first | (refine wpList_load_mid rfl 33 _ rfl (w1.heap.size) 0 rfl (ca) _ hX Tryz.underlying33 rfl (by kernel_rfl) ?_) | (refine wpList_load_mid rfl 33 _ rfl (w1.heap.size+1) 0 rfl (cb) _ hY Tryz.underlying33 rfl (by kernel_rfl) ?_) | fail)
  clear hX hY
  refine Calls.mono ((HI _ hE hF).out) ?_;rintro e w2 ⟨A2,c2,rfl,o1,hb⟩
  replace hB:=hB.trans (hb.mono hB.size)
  replace hE:=hE.later hb
  replace hF:=hF.later hb
  replace X:=X.below hb X.lt
  replace Y:=Y.below hb Y.lt
  clear hb
  have hX:=X.range
  have hY:=Y.range
  go_wp2_with (first | (refine wpList_load_mid rfl 33 _ rfl (w1.heap.size) 0 rfl (ca) _ hX Tryz.underlying33 rfl (by kernel_rfl) ?_) | (refine wpList_load_mid rfl 33 _ rfl (w1.heap.size+1) 0 rfl (cb) _ hY Tryz.underlying33 rfl (by kernel_rfl) ?_) | fail)
  clear hX hY
  refine Calls.mono ((HS _ hE hF).out) ?_;rintro e w3 ⟨A3,c3,rfl,o2,hb⟩
  replace hB:=hB.trans (hb.mono hB.size)
  replace hE:=hE.later hb
  replace hF:=hF.later hb
  replace X:=X.below hb X.lt
  replace Y:=Y.below hb Y.lt
  replace o1:=o1.below hb
  clear hb
  clear HI HS
  go_wp2_with fail
  refine (drawMarkOf_c A n c _ hn' ((HB.out.keep fun p hp=>hB.cell hp).more hB.size)).mono ?_;rintro e w4 ⟨rm,Bm,dm,rfl,hG,hb⟩
  replace hB:=hB.trans (hb.mono hB.size)
  replace hE:=hE.later hb
  replace hF:=hF.later hb
  replace X:=X.below hb X.lt
  replace Y:=Y.below hb Y.lt
  replace o1:=o1.below hb
  replace o2:=o2.below hb
  clear hb
  have hlm:(rm.cells Bm dm).length=17:=rfl
  have hom:=Rl.one rm Bm dm
  have HI:=fun W (E:RlIn W Bm dm rm)=>Lib.hid (implMarkRl_c rm Bm dm W E)
  have HS:=fun W (E:RlIn W Bm dm rm)=>Lib.hid (specMarkRl_c rm Bm dm W E)
  have M:=Blk.new w4 33 (rm.cells Bm dm).toArray
  have hal:Below w4.heap.size w4 (w4.alloc (.cells (rm.cells Bm dm).toArray 33)):=(Below.refl _ _).alloc (Nat.le_refl _) _
  replace hB:=hB.trans (hal.mono hB.size)
  replace hE:=hE.later hal
  replace hF:=hF.later hal
  replace X:=X.below hal X.lt
  replace Y:=Y.below hal Y.lt
  replace o1:=o1.below hal
  replace o2:=o2.below hal
  replace hG:=hG.later hal
  clear hal
  generalize rm.cells Bm dm=cm at *
  generalize relMark rm.b rm.nums=mk at *
  generalize relCode rm.b=mc at *
  have hM:=M.range
  go_wp2_with (first | (refine wpList_store_new rfl _ _ rfl cm rfl rfl (by rw [hlm];kernel_rfl) (by rw [hlm];rfl) hom ?_) | (refine wpList_load_mid rfl 33 _ rfl (w4.heap.size) 0 rfl (cm) _ hM Tryz.underlying33 rfl (by kernel_rfl) ?_) | fail)
  generalize w4.alloc (.cells cm.toArray 33)=u4 at *
  clear hM hom
  refine Calls.mono ((HI _ hG).out) ?_;rintro e w5 ⟨rfl,hb⟩
  replace hB:=hB.trans (hb.mono hB.size)
  replace hE:=hE.later hb
  replace hF:=hF.later hb
  replace X:=X.below hb X.lt
  replace Y:=Y.below hb Y.lt
  replace o1:=o1.below hb
  replace o2:=o2.below hb
  replace hG:=hG.later hb
  replace M:=M.below hb M.lt
  clear hb
  have hM:=M.range
  go_wp2_with (first | (refine wpList_load_mid rfl 33 _ rfl (w4.heap.size) 0 rfl (cm) _ hM Tryz.underlying33 rfl (by kernel_rfl) ?_) | fail)
  clear hM
  refine Calls.mono ((HS _ hG).out) ?_;rintro e w6 ⟨rfl,hb⟩
  replace hB:=hB.trans (hb.mono hB.size)
  replace hE:=hE.later hb
  replace hF:=hF.later hb
  replace X:=X.below hb X.lt
  replace Y:=Y.below hb Y.lt
  replace o1:=o1.below hb
  replace o2:=o2.below hb
  replace hG:=hG.later hb
  replace M:=M.below hb M.lt
  clear hb
  clear HI HS hG M
  go_wp2_with fail
  refine (drawLatestOf_c A n c _ hn' ((HB.out.keep fun p hp=>hB.cell hp).more hB.size)).mono ?_;rintro e w7 ⟨es,A7,c7,ti,rfl,hL,⟨hll,hlc⟩,htz,hb⟩
  replace hB:=hB.trans (hb.mono hB.size)
  replace hE:=hE.later hb
  replace hF:=hF.later hb
  replace X:=X.below hb X.lt
  replace Y:=Y.below hb Y.lt
  replace o1:=o1.below hb
  replace o2:=o2.below hb
  clear hb
  have HLF:Hid (latC (ens es) ti=0→_):=Lib.hid (fun h=>lat_facts h)
  have HI:=fun W (E:EnsIn W A7 es)=>Lib.hid (implLatestOf_c A7 c7 es ti W E hlc)
  have HS:=fun W (E:EnsIn W A7 es)=>Lib.hid (specLatestOf_c A7 c7 es ti W E hlc)
  generalize hln:latN (ens es) ti=ln at *
  generalize hlcd:latC (ens es) ti=lcd at *
  replace hln:=Lib.hid hln
  replace hlcd:=Lib.hid hlcd
  replace htz:=Lib.hid htz
  go_wp2_with fail
  refine Calls.mono ((HI _ hL).out) ?_;rintro e w8 ⟨rfl,hb⟩
  replace hB:=hB.trans (hb.mono hB.size)
  replace hE:=hE.later hb
  replace hF:=hF.later hb
  replace X:=X.below hb X.lt
  replace Y:=Y.below hb Y.lt
  replace o1:=o1.below hb
  replace o2:=o2.below hb
  replace hL:=hL.later hb
  clear hb
  go_wp2_with fail
  refine Calls.mono ((HS _ hL).out) ?_;rintro e w9 ⟨rfl,hb⟩
  replace hB:=hB.trans (hb.mono hB.size)
  replace hE:=hE.later hb
  replace hF:=hF.later hb
  replace X:=X.below hb X.lt
  replace Y:=Y.below hb Y.lt
  replace o1:=o1.below hb
  replace o2:=o2.below hb
  replace hL:=hL.later hb
  clear hb
  clear HI HS
  go_wp2_with fail
  refine (drawTitles_c A n c _ hn' ((HB.out.keep fun p hp=>hB.cell hp).more hB.size)).mono ?_;rintro e w10 ⟨ds,A10,c10,rfl,hD,⟨hdl,hdc⟩,hb⟩
  replace hB:=hB.trans (hb.mono hB.size)
  replace hE:=hE.later hb
  replace hF:=hF.later hb
  replace X:=X.below hb X.lt
  replace Y:=Y.below hb Y.lt
  replace o1:=o1.below hb
  replace o2:=o2.below hb
  replace hL:=hL.later hb
  clear hb HB
  have hST:=Lib.hid (tit_strict (ens ds))
  have hTl:(titR (ens ds)).length ≤ 13:=by have:=titR_len (ens ds);rw [ens_len] at this;omega
  replace hTl:=Lib.hid hTl
  have HI:=fun W (E:EnsIn W A10 ds)=>Lib.hid (implTitles_c A10 c10 ds W E hdc)
  have HS:=fun W (E:EnsIn W A10 ds)=>Lib.hid (specTitles_c A10 c10 ds W E hdc)
  unfold PostRows at HI HS
  generalize titR (ens ds)=T at *
  generalize titC (ens ds)=tc at *
  go_wp2_with fail
  refine Calls.mono ((HI _ hD).out) ?_;rintro e w11 ⟨A11,c11,rfl,o3,hb⟩
  replace hB:=hB.trans (hb.mono hB.size)
  replace hE:=hE.later hb
  replace hF:=hF.later hb
  replace X:=X.below hb X.lt
  replace Y:=Y.below hb Y.lt
  replace o1:=o1.below hb
  replace o2:=o2.below hb
  replace hL:=hL.later hb
  replace hD:=hD.later hb
  clear hb
  go_wp2_with fail
  refine Calls.mono ((HS _ hD).out) ?_;rintro e w12 ⟨A12,c12,rfl,o4,hb⟩
  replace hB:=hB.trans (hb.mono hB.size)
  replace hE:=hE.later hb
  replace hF:=hF.later hb
  replace X:=X.below hb X.lt
  replace Y:=Y.below hb Y.lt
  replace o1:=o1.below hb
  replace o2:=o2.below hb
  replace hL:=hL.later hb
  replace hD:=hD.later hb
  replace o3:=o3.below hb
  clear hb
  clear HI HS hD
  go_wp2_with fail
  refine Calls.mono (likeIntsE_c A2 A3 c2 c3 R _ (by have:=hcl.out;omega) o1.sl o2.sl) ?_;rintro e w13 ⟨rfl,hb⟩
  replace hB:=hB.trans (hb.mono hB.size)
  replace hE:=hE.later hb
  replace hF:=hF.later hb
  replace X:=X.below hb X.lt
  replace Y:=Y.below hb Y.lt
  replace o1:=o1.below hb
  replace o2:=o2.below hb
  replace hL:=hL.later hb
  replace o3:=o3.below hb
  replace o4:=o4.below hb
  clear hb
  clear o2
  go_wp2_with fail
  refine Calls.mono (likeTextsR_c A11 A12 c11 c12 T _ (by have:=hTl.out;omega) o3.sl o4.sl) ?_;rintro e w14 ⟨rfl,hb⟩
  replace hB:=hB.trans (hb.mono hB.size)
  replace hE:=hE.later hb
  replace hF:=hF.later hb
  replace X:=X.below hb X.lt
  replace Y:=Y.below hb Y.lt
  replace o1:=o1.below hb
  replace hL:=hL.later hb
  replace o3:=o3.below hb
  replace o4:=o4.below hb
  clear hb
  clear o4
  go_upto_block 0 with fail
  go_cut [25] (fun s1 wx=>Below w14.heap.size w14 wx)
  case first =>
   clear HMF HMA HMB HBK HLR HLF hE hF hL hB o1 X Y
   replace o3:=o3.sl
   go_wp2_with fail
   go_loopw [25] (fun i wr=>∃ k:Nat,(1 ≤ k∧k ≤ T.length ∨ k=1)∧i=.int .i64 k∧Below w14.heap.size w14 wr) (fun i _=>T.length+1 - (intOf i).toNat)
   case atStart=>exact ⟨1,.inr rfl,rfl,Below.refl _ _⟩
   case round =>
    obtain ⟨k,hk,rfl,hb⟩:=hrel
    have hk1:1 ≤ k:=by omega
    by_cases hlt:k < T.length
    ·have hlt':k - 1 < T.length:=by omega
     obtain ⟨b,off,rfl,hbB,hc⟩:=o3.at_ (i:=k) (by simpa using hlt)
     obtain ⟨b',off',hbe,hbB',hc'⟩:=o3.at_ (i:=k - 1) (by simpa using hlt')
     obtain ⟨rfl,rfl⟩:b=b'∧off=off':=by simpa using hbe
     simp only [List.getElem_map] at hc hc'
     have c0:wr.cell? ⟨b,off+k,none⟩=some (.string ⟨T[k].toArray⟩):=by rw [hb.cell hbB];simpa using hc 0 _ rfl
     have d0:wr.cell? ⟨b,off+(k - 1),none⟩=some (.string ⟨T[k - 1].toArray⟩):=by rw [hb.cell hbB];simpa using hc' 0 _ rfl
     have hst:=List.pairwise_iff_getElem.1 hST.out (k - 1) k hlt' hlt (by omega)
     have hl1:Op.bytesLess (⟨T[k].toArray⟩:ByteArray).toList (⟨T[k - 1].toArray⟩:ByteArray).toList=false:=by
      rw [ByteArray.toList_mk,ByteArray.toList_mk,bytesLess_eq]
      simp only [ltStr,decide_eq_true_eq] at hst
      exact decide_eq_false (List.lt_asymm hst)
     have hl2:((⟨T[k].toArray⟩:ByteArray).toList == (⟨T[k - 1].toArray⟩:ByteArray).toList)=false:=by
      rw [ByteArray.toList_mk,ByteArray.toList_mk]
      simp only [ltStr,decide_eq_true_eq] at hst
      simp only [beq_eq_false_iff_ne,ne_eq]
      intro e
      rw [e] at hst
      exact List.lt_irrefl _ hst
     have hbl:=Nat.lt_of_lt_of_le hbB hb.size
     clear hc hc' hst hbe hbB'
     generalize (⟨T[k].toArray⟩:ByteArray)=P at *
     generalize (⟨T[k - 1].toArray⟩:ByteArray)=N at *
     have hw1:IntKind.i64.wrap ((k:Int) - 1)=((k - 1:Nat):Int):=by rw [IntWalk.i64_in _ (by have:=hTl.out;omega)];omega
     have hw2:IntKind.i64.wrap ((k:Int)+1)=((k+1:Nat):Int):=by rw [IntWalk.i64_in _ (by have:=hTl.out;omega)];omega
     have hltI:(k:Int) < T.length:=by omega
     have hltI':((k - 1:Nat):Int) < T.length:=by omega
     go_wp2_with fail
     refine wp_region_all (fun a0 fL bA v=>∃ v139 v140 v141 v142 v143 v144 v145 v146 v147 v148:Value,bA=(((((((((a0.put (some 139) v139).put (some 140) v140).put (some 141) v141).put (some 142) v142).put (some 143) v143).put (some 144) v144).put (some 145) v145).put (some 146) v146).put (some 147) v147).put (some 148) v148∧(Below wr.heap.size wr v)∧(fL 0=true→v139=.slice (some ⟨b,off,none⟩) T.length c11)∧(fL 1=true→v140=.int .i64 (k:Nat))∧(fL 2=true→v141=.pointer (some ⟨b,off+k,none⟩))∧(fL 3=true→v142=.string P)∧(fL 4=true→v143=.slice (some ⟨b,off,none⟩) T.length c11)∧(fL 5=true→v144=.int .i64 (k:Nat))∧(fL 6=true→v145=.int .i64 ((k - 1:Nat):Int))∧(fL 7=true→v146=.pointer (some ⟨b,off+(k - 1),none⟩))∧(fL 8=true→v147=.string N)∧(fL 9=true→v148=.bool false)) (by kernel_rfl) (by decide +kernel) ?_ ?_ ?_
     ·exact ⟨_,_,_,_,_,_,_,_,_,_,put_more (put_more (put_more (put_more (put_more (put_more (put_more (put_more (put_more (put_more (rfl) 139) 140) 141) 142) 143) 144) 145) 146) 147) 148,(Below.refl _ _).drew,nofun,nofun,nofun,nofun,nofun,nofun,nofun,nofun,nofun,nofun⟩
     ·rintro fL bA v ⟨v139,v140,v141,v142,v143,v144,v145,v146,v147,v148,rfl,hS,q0,q1,q2,q3,q4,q5,q6,q7,q8,q9⟩ i hi hf o ho hall
      simp only [Act.put,List.setIfInBounds_toArray,List.set_cons_zero,List.set_cons_succ]
      simp only [List.length_cons,List.length_nil] at hi
      have hn:i=0 ∨ i=1 ∨ i=2 ∨ i=3 ∨ i=4 ∨ i=5 ∨ i=6 ∨ i=7 ∨ i=8 ∨ i=9:=by omega
      clear hi
      rcases hn with rfl | rfl | rfl | rfl | rfl | rfl | rfl | rfl | rfl | rfl
      ·obtain rfl:=Option.some.inj ho
       clear hall ho
       refine wpOp_step rfl (fun K hK=>?_)
       go_simp
       exact hK _ _ ⟨_,_,_,_,_,_,_,_,_,_,rfl,hS,fun _=>rfl,q1,q2,q3,q4,q5,q6,q7,q8,q9⟩
      ·obtain rfl:=Option.some.inj ho
       clear hall ho
       refine wpOp_step rfl (fun K hK=>?_)
       go_simp
       exact hK _ _ ⟨_,_,_,_,_,_,_,_,_,_,rfl,hS,q0,fun _=>rfl,q2,q3,q4,q5,q6,q7,q8,q9⟩
      ·obtain rfl:=Option.some.inj ho
       obtain rfl:=q0 (hall ⟨0,.data⟩ (by simp) rfl)
       obtain rfl:=q1 (hall ⟨1,.data⟩ (by simp) rfl)
       clear hall ho
       refine wpOp_step rfl (fun K hK=>?_)
       go_simp
       exact hK _ _ ⟨_,_,_,_,_,_,_,_,_,_,rfl,hS,fun _=>rfl,fun _=>rfl,fun _=>rfl,q3,q4,q5,q6,q7,q8,q9⟩
      ·obtain rfl:=Option.some.inj ho
       obtain rfl:=q2 (hall ⟨2,.data⟩ (by simp) rfl)
       have y0:=(hS.cell (p:=_) hbl).trans c0
       clear hall ho
       refine wpOp_step rfl (fun K hK=>?_)
       go_simp
       exact hK _ _ ⟨_,_,_,_,_,_,_,_,_,_,rfl,hS,q0,q1,fun _=>rfl,fun _=>rfl,q4,q5,q6,q7,q8,q9⟩
      ·obtain rfl:=Option.some.inj ho
       clear hall ho
       refine wpOp_step rfl (fun K hK=>?_)
       go_simp
       exact hK _ _ ⟨_,_,_,_,_,_,_,_,_,_,rfl,hS,q0,q1,q2,q3,fun _=>rfl,q5,q6,q7,q8,q9⟩
      ·obtain rfl:=Option.some.inj ho
       clear hall ho
       refine wpOp_step rfl (fun K hK=>?_)
       go_simp
       exact hK _ _ ⟨_,_,_,_,_,_,_,_,_,_,rfl,hS,q0,q1,q2,q3,q4,fun _=>rfl,q6,q7,q8,q9⟩
      ·obtain rfl:=Option.some.inj ho
       obtain rfl:=q5 (hall ⟨5,.data⟩ (by simp) rfl)
       clear hall ho
       refine wpOp_step rfl (fun K hK=>?_)
       go_simp
       exact hK _ _ ⟨_,_,_,_,_,_,_,_,_,_,rfl,hS,q0,q1,q2,q3,q4,fun _=>rfl,fun _=>rfl,q7,q8,q9⟩
      ·obtain rfl:=Option.some.inj ho
       obtain rfl:=q4 (hall ⟨4,.data⟩ (by simp) rfl)
       obtain rfl:=q6 (hall ⟨6,.data⟩ (by simp) rfl)
       clear hall ho
       refine wpOp_step rfl (fun K hK=>?_)
       go_simp
       exact hK _ _ ⟨_,_,_,_,_,_,_,_,_,_,rfl,hS,q0,q1,q2,q3,fun _=>rfl,q5,fun _=>rfl,fun _=>rfl,q8,q9⟩
      ·obtain rfl:=Option.some.inj ho
       obtain rfl:=q7 (hall ⟨7,.data⟩ (by simp) rfl)
       have y0:=(hS.cell (p:=_) hbl).trans d0
       clear hall ho
       refine wpOp_step rfl (fun K hK=>?_)
       go_simp
       exact hK _ _ ⟨_,_,_,_,_,_,_,_,_,_,rfl,hS,q0,q1,q2,q3,q4,q5,q6,fun _=>rfl,fun _=>rfl,q9⟩
      ·obtain rfl:=Option.some.inj ho
       obtain rfl:=q3 (hall ⟨3,.data⟩ (by simp) rfl)
       obtain rfl:=q8 (hall ⟨8,.data⟩ (by simp) rfl)
       clear hall ho
       refine wpOp_step rfl (fun K hK=>?_)
       go_simp
       exact hK _ _ ⟨_,_,_,_,_,_,_,_,_,_,rfl,hS,q0,q1,q2,fun _=>rfl,q4,q5,q6,q7,fun _=>rfl,fun _=>rfl⟩
     rintro fL bA v ⟨v139,v140,v141,v142,v143,v144,v145,v146,v147,v148,rfl,hS,q0,q1,q2,q3,q4,q5,q6,q7,q8,q9⟩ hall
     simp only [Act.put,List.setIfInBounds_toArray,List.set_cons_zero,List.set_cons_succ]
     simp only [List.length_cons,List.length_nil] at hall
     obtain rfl:=q0 (hall 0 (by omega))
     obtain rfl:=q1 (hall 1 (by omega))
     obtain rfl:=q2 (hall 2 (by omega))
     obtain rfl:=q3 (hall 3 (by omega))
     obtain rfl:=q4 (hall 4 (by omega))
     obtain rfl:=q5 (hall 5 (by omega))
     obtain rfl:=q6 (hall 6 (by omega))
     obtain rfl:=q7 (hall 7 (by omega))
     obtain rfl:=q8 (hall 8 (by omega))
     obtain rfl:=q9 (hall 9 (by omega))
     clear hall
     have hb9:=hb.trans (hS.mono hb.size)
     go_wp2_with fail
     go_roundw
     case rel=>exact ⟨k+1,.inl (by omega),by go_num,hb9⟩
     case measure=>simp [intOf];omega
    ·go_wp2_with fail
     go_meet
     case rel=>exact hb
  case rest =>
   clear o3 hST hTl
   replace hB:=hB.trans (hcut.mono hB.size)
   replace hE:=hE.later hcut
   replace hF:=hF.later hcut
   replace hL:=hL.later hcut
   replace o1:=o1.below hcut
   replace X:=X.below hcut X.lt
   replace Y:=Y.below hcut Y.lt
   clear hcut
   generalize wc=w15 at *
   go_upto_block 2 with fail
   go_cut [26] (fun s1 wx=>Below w15.heap.size w15 wx)
   case first =>
    clear HMF HMA HMB HBK HLR hE hF hB o1 X Y
    go_wp2_with fail
    go_loopw [26] (fun i wr=>∃ k:Nat,k ≤ es.length∧i=.int .i64 k∧Below w15.heap.size w15 wr) (fun i _=>es.length - (intOf i).toNat)
    case atStart=>exact ⟨0,Nat.zero_le _,rfl,Below.refl _ _⟩
    case round =>
     obtain ⟨k,hk,rfl,hb⟩:=hrel
     by_cases hgo:lcd=0∧k < es.length
     ·obtain ⟨rfl,hlt⟩:=hgo
      obtain ⟨j,hj,hjl,hall⟩:=HLF.out rfl
      have hjl2:j < es.length:=by rw [ens_len] at hj;exact hj
      subst hjl
      have hvv:=hall k (by rw [ens_len];exact hlt)
      have hek:(ens es)[k]'(by rw [ens_len];exact hlt)=es[k].e:=by simp [ens]
      have hej:(ens es)[j]'hj=es[j].e:=by simp [ens]
      rw [hek,hej] at hvv
      obtain ⟨b,off,rfl,hbB,hc⟩:=hL.s.at_ (i:=k) (by simpa using hlt)
      obtain ⟨b',off',hbe,hbB',hc'⟩:=hL.s.at_ (i:=j) (by simpa using hjl2)
      obtain ⟨rfl,rfl⟩:b=b'∧off=off':=by simpa using hbe
      simp only [List.getElem_map] at hc hc'
      have c0:wr.cell? ⟨b,off+k * 20,none⟩=some (.string es[k].e.ti):=by rw [hb.cell hbB];exact hc 0 _ rfl
      have c1:wr.cell? ⟨b,off+k * 20+1,none⟩=some (.int .i64 es[k].e.ve):=by rw [hb.cell hbB];exact hc 1 _ rfl
      have d1:wr.cell? ⟨b,off+j * 20+1,none⟩=some (.int .i64 es[j].e.ve):=by rw [hb.cell hbB];exact hc' 1 _ rfl
      have hbl:=Nat.lt_of_lt_of_le hbB hb.size
      clear hc hc' hbe hbB' hek hej hall HLF
      generalize es[k].e.ti=tk at *
      generalize es[k].e.ve=ve at *
      generalize es[j].e.ve=vj at *
      have hw1:IntKind.i64.wrap ((k:Int)+1)=((k+1:Nat):Int):=by rw [IntWalk.i64_in _ (by omega)];omega
      have hltI:(k:Int) < es.length:=by omega
      have hjI:(j:Int) < es.length:=by omega
      replace hvv:=Lib.hid hvv
      cases htt:(tk.toList == ti.toList) with
      | false =>
       go_wp2_with fail
       refine wp_region_all (fun a0 fL bA v=>∃ v159 v160 v161 v162 v163 v164 v165 v166 v167 v168 v169 v170 v171 v172 v173 v174 v175 v176 v177 v178:Value,bA=(((((((((((((((((((a0.put (some 159) v159).put (some 160) v160).put (some 161) v161).put (some 162) v162).put (some 163) v163).put (some 164) v164).put (some 165) v165).put (some 166) v166).put (some 167) v167).put (some 168) v168).put (some 169) v169).put (some 170) v170).put (some 171) v171).put (some 172) v172).put (some 173) v173).put (some 174) v174).put (some 175) v175).put (some 176) v176).put (some 177) v177).put (some 178) v178∧(Below wr.heap.size wr v)∧(fL 0=true→v159=.slice (some ⟨b,off,none⟩) es.length c7)∧(fL 1=true→v160=.int .i64 (k:Nat))∧(fL 2=true→v161=.pointer (some ⟨b,off+k * 20,none⟩))∧(fL 3=true→v162=.pointer (some ⟨b,off+k * 20,none⟩))∧(fL 4=true→v163=.string tk)∧(fL 5=true→v164=.string ti)∧(fL 6=true→v165=.bool false)∧(fL 7=true→v166=.bool false)∧(fL 8=true→v167=undef)∧(fL 9=true→v168=undef)∧(fL 10=true→v169=undef)∧(fL 11=true→v170=undef)∧(fL 12=true→v171=undef)∧(fL 13=true→v172=undef)∧(fL 14=true→v173=undef)∧(fL 15=true→v174=undef)∧(fL 16=true→v175=undef)∧(fL 17=true→v176=undef)∧(fL 18=true→v177=undef)∧(fL 19=true→v178=.bool false)) (by kernel_rfl) (by decide +kernel) ?_ ?_ ?_
       ·exact ⟨_,_,_,_,_,_,_,_,_,_,_,_,_,_,_,_,_,_,_,_,put_more (put_more (put_more (put_more (put_more (put_more (put_more (put_more (put_more (put_more (put_more (put_more (put_more (put_more (put_more (put_more (put_more (put_more (put_more (put_more (rfl) 159) 160) 161) 162) 163) 164) 165) 166) 167) 168) 169) 170) 171) 172) 173) 174) 175) 176) 177) 178,(Below.refl _ _).drew,nofun,nofun,nofun,nofun,nofun,nofun,nofun,nofun,nofun,nofun,nofun,nofun,nofun,nofun,nofun,nofun,nofun,nofun,nofun,nofun⟩
       ·rintro fL bA v ⟨v159,v160,v161,v162,v163,v164,v165,v166,v167,v168,v169,v170,v171,v172,v173,v174,v175,v176,v177,v178,rfl,hS,q0,q1,q2,q3,q4,q5,q6,q7,q8,q9,q10,q11,q12,q13,q14,q15,q16,q17,q18,q19⟩ i hi hf o ho hall
        simp only [Act.put,List.setIfInBounds_toArray,List.set_cons_zero,List.set_cons_succ]
        simp only [List.length_cons,List.length_nil] at hi
        have hn:i=0 ∨ i=1 ∨ i=2 ∨ i=3 ∨ i=4 ∨ i=5 ∨ i=6 ∨ i=7 ∨ i=8 ∨ i=9 ∨ i=10 ∨ i=11 ∨ i=12 ∨ i=13 ∨ i=14 ∨ i=15 ∨ i=16 ∨ i=17 ∨ i=18 ∨ i=19:=by omega
        clear hi
        rcases hn with rfl | rfl | rfl | rfl | rfl | rfl | rfl | rfl | rfl | rfl | rfl | rfl | rfl | rfl | rfl | rfl | rfl | rfl | rfl | rfl
        ·obtain rfl:=Option.some.inj ho
         clear hall ho
         refine wpOp_step rfl (fun K hK=>?_)
         go_simp
         exact hK _ _ ⟨_,_,_,_,_,_,_,_,_,_,_,_,_,_,_,_,_,_,_,_,rfl,hS,fun _=>rfl,q1,q2,q3,q4,q5,q6,q7,q8,q9,q10,q11,q12,q13,q14,q15,q16,q17,q18,q19⟩
        ·obtain rfl:=Option.some.inj ho
         clear hall ho
         refine wpOp_step rfl (fun K hK=>?_)
         go_simp
         exact hK _ _ ⟨_,_,_,_,_,_,_,_,_,_,_,_,_,_,_,_,_,_,_,_,rfl,hS,q0,fun _=>rfl,q2,q3,q4,q5,q6,q7,q8,q9,q10,q11,q12,q13,q14,q15,q16,q17,q18,q19⟩
        ·obtain rfl:=Option.some.inj ho
         obtain rfl:=q0 (hall ⟨0,.data⟩ (by simp) rfl)
         obtain rfl:=q1 (hall ⟨1,.data⟩ (by simp) rfl)
         clear hall ho
         refine wpOp_step rfl (fun K hK=>?_)
         go_simp
         exact hK _ _ ⟨_,_,_,_,_,_,_,_,_,_,_,_,_,_,_,_,_,_,_,_,rfl,hS,fun _=>rfl,fun _=>rfl,fun _=>rfl,q3,q4,q5,q6,q7,q8,q9,q10,q11,q12,q13,q14,q15,q16,q17,q18,q19⟩
        ·obtain rfl:=Option.some.inj ho
         obtain rfl:=q2 (hall ⟨2,.data⟩ (by simp) rfl)
         clear hall ho
         refine wpOp_step rfl (fun K hK=>?_)
         go_simp
         exact hK _ _ ⟨_,_,_,_,_,_,_,_,_,_,_,_,_,_,_,_,_,_,_,_,rfl,hS,q0,q1,fun _=>rfl,fun _=>rfl,q4,q5,q6,q7,q8,q9,q10,q11,q12,q13,q14,q15,q16,q17,q18,q19⟩
        ·obtain rfl:=Option.some.inj ho
         obtain rfl:=q3 (hall ⟨3,.data⟩ (by simp) rfl)
         have y0:=(hS.cell (p:=_) hbl).trans c0
         clear hall ho
         refine wpOp_step rfl (fun K hK=>?_)
         go_simp
         exact hK _ _ ⟨_,_,_,_,_,_,_,_,_,_,_,_,_,_,_,_,_,_,_,_,rfl,hS,q0,q1,q2,fun _=>rfl,fun _=>rfl,q5,q6,q7,q8,q9,q10,q11,q12,q13,q14,q15,q16,q17,q18,q19⟩
        ·obtain rfl:=Option.some.inj ho
         clear hall ho
         refine wpOp_step rfl (fun K hK=>?_)
         go_simp
         exact hK _ _ ⟨_,_,_,_,_,_,_,_,_,_,_,_,_,_,_,_,_,_,_,_,rfl,hS,q0,q1,q2,q3,q4,fun _=>rfl,q6,q7,q8,q9,q10,q11,q12,q13,q14,q15,q16,q17,q18,q19⟩
        ·obtain rfl:=Option.some.inj ho
         obtain rfl:=q4 (hall ⟨4,.data⟩ (by simp) rfl)
         obtain rfl:=q5 (hall ⟨5,.data⟩ (by simp) rfl)
         clear hall ho
         refine wpOp_step rfl (fun K hK=>?_)
         go_simp
         exact hK _ _ ⟨_,_,_,_,_,_,_,_,_,_,_,_,_,_,_,_,_,_,_,_,rfl,hS,q0,q1,q2,q3,fun _=>rfl,fun _=>rfl,fun _=>rfl,q7,q8,q9,q10,q11,q12,q13,q14,q15,q16,q17,q18,q19⟩
        ·obtain rfl:=Option.some.inj ho
         obtain rfl:=q6 (hall ⟨6,.data⟩ (by simp) rfl)
         clear hall ho
         refine wpOp_step rfl (fun K hK=>?_)
         go_simp
         exact hK _ _ ⟨_,_,_,_,_,_,_,_,_,_,_,_,_,_,_,_,_,_,_,_,rfl,hS,q0,q1,q2,q3,q4,q5,fun _=>rfl,fun _=>rfl,q8,q9,q10,q11,q12,q13,q14,q15,q16,q17,q18,q19⟩
        ·obtain rfl:=Option.some.inj ho
         obtain rfl:=q7 (hall ⟨7,.guard⟩ (by simp) rfl)
         clear hall ho
         refine wpOp_step rfl (fun K hK=>?_)
         go_simp
         exact hK _ _ ⟨_,_,_,_,_,_,_,_,_,_,_,_,_,_,_,_,_,_,_,_,rfl,hS,q0,q1,q2,q3,q4,q5,q6,fun _=>rfl,fun _=>rfl,q9,q10,q11,q12,q13,q14,q15,q16,q17,q18,q19⟩
        ·obtain rfl:=Option.some.inj ho
         obtain rfl:=q7 (hall ⟨7,.guard⟩ (by simp) rfl)
         clear hall ho
         refine wpOp_step rfl (fun K hK=>?_)
         go_simp
         exact hK _ _ ⟨_,_,_,_,_,_,_,_,_,_,_,_,_,_,_,_,_,_,_,_,rfl,hS,q0,q1,q2,q3,q4,q5,q6,fun _=>rfl,q8,fun _=>rfl,q10,q11,q12,q13,q14,q15,q16,q17,q18,q19⟩
        ·obtain rfl:=Option.some.inj ho
         obtain rfl:=q8 (hall ⟨8,.data⟩ (by simp) rfl)
         obtain rfl:=q9 (hall ⟨9,.data⟩ (by simp) rfl)
         obtain rfl:=q7 (hall ⟨7,.guard⟩ (by simp) rfl)
         clear hall ho
         refine wpOp_step rfl (fun K hK=>?_)
         go_simp
         exact hK _ _ ⟨_,_,_,_,_,_,_,_,_,_,_,_,_,_,_,_,_,_,_,_,rfl,hS,q0,q1,q2,q3,q4,q5,q6,fun _=>rfl,fun _=>rfl,fun _=>rfl,fun _=>rfl,q11,q12,q13,q14,q15,q16,q17,q18,q19⟩
        ·obtain rfl:=Option.some.inj ho
         obtain rfl:=q10 (hall ⟨10,.data⟩ (by simp) rfl)
         obtain rfl:=q7 (hall ⟨7,.guard⟩ (by simp) rfl)
         clear hall ho
         refine wpOp_step rfl (fun K hK=>?_)
         go_simp
         exact hK _ _ ⟨_,_,_,_,_,_,_,_,_,_,_,_,_,_,_,_,_,_,_,_,rfl,hS,q0,q1,q2,q3,q4,q5,q6,fun _=>rfl,q8,q9,fun _=>rfl,fun _=>rfl,q12,q13,q14,q15,q16,q17,q18,q19⟩
        ·obtain rfl:=Option.some.inj ho
         obtain rfl:=q11 (hall ⟨11,.data⟩ (by simp) rfl)
         obtain rfl:=q7 (hall ⟨7,.guard⟩ (by simp) rfl)
         clear hall ho
         refine wpOp_step rfl (fun K hK=>?_)
         go_simp
         exact hK _ _ ⟨_,_,_,_,_,_,_,_,_,_,_,_,_,_,_,_,_,_,_,_,rfl,hS,q0,q1,q2,q3,q4,q5,q6,fun _=>rfl,q8,q9,q10,fun _=>rfl,fun _=>rfl,q13,q14,q15,q16,q17,q18,q19⟩
        ·obtain rfl:=Option.some.inj ho
         obtain rfl:=q7 (hall ⟨7,.guard⟩ (by simp) rfl)
         clear hall ho
         refine wpOp_step rfl (fun K hK=>?_)
         go_simp
         exact hK _ _ ⟨_,_,_,_,_,_,_,_,_,_,_,_,_,_,_,_,_,_,_,_,rfl,hS,q0,q1,q2,q3,q4,q5,q6,fun _=>rfl,q8,q9,q10,q11,q12,fun _=>rfl,q14,q15,q16,q17,q18,q19⟩
        ·obtain rfl:=Option.some.inj ho
         obtain rfl:=q7 (hall ⟨7,.guard⟩ (by simp) rfl)
         clear hall ho
         refine wpOp_step rfl (fun K hK=>?_)
         go_simp
         exact hK _ _ ⟨_,_,_,_,_,_,_,_,_,_,_,_,_,_,_,_,_,_,_,_,rfl,hS,q0,q1,q2,q3,q4,q5,q6,fun _=>rfl,q8,q9,q10,q11,q12,q13,fun _=>rfl,q15,q16,q17,q18,q19⟩
        ·obtain rfl:=Option.some.inj ho
         obtain rfl:=q13 (hall ⟨13,.data⟩ (by simp) rfl)
         obtain rfl:=q14 (hall ⟨14,.data⟩ (by simp) rfl)
         obtain rfl:=q7 (hall ⟨7,.guard⟩ (by simp) rfl)
         clear hall ho
         refine wpOp_step rfl (fun K hK=>?_)
         go_simp
         exact hK _ _ ⟨_,_,_,_,_,_,_,_,_,_,_,_,_,_,_,_,_,_,_,_,rfl,hS,q0,q1,q2,q3,q4,q5,q6,fun _=>rfl,q8,q9,q10,q11,q12,fun _=>rfl,fun _=>rfl,fun _=>rfl,q16,q17,q18,q19⟩
        ·obtain rfl:=Option.some.inj ho
         obtain rfl:=q15 (hall ⟨15,.data⟩ (by simp) rfl)
         obtain rfl:=q7 (hall ⟨7,.guard⟩ (by simp) rfl)
         clear hall ho
         refine wpOp_step rfl (fun K hK=>?_)
         go_simp
         exact hK _ _ ⟨_,_,_,_,_,_,_,_,_,_,_,_,_,_,_,_,_,_,_,_,rfl,hS,q0,q1,q2,q3,q4,q5,q6,fun _=>rfl,q8,q9,q10,q11,q12,q13,q14,fun _=>rfl,fun _=>rfl,q17,q18,q19⟩
        ·obtain rfl:=Option.some.inj ho
         obtain rfl:=q16 (hall ⟨16,.data⟩ (by simp) rfl)
         obtain rfl:=q7 (hall ⟨7,.guard⟩ (by simp) rfl)
         clear hall ho
         refine wpOp_step rfl (fun K hK=>?_)
         go_simp
         exact hK _ _ ⟨_,_,_,_,_,_,_,_,_,_,_,_,_,_,_,_,_,_,_,_,rfl,hS,q0,q1,q2,q3,q4,q5,q6,fun _=>rfl,q8,q9,q10,q11,q12,q13,q14,q15,fun _=>rfl,fun _=>rfl,q18,q19⟩
        ·obtain rfl:=Option.some.inj ho
         obtain rfl:=q12 (hall ⟨12,.data⟩ (by simp) rfl)
         obtain rfl:=q17 (hall ⟨17,.data⟩ (by simp) rfl)
         obtain rfl:=q7 (hall ⟨7,.guard⟩ (by simp) rfl)
         clear hall ho
         refine wpOp_step rfl (fun K hK=>?_)
         go_simp
         exact hK _ _ ⟨_,_,_,_,_,_,_,_,_,_,_,_,_,_,_,_,_,_,_,_,rfl,hS,q0,q1,q2,q3,q4,q5,q6,fun _=>rfl,q8,q9,q10,q11,fun _=>rfl,q13,q14,q15,q16,fun _=>rfl,fun _=>rfl,q19⟩
        ·obtain rfl:=Option.some.inj ho
         obtain rfl:=q7 (hall ⟨7,.data⟩ (by simp) rfl)
         obtain rfl:=q18 (hall ⟨18,.data⟩ (by simp) rfl)
         clear hall ho
         refine wpOp_step rfl (fun K hK=>?_)
         go_simp
         exact hK _ _ ⟨_,_,_,_,_,_,_,_,_,_,_,_,_,_,_,_,_,_,_,_,rfl,hS,q0,q1,q2,q3,q4,q5,q6,fun _=>rfl,q8,q9,q10,q11,q12,q13,q14,q15,q16,q17,fun _=>rfl,fun _=>rfl⟩
       rintro fL bA v ⟨v159,v160,v161,v162,v163,v164,v165,v166,v167,v168,v169,v170,v171,v172,v173,v174,v175,v176,v177,v178,rfl,hS,q0,q1,q2,q3,q4,q5,q6,q7,q8,q9,q10,q11,q12,q13,q14,q15,q16,q17,q18,q19⟩ hall
       simp only [Act.put,List.setIfInBounds_toArray,List.set_cons_zero,List.set_cons_succ]
       simp only [List.length_cons,List.length_nil] at hall
       obtain rfl:=q0 (hall 0 (by omega))
       obtain rfl:=q1 (hall 1 (by omega))
       obtain rfl:=q2 (hall 2 (by omega))
       obtain rfl:=q3 (hall 3 (by omega))
       obtain rfl:=q4 (hall 4 (by omega))
       obtain rfl:=q5 (hall 5 (by omega))
       obtain rfl:=q6 (hall 6 (by omega))
       obtain rfl:=q7 (hall 7 (by omega))
       obtain rfl:=q8 (hall 8 (by omega))
       obtain rfl:=q9 (hall 9 (by omega))
       obtain rfl:=q10 (hall 10 (by omega))
       obtain rfl:=q11 (hall 11 (by omega))
       obtain rfl:=q12 (hall 12 (by omega))
       obtain rfl:=q13 (hall 13 (by omega))
       obtain rfl:=q14 (hall 14 (by omega))
       obtain rfl:=q15 (hall 15 (by omega))
       obtain rfl:=q16 (hall 16 (by omega))
       obtain rfl:=q17 (hall 17 (by omega))
       obtain rfl:=q18 (hall 18 (by omega))
       obtain rfl:=q19 (hall 19 (by omega))
       clear hall
       have hb9:=hb.trans (hS.mono hb.size)
       go_wp2_with fail
       go_roundw
       case rel=>exact ⟨k+1,by omega,by go_num,hb9⟩
       case measure=>simp [intOf];omega
      | true =>
       have hgt:¬ vj < ve:=by have:=hvv.out htt;omega
       have hgd:decide (vj < ve)=false:=decide_eq_false hgt
       go_wp2_with fail
       refine wp_region_all (fun a0 fL bA v=>∃ v159 v160 v161 v162 v163 v164 v165 v166 v167 v168 v169 v170 v171 v172 v173 v174 v175 v176 v177 v178:Value,bA=(((((((((((((((((((a0.put (some 159) v159).put (some 160) v160).put (some 161) v161).put (some 162) v162).put (some 163) v163).put (some 164) v164).put (some 165) v165).put (some 166) v166).put (some 167) v167).put (some 168) v168).put (some 169) v169).put (some 170) v170).put (some 171) v171).put (some 172) v172).put (some 173) v173).put (some 174) v174).put (some 175) v175).put (some 176) v176).put (some 177) v177).put (some 178) v178∧(Below wr.heap.size wr v)∧(fL 0=true→v159=.slice (some ⟨b,off,none⟩) es.length c7)∧(fL 1=true→v160=.int .i64 (k:Nat))∧(fL 2=true→v161=.pointer (some ⟨b,off+k * 20,none⟩))∧(fL 3=true→v162=.pointer (some ⟨b,off+k * 20,none⟩))∧(fL 4=true→v163=.string tk)∧(fL 5=true→v164=.string ti)∧(fL 6=true→v165=.bool true)∧(fL 7=true→v166=.bool true)∧(fL 8=true→v167=.slice (some ⟨b,off,none⟩) es.length c7)∧(fL 9=true→v168=.int .i64 (k:Nat))∧(fL 10=true→v169=.pointer (some ⟨b,off+k * 20,none⟩))∧(fL 11=true→v170=.pointer (some ⟨b,off+k * 20+1,none⟩))∧(fL 12=true→v171=.int .i64 ve)∧(fL 13=true→v172=.slice (some ⟨b,off,none⟩) es.length c7)∧(fL 14=true→v173=.int .i64 (j:Nat))∧(fL 15=true→v174=.pointer (some ⟨b,off+j * 20,none⟩))∧(fL 16=true→v175=.pointer (some ⟨b,off+j * 20+1,none⟩))∧(fL 17=true→v176=.int .i64 vj)∧(fL 18=true→v177=.bool false)∧(fL 19=true→v178=.bool false)) (by kernel_rfl) (by decide +kernel) ?_ ?_ ?_
       ·exact ⟨_,_,_,_,_,_,_,_,_,_,_,_,_,_,_,_,_,_,_,_,put_more (put_more (put_more (put_more (put_more (put_more (put_more (put_more (put_more (put_more (put_more (put_more (put_more (put_more (put_more (put_more (put_more (put_more (put_more (put_more (rfl) 159) 160) 161) 162) 163) 164) 165) 166) 167) 168) 169) 170) 171) 172) 173) 174) 175) 176) 177) 178,(Below.refl _ _).drew,nofun,nofun,nofun,nofun,nofun,nofun,nofun,nofun,nofun,nofun,nofun,nofun,nofun,nofun,nofun,nofun,nofun,nofun,nofun,nofun⟩
       ·rintro fL bA v ⟨v159,v160,v161,v162,v163,v164,v165,v166,v167,v168,v169,v170,v171,v172,v173,v174,v175,v176,v177,v178,rfl,hS,q0,q1,q2,q3,q4,q5,q6,q7,q8,q9,q10,q11,q12,q13,q14,q15,q16,q17,q18,q19⟩ i hi hf o ho hall
        simp only [Act.put,List.setIfInBounds_toArray,List.set_cons_zero,List.set_cons_succ]
        simp only [List.length_cons,List.length_nil] at hi
        have hn:i=0 ∨ i=1 ∨ i=2 ∨ i=3 ∨ i=4 ∨ i=5 ∨ i=6 ∨ i=7 ∨ i=8 ∨ i=9 ∨ i=10 ∨ i=11 ∨ i=12 ∨ i=13 ∨ i=14 ∨ i=15 ∨ i=16 ∨ i=17 ∨ i=18 ∨ i=19:=by omega
        clear hi
        rcases hn with rfl | rfl | rfl | rfl | rfl | rfl | rfl | rfl | rfl | rfl | rfl | rfl | rfl | rfl | rfl | rfl | rfl | rfl | rfl | rfl
        ·obtain rfl:=Option.some.inj ho
         clear hall ho
         refine wpOp_step rfl (fun K hK=>?_)
         go_simp
         exact hK _ _ ⟨_,_,_,_,_,_,_,_,_,_,_,_,_,_,_,_,_,_,_,_,rfl,hS,fun _=>rfl,q1,q2,q3,q4,q5,q6,q7,q8,q9,q10,q11,q12,q13,q14,q15,q16,q17,q18,q19⟩
        ·obtain rfl:=Option.some.inj ho
         clear hall ho
         refine wpOp_step rfl (fun K hK=>?_)
         go_simp
         exact hK _ _ ⟨_,_,_,_,_,_,_,_,_,_,_,_,_,_,_,_,_,_,_,_,rfl,hS,q0,fun _=>rfl,q2,q3,q4,q5,q6,q7,q8,q9,q10,q11,q12,q13,q14,q15,q16,q17,q18,q19⟩
        ·obtain rfl:=Option.some.inj ho
         obtain rfl:=q0 (hall ⟨0,.data⟩ (by simp) rfl)
         obtain rfl:=q1 (hall ⟨1,.data⟩ (by simp) rfl)
         clear hall ho
         refine wpOp_step rfl (fun K hK=>?_)
         go_simp
         exact hK _ _ ⟨_,_,_,_,_,_,_,_,_,_,_,_,_,_,_,_,_,_,_,_,rfl,hS,fun _=>rfl,fun _=>rfl,fun _=>rfl,q3,q4,q5,q6,q7,q8,q9,q10,q11,q12,q13,q14,q15,q16,q17,q18,q19⟩
        ·obtain rfl:=Option.some.inj ho
         obtain rfl:=q2 (hall ⟨2,.data⟩ (by simp) rfl)
         clear hall ho
         refine wpOp_step rfl (fun K hK=>?_)
         go_simp
         exact hK _ _ ⟨_,_,_,_,_,_,_,_,_,_,_,_,_,_,_,_,_,_,_,_,rfl,hS,q0,q1,fun _=>rfl,fun _=>rfl,q4,q5,q6,q7,q8,q9,q10,q11,q12,q13,q14,q15,q16,q17,q18,q19⟩
        ·obtain rfl:=Option.some.inj ho
         obtain rfl:=q3 (hall ⟨3,.data⟩ (by simp) rfl)
         have y0:=(hS.cell (p:=_) hbl).trans c0
         clear hall ho
         refine wpOp_step rfl (fun K hK=>?_)
         go_simp
         exact hK _ _ ⟨_,_,_,_,_,_,_,_,_,_,_,_,_,_,_,_,_,_,_,_,rfl,hS,q0,q1,q2,fun _=>rfl,fun _=>rfl,q5,q6,q7,q8,q9,q10,q11,q12,q13,q14,q15,q16,q17,q18,q19⟩
        ·obtain rfl:=Option.some.inj ho
         clear hall ho
         refine wpOp_step rfl (fun K hK=>?_)
         go_simp
         exact hK _ _ ⟨_,_,_,_,_,_,_,_,_,_,_,_,_,_,_,_,_,_,_,_,rfl,hS,q0,q1,q2,q3,q4,fun _=>rfl,q6,q7,q8,q9,q10,q11,q12,q13,q14,q15,q16,q17,q18,q19⟩
        ·obtain rfl:=Option.some.inj ho
         obtain rfl:=q4 (hall ⟨4,.data⟩ (by simp) rfl)
         obtain rfl:=q5 (hall ⟨5,.data⟩ (by simp) rfl)
         clear hall ho
         refine wpOp_step rfl (fun K hK=>?_)
         go_simp
         exact hK _ _ ⟨_,_,_,_,_,_,_,_,_,_,_,_,_,_,_,_,_,_,_,_,rfl,hS,q0,q1,q2,q3,fun _=>rfl,fun _=>rfl,fun _=>rfl,q7,q8,q9,q10,q11,q12,q13,q14,q15,q16,q17,q18,q19⟩
        ·obtain rfl:=Option.some.inj ho
         obtain rfl:=q6 (hall ⟨6,.data⟩ (by simp) rfl)
         clear hall ho
         refine wpOp_step rfl (fun K hK=>?_)
         go_simp
         exact hK _ _ ⟨_,_,_,_,_,_,_,_,_,_,_,_,_,_,_,_,_,_,_,_,rfl,hS,q0,q1,q2,q3,q4,q5,fun _=>rfl,fun _=>rfl,q8,q9,q10,q11,q12,q13,q14,q15,q16,q17,q18,q19⟩
        ·obtain rfl:=Option.some.inj ho
         obtain rfl:=q7 (hall ⟨7,.guard⟩ (by simp) rfl)
         clear hall ho
         refine wpOp_step rfl (fun K hK=>?_)
         go_simp
         exact hK _ _ ⟨_,_,_,_,_,_,_,_,_,_,_,_,_,_,_,_,_,_,_,_,rfl,hS,q0,q1,q2,q3,q4,q5,q6,fun _=>rfl,fun _=>rfl,q9,q10,q11,q12,q13,q14,q15,q16,q17,q18,q19⟩
        ·obtain rfl:=Option.some.inj ho
         obtain rfl:=q7 (hall ⟨7,.guard⟩ (by simp) rfl)
         clear hall ho
         refine wpOp_step rfl (fun K hK=>?_)
         go_simp
         exact hK _ _ ⟨_,_,_,_,_,_,_,_,_,_,_,_,_,_,_,_,_,_,_,_,rfl,hS,q0,q1,q2,q3,q4,q5,q6,fun _=>rfl,q8,fun _=>rfl,q10,q11,q12,q13,q14,q15,q16,q17,q18,q19⟩
        ·obtain rfl:=Option.some.inj ho
         obtain rfl:=q8 (hall ⟨8,.data⟩ (by simp) rfl)
         obtain rfl:=q9 (hall ⟨9,.data⟩ (by simp) rfl)
         obtain rfl:=q7 (hall ⟨7,.guard⟩ (by simp) rfl)
         clear hall ho
         refine wpOp_step rfl (fun K hK=>?_)
         go_simp
         exact hK _ _ ⟨_,_,_,_,_,_,_,_,_,_,_,_,_,_,_,_,_,_,_,_,rfl,hS,q0,q1,q2,q3,q4,q5,q6,fun _=>rfl,fun _=>rfl,fun _=>rfl,fun _=>rfl,q11,q12,q13,q14,q15,q16,q17,q18,q19⟩
        ·obtain rfl:=Option.some.inj ho
         obtain rfl:=q10 (hall ⟨10,.data⟩ (by simp) rfl)
         obtain rfl:=q7 (hall ⟨7,.guard⟩ (by simp) rfl)
         clear hall ho
         refine wpOp_step rfl (fun K hK=>?_)
         go_simp
         exact hK _ _ ⟨_,_,_,_,_,_,_,_,_,_,_,_,_,_,_,_,_,_,_,_,rfl,hS,q0,q1,q2,q3,q4,q5,q6,fun _=>rfl,q8,q9,fun _=>rfl,fun _=>rfl,q12,q13,q14,q15,q16,q17,q18,q19⟩
        ·obtain rfl:=Option.some.inj ho
         obtain rfl:=q11 (hall ⟨11,.data⟩ (by simp) rfl)
         obtain rfl:=q7 (hall ⟨7,.guard⟩ (by simp) rfl)
         have y0:=(hS.cell (p:=_) hbl).trans c1
         clear hall ho
         refine wpOp_step rfl (fun K hK=>?_)
         go_simp
         exact hK _ _ ⟨_,_,_,_,_,_,_,_,_,_,_,_,_,_,_,_,_,_,_,_,rfl,hS,q0,q1,q2,q3,q4,q5,q6,fun _=>rfl,q8,q9,q10,fun _=>rfl,fun _=>rfl,q13,q14,q15,q16,q17,q18,q19⟩
        ·obtain rfl:=Option.some.inj ho
         obtain rfl:=q7 (hall ⟨7,.guard⟩ (by simp) rfl)
         clear hall ho
         refine wpOp_step rfl (fun K hK=>?_)
         go_simp
         exact hK _ _ ⟨_,_,_,_,_,_,_,_,_,_,_,_,_,_,_,_,_,_,_,_,rfl,hS,q0,q1,q2,q3,q4,q5,q6,fun _=>rfl,q8,q9,q10,q11,q12,fun _=>rfl,q14,q15,q16,q17,q18,q19⟩
        ·obtain rfl:=Option.some.inj ho
         obtain rfl:=q7 (hall ⟨7,.guard⟩ (by simp) rfl)
         clear hall ho
         refine wpOp_step rfl (fun K hK=>?_)
         go_simp
         exact hK _ _ ⟨_,_,_,_,_,_,_,_,_,_,_,_,_,_,_,_,_,_,_,_,rfl,hS,q0,q1,q2,q3,q4,q5,q6,fun _=>rfl,q8,q9,q10,q11,q12,q13,fun _=>rfl,q15,q16,q17,q18,q19⟩
        ·obtain rfl:=Option.some.inj ho
         obtain rfl:=q13 (hall ⟨13,.data⟩ (by simp) rfl)
         obtain rfl:=q14 (hall ⟨14,.data⟩ (by simp) rfl)
         obtain rfl:=q7 (hall ⟨7,.guard⟩ (by simp) rfl)
         clear hall ho
         refine wpOp_step rfl (fun K hK=>?_)
         go_simp
         exact hK _ _ ⟨_,_,_,_,_,_,_,_,_,_,_,_,_,_,_,_,_,_,_,_,rfl,hS,q0,q1,q2,q3,q4,q5,q6,fun _=>rfl,q8,q9,q10,q11,q12,fun _=>rfl,fun _=>rfl,fun _=>rfl,q16,q17,q18,q19⟩
        ·obtain rfl:=Option.some.inj ho
         obtain rfl:=q15 (hall ⟨15,.data⟩ (by simp) rfl)
         obtain rfl:=q7 (hall ⟨7,.guard⟩ (by simp) rfl)
         clear hall ho
         refine wpOp_step rfl (fun K hK=>?_)
         go_simp
         exact hK _ _ ⟨_,_,_,_,_,_,_,_,_,_,_,_,_,_,_,_,_,_,_,_,rfl,hS,q0,q1,q2,q3,q4,q5,q6,fun _=>rfl,q8,q9,q10,q11,q12,q13,q14,fun _=>rfl,fun _=>rfl,q17,q18,q19⟩
        ·obtain rfl:=Option.some.inj ho
         obtain rfl:=q16 (hall ⟨16,.data⟩ (by simp) rfl)
         obtain rfl:=q7 (hall ⟨7,.guard⟩ (by simp) rfl)
         have y0:=(hS.cell (p:=_) hbl).trans d1
         clear hall ho
         refine wpOp_step rfl (fun K hK=>?_)
         go_simp
         exact hK _ _ ⟨_,_,_,_,_,_,_,_,_,_,_,_,_,_,_,_,_,_,_,_,rfl,hS,q0,q1,q2,q3,q4,q5,q6,fun _=>rfl,q8,q9,q10,q11,q12,q13,q14,q15,fun _=>rfl,fun _=>rfl,q18,q19⟩
        ·obtain rfl:=Option.some.inj ho
         obtain rfl:=q12 (hall ⟨12,.data⟩ (by simp) rfl)
         obtain rfl:=q17 (hall ⟨17,.data⟩ (by simp) rfl)
         obtain rfl:=q7 (hall ⟨7,.guard⟩ (by simp) rfl)
         clear hall ho
         refine wpOp_step rfl (fun K hK=>?_)
         go_simp
         exact hK _ _ ⟨_,_,_,_,_,_,_,_,_,_,_,_,_,_,_,_,_,_,_,_,rfl,hS,q0,q1,q2,q3,q4,q5,q6,fun _=>rfl,q8,q9,q10,q11,fun _=>rfl,q13,q14,q15,q16,fun _=>rfl,fun _=>rfl,q19⟩
        ·obtain rfl:=Option.some.inj ho
         obtain rfl:=q7 (hall ⟨7,.data⟩ (by simp) rfl)
         obtain rfl:=q18 (hall ⟨18,.data⟩ (by simp) rfl)
         clear hall ho
         refine wpOp_step rfl (fun K hK=>?_)
         go_simp
         exact hK _ _ ⟨_,_,_,_,_,_,_,_,_,_,_,_,_,_,_,_,_,_,_,_,rfl,hS,q0,q1,q2,q3,q4,q5,q6,fun _=>rfl,q8,q9,q10,q11,q12,q13,q14,q15,q16,q17,fun _=>rfl,fun _=>rfl⟩
       rintro fL bA v ⟨v159,v160,v161,v162,v163,v164,v165,v166,v167,v168,v169,v170,v171,v172,v173,v174,v175,v176,v177,v178,rfl,hS,q0,q1,q2,q3,q4,q5,q6,q7,q8,q9,q10,q11,q12,q13,q14,q15,q16,q17,q18,q19⟩ hall
       simp only [Act.put,List.setIfInBounds_toArray,List.set_cons_zero,List.set_cons_succ]
       simp only [List.length_cons,List.length_nil] at hall
       obtain rfl:=q0 (hall 0 (by omega))
       obtain rfl:=q1 (hall 1 (by omega))
       obtain rfl:=q2 (hall 2 (by omega))
       obtain rfl:=q3 (hall 3 (by omega))
       obtain rfl:=q4 (hall 4 (by omega))
       obtain rfl:=q5 (hall 5 (by omega))
       obtain rfl:=q6 (hall 6 (by omega))
       obtain rfl:=q7 (hall 7 (by omega))
       obtain rfl:=q8 (hall 8 (by omega))
       obtain rfl:=q9 (hall 9 (by omega))
       obtain rfl:=q10 (hall 10 (by omega))
       obtain rfl:=q11 (hall 11 (by omega))
       obtain rfl:=q12 (hall 12 (by omega))
       obtain rfl:=q13 (hall 13 (by omega))
       obtain rfl:=q14 (hall 14 (by omega))
       obtain rfl:=q15 (hall 15 (by omega))
       obtain rfl:=q16 (hall 16 (by omega))
       obtain rfl:=q17 (hall 17 (by omega))
       obtain rfl:=q18 (hall 18 (by omega))
       obtain rfl:=q19 (hall 19 (by omega))
       clear hall
       have hb9:=hb.trans (hS.mono hb.size)
       go_wp2_with fail
       go_roundw
       case rel=>exact ⟨k+1,by omega,by go_num,hb9⟩
       case measure=>simp [intOf];omega
     ·have hgo2:(lcd == 0)=false ∨ (lcd=0∧¬ (k:Int) < es.length):=by
       by_cases h:lcd=0
       ·exact .inr ⟨h,fun h2=>hgo ⟨h,by omega⟩⟩
       ·exact .inl (by simp [h])
      clear hgo HLF
      rcases hgo2 with hgo2 | ⟨rfl,hgo2⟩
      all_goals
       go_wp2_with fail
       go_meet
       case rel=>exact hb
   case rest =>
    clear hL HLF
    replace hB:=hB.trans (hcut.mono hB.size)
    replace hE:=hE.later hcut
    replace hF:=hF.later hcut
    replace o1:=o1.below hcut
    replace X:=X.below hcut X.lt
    replace Y:=Y.below hcut Y.lt
    clear hcut
    generalize wc=w16 at *
    by_cases hb0:bad=0
    ·obtain ⟨ha,hb2,hcb,hRb,hlq,hnum⟩:=HMF.out hb0
     rw [ha] at HMA
     rw [hb2] at HMB
     rw [hcb,hRb] at HBK
     have hmm:(alike ra rb).all id=true→relMark true ra.nums=relMark true rb.nums:=fun h=>by rw [hnum h]
     replace hmm:=Lib.hid hmm
     replace hlq:=Lib.hid hlq
     clear hnum hRb hcb ha hb2 HMF hR hbad
     subst hb0
     generalize relMark true ra.nums=ma at *
     generalize relMark true rb.nums=mb at *
     generalize (alike ra rb).all id=q at *
     have hX:=X.range
     have hY:=Y.range
     go_wp2_with (first | (refine wpList_load_mid rfl 33 _ rfl (w1.heap.size) 0 rfl (ca) _ hX Tryz.underlying33 rfl (by kernel_rfl) ?_) | (refine wpList_load_mid rfl 33 _ rfl (w1.heap.size+1) 0 rfl (cb) _ hY Tryz.underlying33 rfl (by kernel_rfl) ?_) | fail)
     clear hX hY
     refine Calls.mono ((HMA _ hE).out) ?_;rintro e w17 ⟨rfl,hb⟩
     replace hB:=hB.trans (hb.mono hB.size)
     replace hE:=hE.later hb
     replace hF:=hF.later hb
     replace o1:=o1.below hb
     replace X:=X.below hb X.lt
     replace Y:=Y.below hb Y.lt
     clear hb
     clear HMA
     have hX:=X.range
     have hY:=Y.range
     go_wp2_with (first | (refine wpList_load_mid rfl 33 _ rfl (w1.heap.size) 0 rfl (ca) _ hX Tryz.underlying33 rfl (by kernel_rfl) ?_) | (refine wpList_load_mid rfl 33 _ rfl (w1.heap.size+1) 0 rfl (cb) _ hY Tryz.underlying33 rfl (by kernel_rfl) ?_) | fail)
     clear hX hY
     refine Calls.mono ((HMB _ hF).out) ?_;rintro e w18 ⟨rfl,hb⟩
     replace hB:=hB.trans (hb.mono hB.size)
     replace hE:=hE.later hb
     replace hF:=hF.later hb
     replace o1:=o1.below hb
     replace X:=X.below hb X.lt
     replace Y:=Y.below hb Y.lt
     clear hb
     clear HMB
     have hX:=X.range
     have hY:=Y.range
     go_wp2_with (first | (refine wpList_load_mid rfl 33 _ rfl (w1.heap.size) 0 rfl (ca) _ hX Tryz.underlying33 rfl (by kernel_rfl) ?_) | (refine wpList_load_mid rfl 33 _ rfl (w1.heap.size+1) 0 rfl (cb) _ hY Tryz.underlying33 rfl (by kernel_rfl) ?_) | fail)
     clear hX hY
     refine Calls.mono ((HBK _ hE hF).out) ?_;rintro e w19 ⟨A19,c19,rfl,o9,hb⟩
     replace hB:=hB.trans (hb.mono hB.size)
     replace hE:=hE.later hb
     replace hF:=hF.later hb
     replace o1:=o1.below hb
     replace X:=X.below hb X.lt
     replace Y:=Y.below hb Y.lt
     clear hb
     clear HBK
     have HLI:=fun W (s1:Sl W W.heap.size 1 A19 (R.map ic)) (s2:Sl W W.heap.size 1 A2 (R.map ic))=>Lib.hid (likeIntsE_c A19 A2 c19 c2 R W (by have:=hcl.out;omega) s1 s2)
     have hX:=X.range
     have hY:=Y.range
     by_cases hr0:R.length=0
     ·have hq:q=true:=hlq.out.1 hr0
      have hme:ma=mb:=hmm.out hq
      have hn0:¬ (0:Int) < (R.length:Int):=by omega
      have hn1:((R.length:Int) == 0)=true:=by simp [hr0]
      have hne:(ma == mb)=true:=by simp [hme]
      subst hq
      have hRn:R=[]:=List.eq_nil_of_length_eq_zero hr0
      clear hme hmm hlq hr0 hn0 hn1
      subst hRn
      go_upto_region 32 with fail
      go_wp2_with (refine wpList_plain rfl fun K hK=>?_;refine Hid.out ?_)
      refine Lib.hid ?_
      go_simp
      refine hK _ _ ?_
      repeat (first | (refine wpList_load_g (by rfl) 33 (.tmp 3) rfl w1.heap.size 0 rfl ca _ hX Tryz.underlying33 rfl (by rw [hla];kernel_rfl) ?_) | (refine wpList_load_g (by rfl) 33 (.tmp 4) rfl (w1.heap.size+1) 0 rfl cb _ hY Tryz.underlying33 rfl (by rw [hlb];kernel_rfl) ?_) | (refine wpList_step fun K hK=>?_;rw [if_pos (by rfl)];go_simp;refine hK _ _ ?_) | (refine wpList_step fun K hK=>?_;rw [if_neg (by intro h;exact Bool.noConfusion (show false=true from h))];go_simp;refine hK _ _ ?_))
      go_wp2_with fail
      refine Calls.mono (HLR _ hE hF).out ?_;rintro e w20 ⟨rfl,hb⟩
      replace hB:=hB.trans (hb.mono hB.size)
      replace o1:=o1.below hb
      replace o9:=o9.below hb
      clear hb HLR hX hY
      go_wp2_with fail
      refine Calls.mono (HLI _ o9.sl o1.sl).out ?_;rintro e w21 ⟨rfl,hb⟩
      replace hB:=hB.trans (hb.mono hB.size)
      go_wp2
      go_ret
      exact ⟨rfl,hB⟩
     ·have hq:q=false:=by cases q with | false=>rfl | true=>exact absurd (hlq.out.2 rfl) hr0
      have hn0:(0:Int) < (R.length:Int):=by omega
      have hd0:decide ((0:Int) < (R.length:Int))=true:=decide_eq_true hn0
      have hd1:decide (0 < R.length)=true:=decide_eq_true (by omega)
      have hd2:(R.length == 0)=false:=beq_eq_false_iff_ne.2 (by omega)
      have hd3:R.isEmpty=false:=by cases R with | nil=>exact absurd rfl hr0 | cons a b=>rfl
      have hn1:((R.length:Int) == 0)=false:=beq_eq_false_iff_ne.2 (by omega)
      subst hq
      clear hmm hlq hr0
      go_upto_region 32 with fail
      go_wp2_with (refine wpList_plain rfl fun K hK=>?_;refine Hid.out ?_)
      refine Lib.hid ?_
      go_simp
      refine hK _ _ ?_
      repeat (first | (refine wpList_load_g (by rfl) 33 (.tmp 3) rfl w1.heap.size 0 rfl ca _ hX Tryz.underlying33 rfl (by rw [hla];kernel_rfl) ?_) | (refine wpList_load_g (by rfl) 33 (.tmp 4) rfl (w1.heap.size+1) 0 rfl cb _ hY Tryz.underlying33 rfl (by rw [hlb];kernel_rfl) ?_) | (refine wpList_step fun K hK=>?_;rw [if_pos (by rfl)];go_simp;(try simp only [hd0,hd1,hd2,hd3,hn1]);refine hK _ _ ?_) | (refine wpList_step fun K hK=>?_;rw [if_neg (by intro h;exact Bool.noConfusion (show false=true from h))];go_simp;refine hK _ _ ?_))
      go_wp2_with fail
      refine Calls.mono (HLR _ hE hF).out ?_;rintro e w20 ⟨rfl,hb⟩
      replace hB:=hB.trans (hb.mono hB.size)
      replace o1:=o1.below hb
      replace o9:=o9.below hb
      clear hb HLR hX hY
      go_wp2_with fail
      refine Calls.mono (HLI _ o9.sl o1.sl).out ?_;rintro e w21 ⟨rfl,hb⟩
      replace hB:=hB.trans (hb.mono hB.size)
      go_wp2
      go_ret
      exact ⟨rfl,hB⟩
    ·have hbf:(bad != 0)=true:=by simp [hb0]
     clear HMF HMA HMB HBK HLR o1 X Y hE hF
     go_wp2
     go_ret
     exact ⟨rfl,hB⟩
end Go.Proofs.YtednjmldjbndhaaGreatDoor
