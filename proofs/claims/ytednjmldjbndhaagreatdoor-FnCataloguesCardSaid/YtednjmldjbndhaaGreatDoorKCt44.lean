/- The law on catalogues: walked. Condition: none. -/
import Derived.Deep.DeepCutAuto
import Derived.Deep.CutBlock
import Derived.Test.YtednjmldjbndhaaGreatDoorKCt20
import Derived.Test.YtednjmldjbndhaaGreatDoorKCt28
import Derived.Test.YtednjmldjbndhaaGreatDoorKCt31
import Derived.Test.YtednjmldjbndhaaGreatDoorKCt41
import Derived.Test.YtednjmldjbndhaaGreatDoorKCt42
import Derived.Test.YtednjmldjbndhaaGreatDoorKCt43
set_option linter.unusedSimpArgs false
set_option linter.unusedVariables false
set_option maxRecDepth 100000
set_option maxHeartbeats 8000000
namespace Go.Proofs.YtednjmldjbndhaaGreatDoor
open Go.RowKit
theorem EnsOwn.weak {L:List En} {v:Value} {w':World} {base:Nat} (h:EnsOwn L v w' base):∃ A' c' fs,v=.slice A' fs.length c'∧ens fs=L∧EnsIn w' A' fs∧fs.length ≤ c':=by
 obtain ⟨A',c',fs,rfl,h2,h3,h4,_⟩:=h
 have hl:fs.length=L.length:=by rw [← h2,ens_len]
 rw [← hl] at h4
 exact ⟨A',c',fs,by rw [hl],h2,h3,h4.le_cap⟩
theorem likeIntsE_c (A A':Option Addr) (c c':Nat) (l:List Int) (w:World) (hl:l.length ≤ 1048576) (hs:Sl w w.heap.size 1 A (l.map ic)) (hs':Sl w w.heap.size 1 A' (l.map ic)) :
  Calls Tryz.prog 18 #[.slice A l.length c,.slice A' l.length c'] w fun e w'=>e=.returned (.bool true)∧Below w.heap.size w w':=by
 have h:=likeIntsV_c A A' c c' l l w hl hl hs hs'
 rw [decide_eq_true (rfl:l=l)] at h
 exact h
theorem lawCatalogues_c (A:Option Addr) (n c:Nat) (w:World) (hn:n ≤ 140737488351232) (hb:Bytes w A n w.heap.size) :
  Calls Tryz.prog 3 #[.slice A n c] w fun e w'=>e=.returned (.bool true)∧Below w.heap.size w w':=by
 have hG:=big_c A n c w hn
 by_cases hbig:4096 < n
 ·rw [decide_eq_true hbig] at hG
  have HG:=Lib.hid hG;clear hG hb
  go_enter Tryz.func3,Tryz.ntmps3
  go_wp2_with (go_at_call 5;refine HG.out.mono ?_;rintro e w1 ⟨rfl,rfl⟩)
  go_ret
  exact ⟨rfl,Below.refl _ _⟩
 ·rw [decide_eq_false hbig] at hG
  have HG:=Lib.hid hG;clear hG
  have hn':n ≤ 4096:=by omega
  have HB:=Lib.hid hb;clear hb
  go_enter Tryz.func3,Tryz.ntmps3
  go_wp2_with (go_at_call 5;refine HG.out.mono ?_;rintro e w1 ⟨rfl,rfl⟩)
  clear HG
  refine (drawAddEntry_c A n c w hn' HB.out).mono ?_;rintro e w1 ⟨es,Al,cl,f,rfl,hE,⟨hes,hecl⟩,hf,hB⟩
  have HAF:Hid (addC (ens es) f.e=0→_):=Lib.hid (fun h=>add_facts h)
  have hfl:f.cells.length=20:=rfl
  have hfo:=En.one f.e f.A f.c
  rw [show f.e.cells f.A f.c=f.cells from rfl] at hfo
  have HI:=fun W (E:EnsIn W Al es) (F:EnIn W f.A f.c f.e)=>Lib.hid (implAddEntry_c Al cl es f.e f.A f.c W E hecl F)
  have HS:=fun W (E:EnsIn W Al es) (F:EnIn W f.A f.c f.e)=>Lib.hid (specAddEntry_c Al cl es f.e f.A f.c W E F)
  rw [show f.e.cells f.A f.c=f.cells from rfl] at HI HS
  have X:=Blk.new w1 35 f.cells.toArray
  have hal:Below w1.heap.size w1 (w1.alloc (.cells f.cells.toArray 35)):=(Below.refl _ _).alloc (Nat.le_refl _) _
  replace hB:=hB.trans (hal.mono hB.size)
  replace hE:=hE.later hal
  replace hf:=hf.later hal
  clear hal
  have hX:=X.range
  generalize f.cells=fc at *
  generalize hR:addR (ens es) f.e=R at *
  generalize hbad:addC (ens es) f.e=bad at *
  replace hR:=Lib.hid hR
  replace hbad:=Lib.hid hbad
  go_wp2_with (first | (refine wpList_store_new rfl _ _ rfl fc rfl rfl (by rw [hfl];kernel_rfl) (by rw [hfl];rfl) hfo ?_) | (refine wpList_load_mid rfl 35 _ rfl (w1.heap.size) 0 rfl (fc) _ hX Tryz.underlying35 rfl (by kernel_rfl) ?_) | fail)
  generalize w1.alloc (.cells fc.toArray 35)=u1 at *
  clear hX hfo
  refine Calls.mono (HI _ hE hf).out ?_;rintro e w2 ⟨v2,rfl,hO,hb⟩
  replace hB:=hB.trans (hb.mono hB.size)
  replace hE:=hE.later hb
  replace hf:=hf.later hb
  replace X:=X.below hb X.lt
  clear hb
  obtain ⟨A2,c2,fs,rfl,hfs,hF,hfc⟩:=hO.weak
  clear hO HI
  have hX:=X.range
  go_wp2_with (first | (refine wpList_load_mid rfl 35 _ rfl (w1.heap.size) 0 rfl (fc) _ hX Tryz.underlying35 rfl (by kernel_rfl) ?_) | fail)
  clear hX
  refine Calls.mono (HS _ hE hf).out ?_;rintro e w3 ⟨v3,rfl,hO,hb⟩
  replace hB:=hB.trans (hb.mono hB.size)
  replace hE:=hE.later hb
  replace hf:=hf.later hb
  replace X:=X.below hb X.lt
  replace hF:=hF.later hb
  clear hb X hf
  obtain ⟨A3,c3,gs,rfl,hgs,hG,_⟩:=hO.weak
  clear hO HS
  have HL1:=fun W (E:EnsIn W A2 fs) (F:EnsIn W A3 gs)=>Lib.hid (likeEnS_c A2 A3 c2 c3 fs gs W E F (by rw [hfs,hgs]))
  have HIC:=fun W (E:EnsIn W A2 fs)=>Lib.hid (implIsCat_c A2 c2 fs W E hfc)
  rw [hfs] at HIC
  clear hgs
  replace hfs:=Lib.hid hfs
  go_wp2_with fail
  refine (drawOriginOf_c A n c _ hn' ((HB.out.keep fun p hp=>hB.cell hp).more hB.size)).mono ?_;rintro e w4 ⟨bs,A4,c4,ix,rfl,hH,⟨hbl,hbc⟩,hb⟩
  replace hB:=hB.trans (hb.mono hB.size)
  replace hE:=hE.later hb
  replace hF:=hF.later hb
  replace hG:=hG.later hb
  clear hb
  have HOF:Hid (enC (ens bs) ix=0→_):=Lib.hid (fun h=>org_facts h)
  have HI:=fun W (E:EnsIn W A4 bs)=>Lib.hid (implOriginOf_c A4 c4 bs ix W E hbc)
  have HS:=fun W (E:EnsIn W A4 bs)=>Lib.hid (specOriginOf_c A4 c4 bs ix W E hbc)
  have HI2:=fun W (E:EnsIn W A4 bs)=>Lib.hid (implDerivedFrom_c A4 c4 bs ix W E hbc)
  have HS2:=fun W (E:EnsIn W A4 bs)=>Lib.hid (specDerivedFrom_c A4 c4 bs ix W E hbc)
  have HDR:=fun W x (E:EnsIn W A4 bs)=>Lib.hid (implDerivedFrom_c A4 c4 bs x W E hbc)
  unfold PostRows at HI HS HI2 HS2 HDR
  have hol:=Lib.hid (orgR_len (ens bs) ix)
  have hdl:Hid (∀ x,(derR (ens bs) x).length ≤ (ens bs).length):=Lib.hid (derR_len (ens bs))
  rw [ens_len] at hol hdl
  generalize orgR (ens bs) ix=og at *
  generalize hdv:derR (ens bs) ix=dv at *
  replace hdv:=Lib.hid hdv
  generalize hec:enC (ens bs) ix=ec at *
  replace hec:=Lib.hid hec
  go_wp2_with fail
  refine Calls.mono ((HI _ hH).out) ?_;rintro e w5 ⟨A5,c5,rfl,o1,hb⟩
  replace hB:=hB.trans (hb.mono hB.size)
  replace hE:=hE.later hb
  replace hF:=hF.later hb
  replace hG:=hG.later hb
  replace hH:=hH.later hb
  clear hb
  go_wp2_with fail
  refine Calls.mono ((HS _ hH).out) ?_;rintro e w6 ⟨A6,c6,rfl,o2,hb⟩
  replace hB:=hB.trans (hb.mono hB.size)
  replace hE:=hE.later hb
  replace hF:=hF.later hb
  replace hG:=hG.later hb
  replace hH:=hH.later hb
  replace o1:=o1.below hb
  clear hb
  go_wp2_with fail
  refine Calls.mono ((HI2 _ hH).out) ?_;rintro e w7 ⟨A7,c7,rfl,o3,hb⟩
  replace hB:=hB.trans (hb.mono hB.size)
  replace hE:=hE.later hb
  replace hF:=hF.later hb
  replace hG:=hG.later hb
  replace hH:=hH.later hb
  replace o1:=o1.below hb
  replace o2:=o2.below hb
  clear hb
  go_wp2_with fail
  refine Calls.mono ((HS2 _ hH).out) ?_;rintro e w8 ⟨A8,c8,rfl,o4,hb⟩
  replace hB:=hB.trans (hb.mono hB.size)
  replace hE:=hE.later hb
  replace hF:=hF.later hb
  replace hG:=hG.later hb
  replace hH:=hH.later hb
  replace o1:=o1.below hb
  replace o2:=o2.below hb
  replace o3:=o3.below hb
  clear hb
  clear HI HS HI2 HS2
  go_wp2_with fail
  refine (drawKeptEntries_c A n c _ hn' ((HB.out.keep fun p hp=>hB.cell hp).more hB.size)).mono ?_;rintro e w9 ⟨ks,A9,c9,rfl,hK,⟨hkl,hkc⟩,hb⟩
  replace hB:=hB.trans (hb.mono hB.size)
  replace hE:=hE.later hb
  replace hF:=hF.later hb
  replace hG:=hG.later hb
  replace hH:=hH.later hb
  replace o1:=o1.below hb
  replace o2:=o2.below hb
  replace o3:=o3.below hb
  replace o4:=o4.below hb
  clear hb HB
  have HKF:Hid (keptC (ens ks)=0→_):=Lib.hid (fun h=>kept_facts h)
  have hkb:(keptC (ens ks) == 0)=catB (ens ks):=by rw [← kept_cat];rfl
  have HI:=fun W (E:EnsIn W A9 ks)=>Lib.hid (implKeptEntries_c A9 c9 ks W E hkc)
  have HS:=fun W (E:EnsIn W A9 ks)=>Lib.hid (specKeptEntries_c A9 c9 ks W E hkc)
  have HC:=fun W (E:EnsIn W A9 ks)=>Lib.hid (implIsCat_c A9 c9 ks W E hkc)
  unfold PostRows at HI HS
  have hkr:=Lib.hid (keptR_len (ens ks))
  rw [ens_len] at hkr
  generalize hkR:keptR (ens ks)=kr at *
  replace hkR:=Lib.hid hkR
  generalize hkC:keptC (ens ks)=kd at *
  replace hkC:=Lib.hid hkC
  generalize catB (ens ks)=cb at *
  go_wp2_with fail
  refine Calls.mono ((HI _ hK).out) ?_;rintro e w10 ⟨A10,c10,rfl,o5,hb⟩
  replace hB:=hB.trans (hb.mono hB.size)
  replace hE:=hE.later hb
  replace hF:=hF.later hb
  replace hG:=hG.later hb
  replace hH:=hH.later hb
  replace o1:=o1.below hb
  replace o2:=o2.below hb
  replace o3:=o3.below hb
  replace o4:=o4.below hb
  replace hK:=hK.later hb
  clear hb
  go_wp2_with fail
  refine Calls.mono ((HS _ hK).out) ?_;rintro e w11 ⟨A11,c11,rfl,o6,hb⟩
  replace hB:=hB.trans (hb.mono hB.size)
  replace hE:=hE.later hb
  replace hF:=hF.later hb
  replace hG:=hG.later hb
  replace hH:=hH.later hb
  replace o1:=o1.below hb
  replace o2:=o2.below hb
  replace o3:=o3.below hb
  replace o4:=o4.below hb
  replace hK:=hK.later hb
  replace o5:=o5.below hb
  clear hb
  clear HI HS
  go_wp2_with fail
  refine Calls.mono ((HL1 _ hF hG).out) ?_;rintro e w12 ⟨rfl,hb⟩
  replace hB:=hB.trans (hb.mono hB.size)
  replace hE:=hE.later hb
  replace hF:=hF.later hb
  replace hG:=hG.later hb
  replace hH:=hH.later hb
  replace o1:=o1.below hb
  replace o2:=o2.below hb
  replace o3:=o3.below hb
  replace o4:=o4.below hb
  replace hK:=hK.later hb
  replace o5:=o5.below hb
  replace o6:=o6.below hb
  clear hb
  clear HL1 hG
  go_wp2_with fail
  refine Calls.mono (likeIntsE_c A5 A6 c5 c6 og _ (by have:=hol.out;omega) o1.sl o2.sl) ?_;rintro e w13 ⟨rfl,hb⟩
  replace hB:=hB.trans (hb.mono hB.size)
  replace hE:=hE.later hb
  replace hF:=hF.later hb
  replace hH:=hH.later hb
  replace o1:=o1.below hb
  replace o2:=o2.below hb
  replace o3:=o3.below hb
  replace o4:=o4.below hb
  replace hK:=hK.later hb
  replace o5:=o5.below hb
  replace o6:=o6.below hb
  clear hb
  clear o2
  go_wp2_with fail
  refine Calls.mono (likeIntsE_c A7 A8 c7 c8 dv _ (by have:=hdl.out ix;rw [hdv.out] at this;omega) o3.sl o4.sl) ?_;rintro e w14 ⟨rfl,hb⟩
  replace hB:=hB.trans (hb.mono hB.size)
  replace hE:=hE.later hb
  replace hF:=hF.later hb
  replace hH:=hH.later hb
  replace o1:=o1.below hb
  replace o3:=o3.below hb
  replace o4:=o4.below hb
  replace hK:=hK.later hb
  replace o5:=o5.below hb
  replace o6:=o6.below hb
  clear hb
  clear o3 o4
  go_wp2_with fail
  refine Calls.mono (likeIntsE_c A10 A11 c10 c11 kr _ (by have:=hkr.out;omega) o5.sl o6.sl) ?_;rintro e w15 ⟨rfl,hb⟩
  replace hB:=hB.trans (hb.mono hB.size)
  replace hE:=hE.later hb
  replace hF:=hF.later hb
  replace hH:=hH.later hb
  replace o1:=o1.below hb
  replace hK:=hK.later hb
  replace o5:=o5.below hb
  replace o6:=o6.below hb
  clear hb
  clear o6
  go_wp2_with fail
  refine Calls.mono ((HC _ hK).out) ?_;rintro e w16 ⟨rfl,hb⟩
  replace hB:=hB.trans (hb.mono hB.size)
  replace hE:=hE.later hb
  replace hF:=hF.later hb
  replace hH:=hH.later hb
  replace o1:=o1.below hb
  replace hK:=hK.later hb
  replace o5:=o5.below hb
  clear hb
  clear HC
  go_upto_block 0 with fail
  go_cut [24,25,26] (fun s1 s2 s3 wx=>Below w16.heap.size w16 wx)
  case first =>
   clear HOF HDR HAF HIC hF hH hE o1 hB hkb
   go_wp2_with fail
   go_loopw [24,25,26] (fun i x y wr=>∃ k:Nat,k ≤ ks.length∧i=.int .i64 k∧Below w16.heap.size w16 wr) (fun i _ _ _=>ks.length - (intOf i).toNat)
   case atStart=>exact ⟨0,Nat.zero_le _,rfl,Below.refl _ _⟩
   case round =>
    obtain ⟨k,hk,rfl,hb⟩:=hrel
    by_cases hgo:kd=0∧k < ks.length
    ·obtain ⟨rfl,hlt⟩:=hgo
     have hall:=(HKF.out rfl).2 k (by rw [ens_len];exact hlt)
     have hek:(ens ks)[k]'(by rw [ens_len];exact hlt)=ks[k].e:=by simp [ens]
     rw [hek] at hall
     obtain ⟨hrb,hki⟩:=hall
     obtain ⟨b,off,rfl,hbB,hc⟩:=hK.s.rg (i:=k) (by simpa using hlt)
     simp only [List.getElem_map] at hc
     replace hc:=rangeAt_below hc hb hbB
     have hcr:wr.rangeAt b (off+k * 20+2) (ks[k].e.r.cells ks[k].A ks[k].c):=range_mid (P:=[.string ks[k].e.ti,.int .i64 ks[k].e.ve]) (T:=[.int .i64 ks[k].e.ba]) hc
     have HK:=Lib.hid (implIsKept_c ks[k].e.r ks[k].A ks[k].c wr (EnIn.later (hK.i _ (List.getElem_mem hlt)) hb).r hrb)
     have HH:=fun W (h:Sl W W.heap.size 1 A10 (kr.map ic))=>hasIntB_c A10 c10 kr (k:Int) W (by have:=hkr.out;omega) h
     have hdk:decide ((k:Int) ∈ kr)=ks[k].e.r.kept:=by
      cases hx:ks[k].e.r.kept with
      | true=>exact decide_eq_true (hki.2 hx)
      | false=>exact decide_eq_false (fun h=>by rw [hki.1 h] at hx;cases hx)
     rw [hdk] at HH
     replace HH:=fun W h=>Lib.hid (HH W h)
     have hlc:(ks[k].e.r.cells ks[k].A ks[k].c).length=17:=rfl
     have hltI:(k:Int) < ks.length:=by omega
     have hw1:IntKind.i64.wrap ((k:Int)+1)=((k+1:Nat):Int):=by rw [IntWalk.i64_in _ (by omega)];omega
     clear hki hrb hek HKF hc hdk
     generalize ks[k].e.r.cells ks[k].A ks[k].c=rc at *
     generalize ks[k].e.r.kept=kp at *
     replace o5:=o5.below hb
     go_wp2_with (first | (refine wpList_load_mid rfl 33 _ rfl (b) (off+k * 20+2) rfl (rc) _ hcr Tryz.underlying33 rfl (by kernel_rfl) ?_) | fail)
     refine Calls.mono HK.out ?_;rintro e v1 ⟨rfl,hb1⟩
     replace hb:=hb.trans (hb1.mono hb.size)
     replace o5:=o5.below hb1
     clear hb1 hcr HK
     go_wp2_with fail
     refine Calls.mono (HH _ o5.sl).out ?_;rintro e v2 ⟨rfl,hb1⟩
     replace hb:=hb.trans (hb1.mono hb.size)
     clear hb1 HH o5
     have hkk:(kp != kp)=false:=by simp
     go_wp2_with fail
     go_roundw
     case rel=>exact ⟨k+1,by omega,by go_num,hb⟩
     case measure=>simp [intOf];omega
    ·have hgo2:(kd == 0)=false ∨ (kd=0∧¬ (k:Int) < ks.length):=by
      by_cases h:kd=0
      ·exact .inr ⟨h,fun h2=>hgo ⟨h,by omega⟩⟩
      ·exact .inl (by simp [h])
     clear hgo HKF
     rcases hgo2 with hgo2 | ⟨rfl,hgo2⟩
     all_goals
      go_wp2_with fail
      go_meet
      case rel=>exact hb
  case rest =>
   clear o5 hK hkb HKF
   replace hB:=hB.trans (hcut.mono hB.size)
   replace hE:=hE.later hcut
   replace hF:=hF.later hcut
   replace hH:=hH.later hcut
   replace o1:=o1.below hcut
   clear hcut
   generalize wc=w17 at *
   go_upto_block 2 with fail
   go_cut [27,28,29] (fun s1 s2 s3 wx=>Below w17.heap.size w17 wx)
   case first =>
    clear HAF HIC hF hE hB
    go_wp2_with fail
    go_loopw [27,28,29] (fun i x y wr=>∃ k:Nat,k ≤ og.length∧i=.int .i64 k∧Below w17.heap.size w17 wr) (fun i _ _ _=>og.length - (intOf i).toNat)
    case atStart=>exact ⟨0,Nat.zero_le _,rfl,Below.refl _ _⟩
    case round =>
     obtain ⟨k,hk,rfl,hb⟩:=hrel
     by_cases hgo:ec=0∧k < og.length
     ·obtain ⟨rfl,hlt⟩:=hgo
      obtain ⟨hex,hmem⟩:=HOF.out rfl og[k] (List.getElem_mem hlt)
      obtain ⟨b,off,rfl,hbB,hc⟩:=o1.sl.int hlt
      replace hc:=(hb.cell hbB).trans hc
      have HD:=HDR wr og[k] (hH.later hb)
      replace HD:=HD.out
      rw [hex] at HD
      have hbl2:=hdl.out og[k]
      have hltI:(k:Int) < og.length:=by omega
      have hw1:IntKind.i64.wrap ((k:Int)+1)=((k+1:Nat):Int):=by rw [IntWalk.i64_in _ (by have:=hol.out;omega)];omega
      clear hex HOF HDR
      generalize og[k]=x at *
      generalize derR (ens bs) x=dx at *
      replace HD:=Lib.hid HD
      have HH:=fun A' c' W (h:Sl W W.heap.size 1 A' (dx.map ic))=>hasIntB_c A' c' dx ix W (by omega) h
      rw [decide_eq_true hmem] at HH
      replace HH:=fun A' c' W h=>Lib.hid (HH A' c' W h)
      clear hmem hbl2
      go_wp2_with fail
      refine Calls.mono HD.out ?_;rintro e v1 ⟨Ad,cd,rfl,od,hb1⟩
      replace hb:=hb.trans (hb1.mono hb.size)
      clear hb1 HD hc
      go_wp2_with fail
      refine Calls.mono (HH Ad cd _ od.sl).out ?_;rintro e v2 ⟨rfl,hb1⟩
      replace hb:=hb.trans (hb1.mono hb.size)
      clear hb1 HH od
      go_wp2_with fail
      go_roundw
      case rel=>exact ⟨k+1,by omega,by go_num,hb⟩
      case measure=>simp [intOf];omega
     ·have hgo2:(ec == 0)=false ∨ (ec=0∧¬ (k:Int) < og.length):=by
       by_cases h:ec=0
       ·exact .inr ⟨h,fun h2=>hgo ⟨h,by omega⟩⟩
       ·exact .inl (by simp [h])
      clear hgo HOF HDR
      rcases hgo2 with hgo2 | ⟨rfl,hgo2⟩
      all_goals
       go_wp2_with fail
       go_meet
       case rel=>exact hb
   case rest =>
    clear o1 hH HOF HDR
    replace hB:=hB.trans (hcut.mono hB.size)
    replace hE:=hE.later hcut
    replace hF:=hF.later hcut
    clear hcut
    generalize wc=w18 at *
    by_cases hb0:bad=0
    ·obtain ⟨hRR,hcat⟩:=HAF.out hb0
     rw [hRR,hcat] at HIC
     have hft:ens (fs.take es.length)=ens es:=by
      have h1:=hfs.out
      rw [hRR] at h1
      have h2:ens (fs.take es.length)=(ens fs).take es.length:=by unfold ens;rw [List.map_take]
      rw [h2,h1,List.take_left' (ens_len es)]
     have hfl2:fs.length=es.length+1:=by
      have h1:=hfs.out
      rw [hRR] at h1
      have h2:=congrArg List.length h1
      simpa [ens] using h2
     have htl:(fs.take es.length).length=es.length:=by rw [List.length_take];omega
     have HLE:=fun W (E:EnsIn W A2 fs) (F:EnsIn W Al es)=>likeEnS_c A2 Al c2 cl (fs.take es.length) es W (E.take es.length) F hft
     rw [htl] at HLE
     replace HLE:=fun W E F=>Lib.hid (HLE W E F)
     have hrun:=run_slice_to (P:=Tryz.prog) w18 24 35 20 Tryz.underlying24 (fun _=>by kernel_rfl) A2 fs.length c2 es.length (by omega)
     have hrunH:=Lib.hid (fun W=>run_slice_to (P:=Tryz.prog) W 24 35 20 Tryz.underlying24 (fun _=>by kernel_rfl) A2 fs.length c2 es.length (by omega))
     clear hrun hft hfl2 htl HAF hfs hR hcat hRR hbad
     subst hb0
     go_wp2_with fail
     refine Calls.mono (HIC _ hF).out ?_;rintro e w19 ⟨rfl,hb⟩
     have hrun:=hrunH.out w19
     replace hB:=hB.trans (hb.mono hB.size)
     replace hE:=hE.later hb
     replace hF:=hF.later hb
     clear hb HIC hrunH
     go_wp2_with fail
     refine Calls.mono (HLE _ hF hE).out ?_;rintro e w20 ⟨rfl,hb⟩
     replace hB:=hB.trans (hb.mono hB.size)
     go_wp2
     go_ret
     exact ⟨rfl,hB⟩
    ·have hbf:(bad != 0)=true:=by simp [hb0]
     clear HAF HIC hfs hR hbad
     go_wp2
     go_ret
     exact ⟨rfl,hB⟩
end Go.Proofs.YtednjmldjbndhaaGreatDoor
