/- Whether a list of entries is a catalogue: the program's. Conditions: the lengths. -/
import Derived.Lib.SliceRun
import Derived.Test.YtednjmldjbndhaaGreatDoorKCt19
set_option linter.unusedSimpArgs false
set_option linter.unusedVariables false
set_option maxRecDepth 100000
set_option maxHeartbeats 8000000
namespace Go.Proofs.YtednjmldjbndhaaGreatDoor
open Go.RowKit
theorem run_slice_to {P:Program} (W:World) (t e:TypeId) (k:Nat) (ht:P.underlying t=some (.slice e)) (hz:∀ w,(Go.sizeOf e).run P w=.ok k w) (A:Option Addr) (n cap hi:Nat) (h:hi ≤ cap) :
  (Instr.slice t (.slice A n cap) none (some (.int .i64 (hi:Int))) none).run P W=.ok (.slice A hi cap) W:=by
 have ht':P.underlying t=some (.slice (P.elem t)):=by simp [Program.elem,ht]
 have he:P.elem t=e:=by simp [Program.elem,ht]
 rw [run_slice_h W t _ _ _ ht' .i64 _ (by omega) (by omega),he,hz]
 have hA:A.map (·.add (0 * k))=A:=by cases A <;> simp [Addr.add]
 simp only [Result.andThen,sliced,hA,Nat.sub_zero,Int.toNat_natCast,ite_self]
theorem implIsCat_c (A:Option Addr) (c:Nat) (es:List EnR) (w:World) (E:EnsIn w A es) (hc:es.length ≤ c) :
  Calls Tryz.prog 19 #[.slice A es.length c] w fun x w'=>x=.returned (.bool (catB (ens es)))∧Below w.heap.size w w':=by
 have hl:=E.n
 have hs:=E.s
 have hrun:Hid (∀ (k:Nat) W,k ≤ c→(Instr.slice 24 (.slice A es.length c) none (some (.int .i64 (k:Int))) none).run Tryz.prog W=.ok (.slice A k c) W):=Lib.hid (fun k W hk=>run_slice_to W 24 35 20 Tryz.underlying24 (fun _=>by kernel_rfl) A es.length c k hk)
 have HE:=Lib.hid (fun (k:Nat) (hk:k < es.length) W (hW:Below w.heap.size w W)=>isEntry_c A c (es.take k) es[k].e es[k].A es[k].c W ((E.take k).later hW) (EnIn.later (E.i es[k] (List.getElem_mem hk)) hW))
 have hat:=Lib.hid (fun (k:Nat) (hk:k < es.length)=>(entAt_get (l:=ens es) (k:=k) (by rw [ens_len];exact hk)).trans (by rw [← ens_take,ens_get hk]))
 have hcatE:Hid (catTo (ens es) es.length=true→catB (ens es)=decide (es.length ≤ 12)):=Lib.hid (fun h=>by rw [← ens_len es] at h ⊢;exact catB_all h)
 have hbadE:Hid (∀ k,entAt (ens es) k=false→k < es.length→catB (ens es)=false):=Lib.hid (fun k h hk=>catB_bad h (by rw [ens_len];exact hk))
 clear E
 go_enter Tryz.func19,Tryz.ntmps19
 go_wp2_with fail
 go_loopw [7] (fun i wr=>∃ k:Nat,k ≤ es.length∧i=.int .i64 k∧Below w.heap.size w wr∧Hid (catTo (ens es) k=true)) (fun i _=>es.length - (intOf i).toNat)
 case atStart=>exact ⟨0,Nat.zero_le _,rfl,Below.refl _ _,Lib.hid rfl⟩
 case round =>
  obtain ⟨k,hk,rfl,hb,hn⟩:=hrel
  by_cases hlt:k < es.length
  ·obtain ⟨b,off,rfl,hbB,hc'⟩:=hs.rg (i:=k) (by simpa using hlt)
   simp only [List.getElem_map] at hc'
   replace hc':=rangeAt_below hc' hb hbB
   have hnx:=Lib.hid ((catTo_succ (ens es) k).trans (by rw [hn.out,Bool.true_and]))
   have HK:=HE.out k hlt
   rw [← hat.out k hlt] at HK
   rw [show (es.take k).length=k by rw [List.length_take];omega] at HK
   have hcd:es[k].e.cells es[k].A es[k].c=es[k].cells:=rfl
   rw [hcd] at HK
   replace HK:=Lib.hid HK
   have hcl:es[k].cells.length=20:=rfl
   have hon:∀ v ∈ es[k].cells,v.oneCell'=true:=es[k].e.one es[k].A es[k].c
   have hbk:Hid (entAt (ens es) k=false→catB (ens es)=false):=Lib.hid (fun h=>hbadE.out k h hlt)
   have hrk:=Lib.hid (fun W=>hrun.out k W (by omega))
   generalize entAt (ens es) k=bk at *
   clear hcd hat HE
   generalize es[k].cells=cs at *
   have hbw:Below wr.heap.size wr (wr.alloc (.cells cs.toArray 35)):=(Below.refl _ _).alloc (Nat.le_refl _) _
   have D0:=Blk.new wr 35 cs.toArray
   go_wp2_with (first | (refine wpList_load_mid rfl 35 _ rfl (b) (off+k * 20) rfl (cs) _ hc' Tryz.underlying35 rfl (by kernel_rfl) ?_) | (refine wpList_store_new rfl _ _ rfl cs rfl rfl (by rw [hcl];kernel_rfl) (by rw [hcl];rfl) hon ?_) | fail)
   replace hb:=hb.trans (hbw.mono hb.size)
   clear hbw hc'
   generalize wr.alloc (.cells cs.toArray 35)=W at *
   generalize wr.heap.size=g at *
   refine wp_region_sink 5 (fun a0 fL bA v=>∃ v12 v13 v14 v15 v16:Value,bA=((((a0.put (some 12) v12).put (some 13) v13).put (some 14) v14).put (some 15) v15).put (some 16) v16∧(Below W.heap.size W v)∧(fL 0=true→v12=.slice (some ⟨b,off,none⟩) es.length c)∧(fL 1=true→v13=.int .i64 k)∧(fL 2=true→v14=.slice (some ⟨b,off,none⟩) k c)∧(fL 3=true→v15=.agg cs.toArray)∧(fL 4=true→v16=.bool bk)) (by kernel_rfl) (by decide +kernel) ?_ ?_ ?_
   ·exact ⟨_,_,_,_,_,put_more (put_more (put_more (put_more (put_more (rfl) 12) 13) 14) 15) 16,(Below.refl _ _).drew,nofun,nofun,nofun,nofun,nofun⟩
   ·rintro fL bA v ⟨v12,v13,v14,v15,v16,rfl,hS,q0,q1,q2,q3,q4⟩ i hi hf o ho hall
    simp only [Act.put,List.setIfInBounds_toArray,List.set_cons_zero,List.set_cons_succ]
    have hn:i=0 ∨ i=1 ∨ i=2 ∨ i=3 ∨ i=4:=by omega
    clear hi
    rcases hn with rfl | rfl | rfl | rfl | rfl
    ·obtain rfl:=Option.some.inj ho
     clear hall ho
     refine wpOp_step rfl (fun K hK=>?_)
     go_simp
     exact hK _ _ ⟨_,_,_,_,_,rfl,hS,fun _=>rfl,q1,q2,q3,q4⟩
    ·obtain rfl:=Option.some.inj ho
     clear hall ho
     refine wpOp_step rfl (fun K hK=>?_)
     go_simp
     exact hK _ _ ⟨_,_,_,_,_,rfl,hS,q0,fun _=>rfl,q2,q3,q4⟩
    ·obtain rfl:=Option.some.inj ho
     obtain rfl:=q0 (hall ⟨0,.data⟩ (by simp) rfl)
     obtain rfl:=q1 (hall ⟨1,.data⟩ (by simp) rfl)
     have hr:=hrk.out v
     clear hall ho
     refine wpOp_step rfl (fun K hK=>?_)
     go_simp
     exact hK _ _ ⟨_,_,_,_,_,rfl,hS,fun _=>rfl,fun _=>rfl,fun _=>rfl,q3,q4⟩
    ·obtain rfl:=Option.some.inj ho
     clear hall ho
     refine wpOp_step rfl (fun K hK=>?_)
     refine wp_load_mid 35 _ rfl g 0 rfl cs _ (D0.below hS D0.lt).range Tryz.underlying35 rfl (by rw [hcl];kernel_rfl) ?_
     exact hK _ _ ⟨_,_,_,_,_,rfl,hS,q0,q1,q2,fun _=>rfl,q4⟩
    ·obtain rfl:=Option.some.inj ho
     obtain rfl:=q2 (hall ⟨2,.data⟩ (by simp) rfl)
     obtain rfl:=q3 (hall ⟨3,.data⟩ (by simp) rfl)
     clear hall ho
     refine wpOp_step rfl (fun K hK=>?_)
     go_simp
     refine Calls.mono ((HK.out v (hb.trans (hS.mono hb.size)))) ?_;rintro e w1 ⟨rfl,hb1⟩
     go_simp
     exact hK _ _ ⟨_,_,_,_,_,rfl,hS.trans (hb1.mono hS.size),q0,q1,fun _=>rfl,fun _=>rfl,fun _=>rfl⟩
   ·rintro fL bA v ⟨v12,v13,v14,v15,v16,rfl,hS,q0,q1,q2,q3,q4⟩ hall
    simp only [Act.put,List.setIfInBounds_toArray,List.set_cons_zero,List.set_cons_succ]
    obtain rfl:=q0 (hall 0 (by omega))
    obtain rfl:=q1 (hall 1 (by omega))
    obtain rfl:=q2 (hall 2 (by omega))
    obtain rfl:=q3 (hall 3 (by omega))
    obtain rfl:=q4 (hall 4 (by omega))
    clear hall
    simp only [List.drop_succ_cons,List.drop_zero]
    have hbv:=hb.trans (hS.mono hb.size)
    clear hrk HK hS hrun
    cases bk with
    | false =>
     have hr:=Lib.hid (hbk.out rfl)
     go_wp2
     go_ret
     exact ⟨by rw [hr.out];rfl,hbv⟩
    | true =>
     go_wp2
     go_roundw
     case rel=>exact ⟨k+1,by omega,by go_num,hbv,hnx⟩
     case measure=>simp [intOf];omega
  ·have:k=es.length:=by omega
   subst this
   have hr:=Lib.hid (hcatE.out hn.out)
   clear hcatE hbadE hat HE hrun
   go_wp2
   go_ret
   exact ⟨by rw [hr.out,show decide (es.length ≤ 12)=decide ((es.length:Int) ≤ 12) from decide_eq_decide.2 (by omega)];rfl,hb⟩
end Go.Proofs.YtednjmldjbndhaaGreatDoor
