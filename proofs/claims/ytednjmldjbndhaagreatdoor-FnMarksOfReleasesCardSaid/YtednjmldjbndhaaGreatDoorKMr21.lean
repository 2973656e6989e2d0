/- Whether a list of entries is a catalogue: the reference's. Conditions: the lengths. -/
import Derived.Test.YtednjmldjbndhaaGreatDoorKMr20
set_option linter.unusedSimpArgs false
set_option linter.unusedVariables false
set_option maxRecDepth 100000
set_option maxHeartbeats 8000000
namespace Go.Proofs.YtednjmldjbndhaaGreatDoor
open Go.RowKit
theorem specIsCat_c (A:Option Addr) (c:Nat) (es:List EnR) (w:World) (E:EnsIn w A es) :
  Calls Tryz.prog 42 #[.slice A es.length c] w fun x w'=>x=.returned (.bool (catB (ens es)))∧Below w.heap.size w w':=by
 have hl:=E.n
 have hs:=E.s
 have HT:=Lib.hid (fun (k:Nat) (hk:k < es.length) W=>l33Title_c es[k].e.ti W (E.i es[k] (List.getElem_mem hk)).t)
 have HV:=Lib.hid (fun (k:Nat) (hk:k < es.length) W=>l01In_c es[k].e.ve 1 1000 W)
 have HI:=Lib.hid (fun (k:Nat) (hk:k < es.length) W=>l01In_c es[k].e.ba (-1) ((k:Int) - 1) W)
 have HL:=Lib.hid (fun (k:Nat) (hk:k < es.length) W (hW:Below w.heap.size w W)=>specIsRl_c es[k].e.r es[k].A es[k].c W ((E.i es[k] (List.getElem_mem hk)).r.later hW))
 have hat:=Lib.hid (fun (k:Nat) (hk:k < es.length)=>(entAt_get (l:=ens es) (k:=k) (by rw [ens_len];exact hk)).trans (by rw [← ens_take,ens_get hk]))
 have hcatE:Hid (catTo (ens es) es.length=true→catB (ens es)=decide (es.length ≤ 12)):=Lib.hid (fun h=>by rw [← ens_len es] at h ⊢;exact catB_all h)
 have hbadE:Hid (∀ k,entAt (ens es) k=false→k < es.length→catB (ens es)=false):=Lib.hid (fun k h hk=>catB_bad h (by rw [ens_len];exact hk))
 clear E
 go_enter Tryz.func42,Tryz.ntmps42
 go_wp2_with fail
 go_loopw [3] (fun i wr=>∃ k:Nat,k ≤ es.length∧i=.int .i64 k∧Below w.heap.size w wr∧Hid (catTo (ens es) k=true)) (fun i _=>es.length - (intOf i).toNat)
 case atStart=>exact ⟨0,Nat.zero_le _,rfl,Below.refl _ _,Lib.hid rfl⟩
 case round =>
  obtain ⟨k,hk,rfl,hb,hn⟩:=hrel
  by_cases hlt:k < es.length
  ·obtain ⟨b,off,rfl,hbB,hc'⟩:=hs.rg (i:=k) (by simpa using hlt)
   simp only [List.getElem_map] at hc'
   replace hc':=rangeAt_below hc' hb hbB
   have hnx:=Lib.hid ((catTo_succ (ens es) k).trans (by rw [hn.out,Bool.true_and]))
   have hR:Hid (entAt (ens es) k=(titleB es[k].e.ti && inB es[k].e.ve 1 1000 && es[k].e.r.b && inB es[k].e.ba (-1) ((k:Int) - 1) && !basisBad (ens (es.take k)) es[k].e && !(es.take k).any (fun x=>sameTV x.e es[k].e))):=Lib.hid (by
    rw [hat.out k hlt]
    unfold entB
    rw [ens_len,List.length_take,Nat.min_eq_left hk]
    unfold ens
    rw [List.any_map]
    rfl)
   replace HT:=Lib.hid (HT.out k hlt)
   replace HV:=Lib.hid (HV.out k hlt)
   replace HI:=Lib.hid (HI.out k hlt)
   replace HL:=Lib.hid (HL.out k hlt)
   have hcl:es[k].cells.length=20:=rfl
   have hlen:(es[k].e.r.cells es[k].A es[k].c).length=17:=rfl
   have hon:∀ v ∈ es[k].cells,v.oneCell'=true:=es[k].e.one es[k].A es[k].c
   have hbk:Hid (entAt (ens es) k=false→catB (ens es)=false):=Lib.hid (fun h=>hbadE.out k h hlt)
   have HB:Hid (∀ W g,Blk W g 35 es[k].cells.toArray→W.cell? ⟨g,0,none⟩=some (.string es[k].e.ti)∧W.cell? ⟨g,1,none⟩=some (.int .i64 es[k].e.ve)∧W.rangeAt g 2 (es[k].e.r.cells es[k].A es[k].c)∧W.cell? ⟨g,19,none⟩=some (.int .i64 es[k].e.ba)):=Lib.hid (fun W g h=>h.en)
   have hbas:Hid (∀ j:Nat,(hj:es[k].e.ba=(j:Int))→(hjk:j < k)→basisBad (ens (es.take k)) es[k].e=((es[j].e.ti.toList == es[k].e.ti.toList) && decide (es[k].e.ve ≤ es[j].e.ve))):=Lib.hid (fun j hj hjk=>by
    unfold basisBad
    rw [hj,decide_eq_true (by omega:(0:Int) ≤ (j:Int)),Bool.true_and,Int.toNat_natCast,ens_take,List.getElem?_take,if_pos hjk,List.getElem?_eq_getElem (by rw [ens_len];omega),ens_get (by omega)])
   have hbas0:Hid (es[k].e.ba=-1→basisBad (ens (es.take k)) es[k].e=false):=Lib.hid (fun hj=>by
    unfold basisBad
    rw [hj]
    rfl)
   have hany:Hid (∀ j:Nat,(hj:j < k)→((es.take (j+1)).any (fun x=>sameTV x.e es[k].e))=(((es.take j).any (fun x=>sameTV x.e es[k].e)) || ((es[j].e.ti.toList == es[k].e.ti.toList) && (es[j].e.ve == es[k].e.ve)))):=Lib.hid (fun j hj=>by
    rw [List.take_succ_eq_append_getElem (by omega),List.any_append]
    simp [sameTV])
   have hany2:Hid (∀ j:Nat,(hj:j < k)→((es[j].e.ti.toList == es[k].e.ti.toList) && (es[j].e.ve == es[k].e.ve))=true→(es.take k).any (fun x=>sameTV x.e es[k].e)=true):=Lib.hid (fun j hj h=>by
    rw [List.any_eq_true]
    exact ⟨es[j],by rw [List.mem_take_iff_getElem];exact ⟨j,by omega,rfl⟩,h⟩)
   have hany0:Hid ((es.take 0).any (fun x=>sameTV x.e es[k].e)=false):=Lib.hid (by simp)
   clear hat hbadE
   generalize (fun x:EnR=>sameTV x.e es[k].e)=pv at *
   generalize basisBad (ens (es.take k)) es[k].e=bsb at *
   generalize es[k].e.r.cells es[k].A es[k].c=rc at *
   generalize es[k].e.r.b=rb at *
   generalize es[k].e.ti=ti at *
   generalize es[k].e.ve=ve at *
   generalize es[k].e.ba=ba at *
   generalize es[k].cells=cs at *
   generalize entAt (ens es) k=ek at *
   generalize titleB ti=tb at *
   have hbw:Below wr.heap.size wr (wr.alloc (.cells cs.toArray 35)):=(Below.refl _ _).alloc (Nat.le_refl _) _
   have D0:=Blk.new wr 35 cs.toArray
   obtain ⟨x0,x1,x2,x3⟩:=HB.out _ _ D0
   go_wp2_with (first | (refine wpList_load_mid rfl 35 _ rfl (b) (off+k * 20) rfl (cs) _ hc' Tryz.underlying35 rfl (by kernel_rfl) ?_) | (refine wpList_store_new rfl _ _ rfl cs rfl rfl (by rw [hcl];kernel_rfl) (by rw [hcl];rfl) hon ?_) | fail)
   replace hb:=hb.trans (hbw.mono hb.size)
   clear hbw hc'
   generalize wr.alloc (.cells cs.toArray 35)=W at *
   generalize wr.heap.size=g at *
   refine Calls.mono (HT.out _) ?_;rintro x w1 ⟨rfl,rfl⟩
   cases tb with
   | false =>
    have hr:=Lib.hid (hbk.out (by rw [hR.out];rfl))
    go_wp2
    go_ret
    exact ⟨by rw [hr.out];rfl,hb⟩
   | true =>
   cases hv:inB ve 1 1000 with
   | false =>
    replace HV:=Lib.hid (fun W=>by have h:=HV.out W;rwa [hv] at h)
    have hr:=Lib.hid (hbk.out (by rw [hR.out,hv];rfl))
    clear hv
    go_wp2_with (go_at_call 71;refine Calls.mono (HV.out _) ?_;rintro x w3 ⟨rfl,rfl⟩)
    go_ret
    exact ⟨by rw [hr.out];rfl,hb⟩
   | true =>
   replace HV:=Lib.hid (fun W=>by have h:=HV.out W;rwa [hv] at h)
   replace hR:=Lib.hid (hR.out.trans (by rw [hv]))
   clear hv
   go_wp2_with (first | (go_at_call 71;refine Calls.mono (HV.out _) ?_;rintro x w3 ⟨rfl,rfl⟩) | (refine wpList_load_g (by rfl) 33 _ rfl g 2 rfl rc _ x2 Tryz.underlying33 rfl (by rw [hlen];kernel_rfl) ?_) | fail)
   refine Calls.mono (HL.out _ hb) ?_;rintro x w2 ⟨rfl,hb1⟩
   clear x0 x1 x2 x3 HL HV HT
   replace D0:=D0.below hb1 D0.lt
   replace hb:=hb.trans (hb1.mono hb.size)
   clear hb1
   obtain ⟨x0,x1,x2,x3⟩:=HB.out _ _ D0
   cases rb with
   | false =>
    have hr:=Lib.hid (hbk.out (by rw [hR.out];rfl))
    go_wp2
    go_ret
    exact ⟨by rw [hr.out];rfl,hb⟩
   | true =>
   have hwr:IntKind.i64.wrap ((k:Int) - 1)=(k:Int) - 1:=IntWalk.i64_in _ (by omega)
   cases hi:inB ba (-1) ((k:Int) - 1) with
   | false =>
    replace HI:=Lib.hid (fun W=>by have h:=HI.out W;rwa [hi] at h)
    have hr:=Lib.hid (hbk.out (by rw [hR.out,hi];rfl))
    clear hi
    go_wp2_with (go_at_call 71;refine Calls.mono (HI.out _) ?_;rintro x w3 ⟨rfl,rfl⟩)
    go_ret
    exact ⟨by rw [hr.out];rfl,hb⟩
   | true =>
   replace HI:=Lib.hid (fun W=>by have h:=HI.out W;rwa [hi] at h)
   replace hR:=Lib.hid (hR.out.trans (by rw [hi]))
   have hbd:=inB_true.1 hi
   clear hi
   go_wp2_with (first | (go_at_call 71;refine Calls.mono (HI.out _) ?_;rintro x w3 ⟨rfl,rfl⟩) | fail)
   clear HI hwr
   by_cases h0:(0:Int) ≤ ba
   ·obtain ⟨m,rfl⟩:∃ m:Nat,ba=(m:Int):=⟨ba.toNat,by omega⟩
    have hml:m < es.length:=by omega
    have hbb:=Lib.hid (hbas.out m rfl (by omega))
    obtain ⟨bj,offj,hbe,hbB',hc⟩:=hs.at_ (i:=m) (by simpa using hml)
    obtain ⟨rfl,rfl⟩:b=bj∧off=offj:=by simpa using hbe
    simp only [List.getElem_map] at hc
    have y0:w2.cell? ⟨b,off+m * 20,none⟩=some (.string es[m].e.ti):=(hb.cell (p:=⟨b,off+m * 20,none⟩) hbB).trans (by simpa using hc 0 _ rfl)
    have y1:w2.cell? ⟨b,off+m * 20+1,none⟩=some (.int .i64 es[m].e.ve):=(hb.cell (p:=⟨b,off+m * 20+1,none⟩) hbB).trans (by simpa using hc 1 _ rfl)
    clear hc hbe
    have hj1:(m:Int) < (es.length:Int):=by omega
    have hj0:(0:Int) ≤ (m:Int):=by omega
    have d0:decide ((m:Int) ≥ 0)=true:=decide_eq_true (by omega)
    have d1:decide ((0:Int) ≤ (m:Int))=true:=decide_eq_true (by omega)
    generalize es[m].e.ti=tj at *
    generalize es[m].e.ve=vj at *
    cases hq:(tj.toList == ti.toList) with
    | false =>
     replace hbb:=Lib.hid (hbb.out.trans (by rw [hq,Bool.false_and]))
     go_quiet (fail)
     clear y0 y1 d0 d1 hj1 hj0 hq
     refine then_world (R:=fun V=>Blk V g 35 cs.toArray∧Below w.heap.size w V) ⟨D0,by first | exact below_drewN' hb _ | exact hb.drew | exact hb⟩ (fun V hV=>?_)
     clear x0 x1 x2 x3 hb D0 hbas hbas0
     obtain ⟨D0,hb⟩:=hV
     go_wp2_with fail
     go_loopw [5] (fun i wr=>∃ j:Nat,j ≤ k∧i=.int .i64 j∧Below w.heap.size w wr∧Blk wr g 35 cs.toArray∧Hid ((es.take j).any pv=false)) (fun i _=>k - (intOf i).toNat)
     case atStart=>exact ⟨0,Nat.zero_le _,rfl,hb,D0,hany0⟩
     case round =>
      clear hb D0
      obtain ⟨j,hj,rfl,hb,D0,hnj⟩:=hrel
      obtain ⟨x0,x1,x2,x3⟩:=HB.out _ _ D0
      by_cases hjk:j < k
      ·have hjl:j < es.length:=by omega
       obtain ⟨bj,offj,hbe,hbB',hc⟩:=hs.at_ (i:=j) (by simpa using hjl)
       obtain ⟨rfl,rfl⟩:b=bj∧off=offj:=by simpa using hbe
       simp only [List.getElem_map] at hc
       have y0:wr.cell? ⟨b,off+j * 20,none⟩=some (.string es[j].e.ti):=(hb.cell (p:=⟨b,off+j * 20,none⟩) hbB).trans (by simpa using hc 0 _ rfl)
       have y1:wr.cell? ⟨b,off+j * 20+1,none⟩=some (.int .i64 es[j].e.ve):=(hb.cell (p:=⟨b,off+j * 20+1,none⟩) hbB).trans (by simpa using hc 1 _ rfl)
       have hnj1:=Lib.hid ((hany.out j hjk).trans (by rw [hnj.out,Bool.false_or]))
       have hbad:=Lib.hid (hany2.out j hjk)
       have hj1:(j:Int) < (es.length:Int):=by omega
       have hj0:(0:Int) ≤ (j:Int):=by omega
       clear hc hbe
       generalize es[j].e.ti=tj at *
       generalize es[j].e.ve=vj at *
       cases hq:(tj.toList == ti.toList) with
       | false =>
        replace hnj1:=Lib.hid (hnj1.out.trans (by rw [hq,Bool.false_and]))
        go_wp2_with fail
        go_quiet (fail)
        go_wp2
        go_roundw
        case rel=>exact ⟨j+1,by omega,by go_num,(by first | exact below_drewN' hb _ | exact hb.drew | exact hb),D0,hnj1⟩
        case measure=>simp [intOf];omega
       | true =>
        by_cases hvv:vj=ve
        ·have d2:decide (vj=ve)=true:=decide_eq_true hvv
         have d3:(vj == ve)=true:=by simp [hvv]
         have hr:=Lib.hid (hbk.out (by rw [hR.out,hbb.out,hbad.out (by rw [hq,d3];rfl)];rfl))
         go_wp2_with fail
         go_quiet (fail)
         go_wp2
         go_ret
         exact ⟨by rw [hr.out];rfl,by first | exact below_drewN' hb _ | exact hb.drew | exact hb⟩
        ·have d2:decide (vj=ve)=false:=decide_eq_false hvv
         have d3:(vj == ve)=false:=by simp [hvv]
         replace hnj1:=Lib.hid (hnj1.out.trans (by rw [hq,d3,Bool.and_false]))
         go_wp2_with fail
         go_quiet (fail)
         go_wp2
         go_roundw
         case rel=>exact ⟨j+1,by omega,by go_num,(by first | exact below_drewN' hb _ | exact hb.drew | exact hb),D0,hnj1⟩
         case measure=>simp [intOf];omega
      ·have:j=k:=by omega
       subst this
       have hek:=Lib.hid (hR.out.trans (by rw [hbb.out,hnj.out]))
       go_wp2
       go_roundw
       case rel=>exact ⟨j+1,by omega,by go_num,hb,Lib.hid (hnx.out.trans (by rw [hek.out];rfl))⟩
       case measure=>simp [intOf];omega
    | true =>
     by_cases hvv:ve ≤ vj
     ·have d2:decide (ve ≤ vj)=true:=decide_eq_true hvv
      have hr:=Lib.hid (hbk.out (by rw [hR.out,hbb.out,hq,d2];rfl))
      go_quiet (fail)
      go_wp2
      go_ret
      exact ⟨by rw [hr.out];rfl,by first | exact below_drewN' hb _ | exact hb.drew | exact hb⟩
     ·have d2:decide (ve ≤ vj)=false:=decide_eq_false hvv
      replace hbb:=Lib.hid (hbb.out.trans (by rw [hq,d2,Bool.true_and]))
      go_quiet (fail)
      clear y0 y1 d0 d1 hj1 hj0 hq d2
      refine then_world (R:=fun V=>Blk V g 35 cs.toArray∧Below w.heap.size w V) ⟨D0,by first | exact below_drewN' hb _ | exact hb.drew | exact hb⟩ (fun V hV=>?_)
      clear x0 x1 x2 x3 hb D0 hbas hbas0
      obtain ⟨D0,hb⟩:=hV
      go_wp2_with fail
      go_loopw [5] (fun i wr=>∃ j:Nat,j ≤ k∧i=.int .i64 j∧Below w.heap.size w wr∧Blk wr g 35 cs.toArray∧Hid ((es.take j).any pv=false)) (fun i _=>k - (intOf i).toNat)
      case atStart=>exact ⟨0,Nat.zero_le _,rfl,hb,D0,hany0⟩
      case round =>
       clear hb D0
       obtain ⟨j,hj,rfl,hb,D0,hnj⟩:=hrel
       obtain ⟨x0,x1,x2,x3⟩:=HB.out _ _ D0
       by_cases hjk:j < k
       ·have hjl:j < es.length:=by omega
        obtain ⟨bj,offj,hbe,hbB',hc⟩:=hs.at_ (i:=j) (by simpa using hjl)
        obtain ⟨rfl,rfl⟩:b=bj∧off=offj:=by simpa using hbe
        simp only [List.getElem_map] at hc
        have y0:wr.cell? ⟨b,off+j * 20,none⟩=some (.string es[j].e.ti):=(hb.cell (p:=⟨b,off+j * 20,none⟩) hbB).trans (by simpa using hc 0 _ rfl)
        have y1:wr.cell? ⟨b,off+j * 20+1,none⟩=some (.int .i64 es[j].e.ve):=(hb.cell (p:=⟨b,off+j * 20+1,none⟩) hbB).trans (by simpa using hc 1 _ rfl)
        have hnj1:=Lib.hid ((hany.out j hjk).trans (by rw [hnj.out,Bool.false_or]))
        have hbad:=Lib.hid (hany2.out j hjk)
        have hj1:(j:Int) < (es.length:Int):=by omega
        have hj0:(0:Int) ≤ (j:Int):=by omega
        clear hc hbe
        generalize es[j].e.ti=tj at *
        generalize es[j].e.ve=vj at *
        cases hq:(tj.toList == ti.toList) with
        | false =>
         replace hnj1:=Lib.hid (hnj1.out.trans (by rw [hq,Bool.false_and]))
         go_wp2_with fail
         go_quiet (fail)
         go_wp2
         go_roundw
         case rel=>exact ⟨j+1,by omega,by go_num,(by first | exact below_drewN' hb _ | exact hb.drew | exact hb),D0,hnj1⟩
         case measure=>simp [intOf];omega
        | true =>
         by_cases hvv:vj=ve
         ·have d2:decide (vj=ve)=true:=decide_eq_true hvv
          have d3:(vj == ve)=true:=by simp [hvv]
          have hr:=Lib.hid (hbk.out (by rw [hR.out,hbb.out,hbad.out (by rw [hq,d3];rfl)];rfl))
          go_wp2_with fail
          go_quiet (fail)
          go_wp2
          go_ret
          exact ⟨by rw [hr.out];rfl,by first | exact below_drewN' hb _ | exact hb.drew | exact hb⟩
         ·have d2:decide (vj=ve)=false:=decide_eq_false hvv
          have d3:(vj == ve)=false:=by simp [hvv]
          replace hnj1:=Lib.hid (hnj1.out.trans (by rw [hq,d3,Bool.and_false]))
          go_wp2_with fail
          go_quiet (fail)
          go_wp2
          go_roundw
          case rel=>exact ⟨j+1,by omega,by go_num,(by first | exact below_drewN' hb _ | exact hb.drew | exact hb),D0,hnj1⟩
          case measure=>simp [intOf];omega
       ·have:j=k:=by omega
        subst this
        have hek:=Lib.hid (hR.out.trans (by rw [hbb.out,hnj.out]))
        go_wp2
        go_roundw
        case rel=>exact ⟨j+1,by omega,by go_num,hb,Lib.hid (hnx.out.trans (by rw [hek.out];rfl))⟩
        case measure=>simp [intOf];omega
   ·have hbb:=Lib.hid (hbas0.out (by omega))
    obtain rfl:ba=-1:=by omega
    go_quiet (fail)
    refine then_world (R:=fun V=>Blk V g 35 cs.toArray∧Below w.heap.size w V) ⟨D0,by first | exact below_drewN' hb _ | exact hb.drew | exact hb⟩ (fun V hV=>?_)
    clear x0 x1 x2 x3 hb D0 hbas hbas0
    obtain ⟨D0,hb⟩:=hV
    go_wp2_with fail
    go_loopw [5] (fun i wr=>∃ j:Nat,j ≤ k∧i=.int .i64 j∧Below w.heap.size w wr∧Blk wr g 35 cs.toArray∧Hid ((es.take j).any pv=false)) (fun i _=>k - (intOf i).toNat)
    case atStart=>exact ⟨0,Nat.zero_le _,rfl,hb,D0,hany0⟩
    case round =>
     clear hb D0
     obtain ⟨j,hj,rfl,hb,D0,hnj⟩:=hrel
     obtain ⟨x0,x1,x2,x3⟩:=HB.out _ _ D0
     by_cases hjk:j < k
     ·have hjl:j < es.length:=by omega
      obtain ⟨bj,offj,hbe,hbB',hc⟩:=hs.at_ (i:=j) (by simpa using hjl)
      obtain ⟨rfl,rfl⟩:b=bj∧off=offj:=by simpa using hbe
      simp only [List.getElem_map] at hc
      have y0:wr.cell? ⟨b,off+j * 20,none⟩=some (.string es[j].e.ti):=(hb.cell (p:=⟨b,off+j * 20,none⟩) hbB).trans (by simpa using hc 0 _ rfl)
      have y1:wr.cell? ⟨b,off+j * 20+1,none⟩=some (.int .i64 es[j].e.ve):=(hb.cell (p:=⟨b,off+j * 20+1,none⟩) hbB).trans (by simpa using hc 1 _ rfl)
      have hnj1:=Lib.hid ((hany.out j hjk).trans (by rw [hnj.out,Bool.false_or]))
      have hbad:=Lib.hid (hany2.out j hjk)
      have hj1:(j:Int) < (es.length:Int):=by omega
      have hj0:(0:Int) ≤ (j:Int):=by omega
      clear hc hbe
      generalize es[j].e.ti=tj at *
      generalize es[j].e.ve=vj at *
      cases hq:(tj.toList == ti.toList) with
      | false =>
       replace hnj1:=Lib.hid (hnj1.out.trans (by rw [hq,Bool.false_and]))
       go_wp2_with fail
       go_quiet (fail)
       go_wp2
       go_roundw
       case rel=>exact ⟨j+1,by omega,by go_num,(by first | exact below_drewN' hb _ | exact hb.drew | exact hb),D0,hnj1⟩
       case measure=>simp [intOf];omega
      | true =>
       by_cases hvv:vj=ve
       ·have d2:decide (vj=ve)=true:=decide_eq_true hvv
        have d3:(vj == ve)=true:=by simp [hvv]
        have hr:=Lib.hid (hbk.out (by rw [hR.out,hbb.out,hbad.out (by rw [hq,d3];rfl)];rfl))
        go_wp2_with fail
        go_quiet (fail)
        go_wp2
        go_ret
        exact ⟨by rw [hr.out];rfl,by first | exact below_drewN' hb _ | exact hb.drew | exact hb⟩
       ·have d2:decide (vj=ve)=false:=decide_eq_false hvv
        have d3:(vj == ve)=false:=by simp [hvv]
        replace hnj1:=Lib.hid (hnj1.out.trans (by rw [hq,d3,Bool.and_false]))
        go_wp2_with fail
        go_quiet (fail)
        go_wp2
        go_roundw
        case rel=>exact ⟨j+1,by omega,by go_num,(by first | exact below_drewN' hb _ | exact hb.drew | exact hb),D0,hnj1⟩
        case measure=>simp [intOf];omega
     ·have:j=k:=by omega
      subst this
      have hek:=Lib.hid (hR.out.trans (by rw [hbb.out,hnj.out]))
      go_wp2
      go_roundw
      case rel=>exact ⟨j+1,by omega,by go_num,hb,Lib.hid (hnx.out.trans (by rw [hek.out];rfl))⟩
      case measure=>simp [intOf];omega
  ·have:k=es.length:=by omega
   subst this
   have hr:=Lib.hid (hcatE.out hn.out)
   clear hcatE hbadE hat
   go_wp2
   go_ret
   exact ⟨by rw [hr.out,show decide (es.length ≤ 12)=decide ((es.length:Int) ≤ 12) from decide_eq_decide.2 (by omega)];rfl,hb⟩
end Go.Proofs.YtednjmldjbndhaaGreatDoor
