/- An entry behind others: the program's test. Conditions: the lengths. -/
import Derived.Test.YtednjmldjbndhaaGreatDoorKCt18
set_option linter.unusedSimpArgs false
set_option linter.unusedVariables false
set_option maxRecDepth 100000
set_option maxHeartbeats 8000000
namespace Go.Proofs.YtednjmldjbndhaaGreatDoor
open Go.RowKit
theorem samePred (es:List EnR) (e:En) (g:Nat) (w:World) (hg:g < w.heap.size) (h0:w.cell? ⟨g,0,none⟩=some (.string e.ti)) (h1:w.cell? ⟨g,1,none⟩=some (.int .i64 e.ve)) :
  PredEn 68 #[.pointer (some ⟨g,0,none⟩)] (fun y=>sameTV y.e e) es w:=fun y _ W hW =>
 sameTV_c y.e e y.A y.c g W (Nat.lt_of_lt_of_le hg hW.size) ((hW.cell (p:=⟨g,0,none⟩) hg).trans h0) ((hW.cell (p:=⟨g,1,none⟩) hg).trans h1)
theorem neEmpty {r:ByteArray} (h:r.data.toList ≠ []):(r.toList == [])=false:=by
 have:r.toList ≠ []:=by rw [ByteArray.toList_eq];exact h
 cases hr:r.toList with
 | nil=>exact absurd hr this
 | cons a l=>rfl
theorem isEntry_c (A:Option Addr) (c:Nat) (es:List EnR) (e:En) (B:Option Addr) (d:Nat) (w:World) (E:EnsIn w A es) (X:EnIn w B d e) :
  Calls Tryz.prog 39 #[.slice A es.length c,.agg (e.cells B d).toArray] w fun x w'=>x=.returned (.bool (entB (ens es) e))∧Below w.heap.size w w':=by
 have hW:Below w.heap.size w (w.alloc (.cells (e.cells B d).toArray 35)):=(by repeat first | with_reducible (first | exact Below.refl _ _ | apply below_drewN' | apply Below.drew | refine Below.alloc ?_ ?_ _ | refine Below.setCell ?_ ?_ _) | exact Below.refl _ _ | omega | (simp <;> omega) | (have:=(Below.refl _ _).size;first | omega | (simp <;> omega)))
 have B0:=Blk.new w 35 (e.cells B d).toArray
 have hR:Hid (entB (ens es) e=(titleB e.ti && inB e.ve 1 1000 && e.r.b && inB e.ba (-1) ((es.length:Int) - 1) && !basisBad (ens es) e && !es.any (fun x=>sameTV x.e e))):=Lib.hid (by unfold entB;rw [ens_len];unfold ens;rw [List.any_map];rfl)
 have hT:Hid (titleB e.ti=(inB e.ti.size 1 12 && e.ti.data.toList.all isLetter)):=Lib.hid rfl
 have HT:=Lib.hid (fun W=>trimTitle_c e.ti W (by have:=X.t;omega))
 have HV:=Lib.hid (fun W=>within_c e.ve 1 1000 W)
 have HI:=Lib.hid (fun W=>within_c e.ba (-1) ((es.length:Int) - 1) W)
 have HL:=Lib.hid (fun W (hW:Below w.heap.size w W)=>implIsRl_c e.r B d W (X.r.later hW))
 have HC:=Lib.hid (fun W (hW:Below w.heap.size w W) g hg h0 h1=>containsFuncEn_c A c es 68 #[.pointer (some ⟨g,0,none⟩)] (fun y=>sameTV y.e e) W (enters_of Tryz.func68 (by kernel_rfl) rfl) (samePred es e g W hg h0 h1) (by have:=E.n;omega) ((E.s.below hW).more hW.size))
 have HB:Hid (∀ W,Blk W w.heap.size 35 (e.cells B d).toArray→W.cell? ⟨w.heap.size,0,none⟩=some (.string e.ti)∧W.cell? ⟨w.heap.size,1,none⟩=some (.int .i64 e.ve)∧W.rangeAt w.heap.size 2 (e.r.cells B d)∧W.cell? ⟨w.heap.size,19,none⟩=some (.int .i64 e.ba)):=Lib.hid (fun W h=>h.en)
 have hX:=X.t
 have hn:=E.n
 have hlen:(e.r.cells B d).length=17:=rfl
 clear X
 generalize entB (ens es) e=res at *
 generalize titleB e.ti=tb at *
 generalize e.r.cells B d=rc at *
 generalize (e.cells B d).toArray=ec at *
 generalize e.r.b=rb at *
 generalize e.ti.data.toList.all isLetter=lb at *
 generalize hve:e.ve=ve at *
 have hve:=Lib.hid hve
 by_cases h1:(e.ti.size:Int) < 1
 ·have hin:Hid (inB e.ti.size 1 12=false):=Lib.hid (inB_false.2 (by omega))
  obtain ⟨x0,x1,x2,x3⟩:=HB.out _ B0
  go_enter Tryz.func39,Tryz.ntmps39
  go_wp2
  go_ret
  exact ⟨by rw [hR.out,hT.out,hin.out];rfl,hW⟩
 by_cases h2:12 < (e.ti.size:Int)
 ·have hin:Hid (inB e.ti.size 1 12=false):=Lib.hid (inB_false.2 (by omega))
  obtain ⟨x0,x1,x2,x3⟩:=HB.out _ B0
  go_enter Tryz.func39,Tryz.ntmps39
  go_wp2
  go_ret
  exact ⟨by rw [hR.out,hT.out,hin.out];rfl,hW⟩
 replace hT:Hid (tb=lb):=Lib.hid (by rw [hT.out,inB_true.2 (by omega),Bool.true_and])
 obtain ⟨x0,x1,x2,x3⟩:=HB.out _ B0
 go_enter Tryz.func39,Tryz.ntmps39
 go_wp2_with fail
 refine Calls.mono (HT.out _) ?_;rintro x w1 ⟨⟨r,rfl,hr⟩,hb1⟩
 clear x0 x1 x2 x3 HT
 replace B0:=B0.below hb1 B0.lt
 replace hW:=hW.trans (hb1.mono hW.size)
 clear hb1
 obtain ⟨x0,x1,x2,x3⟩:=HB.out _ B0
 cases lb with
 | false =>
  have hne:=neEmpty (r:=r) (fun h=>by have:=hr.1 h;cases this)
  clear hr
  go_wp2
  refine bodyPost_ret (v:=.bool false) (by simp [results,Tryz.results39,go_sem]) rfl ?_
  exact ⟨by rw [hR.out,hT.out];rfl,hW⟩
 | true =>
 have hr0:r.toList=[]:=by rw [ByteArray.toList_eq];exact hr.2 rfl
 clear hr
 replace hR:=Lib.hid (hR.out.trans (by rw [hT.out,Bool.true_and]))
 clear hT
 cases hv:inB ve 1 1000 with
 | false =>
  replace HV:=Lib.hid (fun W=>by have h:=HV.out W;rwa [hv] at h)
  replace hR:=Lib.hid (hR.out.trans (by rw [hv]))
  clear hv
  go_wp2_with (go_at_call 66;refine Calls.mono (HV.out _) ?_;rintro x w3 ⟨rfl,rfl⟩)
  go_ret
  exact ⟨by rw [hR.out];rfl,hW⟩
 | true =>
 replace HV:=Lib.hid (fun W=>by have h:=HV.out W;rwa [hv] at h)
 replace hR:=Lib.hid (hR.out.trans (by rw [hv,Bool.true_and]))
 clear hv
 go_wp2_with (first | (go_at_call 66;refine Calls.mono (HV.out _) ?_;rintro x w3 ⟨rfl,rfl⟩) | (refine wpList_load_g (by rfl) 33 _ rfl w.heap.size 2 rfl rc _ x2 Tryz.underlying33 rfl (by rw [hlen];kernel_rfl) ?_) | fail)
 refine Calls.mono (HL.out _ hW) ?_;rintro x w2 ⟨rfl,hb1⟩
 clear x0 x1 x2 x3 HL HV
 replace B0:=B0.below hb1 B0.lt
 replace hW:=hW.trans (hb1.mono hW.size)
 clear hb1
 obtain ⟨x0,x1,x2,x3⟩:=HB.out _ B0
 cases rb with
 | false =>
  go_wp2
  go_ret
  exact ⟨by rw [hR.out];rfl,hW⟩
 | true =>
 replace hR:=Lib.hid (hR.out.trans (by rw [Bool.true_and]))
 have hwr:IntKind.i64.wrap ((es.length:Int) - 1)=(es.length:Int) - 1:=IntWalk.i64_in _ (by omega)
 cases hi:inB e.ba (-1) ((es.length:Int) - 1) with
 | false =>
  replace HI:=Lib.hid (fun W=>by have h:=HI.out W;rwa [hi] at h)
  replace hR:=Lib.hid (hR.out.trans (by rw [hi]))
  clear hi
  go_wp2_with (go_at_call 66;refine Calls.mono (HI.out _) ?_;rintro x w3 ⟨rfl,rfl⟩)
  go_ret
  exact ⟨by rw [hR.out];rfl,hW⟩
 | true =>
 replace HI:=Lib.hid (fun W=>by have h:=HI.out W;rwa [hi] at h)
 replace hR:=Lib.hid (hR.out.trans (by rw [hi,Bool.true_and]))
 have hbd:=inB_true.1 hi
 clear hi
 go_wp2_with (first | (go_at_call 66;refine Calls.mono (HI.out _) ?_;rintro x w3 ⟨rfl,rfl⟩) | fail)
 clear HI hwr
 by_cases h0:(0:Int) ≤ e.ba
 ·obtain ⟨j,hj⟩:∃ j:Nat,e.ba=(j:Int):=⟨e.ba.toNat,by omega⟩
  have hjl:j < es.length:=by omega
  have hbb:Hid (basisBad (ens es) e=((es[j].e.ti.toList == e.ti.toList) && decide (ve ≤ es[j].e.ve))):=Lib.hid (by
   unfold basisBad
   rw [hve.out,hj,decide_eq_true (by omega:(0:Int) ≤ (j:Int)),Bool.true_and,Int.toNat_natCast,List.getElem?_eq_getElem (by rw [ens_len];exact hjl),ens_get hjl])
  obtain ⟨b,off,rfl,hbB,hc⟩:=E.s.at_ (i:=j) (by simpa using hjl)
  simp only [List.getElem_map] at hc
  have y0:w2.cell? ⟨b,off+j * 20,none⟩=some (.string es[j].e.ti):=(hW.cell (p:=⟨b,off+j * 20,none⟩) hbB).trans (by simpa using hc 0 _ rfl)
  have y1:w2.cell? ⟨b,off+j * 20+1,none⟩=some (.int .i64 es[j].e.ve):=(hW.cell (p:=⟨b,off+j * 20+1,none⟩) hbB).trans (by simpa using hc 1 _ rfl)
  clear hc E
  rw [hj] at x3
  have hj1:(j:Int) < (es.length:Int):=by omega
  have hj0:(0:Int) ≤ (j:Int):=by omega
  have d0:decide ((j:Int) ≥ 0)=true:=decide_eq_true (by omega)
  have d1:decide ((0:Int) ≤ (j:Int))=true:=decide_eq_true (by omega)
  have HB':Hid (∀ W,Blk W w.heap.size 35 ec→W.cell? ⟨w.heap.size,0,none⟩=some (.string e.ti)∧W.cell? ⟨w.heap.size,1,none⟩=some (.int .i64 ve)∧W.rangeAt w.heap.size 2 rc∧W.cell? ⟨w.heap.size,19,none⟩=some (.int .i64 e.ba)):=HB
  generalize es[j].e.ti=tj at *
  generalize es[j].e.ve=vj at *
  cases hq:(tj.toList == e.ti.toList) with
  | false =>
   replace hbb:=Lib.hid (hbb.out.trans (by rw [hq,Bool.false_and]))
   go_quiet (fail)
   refine then_world (R:=fun V=>Blk V w.heap.size 35 ec∧Below w.heap.size w V) ⟨B0,by first | exact below_drewN' hW _ | exact hW.drew | exact hW⟩ (fun V hV=>?_)
   clear x0 x1 x2 x3 hW B0
   obtain ⟨B0,hW⟩:=hV
   obtain ⟨x0,x1,x2,x3⟩:=HB.out _ B0
   have hcall:=Lib.hid (HC.out V hW w.heap.size B0.lt x0 x1)
   go_wp2_with fail
   refine Calls.mono hcall.out ?_;rintro x w4 ⟨rfl,hb4⟩
   go_wp2
   go_ret
   exact ⟨by rw [hR.out,hbb.out];rfl,hW.trans (hb4.mono hW.size)⟩
  | true =>
   by_cases hvv:ve ≤ vj
   ·have d2:decide (ve ≤ vj)=true:=decide_eq_true hvv
    have d3:decide (vj ≥ ve)=true:=decide_eq_true hvv
    replace hbb:=Lib.hid (hbb.out.trans (by rw [hq,d2,Bool.true_and]))
    go_quiet (fail)
    go_wp2
    go_ret
    exact ⟨by rw [hR.out,hbb.out];rfl,by first | exact below_drewN' hW _ | exact hW.drew | exact hW⟩
   ·have d2:decide (ve ≤ vj)=false:=decide_eq_false hvv
    have d3:decide (vj ≥ ve)=false:=decide_eq_false hvv
    replace hbb:=Lib.hid (hbb.out.trans (by rw [hq,d2,Bool.true_and]))
    go_quiet (fail)
    refine then_world (R:=fun V=>Blk V w.heap.size 35 ec∧Below w.heap.size w V) ⟨B0,by first | exact below_drewN' hW _ | exact hW.drew | exact hW⟩ (fun V hV=>?_)
    clear x0 x1 x2 x3 hW B0
    obtain ⟨B0,hW⟩:=hV
    obtain ⟨x0,x1,x2,x3⟩:=HB.out _ B0
    have hcall:=Lib.hid (HC.out V hW w.heap.size B0.lt x0 x1)
    go_wp2_with fail
    refine Calls.mono hcall.out ?_;rintro x w4 ⟨rfl,hb4⟩
    go_wp2
    go_ret
    exact ⟨by rw [hR.out,hbb.out];rfl,hW.trans (hb4.mono hW.size)⟩
 ·have hj:e.ba=-1:=by omega
  have hbb:Hid (basisBad (ens es) e=false):=Lib.hid (by
   unfold basisBad
   rw [hj]
   rfl)
  rw [hj] at x3
  go_quiet (fail)
  refine then_world (R:=fun V=>Blk V w.heap.size 35 ec∧Below w.heap.size w V) ⟨B0,by first | exact below_drewN' hW _ | exact hW.drew | exact hW⟩ (fun V hV=>?_)
  clear x0 x1 x2 x3 hW B0
  obtain ⟨B0,hW⟩:=hV
  obtain ⟨x0,x1,x2,x3⟩:=HB.out _ B0
  have hcall:=Lib.hid (HC.out V hW w.heap.size B0.lt x0 x1)
  go_wp2_with fail
  refine Calls.mono hcall.out ?_;rintro x w4 ⟨rfl,hb4⟩
  go_wp2
  go_ret
  exact ⟨by rw [hR.out,hbb.out];rfl,hW.trans (hb4.mono hW.size)⟩
end Go.Proofs.YtednjmldjbndhaaGreatDoor
