/- The figure of a chain: the program's and the reference's. Condition: the chain is valid. -/
import Derived.Test.YtednjmldjbndhaaGreatKGr12
import Derived.Test.YtednjmldjbndhaaGreatKGr19
import Derived.Test.YtednjmldjbndhaaGreatKGr22
set_option linter.unusedSimpArgs false
set_option linter.unusedVariables false
set_option maxRecDepth 100000
set_option maxHeartbeats 8000000
namespace Go.Proofs.YtednjmldjbndhaaGreat
open Go.RowKit
def stepQ (f:Figure) (t:Term):Figure × Int:=if t.div then divQ f ⟨t.digits,t.tens⟩ else mulQ f ⟨t.digits,t.tens⟩
def chFig:Figure→List Term→Figure × Int
 | f,[]=>(f,0)
 | f,t :: l=>if (stepQ f t).2=0 then chFig (stepQ f t).1 l else (⟨0,0⟩,(stepQ f t).2)
def chainFig:List Term→Figure × Int
 | []=>(⟨0,0⟩,0)
 | t :: l=>chFig ⟨t.digits,t.tens⟩ l
theorem stepQ_ok {f:Figure} {t:Term} (h:(stepQ f t).2=0):figOK (stepQ f t).1=true:=by
 unfold stepQ divQ mulQ at *
 split at h
 ·rename_i h1
  rw [if_pos h1]
  exact limR_ok h
 ·rename_i h1
  rw [if_neg h1]
  exact limR_ok h
theorem chFig_step {f:Figure} {D:List Term} {k:Nat} (h:k < D.length):chFig f (D.drop k)=if (stepQ f D[k]).2=0 then chFig (stepQ f D[k]).1 (D.drop (k+1)) else (⟨0,0⟩,(stepQ f D[k]).2):=by
 rw [List.drop_eq_getElem_cons h]
 rfl
theorem chFig_end {f:Figure} {D:List Term}:chFig f (D.drop D.length)=(f,0):=by
 rw [List.drop_length]
 rfl
theorem chainFig_eq {l:List Term} (h:0 < l.length):chainFig l=chFig ⟨l[0].digits,l[0].tens⟩ (l.drop 1):=by
 match l,h with
 | t :: l,_=>rfl
theorem implChainFigure_c (A:Option Addr) (c:Nat) (l:List Term) (w:World) (hl:chainB l=true) (hk:l.length ≤ c) (hs:Sl w w.heap.size 3 A (l.map Term.cells)) :
  Calls Tryz.prog 97 #[.slice A l.length c] w fun e w'=>e=.returned (.tuple #[(chainFig l).1.agg,.int .i64 (chainFig l).2])∧Below w.heap.size w w':=by
 obtain ⟨k1,k2,k3,_⟩:=chainB_parts hl
 have HI:∀ W,Below w.heap.size w W→Hid (Calls Tryz.prog 138 #[.slice A l.length c] W fun e w'=>e=.returned (.bool true)∧Below W.heap.size W w'):=fun W hW=>by
  have:=implIsChain_c A c l W (by omega) ((hs.below hW).more hW.size)
  rw [hl] at this
  exact this
 have hW:Below w.heap.size w (w.alloc (.cells #[.int .i64 0,.int .i64 0] 51)):=(by repeat first | with_reducible (first | exact Below.refl _ _ | apply below_drewN' | apply Below.drew | refine Below.alloc ?_ ?_ _ | refine Below.setCell ?_ ?_ _) | exact Below.refl _ _ | omega | (simp <;> omega) | (have:=(Below.refl _ _).size;first | omega | (simp <;> omega)))
 have R0:=Blk.new w 51 #[.int .i64 0,.int .i64 0]
 obtain ⟨b,off,hA,hbB,hc⟩:=hs.at_ (i:=0) (by simpa using k1)
 simp only [List.getElem_map] at hc
 have c0:w.cell? ⟨b,off,none⟩=some (.int .i64 l[0].digits):=by have:=hc 0 _ rfl;simpa using this
 have c1:w.cell? ⟨b,off+1,none⟩=some (.int .i64 l[0].tens):=by have:=hc 1 _ rfl;simpa using this
 clear hc
 have hrun:∀ W,(Instr.slice 27 (.slice A l.length c) (some (.int .i64 1)) none none).run Tryz.prog W=.ok (.slice (if c=1 then A else A.map (·.add (1 * 3))) (l.length - 1) (c - 1)) W:=fun W=>run_slice_at (P:=Tryz.prog) W 27 100 3 Tryz.underlying27 (fun _=>by kernel_rfl) A l.length c 1 (by omega) hk ⟨b,off,hA⟩
 have hdr:=hs.drop (m:=1) (cap:=c) (by simp;omega) (by simp;omega)
 rw [← List.map_drop] at hdr
 obtain ⟨AD,hAD⟩:∃ AD,AD=(if c=1 then A else A.map (·.add (1 * 3))):=⟨_,rfl⟩
 rw [← hAD] at hdr
 simp only [← hAD] at hrun
 clear hAD
 subst hA
 have hDl:l.length - 1=(l.drop 1).length:=by simp
 have hDall:∀ k (h:k < (l.drop 1).length),figOK ⟨(l.drop 1)[k].digits,(l.drop 1)[k].tens⟩=true:=fun k h=>List.all_eq_true.1 k3 _ (List.mem_of_mem_drop (List.getElem_mem h))
 have hf0:figOK ⟨l[0].digits,l[0].tens⟩=true:=List.all_eq_true.1 k3 l[0] (List.getElem_mem k1)
 have hst:=Lib.hid (chainFig_eq k1)
 have h6:(l.drop 1).length ≤ 5:=by simp;omega
 rw [hDl] at hrun
 clear k2 k3 hs
 generalize l.drop 1=D at *
 generalize chainFig l=R at *
 have h0I:(0:Int) < (l.length:Int):=by omega
 generalize l[0].digits=d0 at *
 generalize l[0].tens=t0 at *
 have hDall:=Lib.hid hDall
 have HDR:=Lib.hid hdr
 clear hdr hDl
 go_enter Tryz.func97,Tryz.ntmps97
 go_wp2_with fail
 refine Calls.mono (HI _ hW).out ?_;rintro e w1 ⟨rfl,hb1⟩
 generalize (w.alloc (.cells #[.int .i64 0,.int .i64 0] 51))=W at *
 have hW1:=hW.trans (hb1.mono hW.size)
 have R1:=R0.below hb1 R0.lt
 have y0:w1.cell? ⟨b,off,none⟩=some (.int .i64 d0):=by rw [hW1.cell hbB];exact c0
 have y1:w1.cell? ⟨b,off+1,none⟩=some (.int .i64 t0):=by rw [hW1.cell hbB];exact c1
 have hz1:=R1.lt
 have hbB1:b < w1.heap.size:=by omega
 have F2:=Blk.new w1 51 #[.int .i64 d0,.int .i64 t0]
 have R2:=R1.alloc (.cells #[.int .i64 d0,.int .i64 t0] 51)
 have hW2:Below w.heap.size w (w1.alloc (.cells #[.int .i64 d0,.int .i64 t0] 51)):=(by repeat first | with_reducible (first | exact hW1 | apply below_drewN' | apply Below.drew | refine Below.alloc ?_ ?_ _ | refine Below.setCell ?_ ?_ _) | exact hW1 | omega | (simp <;> omega) | (have:=(hW1).size;first | omega | (simp <;> omega)))
 clear hW R0 hb1 HI c0 c1
 go_wp2_with fail
 generalize w1.alloc (.cells #[.int .i64 d0,.int .i64 t0] 51)=w2 at *
 generalize w1.heap.size=g at *
 clear y0 y1
 go_loopw [19] (fun i wr=>∃ (k:Nat) (f:Figure),k ≤ D.length∧i=.int .i64 k∧figOK f=true∧Below w.heap.size w wr∧Blk wr w.heap.size 51 #[.int .i64 0,.int .i64 0]∧Blk wr g 51 #[.int .i64 f.digits,.int .i64 f.tens]∧Hid (R=chFig f (D.drop k))) (fun i _=>D.length - (intOf i).toNat)
 case atStart=>exact ⟨0,⟨d0,t0⟩,Nat.zero_le _,rfl,hf0,hW2,R2,F2,by rw [List.drop_zero];exact hst⟩
 case round =>
  clear F2 R2 hW2 hst
  obtain ⟨k,⟨fd,ft⟩,hk,rfl,hf,hb,Rr,Fr,hch⟩:=hrel
  simp only at Fr
  have hzr:=hb.size
  by_cases hlt:k < D.length
  ·obtain ⟨b2,off2,rfl,hbB2,hc⟩:=HDR.out.at_ (i:=k) (by simpa using hlt)
   simp only [List.getElem_map] at hc
   have c0:wr.cell? ⟨b2,off2+k * 3,none⟩=some (.int .i64 D[k].digits):=by rw [hb.cell hbB2];exact hc 0 _ rfl
   have c1:wr.cell? ⟨b2,off2+k * 3+1,none⟩=some (.int .i64 D[k].tens):=by rw [hb.cell hbB2];exact hc 1 _ rfl
   have c2:wr.cell? ⟨b2,off2+k * 3+2,none⟩=some (.bool D[k].div):=by rw [hb.cell hbB2];exact hc 2 _ rfl
   clear hc
   have HM:=fun W=>implMulF_c ⟨fd,ft⟩ ⟨D[k].digits,D[k].tens⟩ W hf (hDall.out k hlt)
   have HV:=fun W=>implDivF_c ⟨fd,ft⟩ ⟨D[k].digits,D[k].tens⟩ W hf (hDall.out k hlt)
   have Hnx:=Lib.hid (chFig_step (f:=⟨fd,ft⟩) hlt)
   have Hok:=Lib.hid (@stepQ_ok ⟨fd,ft⟩ D[k])
   generalize D[k]=t at *
   obtain ⟨td,tt,tv⟩:=t
   have BT:=Blk.new wr 100 #[.int .i64 td,.int .i64 tt,.bool tv]
   have F3:=Fr.alloc (.cells #[.int .i64 td,.int .i64 tt,.bool tv] 100)
   have R3:=Rr.alloc (.cells #[.int .i64 td,.int .i64 tt,.bool tv] 100)
   have hB3:Below w.heap.size w (wr.alloc (.cells #[.int .i64 td,.int .i64 tt,.bool tv] 100)):=(by repeat first | with_reducible (first | exact hb | apply below_drewN' | apply Below.drew | refine Below.alloc ?_ ?_ _ | refine Below.setCell ?_ ?_ _) | exact hb | omega | (simp <;> omega) | (have:=(hb).size;first | omega | (simp <;> omega)))
   simp only at c0 c1 c2 HM HV
   clear hf
   cases tv with
   | true =>
    have hq:stepQ ⟨fd,ft⟩ ⟨td,tt,true⟩=divQ ⟨fd,ft⟩ ⟨td,tt⟩:=if_pos rfl
    rw [hq] at Hnx Hok
    clear hq
    generalize divQ ⟨fd,ft⟩ ⟨td,tt⟩=s at *
    obtain ⟨⟨sd,st⟩,sc⟩:=s
    unfold Figure.agg at HV
    simp only at HV Hnx Hok
    have HQ:=fun W=>Lib.hid (HV W)
    clear HM HV
    have x0:(wr.alloc (.cells #[.int .i64 td,.int .i64 tt,.bool true] 100)).cell? ⟨wr.heap.size,0,none⟩=some (.int .i64 td):=BT.cell 0
    have x1:(wr.alloc (.cells #[.int .i64 td,.int .i64 tt,.bool true] 100)).cell? ⟨wr.heap.size,1,none⟩=some (.int .i64 tt):=BT.cell 1
    have y0:(wr.alloc (.cells #[.int .i64 td,.int .i64 tt,.bool true] 100)).cell? ⟨g,0,none⟩=some (.int .i64 fd):=F3.cell 0
    have y1:(wr.alloc (.cells #[.int .i64 td,.int .i64 tt,.bool true] 100)).cell? ⟨g,1,none⟩=some (.int .i64 ft):=F3.cell 1
    go_wp2_with fail
    generalize (wr.alloc (.cells #[.int .i64 td,.int .i64 tt,.bool true] 100))=W3 at *
    refine Calls.mono (HQ _).out ?_;rintro e w5 ⟨rfl,hb5⟩
    have F5:=F3.below hb5 F3.lt
    have R5:=R3.below hb5 R3.lt
    have hB5:=hB3.trans (hb5.mono hB3.size)
    clear x0 x1 y0 y1 c0 c1 c2 F3 R3 BT hB3 hb5
    have z0:w5.cell? ⟨g,0,none⟩=some (.int .i64 fd):=F5.cell 0
    have z1:w5.cell? ⟨g,1,none⟩=some (.int .i64 ft):=F5.cell 1
    have zf0:=F5.frozen 0
    have zf1:=F5.frozen 1
    have r0:w5.cell? ⟨w.heap.size,0,none⟩=some (.int .i64 0):=R5.cell 0
    have r1:w5.cell? ⟨w.heap.size,1,none⟩=some (.int .i64 0):=R5.cell 1
    have rf0:=R5.frozen 0
    have rf1:=R5.frozen 1
    have zg:=F5.lt
    have hne:¬ g=w.heap.size:=by omega
    have hne':¬ w.heap.size=g:=by omega
    have hB7:Below w.heap.size w ((w5.setCell ⟨g,0,none⟩ (.int .i64 sd)).setCell ⟨g,1,none⟩ (.int .i64 st)):=(by repeat first | with_reducible (first | exact hB5 | apply below_drewN' | apply Below.drew | refine Below.alloc ?_ ?_ _ | refine Below.setCell ?_ ?_ _) | exact hB5 | omega | (simp <;> omega) | (have:=(hB5).size;first | omega | (simp <;> omega)))
    by_cases h0:sc=0
    ·have hn:=Hnx.out
     rw [if_pos h0] at hn
     have hn:Hid (R=chFig ⟨sd,st⟩ (D.drop (k+1))):=hch.out.trans hn
     have hk2:=Hok.out h0
     have h0':(sc != 0)=false:=by simp [h0]
     clear Hok h0
     go_wp2
     go_roundw
     case rel=>exact ⟨k+1,⟨sd,st⟩,by omega,by go_num,hk2,hB7,(R5.far (by simp only;omega) _).far (by simp only;omega) _,(F5.two0).two1,hn⟩
     case measure=>simp [intOf];omega
    ·have hn:=Hnx.out
     rw [if_neg h0] at hn
     have hn:Hid (R=(⟨0,0⟩,sc)):=hch.out.trans hn
     have h0':(sc != 0)=true:=by simp [h0]
     clear Hok h0
     go_wp2
     refine bodyPost_ret (v:=.tuple #[.agg #[.int .i64 0,.int .i64 0],.int .i64 sc]) (by simp [results,Tryz.results97,go_sem,r0,r1]) rfl ⟨by rw [hn.out];rfl,(by repeat first | with_reducible (first | exact hB7 | apply below_drewN' | apply Below.drew | refine Below.alloc ?_ ?_ _ | refine Below.setCell ?_ ?_ _) | exact hB7 | omega | (simp <;> omega) | (have:=(hB7).size;first | omega | (simp <;> omega)))⟩
   | false =>
    have hq:stepQ ⟨fd,ft⟩ ⟨td,tt,false⟩=mulQ ⟨fd,ft⟩ ⟨td,tt⟩:=if_neg (by simp)
    rw [hq] at Hnx Hok
    clear hq
    generalize mulQ ⟨fd,ft⟩ ⟨td,tt⟩=s at *
    obtain ⟨⟨sd,st⟩,sc⟩:=s
    unfold Figure.agg at HM
    simp only at HM Hnx Hok
    have HQ:=fun W=>Lib.hid (HM W)
    clear HM HV
    have x0:(wr.alloc (.cells #[.int .i64 td,.int .i64 tt,.bool false] 100)).cell? ⟨wr.heap.size,0,none⟩=some (.int .i64 td):=BT.cell 0
    have x1:(wr.alloc (.cells #[.int .i64 td,.int .i64 tt,.bool false] 100)).cell? ⟨wr.heap.size,1,none⟩=some (.int .i64 tt):=BT.cell 1
    have y0:(wr.alloc (.cells #[.int .i64 td,.int .i64 tt,.bool false] 100)).cell? ⟨g,0,none⟩=some (.int .i64 fd):=F3.cell 0
    have y1:(wr.alloc (.cells #[.int .i64 td,.int .i64 tt,.bool false] 100)).cell? ⟨g,1,none⟩=some (.int .i64 ft):=F3.cell 1
    go_wp2_with fail
    generalize (wr.alloc (.cells #[.int .i64 td,.int .i64 tt,.bool false] 100))=W3 at *
    refine Calls.mono (HQ _).out ?_;rintro e w5 ⟨rfl,hb5⟩
    have F5:=F3.below hb5 F3.lt
    have R5:=R3.below hb5 R3.lt
    have hB5:=hB3.trans (hb5.mono hB3.size)
    clear x0 x1 y0 y1 c0 c1 c2 F3 R3 BT hB3 hb5
    have z0:w5.cell? ⟨g,0,none⟩=some (.int .i64 fd):=F5.cell 0
    have z1:w5.cell? ⟨g,1,none⟩=some (.int .i64 ft):=F5.cell 1
    have zf0:=F5.frozen 0
    have zf1:=F5.frozen 1
    have r0:w5.cell? ⟨w.heap.size,0,none⟩=some (.int .i64 0):=R5.cell 0
    have r1:w5.cell? ⟨w.heap.size,1,none⟩=some (.int .i64 0):=R5.cell 1
    have rf0:=R5.frozen 0
    have rf1:=R5.frozen 1
    have zg:=F5.lt
    have hne:¬ g=w.heap.size:=by omega
    have hne':¬ w.heap.size=g:=by omega
    have hB7:Below w.heap.size w ((w5.setCell ⟨g,0,none⟩ (.int .i64 sd)).setCell ⟨g,1,none⟩ (.int .i64 st)):=(by repeat first | with_reducible (first | exact hB5 | apply below_drewN' | apply Below.drew | refine Below.alloc ?_ ?_ _ | refine Below.setCell ?_ ?_ _) | exact hB5 | omega | (simp <;> omega) | (have:=(hB5).size;first | omega | (simp <;> omega)))
    by_cases h0:sc=0
    ·have hn:=Hnx.out
     rw [if_pos h0] at hn
     have hn:Hid (R=chFig ⟨sd,st⟩ (D.drop (k+1))):=hch.out.trans hn
     have hk2:=Hok.out h0
     have h0':(sc != 0)=false:=by simp [h0]
     clear Hok h0
     go_wp2
     go_roundw
     case rel=>exact ⟨k+1,⟨sd,st⟩,by omega,by go_num,hk2,hB7,(R5.far (by simp only;omega) _).far (by simp only;omega) _,(F5.two0).two1,hn⟩
     case measure=>simp [intOf];omega
    ·have hn:=Hnx.out
     rw [if_neg h0] at hn
     have hn:Hid (R=(⟨0,0⟩,sc)):=hch.out.trans hn
     have h0':(sc != 0)=true:=by simp [h0]
     clear Hok h0
     go_wp2
     refine bodyPost_ret (v:=.tuple #[.agg #[.int .i64 0,.int .i64 0],.int .i64 sc]) (by simp [results,Tryz.results97,go_sem,r0,r1]) rfl ⟨by rw [hn.out];rfl,(by repeat first | with_reducible (first | exact hB7 | apply below_drewN' | apply Below.drew | refine Below.alloc ?_ ?_ _ | refine Below.setCell ?_ ?_ _) | exact hB7 | omega | (simp <;> omega) | (have:=(hB7).size;first | omega | (simp <;> omega)))⟩
  ·have:k=D.length:=by omega
   subst this
   have z0:wr.cell? ⟨g,0,none⟩=some (.int .i64 fd):=Fr.cell 0
   have z1:wr.cell? ⟨g,1,none⟩=some (.int .i64 ft):=Fr.cell 1
   have r0:wr.cell? ⟨w.heap.size,0,none⟩=some (.int .i64 0):=Rr.cell 0
   have r1:wr.cell? ⟨w.heap.size,1,none⟩=some (.int .i64 0):=Rr.cell 1
   have rf0:=Rr.frozen 0
   have rf1:=Rr.frozen 1
   have hn:Hid (R=(⟨fd,ft⟩,0)):=hch.out.trans chFig_end
   have _rz:=Rr.lt
   go_wp2
   refine bodyPost_ret (v:=.tuple #[.agg #[.int .i64 fd,.int .i64 ft],.int .i64 0]) (by simp [results,Tryz.results97,go_sem,r0,r1]) rfl ⟨by rw [hn.out];rfl,(by repeat first | with_reducible (first | exact hb | apply below_drewN' | apply Below.drew | refine Below.alloc ?_ ?_ _ | refine Below.setCell ?_ ?_ _) | exact hb | omega | (simp <;> omega) | (have:=(hb).size;first | omega | (simp <;> omega)))⟩
theorem specChainFigure_c (A:Option Addr) (c:Nat) (l:List Term) (w:World) (hl:chainB l=true) (hs:Sl w w.heap.size 3 A (l.map Term.cells)) :
  Calls Tryz.prog 92 #[.slice A l.length c] w fun e w'=>e=.returned (.tuple #[(chainFig l).1.agg,.int .i64 (chainFig l).2])∧Below w.heap.size w w':=by
 obtain ⟨k1,k2,k3,_⟩:=chainB_parts hl
 have HI:∀ W,Below w.heap.size w W→Hid (Calls Tryz.prog 152 #[.slice A l.length c] W fun e w'=>e=.returned (.bool true)∧Below W.heap.size W w'):=fun W hW=>by
  have:=specIsChain_c A c l W (by omega) ((hs.below hW).more hW.size)
  rw [hl] at this
  exact this
 have hW:Below w.heap.size w (w.alloc (.cells #[.int .i64 0,.int .i64 0] 51)):=(by repeat first | with_reducible (first | exact Below.refl _ _ | apply below_drewN' | apply Below.drew | refine Below.alloc ?_ ?_ _ | refine Below.setCell ?_ ?_ _) | exact Below.refl _ _ | omega | (simp <;> omega) | (have:=(Below.refl _ _).size;first | omega | (simp <;> omega)))
 have R0:=Blk.new w 51 #[.int .i64 0,.int .i64 0]
 have HS:=Lib.hid hs
 obtain ⟨b,off,rfl,hbB,hc⟩:=hs.at_ (i:=0) (by simpa using k1)
 simp only [List.getElem_map] at hc
 have c0:w.cell? ⟨b,off,none⟩=some (.int .i64 l[0].digits):=by have:=hc 0 _ rfl;simpa using this
 have c1:w.cell? ⟨b,off+1,none⟩=some (.int .i64 l[0].tens):=by have:=hc 1 _ rfl;simpa using this
 clear hc hs
 have hall:=Lib.hid (show ∀ k (h:k < l.length),figOK ⟨l[k].digits,l[k].tens⟩=true from fun k h=>List.all_eq_true.1 k3 _ (List.getElem_mem h))
 have hf0:=hall.out 0 k1
 have hst:=Lib.hid (chainFig_eq k1)
 clear k3
 generalize chainFig l=R at *
 have h0I:(0:Int) < (l.length:Int):=by omega
 generalize l[0].digits=d0 at *
 generalize l[0].tens=t0 at *
 go_enter Tryz.func92,Tryz.ntmps92
 go_wp2_with fail
 refine Calls.mono (HI _ hW).out ?_;rintro e w1 ⟨rfl,hb1⟩
 generalize (w.alloc (.cells #[.int .i64 0,.int .i64 0] 51))=W at *
 have hW1:=hW.trans (hb1.mono hW.size)
 have R1:=R0.below hb1 R0.lt
 have y0:w1.cell? ⟨b,off,none⟩=some (.int .i64 d0):=by rw [hW1.cell hbB];exact c0
 have y1:w1.cell? ⟨b,off+1,none⟩=some (.int .i64 t0):=by rw [hW1.cell hbB];exact c1
 have hz1:=R1.lt
 have hbB1:b < w1.heap.size:=by omega
 have F2:=Blk.new w1 51 #[.int .i64 d0,.int .i64 t0]
 have R2:=R1.alloc (.cells #[.int .i64 d0,.int .i64 t0] 51)
 have hW2:Below w.heap.size w (w1.alloc (.cells #[.int .i64 d0,.int .i64 t0] 51)):=(by repeat first | with_reducible (first | exact hW1 | apply below_drewN' | apply Below.drew | refine Below.alloc ?_ ?_ _ | refine Below.setCell ?_ ?_ _) | exact hW1 | omega | (simp <;> omega) | (have:=(hW1).size;first | omega | (simp <;> omega)))
 clear hW R0 hb1 HI c0 c1
 go_wp2_with fail
 generalize w1.alloc (.cells #[.int .i64 d0,.int .i64 t0] 51)=w2 at *
 generalize w1.heap.size=g at *
 clear y0 y1
 go_loopw [5] (fun i wr=>∃ (k:Nat) (f:Figure),(1 ≤ k∧k ≤ l.length)∧i=.int .i64 k∧figOK f=true∧Below w.heap.size w wr∧Blk wr w.heap.size 51 #[.int .i64 0,.int .i64 0]∧Blk wr g 51 #[.int .i64 f.digits,.int .i64 f.tens]∧Hid (R=chFig f (l.drop k))) (fun i _=>l.length - (intOf i).toNat)
 case atStart=>exact ⟨1,⟨d0,t0⟩,⟨by omega,by omega⟩,rfl,hf0,hW2,R2,F2,hst⟩
 case round =>
  clear F2 R2 hW2 hst
  obtain ⟨k,⟨fd,ft⟩,hk,rfl,hf,hb,Rr,Fr,hch⟩:=hrel
  obtain ⟨hk1,hk⟩:=hk
  simp only at Fr
  have hzr:=hb.size
  by_cases hlt:k < l.length
  ·obtain ⟨b2,off2,he,hbB2,hc⟩:=HS.out.at_ (i:=k) (by simpa using hlt)
   simp only [Option.some.injEq,Addr.mk.injEq,and_true] at he
   obtain ⟨rfl,rfl⟩:=he
   simp only [List.getElem_map] at hc
   have HCE:∀ (v:World),Below wr.heap.size wr v→∀ j u,l[k].cells[j]?=some u→v.cell? ⟨b,off+k * 3+j,none⟩=some u:=fun v hv j u h=>by rw [hv.cell (Nat.lt_of_lt_of_le hbB2 hb.size),hb.cell hbB2];exact hc j u h
   clear hc
   have HM:=fun W=>specMulF_c ⟨fd,ft⟩ ⟨l[k].digits,l[k].tens⟩ W hf (hall.out k hlt)
   have HV:=fun W=>specDivF_c ⟨fd,ft⟩ ⟨l[k].digits,l[k].tens⟩ W hf (hall.out k hlt)
   have Hnx:=Lib.hid (chFig_step (f:=⟨fd,ft⟩) hlt)
   have Hok:=Lib.hid (@stepQ_ok ⟨fd,ft⟩ l[k])
   generalize l[k]=t at *
   obtain ⟨td,tt,tv⟩:=t
   simp only at HCE HM HV
   have HCE:=Lib.hid HCE
   clear hf
   have hqd:stepQ ⟨fd,ft⟩ ⟨td,tt,true⟩=divQ ⟨fd,ft⟩ ⟨td,tt⟩:=if_pos rfl
   have hqm:stepQ ⟨fd,ft⟩ ⟨td,tt,false⟩=mulQ ⟨fd,ft⟩ ⟨td,tt⟩:=if_neg (by simp)
   generalize divQ ⟨fd,ft⟩ ⟨td,tt⟩=sd at *
   generalize mulQ ⟨fd,ft⟩ ⟨td,tt⟩=sm at *
   obtain ⟨⟨dd,dt⟩,dc⟩:=sd
   obtain ⟨⟨md,mt⟩,mc⟩:=sm
   have hqd:=Lib.hid hqd
   have hqm:=Lib.hid hqm
   unfold Figure.agg at HM HV
   simp only at HM HV
   have HM:=fun W=>Lib.hid (HM W)
   have HV:=fun W=>Lib.hid (HV W)
   have k0:(0:Int) ≤ (k:Int):=by omega
   have kl:(k:Int) < (l.length:Int):=by omega
   go_wp2_with fail
   refine wp_region_all (fun a0 fL bA v=>∃ v23 v24 v25 v26 v27 v28 v29 v22 v30 v31 v6 v7:Value,bA=(((((((((((a0.put (some 23) v23).put (some 24) v24).put (some 25) v25).put (some 26) v26).put (some 27) v27).put (some 28) v28).put (some 29) v29).put (some 22) v22).put (some 30) v30).put (some 31) v31).put (some 6) v6).put (some 7) v7∧(AlT 51 wr (fL 10) (fL 11) v6 (.int .i64 md) (.int .i64 mt) v)∧(fL 0=true→v23=.agg #[.int .i64 fd,.int .i64 ft])∧(fL 1=true→v24=.slice (some ⟨b,off,none⟩) l.length c)∧(fL 2=true→v25=.int .i64 k)∧(fL 3=true→v26=.pointer (some ⟨b,off+k * 3,none⟩))∧(fL 4=true→v27=.pointer (some ⟨b,off+k * 3,none⟩))∧(fL 5=true→v28=.agg #[.int .i64 td,.int .i64 tt])∧(fL 6=true→v29=.tuple #[.agg #[.int .i64 md,.int .i64 mt],.int .i64 mc])∧(fL 7=true→v22=.tuple #[.agg #[.int .i64 md,.int .i64 mt],.int .i64 mc])∧(fL 8=true→v30=.agg #[.int .i64 md,.int .i64 mt])∧(fL 9=true→v31=.int .i64 mc)∧(fL 10=true→True)∧(fL 12=true→v7=.int .i64 mc)) (by kernel_rfl) (by decide +kernel) ?_ ?_ ?_
   ·exact ⟨_,_,_,_,_,_,_,_,_,_,_,_,put_more (put_more (put_more (put_more (put_more (put_more (put_more (put_more (put_more (put_more (put_more (put_more (rfl) 23) 24) 25) 26) 27) 28) 29) 22) 30) 31) 6) 7,AlT.init,nofun,nofun,nofun,nofun,nofun,nofun,nofun,nofun,nofun,nofun,nofun,nofun⟩
   ·rintro fL bA v ⟨v23,v24,v25,v26,v27,v28,v29,v22,v30,v31,v6,v7,rfl,hS,q0,q1,q2,q3,q4,q5,q6,q7,q8,q9,q10,q12⟩ i hi hf o ho hall
    simp only [Act.put,List.setIfInBounds_toArray,List.set_cons_zero,List.set_cons_succ]
    simp only [List.length_cons,List.length_nil] at hi
    have hn:i=0 ∨ i=1 ∨ i=2 ∨ i=3 ∨ i=4 ∨ i=5 ∨ i=6 ∨ i=7 ∨ i=8 ∨ i=9 ∨ i=10 ∨ i=11 ∨ i=12:=by omega
    clear hi
    rcases hn with rfl | rfl | rfl | rfl | rfl | rfl | rfl | rfl | rfl | rfl | rfl | rfl | rfl
    ·obtain rfl:=Option.some.inj ho
     have E:=Fr.below hS.hb Fr.lt
     have y0:v.cell? ⟨g,0,none⟩=some (.int .i64 fd):=E.cell 0
     have y1:v.cell? ⟨g,1,none⟩=some (.int .i64 ft):=E.cell 1
     clear hall ho
     refine wpOp_step rfl (fun K hK=>?_)
     go_simp
     exact hK _ _ ⟨_,_,_,_,_,_,_,_,_,_,_,_,rfl,hS,fun _=>rfl,q1,q2,q3,q4,q5,q6,q7,q8,q9,fun _=>trivial,q12⟩
    ·obtain rfl:=Option.some.inj ho
     clear hall ho
     refine wpOp_step rfl (fun K hK=>?_)
     go_simp
     exact hK _ _ ⟨_,_,_,_,_,_,_,_,_,_,_,_,rfl,hS,q0,fun _=>rfl,q2,q3,q4,q5,q6,q7,q8,q9,fun _=>trivial,q12⟩
    ·obtain rfl:=Option.some.inj ho
     clear hall ho
     refine wpOp_step rfl (fun K hK=>?_)
     go_simp
     exact hK _ _ ⟨_,_,_,_,_,_,_,_,_,_,_,_,rfl,hS,q0,q1,fun _=>rfl,q3,q4,q5,q6,q7,q8,q9,fun _=>trivial,q12⟩
    ·obtain rfl:=Option.some.inj ho
     obtain rfl:=q1 (hall ⟨1,.data⟩ (by simp) rfl)
     obtain rfl:=q2 (hall ⟨2,.data⟩ (by simp) rfl)
     clear hall ho
     refine wpOp_step rfl (fun K hK=>?_)
     go_simp
     exact hK _ _ ⟨_,_,_,_,_,_,_,_,_,_,_,_,rfl,hS,q0,fun _=>rfl,fun _=>rfl,fun _=>rfl,q4,q5,q6,q7,q8,q9,fun _=>trivial,q12⟩
    ·obtain rfl:=Option.some.inj ho
     obtain rfl:=q3 (hall ⟨3,.data⟩ (by simp) rfl)
     clear hall ho
     refine wpOp_step rfl (fun K hK=>?_)
     go_simp
     exact hK _ _ ⟨_,_,_,_,_,_,_,_,_,_,_,_,rfl,hS,q0,q1,q2,fun _=>rfl,fun _=>rfl,q5,q6,q7,q8,q9,fun _=>trivial,q12⟩
    ·obtain rfl:=Option.some.inj ho
     obtain rfl:=q4 (hall ⟨4,.data⟩ (by simp) rfl)
     have y0:v.cell? ⟨b,off+k * 3,none⟩=some (.int .i64 td):=HCE.out v hS.hb 0 _ rfl
     have y1:v.cell? ⟨b,off+k * 3+1,none⟩=some (.int .i64 tt):=HCE.out v hS.hb 1 _ rfl
     clear hall ho
     refine wpOp_step rfl (fun K hK=>?_)
     go_simp
     exact hK _ _ ⟨_,_,_,_,_,_,_,_,_,_,_,_,rfl,hS,q0,q1,q2,q3,fun _=>rfl,fun _=>rfl,q6,q7,q8,q9,fun _=>trivial,q12⟩
    ·obtain rfl:=Option.some.inj ho
     obtain rfl:=q0 (hall ⟨0,.data⟩ (by simp) rfl)
     obtain rfl:=q5 (hall ⟨5,.data⟩ (by simp) rfl)
     clear hall ho
     refine wpOp_step rfl (fun K hK=>?_)
     go_simp
     refine Calls.mono ((HM v).out) ?_;rintro e w1 ⟨rfl,hb1⟩
     go_simp
     exact hK _ _ ⟨_,_,_,_,_,_,_,_,_,_,_,_,rfl,hS.below hb1,fun _=>rfl,q1,q2,q3,q4,fun _=>rfl,fun _=>rfl,q7,q8,q9,fun _=>trivial,q12⟩
    ·obtain rfl:=Option.some.inj ho
     obtain rfl:=q6 (hall ⟨6,.data⟩ (by simp) rfl)
     clear hall ho
     refine wpOp_step rfl (fun K hK=>?_)
     go_simp
     exact hK _ _ ⟨_,_,_,_,_,_,_,_,_,_,_,_,rfl,hS,q0,q1,q2,q3,q4,q5,fun _=>rfl,fun _=>rfl,q8,q9,fun _=>trivial,q12⟩
    ·obtain rfl:=Option.some.inj ho
     obtain rfl:=q7 (hall ⟨7,.data⟩ (by simp) rfl)
     clear hall ho
     refine wpOp_step rfl (fun K hK=>?_)
     go_simp
     exact hK _ _ ⟨_,_,_,_,_,_,_,_,_,_,_,_,rfl,hS,q0,q1,q2,q3,q4,q5,q6,fun _=>rfl,fun _=>rfl,q9,fun _=>trivial,q12⟩
    ·obtain rfl:=Option.some.inj ho
     obtain rfl:=q7 (hall ⟨7,.data⟩ (by simp) rfl)
     clear hall ho
     refine wpOp_step rfl (fun K hK=>?_)
     go_simp
     exact hK _ _ ⟨_,_,_,_,_,_,_,_,_,_,_,_,rfl,hS,q0,q1,q2,q3,q4,q5,q6,fun _=>rfl,q8,fun _=>rfl,fun _=>trivial,q12⟩
    ·obtain rfl:=Option.some.inj ho
     clear hall ho
     refine wpOp_step rfl (fun K hK=>?_)
     go_simp
     exact hK _ _ ⟨_,_,_,_,_,_,_,_,_,_,_,_,rfl,hS.new hf,q0,q1,q2,q3,q4,q5,q6,q7,q8,q9,fun _=>trivial,q12⟩
    ·obtain rfl:=Option.some.inj ho
     have e10:fL 10=true:=hall ⟨10,.data⟩ (by simp) rfl
     obtain rfl:=q8 (hall ⟨8,.data⟩ (by simp) rfl)
     obtain ⟨gb,x0,x1,rfl,Bb,hgb,_⟩:=hS.blk e10
     have y0:v.cell? ⟨gb,0,none⟩=some x0:=Bb.cell 0
     have y1:v.cell? ⟨gb,1,none⟩=some x1:=Bb.cell 1
     have yf0:=Bb.frozen 0
     have yf1:=Bb.frozen 1
     clear hall ho
     refine wpOp_step rfl (fun K hK=>?_)
     go_simp
     exact hK _ _ ⟨_,_,_,_,_,_,_,_,_,_,_,_,rfl,hS.set e10 Bb hgb,q0,q1,q2,q3,q4,q5,q6,q7,fun _=>rfl,q9,fun _=>trivial,q12⟩
    ·obtain rfl:=Option.some.inj ho
     obtain rfl:=q9 (hall ⟨9,.data⟩ (by simp) rfl)
     clear hall ho
     refine wpOp_step rfl (fun K hK=>?_)
     go_simp
     exact hK _ _ ⟨_,_,_,_,_,_,_,_,_,_,_,_,rfl,hS,q0,q1,q2,q3,q4,q5,q6,q7,q8,fun _=>rfl,fun _=>trivial,fun _=>rfl⟩
   ·rintro fL bA v ⟨v23,v24,v25,v26,v27,v28,v29,v22,v30,v31,v6,v7,rfl,hS,q0,q1,q2,q3,q4,q5,q6,q7,q8,q9,q10,q12⟩ hall
    simp only [Act.put,List.setIfInBounds_toArray,List.set_cons_zero,List.set_cons_succ]
    simp only [List.length_cons,List.length_nil] at hall
    obtain rfl:=q0 (hall 0 (by omega))
    obtain rfl:=q1 (hall 1 (by omega))
    obtain rfl:=q2 (hall 2 (by omega))
    obtain rfl:=q3 (hall 3 (by omega))
    obtain rfl:=q4 (hall 4 (by omega))
    obtain rfl:=q5 (hall 5 (by omega))
    obtain rfl:=q6 (hall 6 (by omega))
    obtain rfl:=q7 (hall 7 (by omega))
    obtain rfl:=q8 (hall 8 (by omega))
    obtain rfl:=q9 (hall 9 (by omega))
    have e10:fL 10=true:=hall 10 (by omega)
    obtain rfl:=q12 (hall 12 (by omega))
    have e11:fL 11=true:=hall 11 (by omega)
    clear hall
    obtain ⟨gn,x0,x1,rfl,Nn,hgn,hxy⟩:=hS.blk e10
    obtain ⟨rfl,rfl⟩:=hxy e11
    have hB2:=hS.hb
    clear hxy hS HM
    have y2:v.cell? ⟨b,off+k * 3+2,none⟩=some (.bool tv):=HCE.out v hB2 2 _ rfl
    cases tv with
    | false =>
     have Hnx:=Hnx.out
     rw [hqm.out] at Hnx Hok
     simp only at Hnx Hok
     have hB3:=hb.trans (hB2.mono hb.size)
     have F3:=Fr.below hB2 Fr.lt
     have R3:=Rr.below hB2 Rr.lt
     clear HV hqd hqm
     have z0:v.cell? ⟨g,0,none⟩=some (.int .i64 fd):=F3.cell 0
     have z1:v.cell? ⟨g,1,none⟩=some (.int .i64 ft):=F3.cell 1
     have zf0:=F3.frozen 0
     have zf1:=F3.frozen 1
     have n0:v.cell? ⟨gn,0,none⟩=some (.int .i64 md):=Nn.cell 0
     have n1:v.cell? ⟨gn,1,none⟩=some (.int .i64 mt):=Nn.cell 1
     have r0:v.cell? ⟨w.heap.size,0,none⟩=some (.int .i64 0):=R3.cell 0
     have r1:v.cell? ⟨w.heap.size,1,none⟩=some (.int .i64 0):=R3.cell 1
     have rf0:=R3.frozen 0
     have rf1:=R3.frozen 1
     have zg:=F3.lt
     have hB7:Below w.heap.size w ((v.setCell ⟨g,0,none⟩ (.int .i64 md)).setCell ⟨g,1,none⟩ (.int .i64 mt)):=(by repeat first | with_reducible (first | exact hB3 | apply below_drewN' | apply Below.drew | refine Below.alloc ?_ ?_ _ | refine Below.setCell ?_ ?_ _) | exact hB3 | omega | (simp <;> omega) | (have:=(hB3).size;first | omega | (simp <;> omega)))
     by_cases h0:mc=0
     ·rw [if_pos h0] at Hnx
      have hn:Hid (R=chFig ⟨md,mt⟩ (l.drop (k+1))):=hch.out.trans Hnx
      have hk2:=Hok.out h0
      have h0':(mc != 0)=false:=by simp [h0]
      clear Hok h0 Hnx
      go_wp2
      go_roundw
      case rel=>exact ⟨k+1,⟨md,mt⟩,⟨by omega,by omega⟩,by go_num,hk2,hB7,(R3.far (by simp only;omega) _).far (by simp only;omega) _,(F3.two0).two1,hn⟩
      case measure=>simp [intOf];omega
     ·rw [if_neg h0] at Hnx
      have hn:Hid (R=(⟨0,0⟩,mc)):=hch.out.trans Hnx
      have h0':(mc != 0)=true:=by simp [h0]
      clear Hok h0 Hnx
      go_wp2
      refine bodyPost_ret (v:=.tuple #[.agg #[.int .i64 0,.int .i64 0],.int .i64 mc]) (by simp [results,Tryz.results92,go_sem,r0,r1]) rfl ⟨by rw [hn.out];rfl,(by repeat first | with_reducible (first | exact hB3 | apply below_drewN' | apply Below.drew | refine Below.alloc ?_ ?_ _ | refine Below.setCell ?_ ?_ _) | exact hB3 | omega | (simp <;> omega) | (have:=(hB3).size;first | omega | (simp <;> omega)))⟩
    | true =>
     have Hnx:=Hnx.out
     rw [hqd.out] at Hnx Hok
     simp only at Hnx Hok
     have Hnx:=Lib.hid Hnx
     clear hqd hqm
     go_wp2_with fail
     have hA0:AlT 51 wr true false (.pointer (some ⟨gn,0,none⟩)) (.int .i64 dd) (.int .i64 dt) v:=⟨hB2,fun _=>⟨gn,_,_,rfl,Nn,hgn,nofun⟩,nofun⟩
     clear hB2 Nn
     generalize v=v2 at *
     refine wp_region_all (fun a0 fL bA v=>∃ v38 v39 v40 v41 v42 v43 v44 v37 v45 v46 v7:Value,bA=((((((((((a0.put (some 38) v38).put (some 39) v39).put (some 40) v40).put (some 41) v41).put (some 42) v42).put (some 43) v43).put (some 44) v44).put (some 37) v37).put (some 45) v45).put (some 46) v46).put (some 7) v7∧(AlT 51 wr true (fL 10) (.pointer (some ⟨gn,0,none⟩)) (.int .i64 dd) (.int .i64 dt) v)∧(fL 0=true→v38=.agg #[.int .i64 fd,.int .i64 ft])∧(fL 1=true→v39=.slice (some ⟨b,off,none⟩) l.length c)∧(fL 2=true→v40=.int .i64 k)∧(fL 3=true→v41=.pointer (some ⟨b,off+k * 3,none⟩))∧(fL 4=true→v42=.pointer (some ⟨b,off+k * 3,none⟩))∧(fL 5=true→v43=.agg #[.int .i64 td,.int .i64 tt])∧(fL 6=true→v44=.tuple #[.agg #[.int .i64 dd,.int .i64 dt],.int .i64 dc])∧(fL 7=true→v37=.tuple #[.agg #[.int .i64 dd,.int .i64 dt],.int .i64 dc])∧(fL 8=true→v45=.agg #[.int .i64 dd,.int .i64 dt])∧(fL 9=true→v46=.int .i64 dc)∧(fL 11=true→v7=.int .i64 dc)) (by kernel_rfl) (by decide +kernel) ?_ ?_ ?_
     ·exact ⟨_,_,_,_,_,_,_,_,_,_,_,put_more (put_more (put_more (put_more (put_more (put_more (put_more (put_more (put_more (put_more (put_more (rfl) 38) 39) 40) 41) 42) 43) 44) 37) 45) 46) 7,⟨hA0.hb.drew,hA0.blk,nofun⟩,nofun,nofun,nofun,nofun,nofun,nofun,nofun,nofun,nofun,nofun,nofun⟩
     ·rintro fL bA v ⟨v38,v39,v40,v41,v42,v43,v44,v37,v45,v46,v7,rfl,hS,q0,q1,q2,q3,q4,q5,q6,q7,q8,q9,q11⟩ i hi hf o ho hall
      simp only [Act.put,List.setIfInBounds_toArray,List.set_cons_zero,List.set_cons_succ]
      simp only [List.length_cons,List.length_nil] at hi
      have hn:i=0 ∨ i=1 ∨ i=2 ∨ i=3 ∨ i=4 ∨ i=5 ∨ i=6 ∨ i=7 ∨ i=8 ∨ i=9 ∨ i=10 ∨ i=11:=by omega
      clear hi
      rcases hn with rfl | rfl | rfl | rfl | rfl | rfl | rfl | rfl | rfl | rfl | rfl | rfl
      ·obtain rfl:=Option.some.inj ho
       have E:=Fr.below hS.hb Fr.lt
       have y0:v.cell? ⟨g,0,none⟩=some (.int .i64 fd):=E.cell 0
       have y1:v.cell? ⟨g,1,none⟩=some (.int .i64 ft):=E.cell 1
       clear hall ho
       refine wpOp_step rfl (fun K hK=>?_)
       go_simp
       exact hK _ _ ⟨_,_,_,_,_,_,_,_,_,_,_,rfl,hS,fun _=>rfl,q1,q2,q3,q4,q5,q6,q7,q8,q9,q11⟩
      ·obtain rfl:=Option.some.inj ho
       clear hall ho
       refine wpOp_step rfl (fun K hK=>?_)
       go_simp
       exact hK _ _ ⟨_,_,_,_,_,_,_,_,_,_,_,rfl,hS,q0,fun _=>rfl,q2,q3,q4,q5,q6,q7,q8,q9,q11⟩
      ·obtain rfl:=Option.some.inj ho
       clear hall ho
       refine wpOp_step rfl (fun K hK=>?_)
       go_simp
       exact hK _ _ ⟨_,_,_,_,_,_,_,_,_,_,_,rfl,hS,q0,q1,fun _=>rfl,q3,q4,q5,q6,q7,q8,q9,q11⟩
      ·obtain rfl:=Option.some.inj ho
       obtain rfl:=q1 (hall ⟨1,.data⟩ (by simp) rfl)
       obtain rfl:=q2 (hall ⟨2,.data⟩ (by simp) rfl)
       clear hall ho
       refine wpOp_step rfl (fun K hK=>?_)
       go_simp
       exact hK _ _ ⟨_,_,_,_,_,_,_,_,_,_,_,rfl,hS,q0,fun _=>rfl,fun _=>rfl,fun _=>rfl,q4,q5,q6,q7,q8,q9,q11⟩
      ·obtain rfl:=Option.some.inj ho
       obtain rfl:=q3 (hall ⟨3,.data⟩ (by simp) rfl)
       clear hall ho
       refine wpOp_step rfl (fun K hK=>?_)
       go_simp
       exact hK _ _ ⟨_,_,_,_,_,_,_,_,_,_,_,rfl,hS,q0,q1,q2,fun _=>rfl,fun _=>rfl,q5,q6,q7,q8,q9,q11⟩
      ·obtain rfl:=Option.some.inj ho
       obtain rfl:=q4 (hall ⟨4,.data⟩ (by simp) rfl)
       have y0:v.cell? ⟨b,off+k * 3,none⟩=some (.int .i64 td):=HCE.out v hS.hb 0 _ rfl
       have y1:v.cell? ⟨b,off+k * 3+1,none⟩=some (.int .i64 tt):=HCE.out v hS.hb 1 _ rfl
       clear hall ho
       refine wpOp_step rfl (fun K hK=>?_)
       go_simp
       exact hK _ _ ⟨_,_,_,_,_,_,_,_,_,_,_,rfl,hS,q0,q1,q2,q3,fun _=>rfl,fun _=>rfl,q6,q7,q8,q9,q11⟩
      ·obtain rfl:=Option.some.inj ho
       obtain rfl:=q0 (hall ⟨0,.data⟩ (by simp) rfl)
       obtain rfl:=q5 (hall ⟨5,.data⟩ (by simp) rfl)
       clear hall ho
       refine wpOp_step rfl (fun K hK=>?_)
       go_simp
       refine Calls.mono ((HV v).out) ?_;rintro e w1 ⟨rfl,hb1⟩
       go_simp
       exact hK _ _ ⟨_,_,_,_,_,_,_,_,_,_,_,rfl,hS.below hb1,fun _=>rfl,q1,q2,q3,q4,fun _=>rfl,fun _=>rfl,q7,q8,q9,q11⟩
      ·obtain rfl:=Option.some.inj ho
       obtain rfl:=q6 (hall ⟨6,.data⟩ (by simp) rfl)
       clear hall ho
       refine wpOp_step rfl (fun K hK=>?_)
       go_simp
       exact hK _ _ ⟨_,_,_,_,_,_,_,_,_,_,_,rfl,hS,q0,q1,q2,q3,q4,q5,fun _=>rfl,fun _=>rfl,q8,q9,q11⟩
      ·obtain rfl:=Option.some.inj ho
       obtain rfl:=q7 (hall ⟨7,.data⟩ (by simp) rfl)
       clear hall ho
       refine wpOp_step rfl (fun K hK=>?_)
       go_simp
       exact hK _ _ ⟨_,_,_,_,_,_,_,_,_,_,_,rfl,hS,q0,q1,q2,q3,q4,q5,q6,fun _=>rfl,fun _=>rfl,q9,q11⟩
      ·obtain rfl:=Option.some.inj ho
       obtain rfl:=q7 (hall ⟨7,.data⟩ (by simp) rfl)
       clear hall ho
       refine wpOp_step rfl (fun K hK=>?_)
       go_simp
       exact hK _ _ ⟨_,_,_,_,_,_,_,_,_,_,_,rfl,hS,q0,q1,q2,q3,q4,q5,q6,fun _=>rfl,q8,fun _=>rfl,q11⟩
      ·obtain rfl:=Option.some.inj ho
       obtain rfl:=q8 (hall ⟨8,.data⟩ (by simp) rfl)
       obtain ⟨gb,x0,x1,he,Bb,hgb,_⟩:=hS.blk rfl
       simp only [Value.pointer.injEq,Option.some.injEq,Addr.mk.injEq,and_true] at he
       subst he
       have y0:v.cell? ⟨gn,0,none⟩=some x0:=Bb.cell 0
       have y1:v.cell? ⟨gn,1,none⟩=some x1:=Bb.cell 1
       have yf0:=Bb.frozen 0
       have yf1:=Bb.frozen 1
       clear hall ho
       refine wpOp_step rfl (fun K hK=>?_)
       go_simp
       exact hK _ _ ⟨_,_,_,_,_,_,_,_,_,_,_,rfl,hS.set rfl Bb hgb,q0,q1,q2,q3,q4,q5,q6,q7,fun _=>rfl,q9,q11⟩
      ·obtain rfl:=Option.some.inj ho
       obtain rfl:=q9 (hall ⟨9,.data⟩ (by simp) rfl)
       clear hall ho
       refine wpOp_step rfl (fun K hK=>?_)
       go_simp
       exact hK _ _ ⟨_,_,_,_,_,_,_,_,_,_,_,rfl,hS,q0,q1,q2,q3,q4,q5,q6,q7,q8,fun _=>rfl,fun _=>rfl⟩
     ·rintro fL bA v ⟨v38,v39,v40,v41,v42,v43,v44,v37,v45,v46,v7,rfl,hS,q0,q1,q2,q3,q4,q5,q6,q7,q8,q9,q11⟩ hall
      simp only [Act.put,List.setIfInBounds_toArray,List.set_cons_zero,List.set_cons_succ]
      simp only [List.length_cons,List.length_nil] at hall
      obtain rfl:=q0 (hall 0 (by omega))
      obtain rfl:=q1 (hall 1 (by omega))
      obtain rfl:=q2 (hall 2 (by omega))
      obtain rfl:=q3 (hall 3 (by omega))
      obtain rfl:=q4 (hall 4 (by omega))
      obtain rfl:=q5 (hall 5 (by omega))
      obtain rfl:=q6 (hall 6 (by omega))
      obtain rfl:=q7 (hall 7 (by omega))
      obtain rfl:=q8 (hall 8 (by omega))
      obtain rfl:=q9 (hall 9 (by omega))
      obtain rfl:=q11 (hall 11 (by omega))
      have e10:fL 10=true:=hall 10 (by omega)
      clear hall
      obtain ⟨gb,x0,x1,he,Nn,_,hxy⟩:=hS.blk rfl
      simp only [Value.pointer.injEq,Option.some.injEq,Addr.mk.injEq,and_true] at he
      subst he
      obtain ⟨rfl,rfl⟩:=hxy e10
      have hB3:=hb.trans (hS.hb.mono hb.size)
      have F3:=Fr.below hS.hb Fr.lt
      have R3:=Rr.below hS.hb Rr.lt
      clear HV hS hxy hA0
      have z0:v.cell? ⟨g,0,none⟩=some (.int .i64 fd):=F3.cell 0
      have z1:v.cell? ⟨g,1,none⟩=some (.int .i64 ft):=F3.cell 1
      have zf0:=F3.frozen 0
      have zf1:=F3.frozen 1
      have n0:v.cell? ⟨gn,0,none⟩=some (.int .i64 dd):=Nn.cell 0
      have n1:v.cell? ⟨gn,1,none⟩=some (.int .i64 dt):=Nn.cell 1
      have r0:v.cell? ⟨w.heap.size,0,none⟩=some (.int .i64 0):=R3.cell 0
      have r1:v.cell? ⟨w.heap.size,1,none⟩=some (.int .i64 0):=R3.cell 1
      have rf0:=R3.frozen 0
      have rf1:=R3.frozen 1
      have zg:=F3.lt
      have hB7:Below w.heap.size w ((v.setCell ⟨g,0,none⟩ (.int .i64 dd)).setCell ⟨g,1,none⟩ (.int .i64 dt)):=(by repeat first | with_reducible (first | exact hB3 | apply below_drewN' | apply Below.drew | refine Below.alloc ?_ ?_ _ | refine Below.setCell ?_ ?_ _) | exact hB3 | omega | (simp <;> omega) | (have:=(hB3).size;first | omega | (simp <;> omega)))
      by_cases h0:dc=0
      ·have Hnx:=Hnx.out
       rw [if_pos h0] at Hnx
       have hn:Hid (R=chFig ⟨dd,dt⟩ (l.drop (k+1))):=hch.out.trans Hnx
       have hk2:=Hok.out h0
       have h0':(dc != 0)=false:=by simp [h0]
       clear Hok h0 Hnx
       go_wp2
       go_roundw
       case rel=>exact ⟨k+1,⟨dd,dt⟩,⟨by omega,by omega⟩,by go_num,hk2,hB7,(R3.far (by simp only;omega) _).far (by simp only;omega) _,(F3.two0).two1,hn⟩
       case measure=>simp [intOf];omega
      ·have Hnx:=Hnx.out
       rw [if_neg h0] at Hnx
       have hn:Hid (R=(⟨0,0⟩,dc)):=hch.out.trans Hnx
       have h0':(dc != 0)=true:=by simp [h0]
       clear Hok h0 Hnx
       go_wp2
       refine bodyPost_ret (v:=.tuple #[.agg #[.int .i64 0,.int .i64 0],.int .i64 dc]) (by simp [results,Tryz.results92,go_sem,r0,r1]) rfl ⟨by rw [hn.out];rfl,(by repeat first | with_reducible (first | exact hB3 | apply below_drewN' | apply Below.drew | refine Below.alloc ?_ ?_ _ | refine Below.setCell ?_ ?_ _) | exact hB3 | omega | (simp <;> omega) | (have:=(hB3).size;first | omega | (simp <;> omega)))⟩
  ·have:k=l.length:=by omega
   subst this
   have z0:wr.cell? ⟨g,0,none⟩=some (.int .i64 fd):=Fr.cell 0
   have z1:wr.cell? ⟨g,1,none⟩=some (.int .i64 ft):=Fr.cell 1
   have r0:wr.cell? ⟨w.heap.size,0,none⟩=some (.int .i64 0):=Rr.cell 0
   have r1:wr.cell? ⟨w.heap.size,1,none⟩=some (.int .i64 0):=Rr.cell 1
   have rf0:=Rr.frozen 0
   have rf1:=Rr.frozen 1
   have hn:Hid (R=(⟨fd,ft⟩,0)):=hch.out.trans chFig_end
   have _rz:=Rr.lt
   go_wp2
   refine bodyPost_ret (v:=.tuple #[.agg #[.int .i64 fd,.int .i64 ft],.int .i64 0]) (by simp [results,Tryz.results92,go_sem,r0,r1]) rfl ⟨by rw [hn.out];rfl,(by repeat first | with_reducible (first | exact hb | apply below_drewN' | apply Below.drew | refine Below.alloc ?_ ?_ _ | refine Below.setCell ?_ ?_ _) | exact hb | omega | (simp <;> omega) | (have:=(hb).size;first | omega | (simp <;> omega)))⟩
end Go.Proofs.YtednjmldjbndhaaGreat
