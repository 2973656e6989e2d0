/- The reference's draws of charts. -/
import Derived.Test.YtednjmldjbndhaaGreatDoorKMr33
set_option linter.unusedSimpArgs false
set_option linter.unusedVariables false
set_option maxRecDepth 100000
set_option maxHeartbeats 8000000
namespace Go.Proofs.YtednjmldjbndhaaGreatDoor
open Go.RowKit
def DCh (A:Option Addr) (n c g:Nat) (w:World) (e:Ending) (w':World):Prop:=∃ (fd ft:Int) (nm:ByteArray) (l:List Int) (B:Option Addr) (d:Nat) (wd lf rt:Int),e=.returned (.agg #[.int .i64 fd,.int .i64 ft,.string nm,.slice B l.length d,.int .i64 wd,.int .i64 lf,.int .i64 rt])∧(nm.size ≤ 7∧l.length ≤ 6∧l.length ≤ d)∧(99 ≤ lf∧lf ≤ 20001∧99 ≤ rt∧rt ≤ 20001)∧PwN w' (w.heap.size+1) B l∧Src w' A n c g∧w.grownBy w' (some g)
theorem l23Draw_c (A:Option Addr) (n c g:Nat) (w:World) (hS:Src w A n c g):Calls Tryz.prog 83 #[.pointer (some ⟨g,0,none⟩)] w (DCh A n c g w):=by
 have hlt:=hS.lt
 have D:=(Ds.init hS).alloc (.cells #[.int .i64 0,.int .i64 0,.string ⟨#[]⟩,.slice none 0 0,.int .i64 0,.int .i64 0,.int .i64 0] 31)
 have Br:=Blk.new w 31 #[.int .i64 0,.int .i64 0,.string ⟨#[]⟩,.slice none 0 0,.int .i64 0,.int .i64 0,.int .i64 0]
 have hz9:(w.alloc (.cells #[.int .i64 0,.int .i64 0,.string ⟨#[]⟩,.slice none 0 0,.int .i64 0,.int .i64 0,.int .i64 0] 31)).heap.size=w.heap.size+1:=by simp
 clear hS
 unfold DCh
 go_enter Tryz.func83,Tryz.ntmps83
 go_wp2_with fail
 generalize w.alloc (.cells #[.int .i64 0,.int .i64 0,.string ⟨#[]⟩,.slice none 0 0,.int .i64 0,.int .i64 0,.int .i64 0] 31)=w0 at *
 refine (l23Valid_c A n c g _ D.s).mono ?_;rintro e w1 ⟨fd,ft,p,q,wd,lf,rt,b,rfl,hb,Bp,hp,hq,hlf,hrt,hS,hg⟩
 have hsz:=hg.size
 have P:PwN w1 (w.heap.size+1) (some ⟨b,0,none⟩) [p,q]:=⟨(sl_blkIntsF Bp [p,q] rfl).more Bp.lt,fun b' off e=>by cases e;omega,fun b' off e=>by cases e;exact Bp.lt⟩
 have hPb:=P.ub
 replace D:=(D.to hS hg).alloc (.cells #[.int .i64 fd,.int .i64 ft,.string ⟨#[117,118]⟩,.slice (some ⟨b,0,none⟩) 2 2,.int .i64 wd,.int .i64 lf,.int .i64 rt] 31)
 replace Br:=(Br.src hg (by omega)).alloc (.cells #[.int .i64 fd,.int .i64 ft,.string ⟨#[117,118]⟩,.slice (some ⟨b,0,none⟩) 2 2,.int .i64 wd,.int .i64 lf,.int .i64 rt] 31)
 have Bf:=Blk.new w1 31 #[.int .i64 fd,.int .i64 ft,.string ⟨#[117,118]⟩,.slice (some ⟨b,0,none⟩) 2 2,.int .i64 wd,.int .i64 lf,.int .i64 rt]
 replace P:=P.alloc (.cells #[.int .i64 fd,.int .i64 ft,.string ⟨#[117,118]⟩,.slice (some ⟨b,0,none⟩) 2 2,.int .i64 wd,.int .i64 lf,.int .i64 rt] 31)
 have hgw:g < w1.heap.size:=hS.lt
 clear hS hg Bp hp hq
 go_wp2_with fail
 generalize w1.alloc (.cells #[.int .i64 fd,.int .i64 ft,.string ⟨#[117,118]⟩,.slice (some ⟨b,0,none⟩) 2 2,.int .i64 wd,.int .i64 lf,.int .i64 rt] 31)=w2 at *
 have hnew:w.heap.size < w1.heap.size:=by omega
 generalize w1.heap.size=bf at *
 refine (l01Next_c A n c g _ _ D.s).mono ?_;rintro e w3 ⟨x,rfl,⟨xa,xb⟩,xd,hS,hg⟩
 replace D:=D.to hS hg
 replace Br:=Br.src hg (by omega)
 replace Bf:=Bf.src hg (by omega)
 replace P:=P.src hg (by omega)
 clear hS hg
 have hne:w.heap.size ≠ bf:=by omega
 have hz:∀ {v':World} {j:Nat} {u:Value},Ds A n c g w v'→Ds A n c g w (v'.setCell ⟨w.heap.size,j,none⟩ u):=fun h=>h.set hlt (Nat.le_refl _)
 have hzf:∀ {v':World} {j:Nat} {u:Value},Ds A n c g w v'→Ds A n c g w (v'.setCell ⟨bf,j,none⟩ u):=fun h=>h.set hgw (by omega)
 have hw1:w.heap.size < w.heap.size+1:=by omega
 have hf3:bf < w3.heap.size:=Bf.lt
 have hw3:w.heap.size < w3.heap.size:=Br.lt
 by_cases h0:x=0
 ·subst h0
  go_wp2_with fail
  refine (l18Draw_c A n c g _ D.s).mono ?_;rintro e w4 ⟨fd',ft',nm,l,B,d,rfl,⟨hnm,hl,hcap⟩,P4,hS,hg⟩
  replace D:=D.to hS hg
  replace Br:=Br.src hg (by omega)
  replace Bf:=Bf.src hg (by omega)
  clear hS hg P
  have hv1:w.heap.size < w3.heap.size+1:=by omega
  have hv2:bf < w3.heap.size+1:=by omega
  have y0:w4.cell? ⟨w.heap.size,0,none⟩=some (.int .i64 0):=Br.cell 0
  have y1:w4.cell? ⟨w.heap.size,1,none⟩=some (.int .i64 0):=Br.cell 1
  have y2:w4.cell? ⟨w.heap.size,2,none⟩=some (.string ⟨#[]⟩):=Br.cell 2
  have y3:w4.cell? ⟨w.heap.size,3,none⟩=some (.slice none 0 0):=Br.cell 3
  have y4:w4.cell? ⟨w.heap.size,4,none⟩=some (.int .i64 0):=Br.cell 4
  have y5:w4.cell? ⟨w.heap.size,5,none⟩=some (.int .i64 0):=Br.cell 5
  have y6:w4.cell? ⟨w.heap.size,6,none⟩=some (.int .i64 0):=Br.cell 6
  have f0:=Br.frozen 0
  have f1:=Br.frozen 1
  have f2:=Br.frozen 2
  have f3:=Br.frozen 3
  have f4:=Br.frozen 4
  have f5:=Br.frozen 5
  have f6:=Br.frozen 6
  have z0:w4.cell? ⟨bf,0,none⟩=some (.int .i64 fd):=Bf.cell 0
  have z1:w4.cell? ⟨bf,1,none⟩=some (.int .i64 ft):=Bf.cell 1
  have z2:w4.cell? ⟨bf,2,none⟩=some (.string ⟨#[117,118]⟩):=Bf.cell 2
  have z3:w4.cell? ⟨bf,3,none⟩=some (.slice (some ⟨b,0,none⟩) 2 2):=Bf.cell 3
  have z4:w4.cell? ⟨bf,4,none⟩=some (.int .i64 wd):=Bf.cell 4
  have z5:w4.cell? ⟨bf,5,none⟩=some (.int .i64 lf):=Bf.cell 5
  have z6:w4.cell? ⟨bf,6,none⟩=some (.int .i64 rt):=Bf.cell 6
  have g0:=Bf.frozen 0
  have g1:=Bf.frozen 1
  have g2:=Bf.frozen 2
  have g3:=Bf.frozen 3
  have g4:=Bf.frozen 4
  have g5:=Bf.frozen 5
  have g6:=Bf.frozen 6
  go_wp2
  refine bodyPost_ret (v:=.agg #[.int .i64 fd',.int .i64 ft',.string nm,.slice B l.length d,.int .i64 wd,.int .i64 lf,.int .i64 rt]) (by simp [results,Tryz.results83,go_sem,y0,y1,y2,y3,y4,y5,y6]) rfl ?_
  have D9:=(hz (j:=6) (u:=.int .i64 rt) (hz (j:=5) (u:=.int .i64 lf) (hz (j:=4) (u:=.int .i64 wd) (hz (j:=3) (u:=.slice B l.length d) (hz (j:=2) (u:=.string nm) (hz (j:=1) (u:=.int .i64 ft') (hz (j:=0) (u:=.int .i64 fd') (hzf (j:=3) (u:=.slice B l.length d) (hzf (j:=2) (u:=.string nm) (hzf (j:=1) (u:=.int .i64 ft') (hzf (j:=0) (u:=.int .i64 fd') D)))))))))))
  exact ⟨fd',ft',nm,l,B,d,wd,lf,rt,rfl,⟨by first | decide | omega,by first | omega | simp,by first | omega | simp⟩,⟨by omega,by omega,by omega,by omega⟩,(((((((((((P4.set hv2 _).set hv2 _).set hv2 _).set hv2 _).set hv1 _).set hv1 _).set hv1 _).set hv1 _).set hv1 _).set hv1 _).set hv1 _).weak (by omega),D9.s,D9.g⟩
 by_cases h1:x=1
 ·subst h1
  go_wp2_with (go_at_call 64;refine (pickB_n (999) 100001 A n c g _ _ _ _ D.s (by simp) (by rfl) (by decide) (by decide)).mono ?_;rintro e w4 ⟨r,rfl,hr,hS,hg⟩;refine Hid.out ?_)
  refine Lib.hid ?_
  replace D:=D.to hS hg
  replace Br:=Br.src hg (by omega)
  replace Bf:=Bf.src hg (by omega)
  replace P:=P.src hg (by omega)
  clear hS hg
  have y0:w4.cell? ⟨w.heap.size,0,none⟩=some (.int .i64 0):=Br.cell 0
  have y1:w4.cell? ⟨w.heap.size,1,none⟩=some (.int .i64 0):=Br.cell 1
  have y2:w4.cell? ⟨w.heap.size,2,none⟩=some (.string ⟨#[]⟩):=Br.cell 2
  have y3:w4.cell? ⟨w.heap.size,3,none⟩=some (.slice none 0 0):=Br.cell 3
  have y4:w4.cell? ⟨w.heap.size,4,none⟩=some (.int .i64 0):=Br.cell 4
  have y5:w4.cell? ⟨w.heap.size,5,none⟩=some (.int .i64 0):=Br.cell 5
  have y6:w4.cell? ⟨w.heap.size,6,none⟩=some (.int .i64 0):=Br.cell 6
  have f0:=Br.frozen 0
  have f1:=Br.frozen 1
  have f2:=Br.frozen 2
  have f3:=Br.frozen 3
  have f4:=Br.frozen 4
  have f5:=Br.frozen 5
  have f6:=Br.frozen 6
  have z0:w4.cell? ⟨bf,0,none⟩=some (.int .i64 fd):=Bf.cell 0
  have z1:w4.cell? ⟨bf,1,none⟩=some (.int .i64 ft):=Bf.cell 1
  have z2:w4.cell? ⟨bf,2,none⟩=some (.string ⟨#[117,118]⟩):=Bf.cell 2
  have z3:w4.cell? ⟨bf,3,none⟩=some (.slice (some ⟨b,0,none⟩) 2 2):=Bf.cell 3
  have z4:w4.cell? ⟨bf,4,none⟩=some (.int .i64 wd):=Bf.cell 4
  have z5:w4.cell? ⟨bf,5,none⟩=some (.int .i64 lf):=Bf.cell 5
  have z6:w4.cell? ⟨bf,6,none⟩=some (.int .i64 rt):=Bf.cell 6
  have g0:=Bf.frozen 0
  have g1:=Bf.frozen 1
  have g2:=Bf.frozen 2
  have g3:=Bf.frozen 3
  have g4:=Bf.frozen 4
  have g5:=Bf.frozen 5
  have g6:=Bf.frozen 6
  go_wp2
  refine bodyPost_ret (v:=.agg #[.int .i64 fd,.int .i64 ft,.string ⟨#[117,118]⟩,.slice (some ⟨b,0,none⟩) 2 2,.int .i64 r,.int .i64 lf,.int .i64 rt]) (by simp [results,Tryz.results83,go_sem,y0,y1,y2,y3,y4,y5,y6]) rfl ?_
  have D9:=(hz (j:=6) (u:=.int .i64 rt) (hz (j:=5) (u:=.int .i64 lf) (hz (j:=4) (u:=.int .i64 r) (hz (j:=3) (u:=.slice (some ⟨b,0,none⟩) 2 2) (hz (j:=2) (u:=.string ⟨#[117,118]⟩) (hz (j:=1) (u:=.int .i64 ft) (hz (j:=0) (u:=.int .i64 fd) (hzf (j:=4) (u:=.int .i64 r) D))))))))
  exact ⟨fd,ft,⟨#[117,118]⟩,[p,q],some ⟨b,0,none⟩,2,r,lf,rt,rfl,⟨by first | decide | omega,by first | omega | simp,by first | omega | simp⟩,⟨by omega,by omega,by omega,by omega⟩,((((((((P.setF hPb _).set hw1 _).set hw1 _).set hw1 _).set hw1 _).set hw1 _).set hw1 _).set hw1 _).weak (by omega),D9.s,D9.g⟩
 by_cases h2:x=2
 ·subst h2
  go_wp2_with (go_at_call 64;refine (pickB_n (99) 20001 A n c g _ _ _ _ D.s (by simp) (by rfl) (by decide) (by decide)).mono ?_;rintro e w4 ⟨r,rfl,hr,hS,hg⟩;refine Hid.out ?_)
  refine Lib.hid ?_
  replace D:=D.to hS hg
  replace Br:=Br.src hg (by omega)
  replace Bf:=Bf.src hg (by omega)
  replace P:=P.src hg (by omega)
  clear hS hg
  have y0:w4.cell? ⟨w.heap.size,0,none⟩=some (.int .i64 0):=Br.cell 0
  have y1:w4.cell? ⟨w.heap.size,1,none⟩=some (.int .i64 0):=Br.cell 1
  have y2:w4.cell? ⟨w.heap.size,2,none⟩=some (.string ⟨#[]⟩):=Br.cell 2
  have y3:w4.cell? ⟨w.heap.size,3,none⟩=some (.slice none 0 0):=Br.cell 3
  have y4:w4.cell? ⟨w.heap.size,4,none⟩=some (.int .i64 0):=Br.cell 4
  have y5:w4.cell? ⟨w.heap.size,5,none⟩=some (.int .i64 0):=Br.cell 5
  have y6:w4.cell? ⟨w.heap.size,6,none⟩=some (.int .i64 0):=Br.cell 6
  have f0:=Br.frozen 0
  have f1:=Br.frozen 1
  have f2:=Br.frozen 2
  have f3:=Br.frozen 3
  have f4:=Br.frozen 4
  have f5:=Br.frozen 5
  have f6:=Br.frozen 6
  have z0:w4.cell? ⟨bf,0,none⟩=some (.int .i64 fd):=Bf.cell 0
  have z1:w4.cell? ⟨bf,1,none⟩=some (.int .i64 ft):=Bf.cell 1
  have z2:w4.cell? ⟨bf,2,none⟩=some (.string ⟨#[117,118]⟩):=Bf.cell 2
  have z3:w4.cell? ⟨bf,3,none⟩=some (.slice (some ⟨b,0,none⟩) 2 2):=Bf.cell 3
  have z4:w4.cell? ⟨bf,4,none⟩=some (.int .i64 wd):=Bf.cell 4
  have z5:w4.cell? ⟨bf,5,none⟩=some (.int .i64 lf):=Bf.cell 5
  have z6:w4.cell? ⟨bf,6,none⟩=some (.int .i64 rt):=Bf.cell 6
  have g0:=Bf.frozen 0
  have g1:=Bf.frozen 1
  have g2:=Bf.frozen 2
  have g3:=Bf.frozen 3
  have g4:=Bf.frozen 4
  have g5:=Bf.frozen 5
  have g6:=Bf.frozen 6
  go_wp2
  refine bodyPost_ret (v:=.agg #[.int .i64 fd,.int .i64 ft,.string ⟨#[117,118]⟩,.slice (some ⟨b,0,none⟩) 2 2,.int .i64 wd,.int .i64 r,.int .i64 rt]) (by simp [results,Tryz.results83,go_sem,y0,y1,y2,y3,y4,y5,y6]) rfl ?_
  have D9:=(hz (j:=6) (u:=.int .i64 rt) (hz (j:=5) (u:=.int .i64 r) (hz (j:=4) (u:=.int .i64 wd) (hz (j:=3) (u:=.slice (some ⟨b,0,none⟩) 2 2) (hz (j:=2) (u:=.string ⟨#[117,118]⟩) (hz (j:=1) (u:=.int .i64 ft) (hz (j:=0) (u:=.int .i64 fd) (hzf (j:=5) (u:=.int .i64 r) D))))))))
  exact ⟨fd,ft,⟨#[117,118]⟩,[p,q],some ⟨b,0,none⟩,2,wd,r,rt,rfl,⟨by first | decide | omega,by first | omega | simp,by first | omega | simp⟩,⟨by omega,by omega,by omega,by omega⟩,((((((((P.setF hPb _).set hw1 _).set hw1 _).set hw1 _).set hw1 _).set hw1 _).set hw1 _).set hw1 _).weak (by omega),D9.s,D9.g⟩
 have y0:w3.cell? ⟨w.heap.size,0,none⟩=some (.int .i64 0):=Br.cell 0
 have y1:w3.cell? ⟨w.heap.size,1,none⟩=some (.int .i64 0):=Br.cell 1
 have y2:w3.cell? ⟨w.heap.size,2,none⟩=some (.string ⟨#[]⟩):=Br.cell 2
 have y3:w3.cell? ⟨w.heap.size,3,none⟩=some (.slice none 0 0):=Br.cell 3
 have y4:w3.cell? ⟨w.heap.size,4,none⟩=some (.int .i64 0):=Br.cell 4
 have y5:w3.cell? ⟨w.heap.size,5,none⟩=some (.int .i64 0):=Br.cell 5
 have y6:w3.cell? ⟨w.heap.size,6,none⟩=some (.int .i64 0):=Br.cell 6
 have f0:=Br.frozen 0
 have f1:=Br.frozen 1
 have f2:=Br.frozen 2
 have f3:=Br.frozen 3
 have f4:=Br.frozen 4
 have f5:=Br.frozen 5
 have f6:=Br.frozen 6
 have z0:w3.cell? ⟨bf,0,none⟩=some (.int .i64 fd):=Bf.cell 0
 have z1:w3.cell? ⟨bf,1,none⟩=some (.int .i64 ft):=Bf.cell 1
 have z2:w3.cell? ⟨bf,2,none⟩=some (.string ⟨#[117,118]⟩):=Bf.cell 2
 have z3:w3.cell? ⟨bf,3,none⟩=some (.slice (some ⟨b,0,none⟩) 2 2):=Bf.cell 3
 have z4:w3.cell? ⟨bf,4,none⟩=some (.int .i64 wd):=Bf.cell 4
 have z5:w3.cell? ⟨bf,5,none⟩=some (.int .i64 lf):=Bf.cell 5
 have z6:w3.cell? ⟨bf,6,none⟩=some (.int .i64 rt):=Bf.cell 6
 have g0:=Bf.frozen 0
 have g1:=Bf.frozen 1
 have g2:=Bf.frozen 2
 have g3:=Bf.frozen 3
 have g4:=Bf.frozen 4
 have g5:=Bf.frozen 5
 have g6:=Bf.frozen 6
 have e0:(x == 0)=false:=by simpa using h0
 have e1:(x == 1)=false:=by simpa using h1
 have e2:(x == 2)=false:=by simpa using h2
 go_wp2
 refine bodyPost_ret (v:=.agg #[.int .i64 fd,.int .i64 ft,.string ⟨#[117,118]⟩,.slice (some ⟨b,0,none⟩) 2 2,.int .i64 wd,.int .i64 lf,.int .i64 rt]) (by simp [results,Tryz.results83,go_sem,y0,y1,y2,y3,y4,y5,y6]) rfl ?_
 have D9:=(hz (j:=6) (u:=.int .i64 rt) (hz (j:=5) (u:=.int .i64 lf) (hz (j:=4) (u:=.int .i64 wd) (hz (j:=3) (u:=.slice (some ⟨b,0,none⟩) 2 2) (hz (j:=2) (u:=.string ⟨#[117,118]⟩) (hz (j:=1) (u:=.int .i64 ft) (hz (j:=0) (u:=.int .i64 fd) D)))))))
 exact ⟨fd,ft,⟨#[117,118]⟩,[p,q],some ⟨b,0,none⟩,2,wd,lf,rt,rfl,⟨by first | decide | omega,by first | omega | simp,by first | omega | simp⟩,⟨by omega,by omega,by omega,by omega⟩,(((((((P.set hw1 _).set hw1 _).set hw1 _).set hw1 _).set hw1 _).set hw1 _).set hw1 _).weak (by omega),D9.s,D9.g⟩
end Go.Proofs.YtednjmldjbndhaaGreatDoor
