/- The reference's draws of releases. Printed by gen10/drawl.py. -/
import Derived.Deep.DeepCutAuto
import Derived.Deep.CutBlock
import Derived.Test.YtednjmldjbndhaaGreatDoorKMr29
import Derived.Test.YtednjmldjbndhaaGreatDoorKMr34
import Derived.Test.YtednjmldjbndhaaGreatDoorKMr35
import Derived.Test.YtednjmldjbndhaaGreatDoorKMr4
set_option linter.unusedSimpArgs false
set_option linter.unusedVariables false
set_option maxRecDepth 100000
set_option maxHeartbeats 8000000
namespace Go.Proofs.YtednjmldjbndhaaGreatDoor
open Go.RowKit
theorem l06DrawEye_c (A:Option Addr) (n c g:Nat) (w:World) (hS:Src w A n c g):Calls Tryz.prog 85 #[.pointer (some ⟨g,0,none⟩)] w (DIB (-1) 201 A n c g w):=by
 unfold DIB
 go_enter Tryz.func85,Tryz.ntmps85
 go_wp2_with fail
 refine (l01Next_c A n c g _ _ hS).mono ?_;rintro e w1 ⟨x,rfl,⟨xa,xb⟩,xd,hS1,hg1⟩
 go_wp2_with (go_at_call 64;refine (pickB_n (-1) 201 A n c g _ _ _ _ hS1 (by simp;omega) (by rfl) (by decide) (by decide)).mono ?_;rintro e w2 ⟨p,rfl,hp,hS2,hg2⟩)
 go_ret
 exact ⟨p,rfl,hp,hS2,hg1.trans hg2⟩
structure LS (A:Option Addr) (n c g:Nat) (w:World) (b bf:Nat) (p q:Int) (R:Array Value) (v:World):Prop where
 d:Ds A n c g w v
 r:Blk v w.heap.size 33 #[.int .i64 0,.int .i64 0,.string ⟨#[]⟩,.slice none 0 0,.int .i64 0,.int .i64 0,.int .i64 0,.int .i64 0,.int .i64 0,.int .i64 0,.int .i64 0,.int .i64 0,.int .i64 0,.int .i64 0,.int .i64 0,.int .i64 0,.int .i64 0]
 f:Blk v bf 33 R
 p:PwN v (w.heap.size+1) (some ⟨b,0,none⟩) [p,q]
theorem LS.to {A:Option Addr} {n c g b bf:Nat} {p q:Int} {R:Array Value} {w v v':World} (h:LS A n c g w b bf p q R v) (hl:g < w.heap.size) (hf:g < bf) (hS:Src v' A n c g) (hg:v.grownBy v' (some g)):LS A n c g w b bf p q R v':=⟨h.d.to hS hg,h.r.src hg (by omega),h.f.src hg (by omega),h.p.src hg (by omega)⟩
theorem LS.below {A:Option Addr} {n c g b bf:Nat} {p q:Int} {R:Array Value} {w v v':World} (h:LS A n c g w b bf p q R v) (hb:Below v.heap.size v v'):LS A n c g w b bf p q R v':=⟨h.d.below hb,h.r.below hb h.r.lt,h.f.below hb h.f.lt,h.p.below hb⟩
theorem LS.alloc {A:Option Addr} {n c g b bf:Nat} {p q:Int} {R:Array Value} {w v:World} (h:LS A n c g w b bf p q R v) (ob:Obj):LS A n c g w b bf p q R (v.alloc ob):=⟨h.d.alloc _,h.r.alloc _,h.f.alloc _,h.p.alloc _⟩
theorem LS.set {A:Option Addr} {n c g b bf:Nat} {p q:Int} {R:Array Value} {w v:World} (h:LS A n c g w b bf p q R v) (hg:g < bf) (hw:w.heap.size < bf) (hb:b < bf) (j:Nat) (u:Value):LS A n c g w b bf p q (R.setIfInBounds j u) (v.setCell ⟨bf,j,none⟩ u) :=
 ⟨h.d.set hg (by omega),h.r.far (by simp only;omega) _,h.f.set_ j u,h.p.setF (fun b' off e=>by cases e;exact hb) _⟩
theorem figOK_of {a b:Int} (h1:1000 ≤ a∧a ≤ 9999) (h2:-30 ≤ b∧b ≤ 30):figOK ⟨a,b⟩=true:=by simp only [figOK,Bool.and_eq_true,inB_true];exact ⟨h1,h2⟩
theorem safeF_bd {p q lf rt ey:Int} (hp:-6 ≤ p∧p ≤ 6) (hq:-6 ≤ q∧q ≤ 6) (hlf:100 ≤ lf∧lf ≤ 20000) (hrt:100 ≤ rt∧rt ≤ 20000) (hey:0 ≤ ey∧ey ≤ 200):-20000000000000 ≤ safeF p q lf rt ey∧safeF p q lf rt ey ≤ 20000000000000:=by
 have h:=(safe_bd hlf hrt hey).1
 unfold safeF
 generalize (2+ey) * 1048576 * (lf+rt)=X at *
 have h2:=Int.natAbs_ediv_le_natAbs (-X) (lf * rt)
 generalize -X / (lf * rt)=Y at *
 omega
def RlS (A:Option Addr) (n c g:Nat) (w:World) (bf:Nat) (wx:World):Prop:=∃ (r:Rl) (B:Option Addr) (d:Nat),(r.nm.size ≤ 7∧r.l.length ≤ 6∧r.l.length ≤ d)∧PwN wx (w.heap.size+1) B r.l∧Ds A n c g w wx∧Blk wx w.heap.size 33 Rl.zero.toArray∧Blk wx bf 33 (r.cells B d).toArray
def DRl (A:Option Addr) (n c g:Nat) (w:World) (e:Ending) (w':World):Prop:=∃ (r:Rl) (B:Option Addr) (d:Nat),e=.returned (.agg (r.cells B d).toArray)∧(r.nm.size ≤ 7∧r.l.length ≤ 6∧r.l.length ≤ d)∧PwN w' (w.heap.size+1) B r.l∧Src w' A n c g∧w.grownBy w' (some g)
theorem l27Draw_c (A:Option Addr) (n c g:Nat) (w:World) (hS:Src w A n c g):Calls Tryz.prog 55 #[.pointer (some ⟨g,0,none⟩)] w (DRl A n c g w):=by
 have hlt:=hS.lt
 have D:=(Ds.init hS).alloc (.cells #[.int .i64 0,.int .i64 0,.string ⟨#[]⟩,.slice none 0 0,.int .i64 0,.int .i64 0,.int .i64 0,.int .i64 0,.int .i64 0,.int .i64 0,.int .i64 0,.int .i64 0,.int .i64 0,.int .i64 0,.int .i64 0,.int .i64 0,.int .i64 0] 33)
 have Br:=Blk.new w 33 #[.int .i64 0,.int .i64 0,.string ⟨#[]⟩,.slice none 0 0,.int .i64 0,.int .i64 0,.int .i64 0,.int .i64 0,.int .i64 0,.int .i64 0,.int .i64 0,.int .i64 0,.int .i64 0,.int .i64 0,.int .i64 0,.int .i64 0,.int .i64 0]
 have hz9:(w.alloc (.cells #[.int .i64 0,.int .i64 0,.string ⟨#[]⟩,.slice none 0 0,.int .i64 0,.int .i64 0,.int .i64 0,.int .i64 0,.int .i64 0,.int .i64 0,.int .i64 0,.int .i64 0,.int .i64 0,.int .i64 0,.int .i64 0,.int .i64 0,.int .i64 0] 33)).heap.size=w.heap.size+1:=by simp
 clear hS
 unfold DRl
 go_enter Tryz.func55,Tryz.ntmps55
 go_wp2_with fail
 generalize w.alloc (.cells #[.int .i64 0,.int .i64 0,.string ⟨#[]⟩,.slice none 0 0,.int .i64 0,.int .i64 0,.int .i64 0,.int .i64 0,.int .i64 0,.int .i64 0,.int .i64 0,.int .i64 0,.int .i64 0,.int .i64 0,.int .i64 0,.int .i64 0,.int .i64 0] 33)=w0 at *
 refine (l23Valid_c A n c g _ D.s).mono ?_;rintro e w1 ⟨fd,ft,p,q,wd,lf,rt,b,rfl,hb,Bp,hp,hq,hlf,hrt,hS,hg⟩
 have hsz:=hg.size
 have P:PwN w1 (w.heap.size+1) (some ⟨b,0,none⟩) [p,q]:=⟨(sl_blkIntsF Bp [p,q] rfl).more Bp.lt,fun b' off e=>by cases e;omega,fun b' off e=>by cases e;exact Bp.lt⟩
 have hb1:=Bp.lt
 replace D:=D.to hS hg
 replace Br:=Br.src hg (by omega)
 clear hS hg Bp
 go_wp2_with fail
 refine (l02ValidV_c A n c g _ D.s).mono ?_;rintro e v1 ⟨a1,b1,rfl,ha1,hb1',hS,hg⟩
 have hs1:=hg.size
 replace D:=D.to hS hg
 replace Br:=Br.src hg (by omega)
 replace P:=P.src hg (by omega)
 clear hS hg
 go_wp2_with fail
 refine (l02ValidV_c A n c g _ D.s).mono ?_;rintro e v2 ⟨a2,b2,rfl,ha2,hb2',hS,hg⟩
 have hs2:=hg.size
 replace D:=D.to hS hg
 replace Br:=Br.src hg (by omega)
 replace P:=P.src hg (by omega)
 clear hS hg
 go_wp2_with fail
 refine (l02ValidV_c A n c g _ D.s).mono ?_;rintro e v3 ⟨a3,b3,rfl,ha3,hb3',hS,hg⟩
 have hs3:=hg.size
 replace D:=D.to hS hg
 replace Br:=Br.src hg (by omega)
 replace P:=P.src hg (by omega)
 clear hS hg
 go_wp2_with fail
 refine (l02ValidV_c A n c g _ D.s).mono ?_;rintro e v4 ⟨a4,b4,rfl,ha4,hb4',hS,hg⟩
 have hs4:=hg.size
 replace D:=D.to hS hg
 replace Br:=Br.src hg (by omega)
 replace P:=P.src hg (by omega)
 clear hS hg
 go_wp2_with fail
 refine (l01Next_c A n c g _ _ D.s).mono ?_;rintro e v5 ⟨x,rfl,⟨xa,xb⟩,xd,hS,hg⟩
 have hs5:=hg.size
 replace D:=D.to hS hg
 replace Br:=Br.src hg (by omega)
 replace P:=P.src hg (by omega)
 clear hS hg
 have hbf:b < v5.heap.size:=by omega
 have hwf:w.heap.size < v5.heap.size:=Br.lt
 have hgf:g < v5.heap.size:=D.s.lt
 have hx:0 ≤ x∧x < 30:=by omega
 have S:LS A n c g w b v5.heap.size p q #[.int .i64 fd,.int .i64 ft,.string ⟨#[117,118]⟩,.slice (some ⟨b,0,none⟩) 2 2,.int .i64 wd,.int .i64 lf,.int .i64 rt,.int .i64 a1,.int .i64 b1,.int .i64 a2,.int .i64 b2,.int .i64 a3,.int .i64 b3,.int .i64 a4,.int .i64 b4,.int .i64 x,.int .i64 0] (v5.alloc (.cells #[.int .i64 fd,.int .i64 ft,.string ⟨#[117,118]⟩,.slice (some ⟨b,0,none⟩) 2 2,.int .i64 wd,.int .i64 lf,.int .i64 rt,.int .i64 a1,.int .i64 b1,.int .i64 a2,.int .i64 b2,.int .i64 a3,.int .i64 b3,.int .i64 a4,.int .i64 b4,.int .i64 x,.int .i64 0] 33)):=⟨D.alloc _,Br.alloc _,Blk.new _ _ _,P.alloc _⟩
 clear D Br P hs1 hs2 hs3 hs4 hs5 xa xb xd hb1 hsz
 go_wp2_with fail
 generalize v5.alloc (.cells #[.int .i64 fd,.int .i64 ft,.string ⟨#[117,118]⟩,.slice (some ⟨b,0,none⟩) 2 2,.int .i64 wd,.int .i64 lf,.int .i64 rt,.int .i64 a1,.int .i64 b1,.int .i64 a2,.int .i64 b2,.int .i64 a3,.int .i64 b3,.int .i64 a4,.int .i64 b4,.int .i64 x,.int .i64 0] 33)=v6 at *
 generalize v5.heap.size=bf at *
 refine Calls.mono (l02Compare_c ⟨a2,b2⟩ ⟨a1,b1⟩ v6 (figOK_of ha2 hb2') (figOK_of ha1 hb1')) ?_;rintro e v7 ⟨rfl,hb⟩
 replace S:=S.below hb
 clear hb
 generalize cmpF ⟨a2,b2⟩ ⟨a1,b1⟩=cm at *
 go_upto_if 24 with fail
 go_cut [4] (fun V wx=>∃ a1 b1 a2 b2 a3 b3 a4 b4:Int,((1000 ≤ a1∧a1 ≤ 9999)∧(-30 ≤ b1∧b1 ≤ 30)∧(1000 ≤ a2∧a2 ≤ 9999)∧(-30 ≤ b2∧b2 ≤ 30)∧(1000 ≤ a3∧a3 ≤ 9999)∧(-30 ≤ b3∧b3 ≤ 30)∧(1000 ≤ a4∧a4 ≤ 9999)∧(-30 ≤ b4∧b4 ≤ 30))∧LS A n c g w b bf p q #[.int .i64 fd,.int .i64 ft,.string ⟨#[117,118]⟩,.slice (some ⟨b,0,none⟩) 2 2,.int .i64 wd,.int .i64 lf,.int .i64 rt,.int .i64 a1,.int .i64 b1,.int .i64 a2,.int .i64 b2,.int .i64 a3,.int .i64 b3,.int .i64 a4,.int .i64 b4,.int .i64 x,.int .i64 0] wx)
 case first =>
  have hbt:bf < v7.heap.size:=S.f.lt
  have z7:v7.cell? ⟨bf,7,none⟩=some (.int .i64 a1):=S.f.cell 7
  have z8:v7.cell? ⟨bf,8,none⟩=some (.int .i64 b1):=S.f.cell 8
  have z9:v7.cell? ⟨bf,9,none⟩=some (.int .i64 a2):=S.f.cell 9
  have z10:v7.cell? ⟨bf,10,none⟩=some (.int .i64 b2):=S.f.cell 10
  have z11:v7.cell? ⟨bf,11,none⟩=some (.int .i64 a3):=S.f.cell 11
  have z12:v7.cell? ⟨bf,12,none⟩=some (.int .i64 b3):=S.f.cell 12
  have z13:v7.cell? ⟨bf,13,none⟩=some (.int .i64 a4):=S.f.cell 13
  have z14:v7.cell? ⟨bf,14,none⟩=some (.int .i64 b4):=S.f.cell 14
  have g7:=S.f.frozen 7
  have g8:=S.f.frozen 8
  have g9:=S.f.frozen 9
  have g10:=S.f.frozen 10
  have g11:=S.f.frozen 11
  have g12:=S.f.frozen 12
  have g13:=S.f.frozen 13
  have g14:=S.f.frozen 14
  by_cases hc:cm < 0
  ·have S9:=((((S.set hgf hwf hbf 7 (.int .i64 a2)).set hgf hwf hbf 8 (.int .i64 b2)).set hgf hwf hbf 9 (.int .i64 a1)).set hgf hwf hbf 10 (.int .i64 b1)).alloc (.cells #[.int .i64 a1,.int .i64 b1] 26)
   go_wp2_with fail
   go_meet
   case rel=>exact ⟨a2,b2,a1,b1,a3,b3,a4,b4,⟨ha2,hb2',ha1,hb1',ha3,hb3',ha4,hb4'⟩,S9⟩
  ·go_wp2_with fail
   go_meet
   case rel=>exact ⟨a1,b1,a2,b2,a3,b3,a4,b4,⟨ha1,hb1',ha2,hb2',ha3,hb3',ha4,hb4'⟩,S⟩
 case rest =>
  clear S ha1 hb1' ha2 hb2' ha3 hb3' ha4 hb4'
  obtain ⟨a1,b1,a2,b2,a3,b3,a4,b4,⟨ha1,hb1',ha2,hb2',ha3,hb3',ha4,hb4'⟩,S⟩:=hcut
  have z7:wc.cell? ⟨bf,7,none⟩=some (.int .i64 a1):=S.f.cell 7
  have z8:wc.cell? ⟨bf,8,none⟩=some (.int .i64 b1):=S.f.cell 8
  have z9:wc.cell? ⟨bf,9,none⟩=some (.int .i64 a2):=S.f.cell 9
  have z10:wc.cell? ⟨bf,10,none⟩=some (.int .i64 b2):=S.f.cell 10
  have z11:wc.cell? ⟨bf,11,none⟩=some (.int .i64 a3):=S.f.cell 11
  have z12:wc.cell? ⟨bf,12,none⟩=some (.int .i64 b3):=S.f.cell 12
  have z13:wc.cell? ⟨bf,13,none⟩=some (.int .i64 a4):=S.f.cell 13
  have z14:wc.cell? ⟨bf,14,none⟩=some (.int .i64 b4):=S.f.cell 14
  have g7:=S.f.frozen 7
  have g8:=S.f.frozen 8
  have g9:=S.f.frozen 9
  have g10:=S.f.frozen 10
  have g11:=S.f.frozen 11
  have g12:=S.f.frozen 12
  have g13:=S.f.frozen 13
  have g14:=S.f.frozen 14
  go_wp2_with fail
  refine Calls.mono (l02Compare_c ⟨a4,b4⟩ ⟨a3,b3⟩ wc (figOK_of ha4 hb4') (figOK_of ha3 hb3')) ?_;rintro e v8 ⟨rfl,hb⟩
  replace S:=S.below hb
  clear hb
  generalize cmpF ⟨a4,b4⟩ ⟨a3,b3⟩=cm at *
  go_upto_if 37 with fail
  go_cut [5] (fun V wx=>∃ a1 b1 a2 b2 a3 b3 a4 b4:Int,((1000 ≤ a1∧a1 ≤ 9999)∧(-30 ≤ b1∧b1 ≤ 30)∧(1000 ≤ a2∧a2 ≤ 9999)∧(-30 ≤ b2∧b2 ≤ 30)∧(1000 ≤ a3∧a3 ≤ 9999)∧(-30 ≤ b3∧b3 ≤ 30)∧(1000 ≤ a4∧a4 ≤ 9999)∧(-30 ≤ b4∧b4 ≤ 30))∧LS A n c g w b bf p q #[.int .i64 fd,.int .i64 ft,.string ⟨#[117,118]⟩,.slice (some ⟨b,0,none⟩) 2 2,.int .i64 wd,.int .i64 lf,.int .i64 rt,.int .i64 a1,.int .i64 b1,.int .i64 a2,.int .i64 b2,.int .i64 a3,.int .i64 b3,.int .i64 a4,.int .i64 b4,.int .i64 x,.int .i64 0] wx)
  case first =>
   have hbt:bf < v8.heap.size:=S.f.lt
   have z7:v8.cell? ⟨bf,7,none⟩=some (.int .i64 a1):=S.f.cell 7
   have z8:v8.cell? ⟨bf,8,none⟩=some (.int .i64 b1):=S.f.cell 8
   have z9:v8.cell? ⟨bf,9,none⟩=some (.int .i64 a2):=S.f.cell 9
   have z10:v8.cell? ⟨bf,10,none⟩=some (.int .i64 b2):=S.f.cell 10
   have z11:v8.cell? ⟨bf,11,none⟩=some (.int .i64 a3):=S.f.cell 11
   have z12:v8.cell? ⟨bf,12,none⟩=some (.int .i64 b3):=S.f.cell 12
   have z13:v8.cell? ⟨bf,13,none⟩=some (.int .i64 a4):=S.f.cell 13
   have z14:v8.cell? ⟨bf,14,none⟩=some (.int .i64 b4):=S.f.cell 14
   have g7:=S.f.frozen 7
   have g8:=S.f.frozen 8
   have g9:=S.f.frozen 9
   have g10:=S.f.frozen 10
   have g11:=S.f.frozen 11
   have g12:=S.f.frozen 12
   have g13:=S.f.frozen 13
   have g14:=S.f.frozen 14
   by_cases hc:cm < 0
   ·have S9:=((((S.set hgf hwf hbf 11 (.int .i64 a4)).set hgf hwf hbf 12 (.int .i64 b4)).set hgf hwf hbf 13 (.int .i64 a3)).set hgf hwf hbf 14 (.int .i64 b3)).alloc (.cells #[.int .i64 a3,.int .i64 b3] 26)
    go_wp2_with fail
    go_meet
    case rel=>exact ⟨a1,b1,a2,b2,a4,b4,a3,b3,⟨ha1,hb1',ha2,hb2',ha4,hb4',ha3,hb3'⟩,S9⟩
   ·go_wp2_with fail
    go_meet
    case rel=>exact ⟨a1,b1,a2,b2,a3,b3,a4,b4,⟨ha1,hb1',ha2,hb2',ha3,hb3',ha4,hb4'⟩,S⟩
  case rest =>
   clear S ha1 hb1' ha2 hb2' ha3 hb3' ha4 hb4'
   obtain ⟨a1,b1,a2,b2,a3,b3,a4,b4,⟨ha1,hb1',ha2,hb2',ha3,hb3',ha4,hb4'⟩,S⟩:=hcut
   clear z7 z8 z9 z10 z11 z12 z13 z14 g7 g8 g9 g10 g11 g12 g13 g14
   have z0:wc.cell? ⟨bf,0,none⟩=some (.int .i64 fd):=S.f.cell 0
   have z1:wc.cell? ⟨bf,1,none⟩=some (.int .i64 ft):=S.f.cell 1
   have z2:wc.cell? ⟨bf,2,none⟩=some (.string ⟨#[117,118]⟩):=S.f.cell 2
   have z3:wc.cell? ⟨bf,3,none⟩=some (.slice (some ⟨b,0,none⟩) 2 2):=S.f.cell 3
   have z4:wc.cell? ⟨bf,4,none⟩=some (.int .i64 wd):=S.f.cell 4
   have z5:wc.cell? ⟨bf,5,none⟩=some (.int .i64 lf):=S.f.cell 5
   have z6:wc.cell? ⟨bf,6,none⟩=some (.int .i64 rt):=S.f.cell 6
   have z7:wc.cell? ⟨bf,7,none⟩=some (.int .i64 a1):=S.f.cell 7
   have z8:wc.cell? ⟨bf,8,none⟩=some (.int .i64 b1):=S.f.cell 8
   have z9:wc.cell? ⟨bf,9,none⟩=some (.int .i64 a2):=S.f.cell 9
   have z10:wc.cell? ⟨bf,10,none⟩=some (.int .i64 b2):=S.f.cell 10
   have z11:wc.cell? ⟨bf,11,none⟩=some (.int .i64 a3):=S.f.cell 11
   have z12:wc.cell? ⟨bf,12,none⟩=some (.int .i64 b3):=S.f.cell 12
   have z13:wc.cell? ⟨bf,13,none⟩=some (.int .i64 a4):=S.f.cell 13
   have z14:wc.cell? ⟨bf,14,none⟩=some (.int .i64 b4):=S.f.cell 14
   have z15:wc.cell? ⟨bf,15,none⟩=some (.int .i64 x):=S.f.cell 15
   have z16:wc.cell? ⟨bf,16,none⟩=some (.int .i64 0):=S.f.cell 16
   have g0:=S.f.frozen 0
   have g1:=S.f.frozen 1
   have g2:=S.f.frozen 2
   have g3:=S.f.frozen 3
   have g4:=S.f.frozen 4
   have g5:=S.f.frozen 5
   have g6:=S.f.frozen 6
   have g7:=S.f.frozen 7
   have g8:=S.f.frozen 8
   have g9:=S.f.frozen 9
   have g10:=S.f.frozen 10
   have g11:=S.f.frozen 11
   have g12:=S.f.frozen 12
   have g13:=S.f.frozen 13
   have g14:=S.f.frozen 14
   have g15:=S.f.frozen 15
   have g16:=S.f.frozen 16
   have c0:wc.cell? ⟨b,0,none⟩=some (.int .i64 p):=by
    obtain ⟨b',off,he,_,hc⟩:=S.p.s.int (k:=0) (by simp)
    cases he
    simpa using hc
   have c1:wc.cell? ⟨b,1,none⟩=some (.int .i64 q):=by
    obtain ⟨b',off,he,_,hc⟩:=S.p.s.int (k:=1) (by simp)
    cases he
    simpa using hc
   have hbw:b < wc.heap.size:=S.p.ub b 0 rfl
   go_wp2_with fail
   refine Calls.mono (l27Safe_c fd ft ⟨#[117,118]⟩ b 0 2 p q wd lf rt x wc hbw c0 c1 hp hq hlf hrt (by omega)) ?_;rintro e v9 ⟨rfl,hb⟩
   replace S:=S.below hb
   clear hb c0 c1
   clear z0 g0 z1 g1 z2 g2 z3 g3 z4 g4 z5 g5 z6 g6 z7 g7 z8 g8 z9 g9 z10 g10 z11 g11 z12 g12 z13 g13 z14 g14 z15 g15 z16 g16
   have hsf:=safeF_bd hp hq hlf hrt (show 0 ≤ x∧x ≤ 200 by omega)
   generalize safeF p q lf rt x=sf at *
   go_wp2_with fail
   refine (l01Next_c A n c g _ _ S.d.s).mono ?_;rintro e v10 ⟨y,rfl,⟨ya,yb⟩,yd,hS,hg⟩
   replace S:=S.to hlt hgf hS hg
   clear hS hg
   have hy:0 ≤ y∧y < 5000:=by omega
   clear ya yb yd
   go_wp2_with (go_at_call 64;refine (pickB_n (-5000) 100 A n c g _ _ _ _ S.d.s (by simp;omega) (by rfl) (by decide) (by decide)).mono ?_;rintro e v11 ⟨r,rfl,hr,hS,hg⟩;refine Hid.out ?_)
   refine Lib.hid ?_
   replace S:=S.to hlt hgf hS hg
   clear hS hg
   have z16:v11.cell? ⟨bf,16,none⟩=some (.int .i64 0):=S.f.cell 16
   have g16:=S.f.frozen 16
   go_upto_region 12 with fail
   obtain ⟨v12,bo,hT,S'⟩:∃ (v12:World) (bo:Int),(v11.setCell ⟨bf,16,none⟩ (.int .i64 (if sf+r < 1048576 then sf+r else 1048576))).setCell ⟨bf,16,none⟩ (.int .i64 (if 0 < if sf+r < 1048576 then sf+r else 1048576 then if sf+r < 1048576 then sf+r else 1048576 else 0))=v12∧LS A n c g w b bf p q #[.int .i64 fd,.int .i64 ft,.string ⟨#[117,118]⟩,.slice (some ⟨b,0,none⟩) 2 2,.int .i64 wd,.int .i64 lf,.int .i64 rt,.int .i64 a1,.int .i64 b1,.int .i64 a2,.int .i64 b2,.int .i64 a3,.int .i64 b3,.int .i64 a4,.int .i64 b4,.int .i64 x,.int .i64 bo] v12:=⟨_,_,rfl,(S.set hgf hwf hbf 16 _).set hgf hwf hbf 16 _⟩
   have hm1:min 1048576 (sf+r)=if sf+r < 1048576 then sf+r else 1048576:=by split <;> omega
   have hm2:∀ m:Int,max 0 m=if 0 < m then m else 0:=fun m=>by split <;> omega
   (try rw [hm1,hm2])
   rw [hT]
   clear hT S hm1 hm2
   generalize (if sf+r < 1048576 then sf+r else 1048576)=m1 at *
   generalize (if 0 < m1 then m1 else 0)=m2 at *
   have S:=S'
   clear S'
   clear z16 g16 hsf hr hy
   go_wp2_with (go_at_call 44;refine (l01Next_c A n c g _ _ S.d.s).mono ?_;rintro e v13 ⟨k,rfl,⟨ka,kb⟩,kd,hS,hg⟩;refine Hid.out ?_)
   refine Lib.hid ?_
   replace S:=S.to hlt hgf hS hg
   clear hS hg
   go_upto_block 0 with fail
   go_cut [65,70,75,80] (fun V1 V2 V3 V4 wx=>RlS A n c g w bf wx)
   case first =>
    have hPb:∀ b' off,some (⟨b,0,none⟩:Addr)=some ⟨b',off,none⟩→b' < bf:=fun b' off e=>by cases e;exact hbf
    have hf13:bf < v13.heap.size:=S.f.lt
    have hw13:w.heap.size < v13.heap.size:=S.r.lt
    by_cases h0:k=0
    ·subst h0
     go_wp2_with fail
     refine (l23Draw_c A n c g _ S.d.s).mono ?_;rintro e v14 ⟨fd',ft',nm,l,B,d,wd',lf',rt',rfl,⟨hnm,hl,hcap⟩,_,P4,hS,hg⟩
     replace S:=S.to hlt hgf hS hg
     clear hS hg
     have hv2:bf < v13.heap.size+1:=by omega
     have z0:v14.cell? ⟨bf,0,none⟩=some (.int .i64 fd):=S.f.cell 0
     have g0:=S.f.frozen 0
     have z1:v14.cell? ⟨bf,1,none⟩=some (.int .i64 ft):=S.f.cell 1
     have g1:=S.f.frozen 1
     have z2:v14.cell? ⟨bf,2,none⟩=some (.string ⟨#[117,118]⟩):=S.f.cell 2
     have g2:=S.f.frozen 2
     have z3:v14.cell? ⟨bf,3,none⟩=some (.slice (some ⟨b,0,none⟩) 2 2):=S.f.cell 3
     have g3:=S.f.frozen 3
     have z4:v14.cell? ⟨bf,4,none⟩=some (.int .i64 wd):=S.f.cell 4
     have g4:=S.f.frozen 4
     have z5:v14.cell? ⟨bf,5,none⟩=some (.int .i64 lf):=S.f.cell 5
     have g5:=S.f.frozen 5
     have z6:v14.cell? ⟨bf,6,none⟩=some (.int .i64 rt):=S.f.cell 6
     have g6:=S.f.frozen 6
     have S9:=((((((S.set hgf hwf hbf 0 (.int .i64 fd')).set hgf hwf hbf 1 (.int .i64 ft')).set hgf hwf hbf 2 (.string nm)).set hgf hwf hbf 3 (.slice B l.length d)).set hgf hwf hbf 4 (.int .i64 wd')).set hgf hwf hbf 5 (.int .i64 lf')).set hgf hwf hbf 6 (.int .i64 rt')
     have P9:=((((((P4.set hv2 (j:=0) (.int .i64 fd')).set hv2 (j:=1) (.int .i64 ft')).set hv2 (j:=2) (.string nm)).set hv2 (j:=3) (.slice B l.length d)).set hv2 (j:=4) (.int .i64 wd')).set hv2 (j:=5) (.int .i64 lf')).set hv2 (j:=6) (.int .i64 rt')
     go_wp2_with fail
     go_meet
     case rel=>exact ⟨⟨fd',ft',nm,l,wd',lf',rt',a1,b1,a2,b2,a3,b3,a4,b4,x,bo⟩,B,d,⟨hnm,hl,hcap⟩,P9.weak (by omega),S9.d,S9.r,S9.f⟩
    by_cases h1:k=1
    ·subst h1
     go_wp2_with fail
     refine (l02Draw_c A n c g _ S.d.s).mono ?_;rintro e v14 ⟨da,db,rfl,_,_,hS,hg⟩
     replace S:=S.to hlt hgf hS hg
     clear hS hg
     have z9:v14.cell? ⟨bf,9,none⟩=some (.int .i64 a2):=S.f.cell 9
     have g9:=S.f.frozen 9
     have z10:v14.cell? ⟨bf,10,none⟩=some (.int .i64 b2):=S.f.cell 10
     have g10:=S.f.frozen 10
     have hbt:bf < v14.heap.size:=S.f.lt
     have S9:=(S.set hgf hwf hbf 9 (.int .i64 da)).set hgf hwf hbf 10 (.int .i64 db)
     go_wp2_with fail
     go_meet
     case rel=>exact ⟨⟨fd,ft,⟨#[117,118]⟩,[p,q],wd,lf,rt,a1,b1,da,db,a3,b3,a4,b4,x,bo⟩,some ⟨b,0,none⟩,2,⟨(show (⟨#[117,118]⟩:ByteArray).size ≤ 7 by decide),(show 2 ≤ 6 by decide),(show 2 ≤ 2 by decide)⟩,S9.p,S9.d,S9.r,S9.f⟩
    by_cases h2:k=2
    ·subst h2
     go_wp2_with fail
     refine (l06DrawEye_c A n c g _ S.d.s).mono ?_;rintro e v14 ⟨da,rfl,_,hS,hg⟩
     replace S:=S.to hlt hgf hS hg
     clear hS hg
     have z15:v14.cell? ⟨bf,15,none⟩=some (.int .i64 x):=S.f.cell 15
     have g15:=S.f.frozen 15
     have S9:=S.set hgf hwf hbf 15 (.int .i64 da)
     go_wp2_with fail
     go_meet
     case rel=>exact ⟨⟨fd,ft,⟨#[117,118]⟩,[p,q],wd,lf,rt,a1,b1,a2,b2,a3,b3,a4,b4,da,bo⟩,some ⟨b,0,none⟩,2,⟨(show (⟨#[117,118]⟩:ByteArray).size ≤ 7 by decide),(show 2 ≤ 6 by decide),(show 2 ≤ 2 by decide)⟩,S9.p,S9.d,S9.r,S9.f⟩
    by_cases h3:k=3
    ·subst h3
     go_wp2_with (go_at_call 64;refine (pickB_n (-1) 1048577 A n c g _ _ _ _ S.d.s (by simp) (by rfl) (by decide) (by decide)).mono ?_;rintro e v14 ⟨da,rfl,_,hS,hg⟩;refine Hid.out ?_)
     refine Lib.hid ?_
     replace S:=S.to hlt hgf hS hg
     clear hS hg
     have z16:v14.cell? ⟨bf,16,none⟩=some (.int .i64 bo):=S.f.cell 16
     have g16:=S.f.frozen 16
     have S9:=S.set hgf hwf hbf 16 (.int .i64 da)
     go_wp2_with fail
     go_meet
     case rel=>exact ⟨⟨fd,ft,⟨#[117,118]⟩,[p,q],wd,lf,rt,a1,b1,a2,b2,a3,b3,a4,b4,x,da⟩,some ⟨b,0,none⟩,2,⟨(show (⟨#[117,118]⟩:ByteArray).size ≤ 7 by decide),(show 2 ≤ 6 by decide),(show 2 ≤ 2 by decide)⟩,S9.p,S9.d,S9.r,S9.f⟩
    have e0:(k == 0)=false:=by simpa using h0
    have e1:(k == 1)=false:=by simpa using h1
    have e2:(k == 2)=false:=by simpa using h2
    have e3:(k == 3)=false:=by simpa using h3
    go_wp2_with fail
    go_meet
    case rel=>exact ⟨⟨fd,ft,⟨#[117,118]⟩,[p,q],wd,lf,rt,a1,b1,a2,b2,a3,b3,a4,b4,x,bo⟩,some ⟨b,0,none⟩,2,⟨(show (⟨#[117,118]⟩:ByteArray).size ≤ 7 by decide),(show 2 ≤ 6 by decide),(show 2 ≤ 2 by decide)⟩,S.p,S.d,S.r,S.f⟩
   case rest =>
    clear S ka kb kd hbf hwf hgf ha1 hb1' ha2 hb2' ha3 hb3' ha4 hb4' hp hq hlf hrt hx
    obtain ⟨r,B,d,hr,P9,D9,B0,Bf⟩:=hcut
    have hel:(r.cells B d).length=17:=rfl
    have heo:=Rl.one r B d
    have hbw:=B0.lt
    have hr1:=Bf.range
    generalize hrc:r.cells B d=ec at *
    replace hrc:=Lib.hid hrc
    unfold Rl.zero at B0
    go_wp2_with (first | (refine wpList_load_mid rfl 33 _ rfl bf 0 rfl ec _ hr1 Tryz.underlying33 rfl (by rw [hel];kernel_rfl) ?_) | (refine wpList_store_part rfl 33 _ _ rfl w.heap.size 0 ec rfl rfl B0 (by rw [hel];simp) (by rw [hel];kernel_rfl) heo ?_;intro w4 hg4 D4;refine Hid.out ?_))
    refine Lib.hid ?_
    have D5:Blk w4 w.heap.size 33 ec.toArray:=by
     have h:=fill_mid ec [Value.int .i64 0,.int .i64 0,.string ⟨#[]⟩,.slice none 0 0,.int .i64 0,.int .i64 0,.int .i64 0,.int .i64 0,.int .i64 0,.int .i64 0,.int .i64 0,.int .i64 0,.int .i64 0,.int .i64 0,.int .i64 0,.int .i64 0,.int .i64 0] [] [] (by rw [hel];rfl)
     simp only [List.nil_append,List.append_nil,List.length_nil] at h
     rw [← h]
     exact D4
    have P4:=P9.keep_ hg4.size (fun b' off e _ hlb=>hg4.block b' (P9.ub b' off e) (fun e2=>by cases e2;omega))
    have D8:=D9.new hg4 hlt (Nat.le_refl _)
    clear D4 B0 hr1 P9 D9
    go_wp2_with fail
    refine bodyPost_ret (res_cells (k:=2) (vs:=ec) Tryz.results55 rfl (aggRe w4) (by rw [hel];exact szReC w4) D5) rfl ⟨r,B,d,by rw [hrc.out],hr,P4,D8.s,D8.g⟩
end Go.Proofs.YtednjmldjbndhaaGreatDoor
