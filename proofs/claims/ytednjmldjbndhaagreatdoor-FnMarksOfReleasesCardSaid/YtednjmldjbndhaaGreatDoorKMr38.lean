/- The reference's draws of releases that are valid, if it can, and of entries. Condition: the code has at most 4096 bytes. -/
import Derived.Test.YtednjmldjbndhaaGreatDoorKMr36
import Derived.Test.YtednjmldjbndhaaGreatDoorKMr37
set_option linter.unusedSimpArgs false
set_option linter.unusedVariables false
set_option maxRecDepth 100000
set_option maxHeartbeats 8000000
namespace Go.Proofs.YtednjmldjbndhaaGreatDoor
open Go.RowKit
theorem RlS.in_ {v:World} {lo:Nat} {r:Rl} {B:Option Addr} {d:Nat} (hr:r.nm.size ≤ 7∧r.l.length ≤ 6∧r.l.length ≤ d) (P:PwN v lo B r.l):RlIn v B d r:=⟨by omega,by omega,P.s⟩
theorem l33Release_c (A:Option Addr) (n c g:Nat) (w:World) (hS:Src w A n c g):Calls Tryz.prog 54 #[.pointer (some ⟨g,0,none⟩)] w (DRl A n c g w):=by
 have hlt:=hS.lt
 have D:=(Ds.init hS).alloc (.cells #[.int .i64 0,.int .i64 0,.string ⟨#[]⟩,.slice none 0 0,.int .i64 0,.int .i64 0,.int .i64 0,.int .i64 0,.int .i64 0,.int .i64 0,.int .i64 0,.int .i64 0,.int .i64 0,.int .i64 0,.int .i64 0,.int .i64 0,.int .i64 0] 33)
 have B0:=Blk.new w 33 #[.int .i64 0,.int .i64 0,.string ⟨#[]⟩,.slice none 0 0,.int .i64 0,.int .i64 0,.int .i64 0,.int .i64 0,.int .i64 0,.int .i64 0,.int .i64 0,.int .i64 0,.int .i64 0,.int .i64 0,.int .i64 0,.int .i64 0,.int .i64 0]
 have hz9:(w.alloc (.cells #[.int .i64 0,.int .i64 0,.string ⟨#[]⟩,.slice none 0 0,.int .i64 0,.int .i64 0,.int .i64 0,.int .i64 0,.int .i64 0,.int .i64 0,.int .i64 0,.int .i64 0,.int .i64 0,.int .i64 0,.int .i64 0,.int .i64 0,.int .i64 0] 33)).heap.size=w.heap.size+1:=by simp
 clear hS
 unfold DRl
 go_enter Tryz.func54,Tryz.ntmps54
 go_wp2_with fail
 generalize w.alloc (.cells #[.int .i64 0,.int .i64 0,.string ⟨#[]⟩,.slice none 0 0,.int .i64 0,.int .i64 0,.int .i64 0,.int .i64 0,.int .i64 0,.int .i64 0,.int .i64 0,.int .i64 0,.int .i64 0,.int .i64 0,.int .i64 0,.int .i64 0,.int .i64 0] 33)=w0 at *
 refine (l27Draw_c A n c g _ D.s).mono ?_;rintro e w1 ⟨r,B,d,rfl,hr,P,hS,hg⟩
 have hsz:=hg.size
 have hbw:w.heap.size < w1.heap.size:=by omega
 have hgw:g < w1.heap.size:=hS.lt
 have V0:RlS A n c g w w1.heap.size (w1.alloc (.cells (r.cells B d).toArray 33)):=⟨r,B,d,hr,(P.weak (by omega)).alloc _,(D.to hS hg).alloc _,(B0.src hg (by omega)).alloc _,Blk.new _ _ _⟩
 clear hS hg P D B0 hr hsz hz9
 have hel:(r.cells B d).length=17:=rfl
 have heo:=Rl.one r B d
 generalize r.cells B d=ec at *
 go_wp2_with (first | (refine wpList_store_new rfl _ _ rfl ec rfl rfl (by rw [hel];kernel_rfl) (by rw [hel];rfl) heo ?_) | fail)
 generalize w1.alloc (.cells ec.toArray 33)=w2 at *
 generalize w1.heap.size=br at *
 clear hel heo
 have H0:=Lib.hid V0
 clear V0
 go_loopw [4] (fun i wr=>∃ k:Nat,k ≤ 4∧i=.int .i64 k∧Hid (RlS A n c g w br wr)) (fun i _=>4 - (intOf i).toNat)
 case atStart=>exact ⟨0,by omega,rfl,H0⟩
 case round =>
  clear H0
  obtain ⟨k,hk,rfl,hV⟩:=hrel
  obtain ⟨r,B,d,hr,P,D,B0,Bf⟩:=hV.out
  clear hV
  have hel:(r.cells B d).length=17:=rfl
  have heo:=Rl.one r B d
  have hr1:=Bf.range
  have hIn:=Lib.hid (RlS.in_ hr P)
  have hHI:=Lib.hid (specIsRl_c r B d wr (RlS.in_ hr P))
  generalize hrc:r.cells B d=ec at *
  replace hrc:=Lib.hid hrc
  by_cases hk4:k < 4
  ·generalize r.b=rb at *
   have hk4':(k:Int) < 4:=by omega
   go_wp2_with (refine wpList_plain rfl fun K hK=>?_;refine Hid.out ?_)
   refine Lib.hid ?_
   go_simp
   refine hK _ _ ?_
   refine wpList_plain rfl fun K hK=>?_
   go_simp
   refine hK _ _ ?_
   refine wpList_load_g ?hw 33 (.tmp 3) rfl br 0 rfl ec _ hr1 Tryz.underlying33 rfl (by rw [hel];kernel_rfl) ?_
   case hw=>rfl
   go_wp2_with fail
   refine Calls.mono hHI.out ?_;rintro e w3 ⟨rfl,hb⟩
   replace D:=D.below hb
   replace B0:=B0.below hb B0.lt
   replace Bf:=Bf.below hb Bf.lt
   replace P:=P.below hb
   clear hb hHI hr1 hIn
   cases rb
   ·clear P hrc hr
    go_wp2_with fail
    have hgz:=D.s.lt
    refine (l27Draw_c A n c g _ D.s).mono ?_;rintro e w4 ⟨r',B',d',rfl,hr,P,hS,hg⟩
    have hsz:=D.size
    have P':=P.weak (show w.heap.size+1 ≤ w3.heap.size+1 by omega)
    have hbl:=Bf.lt
    replace B0:=B0.src hg (by omega)
    replace Bf:=Bf.src hg (by omega)
    replace D:=D.to hS hg
    have hel':(r'.cells B' d').length=17:=rfl
    have heo':=Rl.one r' B' d'
    clear hS hg
    generalize hrc:r'.cells B' d'=ed at *
    replace hrc:=Lib.hid hrc
    go_wp2_with (first | (refine wpList_store_part rfl 33 _ _ rfl br 0 ed rfl rfl Bf (by rw [hel,hel'];exact Nat.le_refl _) (by rw [hel'];kernel_rfl) heo' ?_;intro w5 hg5 D5;refine Hid.out ?_) | fail)
    refine Lib.hid ?_
    have Bf5:Blk w5 br 33 ed.toArray:=by
     have h:=fill_mid ed ec [] [] (by rw [hel,hel'])
     simp only [List.nil_append,List.append_nil,List.length_nil] at h
     rw [← h]
     exact D5
    have P5:=P'.keep_ hg5.size (fun b' off e hb1 hb2=>hg5.block b' hb1 (fun e2=>by have hnb:=P.nb b' off e;simp only [Option.some.injEq] at e2;omega))
    have D6:=D.new hg5 hgw (by omega)
    have B05:=B0.src hg5 (by omega)
    clear D5 P P' D B0 Bf hg5
    rw [← hrc.out] at Bf5
    go_wp2_with fail
    go_roundw
    case rel=>exact ⟨k+1,by omega,by go_num,⟨r',B',d',hr,P5,D6,B05,Bf5⟩⟩
    case measure=>simp [intOf];omega
   ·have hr2:=Bf.range
    unfold Rl.zero at B0
    go_wp2_with (first | (refine wpList_load_mid rfl 33 _ rfl (br) 0 rfl (ec) _ hr2 Tryz.underlying33 rfl (by kernel_rfl) ?_) | (refine wpList_store_part rfl 33 _ _ rfl w.heap.size 0 ec rfl rfl B0 (by rw [hel];simp) (by rw [hel];kernel_rfl) heo ?_;intro w9 hg9 D9;refine Hid.out ?_))
    refine Lib.hid ?_
    have R9:Blk w9 w.heap.size 33 ec.toArray:=by
     have h:=fill_mid ec [Value.int .i64 0,.int .i64 0,.string ⟨#[]⟩,.slice none 0 0,.int .i64 0,.int .i64 0,.int .i64 0,.int .i64 0,.int .i64 0,.int .i64 0,.int .i64 0,.int .i64 0,.int .i64 0,.int .i64 0,.int .i64 0,.int .i64 0,.int .i64 0] [] [] (by rw [hel];rfl)
     simp only [List.nil_append,List.append_nil,List.length_nil] at h
     rw [← h]
     exact D9
    have P9:=P.keep_ hg9.size (fun b' off e hb1 hb2=>hg9.block b' hb1 (fun e2=>by simp only [Option.some.injEq] at e2;omega))
    have E9:=D.new hg9 hlt (Nat.le_refl _)
    clear D9 B0 hr2 P D
    go_wp2_with fail
    refine bodyPost_ret (res_cells (k:=2) (vs:=ec) Tryz.results54 rfl (aggRe w9) (by rw [hel];exact szReC w9) R9) rfl ⟨r,B,d,by rw [hrc.out],hr,P9,E9.s,E9.g⟩
  ·have hk5:k=4:=by omega
   subst hk5
   clear hk4 hk hIn hHI
   have hr2:=Bf.range
   unfold Rl.zero at B0
   go_wp2_with (first | (refine wpList_load_mid rfl 33 _ rfl (br) 0 rfl (ec) _ hr2 Tryz.underlying33 rfl (by kernel_rfl) ?_) | (refine wpList_store_part rfl 33 _ _ rfl w.heap.size 0 ec rfl rfl B0 (by rw [hel];simp) (by rw [hel];kernel_rfl) heo ?_;intro w9 hg9 D9;refine Hid.out ?_))
   refine Lib.hid ?_
   have R9:Blk w9 w.heap.size 33 ec.toArray:=by
    have h:=fill_mid ec [Value.int .i64 0,.int .i64 0,.string ⟨#[]⟩,.slice none 0 0,.int .i64 0,.int .i64 0,.int .i64 0,.int .i64 0,.int .i64 0,.int .i64 0,.int .i64 0,.int .i64 0,.int .i64 0,.int .i64 0,.int .i64 0,.int .i64 0,.int .i64 0] [] [] (by rw [hel];rfl)
    simp only [List.nil_append,List.append_nil,List.length_nil] at h
    rw [← h]
    exact D9
   have P9:=P.keep_ hg9.size (fun b' off e hb1 hb2=>hg9.block b' hb1 (fun e2=>by simp only [Option.some.injEq] at e2;omega))
   have E9:=D.new hg9 hlt (Nat.le_refl _)
   clear D9 B0 hr2 P D
   go_wp2_with fail
   refine bodyPost_ret (res_cells (k:=2) (vs:=ec) Tryz.results54 rfl (aggRe w9) (by rw [hel];exact szReC w9) R9) rfl ⟨r,B,d,by rw [hrc.out],hr,P9,E9.s,E9.g⟩
end Go.Proofs.YtednjmldjbndhaaGreatDoor
