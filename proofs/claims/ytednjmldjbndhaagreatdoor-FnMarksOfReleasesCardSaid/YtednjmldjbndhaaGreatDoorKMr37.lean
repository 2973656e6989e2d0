/- AddEntry, the reference's. Conditions: the lengths. -/
import Derived.Deep.RegionHeld3
import Derived.Test.YtednjmldjbndhaaGreatDoorKMr29
import Derived.Test.YtednjmldjbndhaaGreatDoorKMr3
set_option linter.unusedSimpArgs false
set_option linter.unusedVariables false
set_option maxRecDepth 100000
set_option maxHeartbeats 8000000
namespace Go.Proofs.YtednjmldjbndhaaGreatDoor
open Go.RowKit
theorem h2x {b:Bool} (h1:b=true) (h2:b=false):true=false:=h1.symm.trans h2
theorem En.parts (e:En) (X:Option Addr) (Y:Nat):e.cells X Y=[Value.string e.ti,.int .i64 e.ve] ++ formC e.r.fd e.r.ft e.r.nm X e.r.l.length Y ++ ([Value.int .i64 e.r.wd,.int .i64 e.r.lf,.int .i64 e.r.rt] ++ e.r.tail ++ [.int .i64 e.ba]):=by
 show [Value.string e.ti,.int .i64 e.ve] ++ e.r.cells X Y ++ [.int .i64 e.ba]=_
 rw [Rl.split]
 unfold chartC
 simp only [List.append_assoc]
theorem specAddEntry_c (A:Option Addr) (c:Nat) (es:List EnR) (e:En) (B:Option Addr) (d:Nat) (w:World) (E:EnsIn w A es) (X:EnIn w B d e) :
  Calls Tryz.prog 8 #[.slice A es.length c,.agg (e.cells B d).toArray] w (PostEns (addR (ens es) e) (addC (ens es) e) w):=by
 have hl:=E.n
 have hlen:=ens_len es
 have hs:=Lib.hid (fun W (hW:Below w.heap.size w W)=>((E.s.below hW).more hW.size))
 have B0:=Blk.new w 35 (e.cells B d).toArray
 have hW:Below w.heap.size w (w.alloc (.cells (e.cells B d).toArray 35)):=(by repeat first | with_reducible (first | exact Below.refl _ _ | apply below_drewN' | apply Below.drew | refine Below.alloc ?_ ?_ _ | refine Below.setCell ?_ ?_ _) | exact Below.refl _ _ | omega | (simp <;> omega) | (have:=(Below.refl _ _).size;first | omega | (simp <;> omega)))
 have HC:=Lib.hid (fun W (hW:Below w.heap.size w W)=>specIsCat_c A c es W (E.later hW))
 have hin:Hid (∀ x ∈ es ++ [(⟨e,B,d⟩:EnR)],x.In w):=Lib.hid (fun x hx=>by
  rcases List.mem_append.1 hx with h | h
  ·exact E.i x h
  ·obtain rfl:x=⟨e,B,d⟩:=by simpa using h
   exact X)
 have hR:=Lib.hid (addC_cases2 (l:=ens es) (e:=e))
 have hcl:(e.cells B d).length=20:=rfl
 have hone:=e.one B d
 have hone1:∀ y ∈ [e.cells B d],∀ u ∈ y,u.oneCell'=true:=fun y hy u hu=>by
  obtain rfl:y=e.cells B d:=by simpa using hy
  exact hone u hu
 have hrw:es.map EnR.cells ++ [e.cells B d]=(es ++ [(⟨e,B,d⟩:EnR)]).map EnR.cells:=by rw [List.map_append];rfl
 have hew:ens es ++ [e]=ens (es ++ [(⟨e,B,d⟩:EnR)]):=by unfold ens;rw [List.map_append];rfl
 obtain ⟨ii,hi,hz0,hz1,hz2⟩:=info_parts info_Entry
 have h12l:catB (ens es)=true→es.length ≤ 12:=fun h=>hlen ▸ catB_len h
 rw [hew] at hR
 clear E X hlen hew
 generalize addR (ens es) e=RR at *
 generalize addC (ens es) e=cd at *
 generalize catB (ens es)=cb at *
 generalize hxs:es ++ [(⟨e,B,d⟩:EnR)]=xs at *
 have hxl:xs.length=es.length+1:=by rw [← hxs];simp
 generalize e.cells B d=ce at *
 clear hxs
 cases cb with
 | false =>
  obtain ⟨rfl,rfl⟩:=hR.out.1 rfl
  go_enter Tryz.func8,Tryz.ntmps8
  go_wp2_with fail
  refine Calls.mono (HC.out _ hW) ?_;rintro x w1 ⟨rfl,hb1⟩
  replace B0:=B0.below hb1 B0.lt
  replace hW:=hW.trans (hb1.mono hW.size)
  clear hb1
  go_wp2
  go_ret2
  exact ⟨_,rfl,EnsOwn.nil _ _,hW⟩
 | true =>
 replace hR:=Lib.hid hR.out.2
 have hl12:=h12l rfl
 clear h12l hl
 go_enter Tryz.func8,Tryz.ntmps8
 go_wp2_with fail
 refine Calls.mono (HC.out _ hW) ?_;rintro x W ⟨rfl,hb1⟩
 replace B0:=B0.below hb1 B0.lt
 replace hW:=hW.trans (hb1.mono hW.size)
 clear hb1
 clear HC
 have hBl:=B0.lt
 go_wp2_with fail
 refine wp_region_sink 6 (fun a0 fL bA v=>∃ v11 v12 v13 v14 v15 v16:Value,bA=(((((a0.put (some 11) v11).put (some 12) v12).put (some 13) v13).put (some 14) v14).put (some 15) v15).put (some 16) v16∧(AdT W es.length (es.map EnR.cells) ce (fL 0) (fL 2) (fL 4) (fL 5) v11 v13 v15 v16 v)∧(fL 0=true→True)∧(fL 1=true→v12=.slice A es.length c)∧(fL 2=true→True)∧(fL 3=true→v14=.agg ce.toArray)∧(fL 4=true→True)∧(fL 5=true→True)) (by kernel_rfl) (by decide +kernel) ?_ ?_ ?_
 ·exact ⟨_,_,_,_,_,_,put_more (put_more (put_more (put_more (put_more (put_more (rfl) 11) 12) 13) 14) 15) 16,⟨(Below.refl _ _).drew,nofun,nofun,nofun,nofun,nofun⟩,nofun,nofun,nofun,nofun,nofun,nofun⟩
 ·rintro fL bA v ⟨v11,v12,v13,v14,v15,v16,rfl,hS,q0,q1,q2,q3,q4,q5⟩ i hi hf o ho hall
  simp only [Act.put,List.setIfInBounds_toArray,List.set_cons_zero,List.set_cons_succ]
  have hn:i=0 ∨ i=1 ∨ i=2 ∨ i=3 ∨ i=4 ∨ i=5:=by omega
  clear hi
  rcases hn with rfl | rfl | rfl | rfl | rfl | rfl
  ·obtain rfl:=Option.some.inj ho
   clear hall ho
   refine wpOp_step rfl (fun K hK=>?_)
   go_simp
   exact hK _ _ ⟨_,_,_,_,_,_,rfl,⟨hS.hb.alloc hS.hb.size _,fun _ _=>⟨v.heap.size,rfl,Own.empty hS.hb.size⟩,fun e=>absurd (hS.q2 e).1 (by rw [hf];simp),fun e h5=>(hS.q4 e h5).elim fun g h=>⟨g,h.1,h.2.alloc _⟩,fun e=>absurd (hS.q2 (hS.q5 e).1.1).1 (by rw [hf];simp),fun _ h4 h2=>fun h=>by obtain ⟨g,hx,O⟩:=hS.q4 h4 (Bool.eq_false_iff.2 fun h5=>absurd (hS.q2 (hS.q5 h5).1.1).1 (by rw [hf];simp));exact absurd (O.1.lt _ h).2 (Nat.lt_irrefl _)⟩,fun _=>trivial,q1,fun _=>trivial,q3,fun _=>trivial,fun _=>trivial⟩
  ·obtain rfl:=Option.some.inj ho
   clear hall ho
   refine wpOp_step rfl (fun K hK=>?_)
   go_simp
   exact hK _ _ ⟨_,_,_,_,_,_,rfl,hS,fun _=>trivial,fun _=>rfl,fun _=>trivial,q3,fun _=>trivial,fun _=>trivial⟩
  ·obtain rfl:=Option.some.inj ho
   have e0:fL 0=true:=hall ⟨0,.data⟩ (by simp) rfl
   obtain rfl:=q1 (hall ⟨1,.data⟩ (by simp) rfl)
   obtain ⟨g7,rfl,O7⟩:=hS.q0 e0 hf
   clear hall ho
   refine wpOp_step rfl (fun K hK=>?_)
   refine wp_append_rows _ (.tmp 11) (.tmp 12) _ rfl W.heap.size 35 ii _ 20 192 Tryz.underlying24 hi hz0 hz1 hz2 rfl (by omega) _ [] rfl O7 _ A es.length c (es.map EnR.cells) rfl (by simp) (hs.out v (hW.trans (hS.hb.mono hW.size))) EnR.one (by simp [maxLen];omega) (by simp;omega) hS.hb.size ?_;intro v9 w9 hO9 hg9 hat9
   obtain ⟨A9,c9,h9,_⟩:=hO9.form
   rw [List.nil_append,List.length_map] at h9
   subst h9
   exact hK _ _ ⟨_,_,_,_,_,_,rfl,⟨below_app hS.hb hg9 hS.hb.size O7.ownGe,fun _ h=>absurd (show true=false from h) (by decide),fun _=>⟨e0,fun _=>⟨A9,c9,rfl,hO9⟩⟩,fun e h5=>(hS.q4 e h5).elim fun g h=>⟨g,h.1,h.2.kept hg9 (.inr (hS.ap e0 e hf))⟩,fun e=>absurd (hS.q5 e).1.1 (by rw [hf];simp),fun _ _ h=>absurd (show true=false from h) (by decide)⟩,fun _=>trivial,fun _=>rfl,fun _=>trivial,q3,fun _=>trivial,fun _=>trivial⟩
  ·obtain rfl:=Option.some.inj ho
   clear hall ho
   refine wpOp_step rfl (fun K hK=>?_)
   refine wp_load_mid 35 _ rfl w.heap.size 0 rfl ce _ (B0.below hS.hb hBl).range Tryz.underlying35 rfl (by rw [hcl];kernel_rfl) ?_
   exact hK _ _ ⟨_,_,_,_,_,_,rfl,hS,fun _=>trivial,q1,fun _=>trivial,fun _=>rfl,fun _=>trivial,fun _=>trivial⟩
  ·obtain rfl:=Option.some.inj ho
   obtain rfl:=q3 (hall ⟨3,.data⟩ (by simp) rfl)
   clear hall ho
   refine wpOp_step rfl (fun K hK=>?_)
   refine wp_build_one 24 35 _ rfl ce 20 hcl (by decide) (by decide) rfl ii _ Tryz.underlying24 hi hz0 hz1 ?_
   exact hK _ _ ⟨_,_,_,_,_,_,rfl,⟨hS.hb.alloc hS.hb.size _,fun e h2=>(hS.q0 e h2).elim fun g h=>⟨g,h.1,h.2.alloc _⟩,fun e=>⟨(hS.q2 e).1,fun h5=>((hS.q2 e).2 h5).elim fun B h=>h.elim fun d h=>⟨B,d,h.1,h.2.alloc _⟩⟩,fun _ _=>⟨v.heap.size,rfl,Own.lit1 hS.hb.size hcl⟩,fun e=>absurd (hS.q5 e).1.2 (by rw [hf];simp),fun h0 _ h2=>fun h=>by obtain ⟨g,hx,O⟩:=hS.q0 h0 h2;exact absurd (O.1.lt _ h.symm).2 (Nat.lt_irrefl _)⟩,fun _=>trivial,q1,fun _=>trivial,fun _=>rfl,fun _=>trivial,fun _=>trivial⟩
  ·obtain rfl:=Option.some.inj ho
   have e2:fL 2=true:=hall ⟨2,.data⟩ (by simp) rfl
   have e4:fL 4=true:=hall ⟨4,.data⟩ (by simp) rfl
   obtain ⟨B7,d7,rfl,O7⟩:=(hS.q2 e2).2 hf
   obtain ⟨g8,rfl,O8⟩:=hS.q4 e4 hf
   clear hall ho
   refine wpOp_step rfl (fun K hK=>?_)
   refine wp_append_rows _ (.tmp 13) (.tmp 15) _ rfl W.heap.size 35 ii _ 20 192 Tryz.underlying24 hi hz0 hz1 hz2 rfl (by omega) _ _ rfl O7 _ _ _ _ [ce] rfl rfl O8.sl hone1 (by simp [maxLen];omega) (by simp;omega) hS.hb.size ?_;intro v9 w9 hO9 hg9 hat9
   have hl9:(es.map EnR.cells ++ [ce]).length=es.length+1:=by simp
   obtain ⟨A9,c9,h9,_⟩:=hO9.form
   rw [hl9] at h9
   subst h9
   exact hK _ _ ⟨_,_,_,_,_,_,rfl,⟨below_app hS.hb hg9 hS.hb.size O7.ownGe,fun _ h=>absurd (show true=false from h2x e2 h) (by decide),fun _=>⟨(hS.q2 e2).1,fun h=>absurd (show true=false from h) (by decide)⟩,fun _ h=>absurd (show true=false from h) (by decide),fun _=>⟨⟨e2,e4⟩,A9,c9,rfl,hO9⟩,fun _ _ h=>absurd (show true=false from h2x e2 h) (by decide)⟩,fun _=>trivial,q1,fun _=>trivial,q3,fun _=>trivial,fun _=>trivial⟩
 ·rintro fL bA v ⟨v11,v12,v13,v14,v15,v16,rfl,hS,q0,q1,q2,q3,q4,q5⟩ hall
  simp only [Act.put,List.setIfInBounds_toArray,List.set_cons_zero,List.set_cons_succ]
  have e0:fL 0=true:=hall 0 (by omega)
  obtain rfl:=q1 (hall 1 (by omega))
  have e2:fL 2=true:=hall 2 (by omega)
  obtain rfl:=q3 (hall 3 (by omega))
  have e4:fL 4=true:=hall 4 (by omega)
  have e5:fL 5=true:=hall 5 (by omega)
  clear hall
  simp only [List.drop_succ_cons,List.drop_zero]
  obtain ⟨_,B9,d9,rfl,O9⟩:=hS.q5 e5
  have hb1:=hS.hb
  clear hS
  rw [hrw] at O9
  have hW1:=hW.trans (hb1.mono hW.size)
  have hcall:Hid _:=Lib.hid (by
   have h:=specIsCat_c B9 d9 xs v ⟨by omega,O9.sl,fun x hx=>EnIn.later (hin.out x hx) hW1⟩
   rwa [hxl] at h)
  have hxe:=ens_len xs
  replace O9:=O9.mono hW.size
  clear hb1 hW B0 hs hone hone1 hrw hi hz0 hz1 hz2
  generalize catB (ens xs)=cb2 at *
  cases cb2 with
  | false =>
   obtain ⟨rfl,rfl⟩:=hR.out.1 (by trivial) (by trivial)
   go_wp2_with fail
   refine Calls.mono hcall.out ?_;rintro x w2 ⟨rfl,hb2⟩
   replace O9:=O9.below hb2
   replace hW1:=hW1.trans (hb2.mono hW1.size)
   clear hcall hb2
   go_wp2
   go_ret2
   exact ⟨_,rfl,EnsOwn.nil _ _,hW1⟩
  | true =>
  obtain ⟨rfl,rfl⟩:=hR.out.2 (by trivial) (by trivial)
  clear hR
  go_wp2_with fail
  refine Calls.mono hcall.out ?_;rintro x w2 ⟨rfl,hb2⟩
  replace O9:=O9.below hb2
  replace hW1:=hW1.trans (hb2.mono hW1.size)
  clear hcall hb2
  obtain ⟨g9,c9,hv9⟩:=Own.some1 O9 (by simp;omega)
  obtain ⟨rfl,-,-⟩:B9=some ⟨g9,0,none⟩∧_∧_:=by simpa using hv9
  clear hv9
  have L0:SpL w xs 0 [] g9 (es.length+1) d9 w2:=⟨hW1,rfl,O9,by simp,by simp,List.Pairwise.nil,rfl⟩
  clear O9 hW1
  go_wp2_with fail
  go_loopw [7] (fun i wr=>∃ (k:Nat) (fs:List EnR),k ≤ es.length+1∧i=.int .i64 k∧SpL w xs k fs g9 (es.length+1) d9 wr) (fun i _=>es.length+1 - (intOf i).toNat)
  case atStart=>exact ⟨0,[],Nat.zero_le _,rfl,L0⟩
  case round =>
   clear L0
   obtain ⟨k,fs,hk,rfl,hL⟩:=hrel
   by_cases hlt:k < es.length+1
   ·have hkx:k < xs.length:=by omega
    have k1:(k:Int) < (es.length:Int)+1:=by omega
    have k0:(0:Int) ≤ (k:Int):=by omega
    have hxin:=EnIn.later (hin.out xs[k] (List.getElem_mem hkx)) hL.hb
    have hp0:=En.parts xs[k].e xs[k].A xs[k].c
    have x4:=(hL.row hkx).2.2
    have x5:wr.rangeAt g9 (k * 20+2) (formC xs[k].e.r.fd xs[k].e.r.ft xs[k].e.r.nm xs[k].A xs[k].e.r.l.length xs[k].c):=range_mid (P:=[Value.string xs[k].e.ti,.int .i64 xs[k].e.ve]) (by
     have h:=x4
     unfold EnR.cells at h
     rw [hp0] at h
     exact h)
    have hcall:=Lib.hid (l18Own_c xs[k].e.r.fd xs[k].e.r.ft xs[k].e.r.nm xs[k].A xs[k].c xs[k].e.r.l wr hxin.r.h hxin.r.s)
    have hfl:(formC xs[k].e.r.fd xs[k].e.r.ft xs[k].e.r.nm xs[k].A xs[k].e.r.l.length xs[k].c).length=4:=rfl
    have hfo2:=Lib.hid (fun X Y=>formC_one xs[k].e.r.fd xs[k].e.r.ft xs[k].e.r.nm X xs[k].e.r.l.length Y)
    have hp2:=Lib.hid (fun X Y=>En.parts xs[k].e X Y)
    replace hp0:=Lib.hid hp0
    have hgl:=hL.o.block_ge.2
    have hflt:Hid (∀ f ∈ fs,∀ b,f.sl.ownBlock=some b→b < wr.heap.size):=Lib.hid (fun f hf b hb=>((hL.p f hf).1.lt b hb).2)
    have hwsz:=hL.hb.size
    clear x4
    generalize hfc:formC xs[k].e.r.fd xs[k].e.r.ft xs[k].e.r.nm xs[k].A xs[k].e.r.l.length xs[k].c=fc at *
    replace hfc:=Lib.hid hfc
    go_wp2_with (first | (refine wpList_load_mid rfl 29 _ rfl g9 (k * 20+2) rfl fc _ x5 Tryz.underlying29 rfl (by rw [hfl];kernel_rfl) ?_) | fail)
    refine Calls.mono hcall.out ?_;rintro x w4 ⟨B2,d2,rfl,O2,hb2⟩
    replace hL:=hL.below hb2
    have hge2:=O2.ownGe
    have hfbl:(formC xs[k].e.r.fd xs[k].e.r.ft xs[k].e.r.nm B2 xs[k].e.r.l.length d2).length=4:=rfl
    have hfbo:=hfo2.out B2 d2
    have hpb:=hp2.out B2 d2
    generalize formC xs[k].e.r.fd xs[k].e.r.ft xs[k].e.r.nm B2 xs[k].e.r.l.length d2=fb at *
    obtain ⟨hki,hkr,_⟩:=hL.row hkx
    have OS:Own (stores w4 g9 (k * 20+2) fb) w.heap.size 35 20 (.slice (some ⟨g9,0,none⟩) (es.length+1) d9) (((fs ++ xs.drop k).map EnR.cells).set k (⟨xs[k].e,B2,d2⟩:EnR).cells):=by
     have h:=Own.store_part hL.o hki [Value.string xs[k].e.ti,.int .i64 xs[k].e.ve] fc _ fb (hkr.trans hp0.out) (by rw [hfbl,hfl])
     unfold EnR.cells
     rw [hpb]
     exact h
    have hL9:=hL.next hkx (f:=⟨xs[k].e,B2,d2⟩) rfl ⟨hxin.t,hxin.r.h,hxin.r.hn,O2.sl⟩ (O2.mono hwsz) (fun h=>by have:=hge2 _ h;omega) (fun x hx g h1 h2=>by have h3:=hflt.out x hx _ h1;have h4:=hge2 g h2;omega) (grownBy_stores fb (k * 20+2) (World.grownBy.refl w4 (some g9))) OS
    have hce:∀ j,j < fb.length→∃ v,w4.cell? ⟨g9,k * 20+2+j,none⟩=some v:=fun j hj=>by
     obtain ⟨v,hv⟩:=hL.o.cell hki (j:=2+j) (by omega)
     exact ⟨v,by rw [Nat.add_assoc];exact hv⟩
    have hfz:∀ j,w4.frozen? ⟨g9,j,none⟩=false:=fun j=>hL.o.frozen j
    clear hcall hb2 x5 hL O2 OS hpb hkr hki
    go_wp2_with (refine wpList_store_row rfl 29 _ _ rfl g9 (k * 20+2) fb rfl rfl hce hfz (by rw [hfbl];kernel_rfl) hfbo ?_)
    go_roundw
    case rel=>exact ⟨k+1,_,by omega,by go_num,hL9⟩
    case measure=>simp [intOf];omega
   ·have hk8:¬ ((k:Int) < (es.length:Int)+1):=by omega
    have hk9:k=xs.length:=by omega
    rw [hk9] at hL
    have hD:=hL.done (by omega) (by omega)
    have hbw:=hL.hb
    clear hL
    go_wp2
    go_ret2
    exact ⟨_,rfl,hD,hbw⟩
end Go.Proofs.YtednjmldjbndhaaGreatDoor
