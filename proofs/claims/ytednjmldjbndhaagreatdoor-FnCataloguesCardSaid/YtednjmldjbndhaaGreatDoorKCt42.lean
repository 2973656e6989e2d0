/- AddEntry, the program's. Conditions: the lengths. -/
import Derived.Deep.RegionHeld3
import Derived.Test.YtednjmldjbndhaaGreatDoorKCt3
import Derived.Test.YtednjmldjbndhaaGreatDoorKCt30
set_option linter.unusedSimpArgs false
set_option linter.unusedVariables false
set_option maxRecDepth 100000
set_option maxHeartbeats 8000000
namespace Go.Proofs.YtednjmldjbndhaaGreatDoor
open Go.RowKit
theorem implAddEntry_c (A:Option Addr) (c:Nat) (es:List EnR) (e:En) (B:Option Addr) (d:Nat) (w:World) (E:EnsIn w A es) (hc:es.length ≤ c) (X:EnIn w B d e) :
  Calls Tryz.prog 7 #[.slice A es.length c,.agg (e.cells B d).toArray] w (PostEns (addR (ens es) e) (addC (ens es) e) w):=by
 have hl:=E.n
 have hlen:=ens_len es
 have hs:=Lib.hid E.s
 have hc':Hid (es.length ≤ c):=hc
 have B0:=Blk.new w 35 (e.cells B d).toArray
 have hW:Below w.heap.size w (w.alloc (.cells (e.cells B d).toArray 35)):=(by repeat first | with_reducible (first | exact Below.refl _ _ | apply below_drewN' | apply Below.drew | refine Below.alloc ?_ ?_ _ | refine Below.setCell ?_ ?_ _) | exact Below.refl _ _ | omega | (simp <;> omega) | (have:=(Below.refl _ _).size;first | omega | (simp <;> omega)))
 have HC:=Lib.hid (fun W (hW:Below w.heap.size w W)=>implIsCat_c A c es W (E.later hW) hc)
 have HE:=Lib.hid (fun W (hW:Below w.heap.size w W)=>isEntry_c A c es e B d W (E.later hW) (X.later hW))
 have HL:=Lib.hid (fun W (hW:Below w.heap.size w W)=>cloneEn_c A c es W (by omega) ((E.s.below hW).more hW.size))
 have hin:Hid (∀ x ∈ es ++ [⟨e,B,d⟩],x.In w):=Lib.hid (fun x hx=>by
  rcases List.mem_append.1 hx with h | h
  ·exact E.i x h
  ·obtain rfl:x=⟨e,B,d⟩:=by simpa using h
   exact X)
 have hR:=Lib.hid (addC_cases (l:=ens es) (e:=e))
 have hcl:(e.cells B d).length=20:=rfl
 have hone:=e.one B d
 have hone1:∀ y ∈ [e.cells B d],∀ u ∈ y,u.oneCell'=true:=fun y hy u hu=>by
  obtain rfl:y=e.cells B d:=by simpa using hy
  exact hone u hu
 have hrw:es.map EnR.cells ++ [e.cells B d]=(es ++ [(⟨e,B,d⟩:EnR)]).map EnR.cells:=by rw [List.map_append];rfl
 have hew:ens es ++ [e]=ens (es ++ [(⟨e,B,d⟩:EnR)]):=by unfold ens;rw [List.map_append];rfl
 obtain ⟨ii,hi,hz0,hz1,hz2⟩:=info_parts info_Entry
 have h12l:catB (ens es)=true→es.length ≤ 12:=fun h=>hlen ▸ catB_len h
 rw [hlen,hew] at hR
 clear E X hc hlen hew
 generalize addR (ens es) e=RR at *
 generalize addC (ens es) e=cd at *
 generalize entB (ens es) e=eb at *
 generalize catB (ens es)=cb at *
 generalize hxs:es ++ [⟨e,B,d⟩]=xs at *
 have hxl:xs.length=es.length+1:=by rw [← hxs];simp
 generalize e.cells B d=ce at *
 clear hxs
 cases cb with
 | false =>
  obtain ⟨rfl,rfl⟩:=hR.out.1 rfl
  go_enter Tryz.func7,Tryz.ntmps7
  go_wp2_with fail
  refine Calls.mono (HC.out _ hW) ?_;rintro x w1 ⟨rfl,hb1⟩
  replace B0:=B0.below hb1 B0.lt
  replace hW:=hW.trans (hb1.mono hW.size)
  clear hb1
  go_wp2
  go_ret2
  exact ⟨_,rfl,EnsOwn.nil _ _,hW⟩
 | true =>
 by_cases h12:es.length=12
 ·obtain ⟨rfl,rfl⟩:=hR.out.2.1 rfl (.inl h12)
  have h12':Hid ((es.length:Int)=12):=Lib.hid (by omega)
  clear h12
  go_enter Tryz.func7,Tryz.ntmps7
  go_wp2_with fail
  refine Calls.mono (HC.out _ hW) ?_;rintro x w1 ⟨rfl,hb1⟩
  replace B0:=B0.below hb1 B0.lt
  replace hW:=hW.trans (hb1.mono hW.size)
  clear hb1
  replace h12':=h12'.out
  go_wp2
  go_ret2
  exact ⟨_,rfl,EnsOwn.nil _ _,hW⟩
 have h12':Hid (((es.length:Int) == 12)=false):=Lib.hid (by simpa using (by omega:¬ (es.length:Int)=12))
 cases eb with
 | false =>
  obtain ⟨rfl,rfl⟩:=hR.out.2.1 rfl (.inr rfl)
  go_enter Tryz.func7,Tryz.ntmps7
  go_wp2_with fail
  refine Calls.mono (HC.out _ hW) ?_;rintro x w1 ⟨rfl,hb1⟩
  replace B0:=B0.below hb1 B0.lt
  replace hW:=hW.trans (hb1.mono hW.size)
  clear hb1
  have hr:=B0.range
  clear h12
  replace h12':=h12'.out
  go_wp2_with (first | (refine wpList_load_g (by rfl) 35 _ rfl (w.heap.size) 0 rfl (ce) _ hr Tryz.underlying35 rfl (by kernel_rfl) ?_) | fail)
  refine Calls.mono (HE.out _ hW) ?_;rintro x w1 ⟨rfl,hb1⟩
  replace B0:=B0.below hb1 B0.lt
  replace hW:=hW.trans (hb1.mono hW.size)
  clear hb1
  go_wp2
  go_ret2
  exact ⟨_,rfl,EnsOwn.nil _ _,hW⟩
 | true =>
 obtain ⟨rfl,rfl⟩:=hR.out.2.2 rfl h12 rfl
 clear hR
 have hl12:=h12l rfl
 clear h12l hl
 go_enter Tryz.func7,Tryz.ntmps7
 go_wp2_with fail
 refine Calls.mono (HC.out _ hW) ?_;rintro x w1 ⟨rfl,hb1⟩
 replace B0:=B0.below hb1 B0.lt
 replace hW:=hW.trans (hb1.mono hW.size)
 clear hb1
 have hr:=B0.range
 clear h12
 replace h12':=h12'.out
 go_wp2_with (first | (refine wpList_load_g (by rfl) 35 _ rfl (w.heap.size) 0 rfl (ce) _ hr Tryz.underlying35 rfl (by kernel_rfl) ?_) | fail)
 refine Calls.mono (HE.out _ hW) ?_;rintro x w2 ⟨rfl,hb1⟩
 replace B0:=B0.below hb1 B0.lt
 replace hW:=hW.trans (hb1.mono hW.size)
 clear hb1
 clear hr HC HE
 have L0:AdL w (ens xs) 0 [] (.slice (some ⟨w2.heap.size,0,none⟩) 0 0) (w2.alloc (.cells #[] 35)):=⟨(by repeat first | with_reducible (first | exact hW | apply below_drewN' | apply Below.drew | refine Below.alloc ?_ ?_ _ | refine Below.setCell ?_ ?_ _) | exact hW | omega | (simp <;> omega) | (have:=(hW).size;first | omega | (simp <;> omega))),rfl,Own.empty hW.size,by simp,by simp,List.Pairwise.nil,rfl⟩
 have hW2:Below w.heap.size w (w2.alloc (.cells #[] 35)):=(by repeat first | with_reducible (first | exact hW | apply below_drewN' | apply Below.drew | refine Below.alloc ?_ ?_ _ | refine Below.setCell ?_ ?_ _) | exact hW | omega | (simp <;> omega) | (have:=(hW).size;first | omega | (simp <;> omega)))
 replace B0:=B0.alloc (.cells #[] 35)
 clear hW
 go_wp2_with fail
 generalize hWW:w2.alloc (.cells #[] 35)=W at *
 have hws:w2.heap.size < W.heap.size:=by rw [← hWW];simp
 clear hWW
 have hBl:=B0.lt
 refine wp_region_all (fun a0 fL bA v=>∃ v24 v25 v26 v27 v28 v29 v30:Value,bA=((((((a0.put (some 24) v24).put (some 25) v25).put (some 26) v26).put (some 27) v27).put (some 28) v28).put (some 29) v29).put (some 30) v30∧(AdS W es.length (es.map EnR.cells) ce (fL 1) (fL 3) (fL 4) v25 v27 v28 v)∧(fL 0=true→v24=.slice A es.length c)∧(fL 1=true→True)∧(fL 2=true→v26=.agg ce.toArray)∧(fL 3=true→True)∧(fL 4=true→True)∧(fL 5=true→v29=.int .i64 ((es.length+1:Nat):Int))∧(fL 6=true→v30=.int .i64 0)) (by kernel_rfl) (by decide +kernel) ?_ ?_ ?_
 ·exact ⟨_,_,_,_,_,_,_,put_more (put_more (put_more (put_more (put_more (put_more (put_more (rfl) 24) 25) 26) 27) 28) 29) 30,⟨(Below.refl _ _).drew,nofun,nofun,nofun⟩,nofun,nofun,nofun,nofun,nofun,nofun,nofun⟩
 ·rintro fL bA v ⟨v24,v25,v26,v27,v28,v29,v30,rfl,hS,q0,q1,q2,q3,q4,q5,q6⟩ i hi hf o ho hall
  simp only [Act.put,List.setIfInBounds_toArray,List.set_cons_zero,List.set_cons_succ]
  simp only [List.length_cons,List.length_nil] at hi
  have hn:i=0 ∨ i=1 ∨ i=2 ∨ i=3 ∨ i=4 ∨ i=5 ∨ i=6:=by omega
  clear hi
  rcases hn with rfl | rfl | rfl | rfl | rfl | rfl | rfl
  ·obtain rfl:=Option.some.inj ho
   clear hall ho
   refine wpOp_step rfl (fun K hK=>?_)
   go_simp
   exact hK _ _ ⟨_,_,_,_,_,_,_,rfl,hS,fun _=>rfl,fun _=>trivial,q2,fun _=>trivial,fun _=>trivial,q5,q6⟩
  ·obtain rfl:=Option.some.inj ho
   obtain rfl:=q0 (hall ⟨0,.data⟩ (by simp) rfl)
   clear hall ho
   refine wpOp_step rfl (fun K hK=>?_)
   go_simp
   refine Calls.mono (HL.out v (hW2.trans (hS.hb.mono hW2.size))) ?_;rintro e w7 ⟨B7,d7,rfl,O7,hb7⟩
   go_simp
   exact hK _ _ ⟨_,_,_,_,_,_,_,rfl,⟨hS.hb.trans (hb7.mono hS.hb.size),fun _ _=>⟨B7,d7,rfl,O7.mono hS.hb.size⟩,fun e h4=>(hS.q3 e h4).elim fun g h=>⟨g,h.1,h.2.below hb7⟩,fun e=>absurd (hS.q4 e).1.1 (by rw [hf];simp)⟩,fun _=>rfl,fun _=>trivial,q2,fun _=>trivial,fun _=>trivial,q5,q6⟩
  ·obtain rfl:=Option.some.inj ho
   clear hall ho
   refine wpOp_step rfl (fun K hK=>?_)
   refine wp_load_mid 35 _ rfl w.heap.size 0 rfl ce _ (B0.below hS.hb hBl).range Tryz.underlying35 rfl (by rw [hcl];kernel_rfl) ?_
   exact hK _ _ ⟨_,_,_,_,_,_,_,rfl,hS,q0,fun _=>trivial,fun _=>rfl,fun _=>trivial,fun _=>trivial,q5,q6⟩
  ·obtain rfl:=Option.some.inj ho
   obtain rfl:=q2 (hall ⟨2,.data⟩ (by simp) rfl)
   clear hall ho
   refine wpOp_step rfl (fun K hK=>?_)
   refine wp_build_one 24 35 _ rfl ce 20 hcl (by decide) (by decide) rfl ii _ Tryz.underlying24 hi hz0 hz1 ?_
   exact hK _ _ ⟨_,_,_,_,_,_,_,rfl,⟨hS.hb.alloc hS.hb.size _,fun e h4=>(hS.q1 e h4).elim fun B h=>h.elim fun d h=>⟨B,d,h.1,h.2.alloc _⟩,fun _ _=>⟨v.heap.size,rfl,Own.lit1 hS.hb.size hcl⟩,fun e=>absurd (hS.q4 e).1.2 (by rw [hf];simp)⟩,q0,fun _=>trivial,fun _=>rfl,fun _=>trivial,fun _=>trivial,q5,q6⟩
  ·obtain rfl:=Option.some.inj ho
   have e1:fL 1=true:=hall ⟨1,.data⟩ (by simp) rfl
   have e3:fL 3=true:=hall ⟨3,.data⟩ (by simp) rfl
   obtain ⟨B7,d7,rfl,O7⟩:=hS.q1 e1 hf
   obtain ⟨g8,rfl,O8⟩:=hS.q3 e3 hf
   clear hall ho
   refine wpOp_step rfl (fun K hK=>?_)
   refine wp_append_rows _ (.tmp 25) (.tmp 27) _ rfl W.heap.size 35 ii _ 20 192 Tryz.underlying24 hi hz0 hz1 hz2 rfl (by omega) _ _ rfl O7 _ _ _ _ [ce] rfl rfl O8.sl hone1 (by simp [maxLen];omega) (by simp;omega) hS.hb.size ?_;intro v9 w9 hO9 hg9 hat9
   have hl9:(es.map EnR.cells ++ [ce]).length=es.length+1:=by simp
   obtain ⟨A9,c9,h9,_⟩:=hO9.form
   rw [hl9] at h9
   subst h9
   exact hK _ _ ⟨_,_,_,_,_,_,_,rfl,⟨below_app hS.hb hg9 hS.hb.size O7.ownGe,fun _ h=>absurd (show true=false from h) (by decide),fun _ h=>absurd (show true=false from h) (by decide),fun _=>⟨⟨e1,e3⟩,A9,c9,rfl,hO9⟩⟩,q0,fun _=>trivial,q2,fun _=>trivial,fun _=>trivial,q5,q6⟩
  ·obtain rfl:=Option.some.inj ho
   have e4:fL 4=true:=hall ⟨4,.data⟩ (by simp) rfl
   obtain ⟨_,B9,d9,rfl,O9⟩:=hS.q4 e4
   clear hall ho
   refine wpOp_step rfl (fun K hK=>?_)
   go_simp
   exact hK _ _ ⟨_,_,_,_,_,_,_,rfl,hS,q0,fun _=>trivial,q2,fun _=>trivial,fun _=>trivial,fun _=>rfl,q6⟩
  ·obtain rfl:=Option.some.inj ho
   clear hall ho
   refine wpOp_step rfl (fun K hK=>?_)
   go_simp
   exact hK _ _ ⟨_,_,_,_,_,_,_,rfl,hS,q0,fun _=>trivial,q2,fun _=>trivial,fun _=>trivial,q5,fun _=>rfl⟩
 ·rintro fL bA v ⟨v24,v25,v26,v27,v28,v29,v30,rfl,hS,q0,q1,q2,q3,q4,q5,q6⟩ hall
  simp only [Act.put,List.setIfInBounds_toArray,List.set_cons_zero,List.set_cons_succ]
  simp only [List.length_cons,List.length_nil] at hall
  obtain rfl:=q0 (hall 0 (by omega))
  have e1:fL 1=true:=hall 1 (by omega)
  obtain rfl:=q2 (hall 2 (by omega))
  have e3:fL 3=true:=hall 3 (by omega)
  have e4:fL 4=true:=hall 4 (by omega)
  obtain rfl:=q5 (hall 5 (by omega))
  obtain rfl:=q6 (hall 6 (by omega))
  clear hall
  obtain ⟨_,B9,d9,rfl,O9⟩:=hS.q4 e4
  have hb1:=hS.hb
  clear hS
  rw [hrw] at O9
  have L1:=L0.below hb1
  have hT0:(Value.slice B9 (es.length+1) d9).ownBlock=none ∨ (Value.slice B9 (es.length+1) d9).ownBlock ≠ (Value.slice (some ⟨w2.heap.size,0,none⟩) 0 0).ownBlock:=.inr (fun h=>by
   have h2:W.heap.size ≤ w2.heap.size:=O9.ownGe _ h
   omega)
  clear L0 hrw B0 hb1 HL hs hone hone1
  have hex:=Lib.hid (fun k (hk:k < xs.length)=>ens_get hk)
  have hxe:=ens_len xs
  go_wp2_with fail
  go_loopw [6,30] (fun o i wr=>∃ (k:Nat) (fs:List EnR),k ≤ es.length+1∧i=.int .i64 k∧AdL w (ens xs) k fs o wr∧Own wr W.heap.size 35 20 (.slice B9 (es.length+1) d9) (xs.map EnR.cells)∧((Value.slice B9 (es.length+1) d9).ownBlock=none ∨ (Value.slice B9 (es.length+1) d9).ownBlock ≠ o.ownBlock)) (fun _ i _=>es.length+1 - (intOf i).toNat)
  case atStart=>exact ⟨0,[],Nat.zero_le _,rfl,L1,O9,hT0⟩
  case round =>
   clear L1 O9 hT0
   obtain ⟨k,fs,hk,rfl,hL,hT,hne⟩:=hrel
   by_cases hlt:k < es.length+1
   ·have hkx:k < xs.length:=by omega
    obtain ⟨b,off,rfl,hbB,hc'⟩:=hT.sl.rg (i:=k) (by simpa using hkx)
    simp only [List.getElem_map] at hc'
    have hxin:=hin.out xs[k] (List.getElem_mem hkx)
    have hek:=Lib.hid (hex.out k hkx)
    have hcl2:xs[k].cells.length=20:=rfl
    have hrl:(xs[k].e.r.cells xs[k].A xs[k].c).length=17:=rfl
    have hon:∀ v ∈ xs[k].cells,v.oneCell'=true:=xs[k].e.one xs[k].A xs[k].c
    have D0:=Blk.new wr 35 xs[k].cells.toArray
    obtain ⟨_,_,x2,_⟩:=Blk.en (e:=xs[k].e) D0
    have hbw:Below wr.heap.size wr (wr.alloc (.cells xs[k].cells.toArray 35)):=(Below.refl _ _).alloc (Nat.le_refl _) _
    have hW3:=hL.hb.trans (hbw.mono hL.hb.size)
    have hcall:=Lib.hid (ownRelease_c xs[k].e.r xs[k].A xs[k].c _ hxin.r.h (((hxin.r.later hW3).s)))
    have hsp:∀ X Y,(⟨xs[k].e,X,Y⟩:EnR).cells=[.string xs[k].e.ti,.int .i64 xs[k].e.ve] ++ xs[k].e.r.cells X Y ++ [.int .i64 xs[k].e.ba]:=fun X Y=>rfl
    have hsp0:xs[k].cells=[.string xs[k].e.ti,.int .i64 xs[k].e.ve] ++ xs[k].e.r.cells xs[k].A xs[k].c ++ [.int .i64 xs[k].e.ba]:=rfl
    have hon2:=fun X Y=>xs[k].e.one X Y
    have hon3:=fun X Y=>xs[k].e.r.one X Y
    have hlen2:=fun X Y=>xs[k].e.len X Y
    have hlen3:=fun X Y=>xs[k].e.r.len X Y
    replace hsp:=Lib.hid hsp
    replace hsp0:=Lib.hid hsp0
    replace hon2:=Lib.hid hon2
    replace hon3:=Lib.hid hon3
    replace hlen2:=Lib.hid hlen2
    replace hlen3:=Lib.hid hlen3
    have hVlt:=Lib.hid hL.o.1.lt
    have hTlt:=Lib.hid hT.1.lt
    have hflt:Hid (∀ f ∈ fs,∀ b,f.sl.ownBlock=some b→b < wr.heap.size):=Lib.hid (fun f hf b hb=>((hL.p f hf).1.lt b hb).2)
    have hwsz:=hL.hb.size
    have hfk:=hL.fk
    replace hL:=hL.below hbw
    replace hT:=hT.below hbw
    generalize xs[k].e.r.cells xs[k].A xs[k].c=rc at *
    generalize xs[k].cells=cs at *
    go_wp2_with (first | (refine wpList_load_mid rfl 35 _ rfl (b) (off+k * 20) rfl (cs) _ hc' Tryz.underlying35 rfl (by kernel_rfl) ?_) | (refine wpList_store_new rfl _ _ rfl cs rfl rfl (by rw [hcl2];kernel_rfl) (by rw [hcl2];rfl) hon ?_) | (refine wpList_load_mid rfl 33 _ rfl wr.heap.size 2 rfl rc _ x2 Tryz.underlying33 rfl (by rw [hrl];kernel_rfl) ?_) | fail)
    refine Calls.mono hcall.out ?_;rintro x w4 ⟨B2,d2,rfl,O2,hb2⟩
    replace hL:=hL.below hb2
    replace hT:=hT.below hb2
    have hsz4:=D0.lt
    replace D0:=D0.below hb2 D0.lt
    have hge2:∀ g,(Value.slice B2 xs[k].e.r.l.length d2).ownBlock=some g→wr.heap.size+1 ≤ g:=fun g h=>by have:=O2.ownGe g h;simpa using this
    replace O2:=O2.mono (base':=wr.heap.size+1) (by simp)
    have hrbl:=hlen3.out B2 d2
    have hrbo:=hon3.out B2 d2
    have hel:(⟨xs[k].e,B2,d2⟩:EnR).cells.length=20:=hlen2.out B2 d2
    have heo:∀ v ∈ (⟨xs[k].e,B2,d2⟩:EnR).cells,v.oneCell'=true:=hon2.out B2 d2
    have hecs:=Lib.hid (hsp.out B2 d2)
    have hcl3:2+17 ≤ cs.length:=by rw [hcl2];omega
    generalize hec:(⟨xs[k].e,B2,d2⟩:EnR).cells=ec at *
    replace hec:=Lib.hid hec
    generalize xs[k].e.r.cells B2 d2=rb at *
    clear hcall hb2 hbw hc' x2 hW3
    go_wp2_with (refine wpList_store_part rfl 33 _ _ rfl wr.heap.size 2 rb rfl rfl D0 (by rw [hrbl];exact hcl3) (by rw [hrbl];kernel_rfl) hrbo ?_;intro w5 hg5 D5;refine Hid.out ?_)
    refine Lib.hid ?_
    have D6:Blk w5 wr.heap.size 35 ec.toArray:=by
     have h:=fill_mid rb rc [.string xs[k].e.ti,.int .i64 xs[k].e.ve] [.int .i64 xs[k].e.ba] (by rw [hrl,hrbl])
     rw [hecs.out,← h]
     rw [hsp0.out] at D5
     exact D5
    have hL5:=hL.grown hg5 hwsz (fun h=>by have:=(hVlt.out _ h).2;omega) (fun f hf h=>by have:=hflt.out f hf _ h;omega)
    have hT5:=hT.kept hg5 (.inr (fun h=>by have:=(hTlt.out _ h).2;omega))
    have O5:=O2.kept hg5 (.inr (fun h=>by have:=hge2 _ h;omega))
    have hr5:=D6.range
    have OL:=Own.lit1 (w:=w5) (base:=w.heap.size) (e:=35) (k:=20) (cs:=ec) hL5.hb.size hel
    have hL6:=hL5.below ((Below.refl _ _).alloc (Nat.le_refl _) (.cells ec.toArray 35))
    have hT6:=hT5.alloc (.cells ec.toArray 35)
    have O6:=O5.alloc (.cells ec.toArray 35)
    have hone5:∀ y ∈ [ec],∀ u ∈ y,u.oneCell'=true:=fun y hy u hu=>by
     obtain rfl:y=ec:=by simpa using hy
     exact heo u hu
    clear hL hT D0 D5 O2 hL5 hT5 O5 D6 hg5
    go_wp2_with (first | (refine wpList_load_mid rfl 35 _ rfl (wr.heap.size) 0 rfl (ec) _ hr5 Tryz.underlying35 rfl (by kernel_rfl) ?_) | (refine wpList_build_one rfl 24 35 _ rfl ec 20 hel (by decide) (by decide) rfl ii _ Tryz.underlying24 hi hz0 hz1 ?_) | (at_builtin;refine wpList_append_rows _ rfl _ _ _ rfl w.heap.size 35 ii _ 20 192 Tryz.underlying24 hi hz0 hz1 hz2 rfl (by omega) _ _ rfl hL6.o _ _ _ _ [ec] rfl rfl OL.sl hone5 (by simp [maxLen];omega) (by simp;omega) hL6.hb.size ?_;intro v9 w9 hO9 hg9 hat9))
    rw [← hec.out] at hO9
    have hL9:=hL6.app (f:=⟨xs[k].e,B2,d2⟩) (by omega) hek.out.symm ⟨hxin.t,hxin.r.h,hxin.r.hn,O6.sl⟩ (O6.mono (by omega)) (fun b h h2=>by have h3:=hge2 b h;have h4:=(hVlt.out _ h2).2;omega) (fun x hx g h1 h2=>by have h3:=hflt.out x hx _ h1;have h4:=hge2 g h2;omega) hg9 hO9 hat9
    have hT9:=hT6.kept hg9 hne
    have hne9:(Value.slice (some ⟨b,off,none⟩) (es.length+1) d9).ownBlock=none ∨ (Value.slice (some ⟨b,off,none⟩) (es.length+1) d9).ownBlock ≠ v9.ownBlock:=by
     rcases hat9 with e9 | e9
     ·rw [e9];exact hne
     ·refine .inr (fun h=>?_)
      rw [e9] at h
      have:=(hT6.1.lt _ h).2
      omega
    go_roundw
    case rel=>exact ⟨k+1,fs ++ [⟨xs[k].e,B2,d2⟩],by omega,by go_num,hL9,hT9,hne9⟩
    case measure=>simp [intOf];omega
   ·have hk8:¬ ((k:Int) < (es.length:Int)+1):=by omega
    clear hT hne
    have hk9:k=(ens xs).length:=by omega
    rw [hk9] at hL
    have hD:=hL.done (by omega)
    have hbw:=hL.hb
    obtain ⟨A9,c9,hv9,_⟩:=hL.o.form
    rw [List.length_map] at hv9
    subst hv9
    clear hL
    go_wp2
    go_ret2
    exact ⟨_,rfl,hD,hbw⟩
end Go.Proofs.YtednjmldjbndhaaGreatDoor
