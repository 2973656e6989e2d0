/- Whether moves are a plan of a chain: the reference. Conditions: the rule, the chain and the moves are valid. -/
import Derived.Test.YtednjmldjbndhaaGreatKGr40
set_option linter.unusedSimpArgs false
set_option linter.unusedVariables false
set_option maxRecDepth 100000
set_option maxHeartbeats 8000000
namespace Go.Proofs.YtednjmldjbndhaaGreat
open Go.RowKit
theorem l14Sum_c (A3:Option Addr) (c3:Nat) (l3:List Term) (w:World) (T:ChOK w A3 c3 l3) :
  Calls Tryz.prog 126 #[.slice A3 l3.length c3] w fun e w'=>e=.returned (.int .i64 (sumP l3 l3.length))∧Below w.heap.size w w':=by
 have HP:=Lib.hid (fun d t W (h:1000 ≤ d∧d ≤ 9999)=>l14Point_c d t W h)
 have hall:=Lib.hid T.a
 have hs3:=Lib.hid T.s
 have hn3:=T.n
 have hbd:=Lib.hid (fun k hk=>sumP_bd T.a k hk)
 have hnx:=Lib.hid (fun k hk=>sumP_succ l3 (k:=k) hk)
 have hs0:sumP l3 0=0:=rfl
 clear T
 go_enter Tryz.func126,Tryz.ntmps126
 go_wp2_with fail
 go_loopw [3,4] (fun o i wr=>∃ k:Nat,k ≤ l3.length∧i=.int .i64 k∧o=.int .i64 (sumP l3 k)∧Below w.heap.size w wr) (fun _ i _=>l3.length - (intOf i).toNat)
 case atStart=>exact ⟨0,Nat.zero_le _,rfl,by rw [hs0],Below.refl _ _⟩
 case round =>
  clear hs0
  obtain ⟨k,hk,rfl,rfl,hB⟩:=hrel
  obtain ⟨hb1,hb2⟩:=hbd.out k hk
  by_cases hlt:k < l3.length
  ·obtain ⟨bt,off,rfl,hbB,hc⟩:=(hs3.out.below hB).at_ (i:=k) (by rw [List.length_map];exact hlt)
   simp only [List.getElem_map] at hc
   have htm:=(fig_bd (List.all_eq_true.1 hall.out l3[k] (List.getElem_mem hlt))).1
   have hnk:=hnx.out k hlt
   simp only [Term.fig] at htm
   unfold ptT at hnk
   generalize l3[k]=tm at *
   obtain ⟨d,tn,dv⟩:=tm
   simp only at htm hnk
   have y0:wr.cell? ⟨bt,off+k * 3,none⟩=some (.int .i64 d):=hc 0 _ rfl
   have y1:wr.cell? ⟨bt,off+k * 3+1,none⟩=some (.int .i64 tn):=hc 1 _ rfl
   have y2:wr.cell? ⟨bt,off+k * 3+2,none⟩=some (.bool dv):=hc 2 _ rfl
   have hcall:=Lib.hid (HP.out d tn wr htm)
   have hpb:=pointC_bd htm
   generalize pointC d=pd at *
   generalize hsk:sumP l3 k=sk at *
   have Hnk:=Lib.hid hnk
   clear hc hnk hsk
   cases dv with
   | true =>
    go_wp2_with fail
    refine Calls.mono hcall.out ?_;rintro e w5 ⟨rfl,hb5⟩
    have hB3:=hB.trans (hb5.mono hB.size)
    clear hB hb5 y0 y1 y2 hcall
    go_wp2_with fail
    go_roundw
    case rel=>exact ⟨k+1,by omega,by go_num,by rw [Hnk.out];simp;omega,hB3⟩
    case measure=>simp [intOf];omega
   | false =>
    go_wp2_with fail
    refine Calls.mono hcall.out ?_;rintro e w5 ⟨rfl,hb5⟩
    have hB3:=hB.trans (hb5.mono hB.size)
    clear hB hb5 y0 y1 y2 hcall
    go_wp2_with fail
    go_roundw
    case rel=>exact ⟨k+1,by omega,by go_num,by rw [Hnk.out];simp,hB3⟩
    case measure=>simp [intOf];omega
  ·have hke:k=l3.length:=by omega
   subst hke
   go_wp2
   go_ret
   exact ⟨rfl,hB⟩
structure IpS (W:World) (v:World):Prop where
 hb:Below W.heap.size W v
theorem specIsPlanFor_c (L:Int) (A1:Option Addr) (c1:Nat) (l1:List Int) (A2:Option Addr) (c2:Nat) (l2:List Int) (A3:Option Addr) (c3:Nat) (l3:List Term) (A:Option Addr) (c:Nat) (l:List Move) (w:World) (R:RuOK w L A1 c1 l1 A2 c2 l2) (T:ChOK w A3 c3 l3) (hp:planCode L l1 l2 l3=0) (M:MvOK w A l) :
  Calls Tryz.prog 67 #[.agg #[.int .i64 L,.slice A1 l1.length c1,.slice A2 l2.length c2],.slice A3 l3.length c3,.slice A l.length c] w fun e w'=>e=.returned (.tuple #[.bool (planB l1 l2 l3 l),.int .i64 0])∧Below w.heap.size w w':=by
 have hW:Below w.heap.size w (w.alloc (.cells #[.int .i64 L,.slice A1 l1.length c1,.slice A2 l2.length c2] 26)):=(by repeat first | with_reducible (first | exact Below.refl _ _ | apply below_drewN' | apply Below.drew | refine Below.alloc ?_ ?_ _ | refine Below.setCell ?_ ?_ _) | exact Below.refl _ _ | omega | (simp <;> omega) | (have:=(Below.refl _ _).size;first | omega | (simp <;> omega)))
 have B0:=Blk.new w 26 #[.int .i64 L,.slice A1 l1.length c1,.slice A2 l2.length c2]
 have HC:=Lib.hid (have Q:=R.later hW;l14Code_c L A1 c1 l1 A2 c2 l2 A3 c3 l3 _ Q.h1 Q.h2 (by have:=T.n;omega) Q.k1 Q.k2 Q.s1 Q.s2 (T.later hW).s)
 rw [hp] at HC
 have HA:=fun W (h:Below w.heap.size w W)=>Lib.hid (specAreMoves_c A c l W (by have:=M.n;omega) (M.later h).s)
 rw [show movesB l=true from by unfold movesB;rw [M.a,decide_eq_true M.n];rfl] at HA
 have HA:=Lib.hid HA
 have HM:=fun W (h:Below w.heap.size w W)=>have Q:=R.later h;l12Run_c L A1 c1 l1 A2 c2 l2 0 0 A c l W (by decide) M.a M.n Q.h1 Q.h2 Q.s1 Q.s2 (M.later h).s
 have HS:=Lib.hid (fun W (h:Below w.heap.size w W)=>l14Sum_c A3 c3 l3 W (T.later h))
 have hsb:=sumP_bd T.a l3.length (Nat.le_refl _)
 have hn3:=T.n
 have hrs:=runR_cu l1 l2 l (0,0) (by decide) M.a
 have hle:=runR_le l1 l2 l (0,0)
 clear R T M
 unfold planB
 generalize runR l1 l2 (0,0) l=rr at *
 obtain ⟨⟨ra,rb⟩,n⟩:=rr
 simp only at HM hrs hle ⊢
 generalize sumP l3 l3.length=sm at *
 obtain ⟨hs1,hs2⟩:=hsb
 obtain ⟨hr1,hr2⟩:=hrs
 by_cases hn:n=l.length
 all_goals
  first | rw [decide_eq_true hn] | rw [decide_eq_false hn]
  first | simp only [if_pos hn] at HM | simp only [if_neg hn] at HM
  simp only [Bool.true_and,Bool.false_and]
  have HM:=Lib.hid HM
  have Hn:=Lib.hid hn
  have Hle:=Lib.hid hle
  clear hn hle
  go_enter Tryz.func67,Tryz.ntmps67
  go_wp2_with fail
  generalize (w.alloc (.cells #[.int .i64 L,.slice A1 l1.length c1,.slice A2 l2.length c2] 26))=W at *
  refine Calls.mono HC.out ?_;rintro e w1 ⟨rfl,hb1⟩
  have hW1:=hW.trans (hb1.mono hW.size)
  have C0:=B0.below hb1 B0.lt
  clear B0 hW hb1 HC
  go_wp2_with fail
  refine Calls.mono (HA.out w1 hW1).out ?_;rintro e w2 ⟨rfl,hb2⟩
  have hW2:=hW1.trans (hb2.mono hW1.size)
  have D0:=C0.below hb2 C0.lt
  have r0:w2.cell? ⟨w.heap.size,0,none⟩=some (.int .i64 L):=D0.cell 0
  have r1:w2.cell? ⟨w.heap.size,1,none⟩=some (.slice A1 l1.length c1):=D0.cell 1
  have r2:w2.cell? ⟨w.heap.size,2,none⟩=some (.slice A2 l2.length c2):=D0.cell 2
  clear C0 hW1 hb2 HA
  go_wp2_with fail
  refine Calls.mono (HM.out w2 hW2) ?_;rintro e w3 ⟨rfl,hb3⟩
  have hW3:=hW2.trans (hb3.mono hW2.size)
  have D9:=Blk.new w3 104 #[.int .i64 ra,.int .i64 rb]
  have hW4:Below w.heap.size w (w3.alloc (.cells #[.int .i64 ra,.int .i64 rb] 104)):=(by repeat first | with_reducible (first | exact hW3 | apply below_drewN' | apply Below.drew | refine Below.alloc ?_ ?_ _ | refine Below.setCell ?_ ?_ _) | exact hW3 | omega | (simp <;> omega) | (have:=(hW3).size;first | omega | (simp <;> omega)))
  clear r0 r1 r2 D0 hW2 hb3 HM hW3
  go_wp2_with fail
  generalize w3.alloc (.cells #[.int .i64 ra,.int .i64 rb] 104)=w4 at *
  generalize w3.heap.size=g9 at *
 ·have hg:((-1:Int) < 0):=by decide
  refine wp_region_all (fun a0 fL bA v=>∃ v27 v28 v29 v30 v31 v32 v33 v34 v35 v36 v37 v6 v7:Value,bA=((((((((((((a0.put (some 27) v27).put (some 28) v28).put (some 29) v29).put (some 30) v30).put (some 31) v31).put (some 32) v32).put (some 33) v33).put (some 34) v34).put (some 35) v35).put (some 36) v36).put (some 37) v37).put (some 6) v6).put (some 7) v7∧(IpS w4 v)∧(fL 0=true→v27=.int .i64 (-1))∧(fL 1=true→v28=.bool true)∧(fL 2=true→v29=.bool true)∧(fL 3=true→v30=.pointer (some ⟨g9,1,none⟩))∧(fL 4=true→v31=.int .i64 rb)∧(fL 5=true→v32=.slice A3 l3.length c3)∧(fL 6=true→v33=.int .i64 sm)∧(fL 7=true→v34=.int .i64 (rb - sm))∧(fL 8=true→v35=.int .i64 ((rb - sm) % 1048576))∧(fL 9=true→v36=.bool ((rb - sm) % 1048576 == 0))∧(fL 10=true→v37=.bool ((rb - sm) % 1048576 == 0))∧(fL 11=true→v6=.bool ((rb - sm) % 1048576 == 0))∧(fL 12=true→v7=.int .i64 0)) (by kernel_rfl) (by decide +kernel) ?_ ?_ ?_
  ·exact ⟨_,_,_,_,_,_,_,_,_,_,_,_,_,put_more (put_more (put_more (put_more (put_more (put_more (put_more (put_more (put_more (put_more (put_more (put_more (put_more (rfl) 27) 28) 29) 30) 31) 32) 33) 34) 35) 36) 37) 6) 7,⟨(Below.refl _ _).drew⟩,nofun,nofun,nofun,nofun,nofun,nofun,nofun,nofun,nofun,nofun,nofun,nofun,nofun⟩
  ·rintro fL bA v ⟨v27,v28,v29,v30,v31,v32,v33,v34,v35,v36,v37,v6,v7,rfl,hS,q0,q1,q2,q3,q4,q5,q6,q7,q8,q9,q10,q11,q12⟩ i hi hf o ho hall
   simp only [Act.put,List.setIfInBounds_toArray,List.set_cons_zero,List.set_cons_succ]
   simp only [List.length_cons,List.length_nil] at hi
   have hn:i=0 ∨ i=1 ∨ i=2 ∨ i=3 ∨ i=4 ∨ i=5 ∨ i=6 ∨ i=7 ∨ i=8 ∨ i=9 ∨ i=10 ∨ i=11 ∨ i=12:=by omega
   clear hi
   rcases hn with rfl | rfl | rfl | rfl | rfl | rfl | rfl | rfl | rfl | rfl | rfl | rfl | rfl
   ·obtain rfl:=Option.some.inj ho
    clear hall ho
    refine wpOp_step rfl (fun K hK=>?_)
    go_simp
    exact hK _ _ ⟨_,_,_,_,_,_,_,_,_,_,_,_,_,rfl,hS,fun _=>rfl,q1,q2,q3,q4,q5,q6,q7,q8,q9,q10,q11,q12⟩
   ·obtain rfl:=Option.some.inj ho
    obtain rfl:=q0 (hall ⟨0,.data⟩ (by simp) rfl)
    clear hall ho
    refine wpOp_step rfl (fun K hK=>?_)
    go_simp
    exact hK _ _ ⟨_,_,_,_,_,_,_,_,_,_,_,_,_,rfl,hS,fun _=>rfl,fun _=>rfl,q2,q3,q4,q5,q6,q7,q8,q9,q10,q11,q12⟩
   ·obtain rfl:=Option.some.inj ho
    obtain rfl:=q1 (hall ⟨1,.data⟩ (by simp) rfl)
    clear hall ho
    refine wpOp_step rfl (fun K hK=>?_)
    go_simp
    exact hK _ _ ⟨_,_,_,_,_,_,_,_,_,_,_,_,_,rfl,hS,q0,fun _=>rfl,fun _=>rfl,q3,q4,q5,q6,q7,q8,q9,q10,q11,q12⟩
   ·obtain rfl:=Option.some.inj ho
    obtain rfl:=q2 (hall ⟨2,.guard⟩ (by simp) rfl)
    clear hall ho
    refine wpOp_step rfl (fun K hK=>?_)
    go_simp
    exact hK _ _ ⟨_,_,_,_,_,_,_,_,_,_,_,_,_,rfl,hS,q0,q1,fun _=>rfl,fun _=>rfl,q4,q5,q6,q7,q8,q9,q10,q11,q12⟩
   ·obtain rfl:=Option.some.inj ho
    obtain rfl:=q3 (hall ⟨3,.data⟩ (by simp) rfl)
    obtain rfl:=q2 (hall ⟨2,.guard⟩ (by simp) rfl)
    have y1:v.cell? ⟨g9,1,none⟩=some (.int .i64 rb):=(D9.below hS.hb D9.lt).cell 1
    clear hall ho
    refine wpOp_step rfl (fun K hK=>?_)
    go_simp
    exact hK _ _ ⟨_,_,_,_,_,_,_,_,_,_,_,_,_,rfl,hS,q0,q1,fun _=>rfl,fun _=>rfl,fun _=>rfl,q5,q6,q7,q8,q9,q10,q11,q12⟩
   ·obtain rfl:=Option.some.inj ho
    obtain rfl:=q2 (hall ⟨2,.guard⟩ (by simp) rfl)
    clear hall ho
    refine wpOp_step rfl (fun K hK=>?_)
    go_simp
    exact hK _ _ ⟨_,_,_,_,_,_,_,_,_,_,_,_,_,rfl,hS,q0,q1,fun _=>rfl,q3,q4,fun _=>rfl,q6,q7,q8,q9,q10,q11,q12⟩
   ·obtain rfl:=Option.some.inj ho
    obtain rfl:=q5 (hall ⟨5,.data⟩ (by simp) rfl)
    obtain rfl:=q2 (hall ⟨2,.guard⟩ (by simp) rfl)
    clear hall ho
    refine wpOp_step rfl (fun K hK=>?_)
    go_simp
    refine Calls.mono (HS.out v (hW4.trans (hS.hb.mono hW4.size))) ?_;rintro e w5 ⟨rfl,hb5⟩
    go_simp
    exact hK _ _ ⟨_,_,_,_,_,_,_,_,_,_,_,_,_,rfl,⟨hS.hb.trans (hb5.mono hS.hb.size)⟩,q0,q1,fun _=>rfl,q3,q4,fun _=>rfl,fun _=>rfl,q7,q8,q9,q10,q11,q12⟩
   ·obtain rfl:=Option.some.inj ho
    obtain rfl:=q4 (hall ⟨4,.data⟩ (by simp) rfl)
    obtain rfl:=q6 (hall ⟨6,.data⟩ (by simp) rfl)
    obtain rfl:=q2 (hall ⟨2,.guard⟩ (by simp) rfl)
    have hw:IntKind.i64.wrap (rb - sm)=rb - sm:=IntWalk.i64_in _ (by omega)
    clear hall ho
    refine wpOp_step rfl (fun K hK=>?_)
    go_simp
    exact hK _ _ ⟨_,_,_,_,_,_,_,_,_,_,_,_,_,rfl,hS,q0,q1,fun _=>rfl,q3,fun _=>rfl,q5,fun _=>rfl,fun _=>rfl,q8,q9,q10,q11,q12⟩
   ·obtain rfl:=Option.some.inj ho
    obtain rfl:=q7 (hall ⟨7,.data⟩ (by simp) rfl)
    obtain rfl:=q2 (hall ⟨2,.guard⟩ (by simp) rfl)
    clear hall ho
    refine wpOp_step rfl (fun K hK=>?_)
    go_simp
    refine Calls.mono (l01Mod_c (rb - sm) 1048576 v (by omega) (by omega)) ?_;rintro e w5 ⟨rfl,rfl⟩
    go_simp
    exact hK _ _ ⟨_,_,_,_,_,_,_,_,_,_,_,_,_,rfl,hS,q0,q1,fun _=>rfl,q3,q4,q5,q6,fun _=>rfl,fun _=>rfl,q9,q10,q11,q12⟩
   ·obtain rfl:=Option.some.inj ho
    obtain rfl:=q8 (hall ⟨8,.data⟩ (by simp) rfl)
    obtain rfl:=q2 (hall ⟨2,.guard⟩ (by simp) rfl)
    clear hall ho
    refine wpOp_step rfl (fun K hK=>?_)
    go_simp
    exact hK _ _ ⟨_,_,_,_,_,_,_,_,_,_,_,_,_,rfl,hS,q0,q1,fun _=>rfl,q3,q4,q5,q6,q7,fun _=>rfl,fun _=>rfl,q10,q11,q12⟩
   ·obtain rfl:=Option.some.inj ho
    obtain rfl:=q2 (hall ⟨2,.data⟩ (by simp) rfl)
    obtain rfl:=q9 (hall ⟨9,.data⟩ (by simp) rfl)
    clear hall ho
    refine wpOp_step rfl (fun K hK=>?_)
    go_simp
    exact hK _ _ ⟨_,_,_,_,_,_,_,_,_,_,_,_,_,rfl,hS,q0,q1,fun _=>rfl,q3,q4,q5,q6,q7,q8,fun _=>rfl,fun _=>rfl,q11,q12⟩
   ·obtain rfl:=Option.some.inj ho
    obtain rfl:=q10 (hall ⟨10,.data⟩ (by simp) rfl)
    clear hall ho
    refine wpOp_step rfl (fun K hK=>?_)
    go_simp
    exact hK _ _ ⟨_,_,_,_,_,_,_,_,_,_,_,_,_,rfl,hS,q0,q1,q2,q3,q4,q5,q6,q7,q8,q9,fun _=>rfl,fun _=>rfl,q12⟩
   ·obtain rfl:=Option.some.inj ho
    clear hall ho
    refine wpOp_step rfl (fun K hK=>?_)
    go_simp
    exact hK _ _ ⟨_,_,_,_,_,_,_,_,_,_,_,_,_,rfl,hS,q0,q1,q2,q3,q4,q5,q6,q7,q8,q9,q10,q11,fun _=>rfl⟩
  ·rintro fL bA v ⟨v27,v28,v29,v30,v31,v32,v33,v34,v35,v36,v37,v6,v7,rfl,hS,q0,q1,q2,q3,q4,q5,q6,q7,q8,q9,q10,q11,q12⟩ hall
   simp only [Act.put,List.setIfInBounds_toArray,List.set_cons_zero,List.set_cons_succ]
   simp only [List.length_cons,List.length_nil] at hall
   obtain rfl:=q0 (hall 0 (by omega))
   obtain rfl:=q1 (hall 1 (by omega))
   obtain rfl:=q2 (hall 2 (by omega))
   obtain rfl:=q3 (hall 3 (by omega))
   obtain rfl:=q4 (hall 4 (by omega))
   obtain rfl:=q5 (hall 5 (by omega))
   obtain rfl:=q6 (hall 6 (by omega))
   obtain rfl:=q7 (hall 7 (by omega))
   obtain rfl:=q8 (hall 8 (by omega))
   obtain rfl:=q9 (hall 9 (by omega))
   obtain rfl:=q10 (hall 10 (by omega))
   obtain rfl:=q11 (hall 11 (by omega))
   obtain rfl:=q12 (hall 12 (by omega))
   clear hall
   have hB:=hW4.trans (hS.hb.mono hW4.size)
   go_wp2
   go_ret2
   exact ⟨rfl,hB⟩
 ·have hg:¬ ((n:Int) < 0):=by omega
  refine wp_region_all (fun a0 fL bA v=>∃ v27 v28 v29 v30 v31 v32 v33 v34 v35 v36 v37 v6 v7:Value,bA=((((((((((((a0.put (some 27) v27).put (some 28) v28).put (some 29) v29).put (some 30) v30).put (some 31) v31).put (some 32) v32).put (some 33) v33).put (some 34) v34).put (some 35) v35).put (some 36) v36).put (some 37) v37).put (some 6) v6).put (some 7) v7∧(IpS w4 v)∧(fL 0=true→v27=.int .i64 n)∧(fL 1=true→v28=.bool false)∧(fL 2=true→v29=.bool false)∧(fL 3=true→v30=undef)∧(fL 4=true→v31=undef)∧(fL 5=true→v32=undef)∧(fL 6=true→v33=undef)∧(fL 7=true→v34=undef)∧(fL 8=true→v35=undef)∧(fL 9=true→v36=undef)∧(fL 10=true→v37=.bool false)∧(fL 11=true→v6=.bool false)∧(fL 12=true→v7=.int .i64 0)) (by kernel_rfl) (by decide +kernel) ?_ ?_ ?_
  ·exact ⟨_,_,_,_,_,_,_,_,_,_,_,_,_,put_more (put_more (put_more (put_more (put_more (put_more (put_more (put_more (put_more (put_more (put_more (put_more (put_more (rfl) 27) 28) 29) 30) 31) 32) 33) 34) 35) 36) 37) 6) 7,⟨(Below.refl _ _).drew⟩,nofun,nofun,nofun,nofun,nofun,nofun,nofun,nofun,nofun,nofun,nofun,nofun,nofun⟩
  ·rintro fL bA v ⟨v27,v28,v29,v30,v31,v32,v33,v34,v35,v36,v37,v6,v7,rfl,hS,q0,q1,q2,q3,q4,q5,q6,q7,q8,q9,q10,q11,q12⟩ i hi hf o ho hall
   simp only [Act.put,List.setIfInBounds_toArray,List.set_cons_zero,List.set_cons_succ]
   simp only [List.length_cons,List.length_nil] at hi
   have hn:i=0 ∨ i=1 ∨ i=2 ∨ i=3 ∨ i=4 ∨ i=5 ∨ i=6 ∨ i=7 ∨ i=8 ∨ i=9 ∨ i=10 ∨ i=11 ∨ i=12:=by omega
   clear hi
   rcases hn with rfl | rfl | rfl | rfl | rfl | rfl | rfl | rfl | rfl | rfl | rfl | rfl | rfl
   ·obtain rfl:=Option.some.inj ho
    clear hall ho
    refine wpOp_step rfl (fun K hK=>?_)
    go_simp
    exact hK _ _ ⟨_,_,_,_,_,_,_,_,_,_,_,_,_,rfl,hS,fun _=>rfl,q1,q2,q3,q4,q5,q6,q7,q8,q9,q10,q11,q12⟩
   ·obtain rfl:=Option.some.inj ho
    obtain rfl:=q0 (hall ⟨0,.data⟩ (by simp) rfl)
    clear hall ho
    refine wpOp_step rfl (fun K hK=>?_)
    go_simp
    exact hK _ _ ⟨_,_,_,_,_,_,_,_,_,_,_,_,_,rfl,hS,fun _=>rfl,fun _=>rfl,q2,q3,q4,q5,q6,q7,q8,q9,q10,q11,q12⟩
   ·obtain rfl:=Option.some.inj ho
    obtain rfl:=q1 (hall ⟨1,.data⟩ (by simp) rfl)
    clear hall ho
    refine wpOp_step rfl (fun K hK=>?_)
    go_simp
    exact hK _ _ ⟨_,_,_,_,_,_,_,_,_,_,_,_,_,rfl,hS,q0,fun _=>rfl,fun _=>rfl,q3,q4,q5,q6,q7,q8,q9,q10,q11,q12⟩
   ·obtain rfl:=Option.some.inj ho
    obtain rfl:=q2 (hall ⟨2,.guard⟩ (by simp) rfl)
    clear hall ho
    refine wpOp_step rfl (fun K hK=>?_)
    go_simp
    exact hK _ _ ⟨_,_,_,_,_,_,_,_,_,_,_,_,_,rfl,hS,q0,q1,fun _=>rfl,fun _=>rfl,q4,q5,q6,q7,q8,q9,q10,q11,q12⟩
   ·obtain rfl:=Option.some.inj ho
    obtain rfl:=q3 (hall ⟨3,.data⟩ (by simp) rfl)
    obtain rfl:=q2 (hall ⟨2,.guard⟩ (by simp) rfl)
    clear hall ho
    refine wpOp_step rfl (fun K hK=>?_)
    go_simp
    exact hK _ _ ⟨_,_,_,_,_,_,_,_,_,_,_,_,_,rfl,hS,q0,q1,fun _=>rfl,fun _=>rfl,fun _=>rfl,q5,q6,q7,q8,q9,q10,q11,q12⟩
   ·obtain rfl:=Option.some.inj ho
    obtain rfl:=q2 (hall ⟨2,.guard⟩ (by simp) rfl)
    clear hall ho
    refine wpOp_step rfl (fun K hK=>?_)
    go_simp
    exact hK _ _ ⟨_,_,_,_,_,_,_,_,_,_,_,_,_,rfl,hS,q0,q1,fun _=>rfl,q3,q4,fun _=>rfl,q6,q7,q8,q9,q10,q11,q12⟩
   ·obtain rfl:=Option.some.inj ho
    obtain rfl:=q5 (hall ⟨5,.data⟩ (by simp) rfl)
    obtain rfl:=q2 (hall ⟨2,.guard⟩ (by simp) rfl)
    clear hall ho
    refine wpOp_step rfl (fun K hK=>?_)
    go_simp
    exact hK _ _ ⟨_,_,_,_,_,_,_,_,_,_,_,_,_,rfl,hS,q0,q1,fun _=>rfl,q3,q4,fun _=>rfl,fun _=>rfl,q7,q8,q9,q10,q11,q12⟩
   ·obtain rfl:=Option.some.inj ho
    obtain rfl:=q4 (hall ⟨4,.data⟩ (by simp) rfl)
    obtain rfl:=q6 (hall ⟨6,.data⟩ (by simp) rfl)
    obtain rfl:=q2 (hall ⟨2,.guard⟩ (by simp) rfl)
    clear hall ho
    refine wpOp_step rfl (fun K hK=>?_)
    go_simp
    exact hK _ _ ⟨_,_,_,_,_,_,_,_,_,_,_,_,_,rfl,hS,q0,q1,fun _=>rfl,q3,fun _=>rfl,q5,fun _=>rfl,fun _=>rfl,q8,q9,q10,q11,q12⟩
   ·obtain rfl:=Option.some.inj ho
    obtain rfl:=q7 (hall ⟨7,.data⟩ (by simp) rfl)
    obtain rfl:=q2 (hall ⟨2,.guard⟩ (by simp) rfl)
    clear hall ho
    refine wpOp_step rfl (fun K hK=>?_)
    go_simp
    exact hK _ _ ⟨_,_,_,_,_,_,_,_,_,_,_,_,_,rfl,hS,q0,q1,fun _=>rfl,q3,q4,q5,q6,fun _=>rfl,fun _=>rfl,q9,q10,q11,q12⟩
   ·obtain rfl:=Option.some.inj ho
    obtain rfl:=q8 (hall ⟨8,.data⟩ (by simp) rfl)
    obtain rfl:=q2 (hall ⟨2,.guard⟩ (by simp) rfl)
    clear hall ho
    refine wpOp_step rfl (fun K hK=>?_)
    go_simp
    exact hK _ _ ⟨_,_,_,_,_,_,_,_,_,_,_,_,_,rfl,hS,q0,q1,fun _=>rfl,q3,q4,q5,q6,q7,fun _=>rfl,fun _=>rfl,q10,q11,q12⟩
   ·obtain rfl:=Option.some.inj ho
    obtain rfl:=q2 (hall ⟨2,.data⟩ (by simp) rfl)
    obtain rfl:=q9 (hall ⟨9,.data⟩ (by simp) rfl)
    clear hall ho
    refine wpOp_step rfl (fun K hK=>?_)
    go_simp
    exact hK _ _ ⟨_,_,_,_,_,_,_,_,_,_,_,_,_,rfl,hS,q0,q1,fun _=>rfl,q3,q4,q5,q6,q7,q8,fun _=>rfl,fun _=>rfl,q11,q12⟩
   ·obtain rfl:=Option.some.inj ho
    obtain rfl:=q10 (hall ⟨10,.data⟩ (by simp) rfl)
    clear hall ho
    refine wpOp_step rfl (fun K hK=>?_)
    go_simp
    exact hK _ _ ⟨_,_,_,_,_,_,_,_,_,_,_,_,_,rfl,hS,q0,q1,q2,q3,q4,q5,q6,q7,q8,q9,fun _=>rfl,fun _=>rfl,q12⟩
   ·obtain rfl:=Option.some.inj ho
    clear hall ho
    refine wpOp_step rfl (fun K hK=>?_)
    go_simp
    exact hK _ _ ⟨_,_,_,_,_,_,_,_,_,_,_,_,_,rfl,hS,q0,q1,q2,q3,q4,q5,q6,q7,q8,q9,q10,q11,fun _=>rfl⟩
  ·rintro fL bA v ⟨v27,v28,v29,v30,v31,v32,v33,v34,v35,v36,v37,v6,v7,rfl,hS,q0,q1,q2,q3,q4,q5,q6,q7,q8,q9,q10,q11,q12⟩ hall
   simp only [Act.put,List.setIfInBounds_toArray,List.set_cons_zero,List.set_cons_succ]
   simp only [List.length_cons,List.length_nil] at hall
   obtain rfl:=q0 (hall 0 (by omega))
   obtain rfl:=q1 (hall 1 (by omega))
   obtain rfl:=q2 (hall 2 (by omega))
   obtain rfl:=q3 (hall 3 (by omega))
   obtain rfl:=q4 (hall 4 (by omega))
   obtain rfl:=q5 (hall 5 (by omega))
   obtain rfl:=q6 (hall 6 (by omega))
   obtain rfl:=q7 (hall 7 (by omega))
   obtain rfl:=q8 (hall 8 (by omega))
   obtain rfl:=q9 (hall 9 (by omega))
   obtain rfl:=q10 (hall 10 (by omega))
   obtain rfl:=q11 (hall 11 (by omega))
   obtain rfl:=q12 (hall 12 (by omega))
   clear hall
   have hB:=hW4.trans (hS.hb.mono hW4.size)
   go_wp2
   go_ret2
   exact ⟨rfl,hB⟩
end Go.Proofs.YtednjmldjbndhaaGreat
