/- The laws' comparisons of lists of entries and of texts at equal lists; membership. Conditions: the lengths. -/
import Derived.Test.YtednjmldjbndhaaGreatDoorKCt29
import Derived.Test.YtednjmldjbndhaaGreatDoorKCt30
set_option linter.unusedSimpArgs false
set_option linter.unusedVariables false
set_option maxRecDepth 100000
set_option maxHeartbeats 8000000
namespace Go.Proofs.YtednjmldjbndhaaGreatDoor
open Go.RowKit
theorem alike_self (r:Rl):(alike r r).all id=true:=by
 rw [alike_all]
 unfold sameFB
 simp
theorem likeEnS_c (A A':Option Addr) (c c':Nat) (es fs:List EnR) (w:World) (hE:EnsIn w A es) (hF:EnsIn w A' fs) (he:ens es=ens fs) :
  Calls Tryz.prog 17 #[.slice A es.length c,.slice A' fs.length c'] w fun e w'=>e=.returned (.bool true)∧Below w.heap.size w w':=by
 have hlen:fs.length=es.length:=by rw [← ens_len fs,← he,ens_len]
 have hn:=hE.n
 have hs:=Lib.hid hE.s
 have hs':=Lib.hid hF.s
 have hIn:=Lib.hid (fun k (h:k < es.length)=>hE.i es[k] (List.getElem_mem h))
 have hIn':=Lib.hid (fun k (h:k < fs.length)=>hF.i fs[k] (List.getElem_mem h))
 have hEq:=Lib.hid (fun k (h:k < es.length) (h':k < fs.length)=>(show es[k].e=fs[k].e by
  have h1:(ens es)[k]'(by rw [ens_len];exact h)=(ens fs)[k]'(by rw [ens_len];exact h'):=by simp only [he]
  simpa [ens] using h1))
 clear hE hF he
 have hlz:((es.length:Int) != (fs.length:Int))=false:=by simp [hlen]
 replace hlen:=Lib.hid hlen
 go_enter Tryz.func17,Tryz.ntmps17
 go_wp2_with fail
 go_loopw [5] (fun i wr=>∃ k:Nat,k ≤ es.length∧i=.int .i64 k∧Below w.heap.size w wr) (fun i _=>es.length - (intOf i).toNat)
 case atStart=>exact ⟨0,Nat.zero_le _,rfl,Below.refl _ _⟩
 case round =>
  obtain ⟨k,hk,rfl,hb⟩:=hrel
  by_cases hlt:k < es.length
  ·have hlt':k < fs.length:=by have:=hlen.out;omega
   obtain ⟨b,off,rfl,hbB,hc⟩:=hs.out.rg (i:=k) (by simpa using hlt)
   obtain ⟨b',off',rfl,hbB',hc'⟩:=hs'.out.rg (i:=k) (by simpa using hlt')
   simp only [List.getElem_map] at hc hc'
   replace hc:=rangeAt_below hc hb hbB
   replace hc':=rangeAt_below hc' hb hbB'
   have x0:wr.rangeAt b (off+k * 20) es[k].cells:=hc
   have x0':wr.rangeAt b' (off'+k * 20) fs[k].cells:=hc'
   have E:=EnIn.later (hIn.out k hlt) hb
   have E':=EnIn.later (hIn'.out k hlt') hb
   have hee:=hEq.out k hlt hlt'
   clear hc hc' hs hs' hIn hIn' hEq
   have hltI:(k:Int) < es.length:=by omega
   have hltI':(k:Int) < fs.length:=by omega
   generalize es[k]=x at *
   generalize fs[k]=y at *
   obtain ⟨⟨ti,ve,r,ba⟩,B,d⟩:=x
   obtain ⟨e2,B',d'⟩:=y
   simp only at hee E E'
   subst hee
   have hR:=Lib.hid (fun v (hv:Below wr.heap.size wr v)=>likeRl_c r B d r B' d' v (E.r.later hv) (E'.r.later hv))
   have hcr:wr.rangeAt b (off+k * 20+2) (r.cells B d):=range_mid (P:=[.string ti,.int .i64 ve]) (T:=[.int .i64 ba]) x0
   have hcr':wr.rangeAt b' (off'+k * 20+2) (r.cells B' d'):=range_mid (P:=[.string ti,.int .i64 ve]) (T:=[.int .i64 ba]) x0'
   have c0:wr.cell? ⟨b,off+k * 20,none⟩=some (.string ti):=x0 0 _ rfl
   have c1:wr.cell? ⟨b,off+k * 20+1,none⟩=some (.int .i64 ve):=x0 1 _ rfl
   have c19:wr.cell? ⟨b,off+k * 20+19,none⟩=some (.int .i64 ba):=x0 19 _ rfl
   have d0:wr.cell? ⟨b',off'+k * 20,none⟩=some (.string ti):=x0' 0 _ rfl
   have d1:wr.cell? ⟨b',off'+k * 20+1,none⟩=some (.int .i64 ve):=x0' 1 _ rfl
   have d19:wr.cell? ⟨b',off'+k * 20+19,none⟩=some (.int .i64 ba):=x0' 19 _ rfl
   have hbl:=Nat.lt_of_lt_of_le hbB hb.size
   have hbl':=Nat.lt_of_lt_of_le hbB' hb.size
   clear x0 x0' E E' hbB hbB'
   rw [alike_self] at hR
   have hlc:(r.cells B d).length=17:=rfl
   have hlc':(r.cells B' d').length=17:=rfl
   generalize r.cells B d=rc at *
   generalize r.cells B' d'=rd at *
   have hss:(ti.toList == ti.toList)=true:=by simp
   go_wp2_with fail
   refine region_fr 50 (fun f l x=>match l with | a0_ :: a1_ :: a2_ :: a3_ :: a4_ :: a5_ :: a6_ :: a7_ :: a8_ :: a9_ :: a10_ :: a11_ :: a12_ :: a13_ :: a14_ :: a15_ :: a16_ :: a17_ :: a18_ :: a19_ :: a20_ :: a21_ :: a22_ :: a23_ :: a24_ :: a25_ :: a26_ :: a27_ :: a28_ :: a29_ :: a30_ :: a31_ :: a32_ :: a33_ :: a34_ :: a35_ :: a36_ :: a37_ :: a38_ :: a39_ :: a40_ :: a41_ :: a42_ :: a43_ :: a44_ :: a45_ :: a46_ :: a47_ :: a48_ :: a49_ :: a50_ :: a51_ :: a52_ :: a53_ :: a54_ :: a55_ :: a56_ :: a57_ :: a58_ :: a59_ :: a60_ :: a61_ :: a62_ :: a63_ :: a64_ :: a65_ :: a66_ :: a67_ :: []=>[a0_,a1_,a2_,a3_,a4_,a5_,a6_,a7_,a8_,a9_,a10_,a11_,a12_,a13_,a14_,a15_,a16_,bif f 0 then .slice (some ⟨b,off,none⟩) es.length c else a17_,bif f 1 then .int .i64 (k:Nat) else a18_,bif f 2 then .pointer (some ⟨b,off+k * 20,none⟩) else a19_,bif f 3 then .pointer (some ⟨b,off+k * 20,none⟩) else a20_,bif f 4 then .string ti else a21_,bif f 5 then .slice (some ⟨b',off',none⟩) fs.length c' else a22_,bif f 6 then .int .i64 (k:Nat) else a23_,bif f 7 then .pointer (some ⟨b',off'+k * 20,none⟩) else a24_,bif f 8 then .pointer (some ⟨b',off'+k * 20,none⟩) else a25_,bif f 9 then .string ti else a26_,bif f 10 then .bool false else a27_,bif f 11 then .bool false else a28_,bif f 12 then .slice (some ⟨b,off,none⟩) es.length c else a29_,bif f 13 then .int .i64 (k:Nat) else a30_,bif f 14 then .pointer (some ⟨b,off+k * 20,none⟩) else a31_,bif f 15 then .pointer (some ⟨b,off+k * 20+1,none⟩) else a32_,bif f 16 then .int .i64 ve else a33_,bif f 17 then .slice (some ⟨b',off',none⟩) fs.length c' else a34_,bif f 18 then .int .i64 (k:Nat) else a35_,bif f 19 then .pointer (some ⟨b',off'+k * 20,none⟩) else a36_,bif f 20 then .pointer (some ⟨b',off'+k * 20+1,none⟩) else a37_,bif f 21 then .int .i64 ve else a38_,bif f 22 then .bool false else a39_,bif f 23 then .bool false else a40_,bif f 24 then .bool false else a41_,bif f 25 then .slice (some ⟨b,off,none⟩) es.length c else a42_,bif f 26 then .int .i64 (k:Nat) else a43_,bif f 27 then .pointer (some ⟨b,off+k * 20,none⟩) else a44_,bif f 28 then .pointer (some ⟨b,off+k * 20+19,none⟩) else a45_,bif f 29 then .int .i64 ba else a46_,bif f 30 then .slice (some ⟨b',off',none⟩) fs.length c' else a47_,bif f 31 then .int .i64 (k:Nat) else a48_,bif f 32 then .pointer (some ⟨b',off'+k * 20,none⟩) else a49_,bif f 33 then .pointer (some ⟨b',off'+k * 20+19,none⟩) else a50_,bif f 34 then .int .i64 ba else a51_,bif f 35 then .bool false else a52_,bif f 36 then .bool false else a53_,bif f 37 then .bool false else a54_,bif f 38 then .slice (some ⟨b,off,none⟩) es.length c else a55_,bif f 39 then .int .i64 (k:Nat) else a56_,bif f 40 then .pointer (some ⟨b,off+k * 20,none⟩) else a57_,bif f 41 then .pointer (some ⟨b,off+k * 20+2,none⟩) else a58_,bif f 42 then .agg rc.toArray else a59_,bif f 43 then .slice (some ⟨b',off',none⟩) fs.length c' else a60_,bif f 44 then .int .i64 (k:Nat) else a61_,bif f 45 then .pointer (some ⟨b',off'+k * 20,none⟩) else a62_,bif f 46 then .pointer (some ⟨b',off'+k * 20+2,none⟩) else a63_,bif f 47 then .agg rd.toArray else a64_,bif f 48 then .bool true else a65_,bif f 49 then .bool false else a66_,a67_] | l=>l) (fun fL x v=>Below wr.heap.size wr v) (by kernel_rfl) (by decide +kernel) undef rfl ((Below.refl _ _).drew) ?_ ?_
   all_goals dsimp only
   ·rintro fL x v hS i hi hf o ho hall
    have hn:i=0 ∨ i=1 ∨ i=2 ∨ i=3 ∨ i=4 ∨ i=5 ∨ i=6 ∨ i=7 ∨ i=8 ∨ i=9 ∨ i=10 ∨ i=11 ∨ i=12 ∨ i=13 ∨ i=14 ∨ i=15 ∨ i=16 ∨ i=17 ∨ i=18 ∨ i=19 ∨ i=20 ∨ i=21 ∨ i=22 ∨ i=23 ∨ i=24 ∨ i=25 ∨ i=26 ∨ i=27 ∨ i=28 ∨ i=29 ∨ i=30 ∨ i=31 ∨ i=32 ∨ i=33 ∨ i=34 ∨ i=35 ∨ i=36 ∨ i=37 ∨ i=38 ∨ i=39 ∨ i=40 ∨ i=41 ∨ i=42 ∨ i=43 ∨ i=44 ∨ i=45 ∨ i=46 ∨ i=47 ∨ i=48 ∨ i=49:=by omega
    clear hi
    rcases hn with rfl | rfl | rfl | rfl | rfl | rfl | rfl | rfl | rfl | rfl | rfl | rfl | rfl | rfl | rfl | rfl | rfl | rfl | rfl | rfl | rfl | rfl | rfl | rfl | rfl | rfl | rfl | rfl | rfl | rfl | rfl | rfl | rfl | rfl | rfl | rfl | rfl | rfl | rfl | rfl | rfl | rfl | rfl | rfl | rfl | rfl | rfl | rfl | rfl | rfl
    ·obtain rfl:=Option.some.inj ho
     clear hall ho
     try simp only [hf,cond_true,cond_false]
     refine wpOp_step rfl (fun K hK=>?_)
     go_simp
     exact hK _ _ ⟨x,(by simp only [upd,hf,Nat.reduceBEq,Bool.false_or,Bool.true_or,Bool.not_true,Bool.not_false,Bool.true_and,Bool.false_and,Bool.cond_self,cond_true,cond_false];try rfl),hS⟩
    ·obtain rfl:=Option.some.inj ho
     clear hall ho
     try simp only [hf,cond_true,cond_false]
     refine wpOp_step rfl (fun K hK=>?_)
     go_simp
     exact hK _ _ ⟨x,(by simp only [upd,hf,Nat.reduceBEq,Bool.false_or,Bool.true_or,Bool.not_true,Bool.not_false,Bool.true_and,Bool.false_and,Bool.cond_self,cond_true,cond_false];try rfl),hS⟩
    ·obtain rfl:=Option.some.inj ho
     have e0:fL 0=true:=hall ⟨0,.data⟩ (by simp) rfl
     have e1:fL 1=true:=hall ⟨1,.data⟩ (by simp) rfl
     clear hall ho
     try simp only [e0,e1,hf,cond_true,cond_false]
     refine wpOp_step rfl (fun K hK=>?_)
     go_simp
     exact hK _ _ ⟨x,(by simp only [upd,e0,e1,hf,Nat.reduceBEq,Bool.false_or,Bool.true_or,Bool.not_true,Bool.not_false,Bool.true_and,Bool.false_and,Bool.cond_self,cond_true,cond_false];try rfl),hS⟩
    ·obtain rfl:=Option.some.inj ho
     have e2:fL 2=true:=hall ⟨2,.data⟩ (by simp) rfl
     clear hall ho
     try simp only [e2,hf,cond_true,cond_false]
     refine wpOp_step rfl (fun K hK=>?_)
     go_simp
     exact hK _ _ ⟨x,(by simp only [upd,e2,hf,Nat.reduceBEq,Bool.false_or,Bool.true_or,Bool.not_true,Bool.not_false,Bool.true_and,Bool.false_and,Bool.cond_self,cond_true,cond_false];try rfl),hS⟩
    ·obtain rfl:=Option.some.inj ho
     have e3:fL 3=true:=hall ⟨3,.data⟩ (by simp) rfl
     clear hall ho
     have y0:=(hS.cell (p:=_) hbl).trans c0
     try simp only [e3,hf,cond_true,cond_false]
     refine wpOp_step rfl (fun K hK=>?_)
     go_simp
     exact hK _ _ ⟨x,(by simp only [upd,e3,hf,Nat.reduceBEq,Bool.false_or,Bool.true_or,Bool.not_true,Bool.not_false,Bool.true_and,Bool.false_and,Bool.cond_self,cond_true,cond_false];try rfl),hS⟩
    ·obtain rfl:=Option.some.inj ho
     clear hall ho
     try simp only [hf,cond_true,cond_false]
     refine wpOp_step rfl (fun K hK=>?_)
     go_simp
     exact hK _ _ ⟨x,(by simp only [upd,hf,Nat.reduceBEq,Bool.false_or,Bool.true_or,Bool.not_true,Bool.not_false,Bool.true_and,Bool.false_and,Bool.cond_self,cond_true,cond_false];try rfl),hS⟩
    ·obtain rfl:=Option.some.inj ho
     clear hall ho
     try simp only [hf,cond_true,cond_false]
     refine wpOp_step rfl (fun K hK=>?_)
     go_simp
     exact hK _ _ ⟨x,(by simp only [upd,hf,Nat.reduceBEq,Bool.false_or,Bool.true_or,Bool.not_true,Bool.not_false,Bool.true_and,Bool.false_and,Bool.cond_self,cond_true,cond_false];try rfl),hS⟩
    ·obtain rfl:=Option.some.inj ho
     have e5:fL 5=true:=hall ⟨5,.data⟩ (by simp) rfl
     have e6:fL 6=true:=hall ⟨6,.data⟩ (by simp) rfl
     clear hall ho
     try simp only [e5,e6,hf,cond_true,cond_false]
     refine wpOp_step rfl (fun K hK=>?_)
     go_simp
     exact hK _ _ ⟨x,(by simp only [upd,e5,e6,hf,Nat.reduceBEq,Bool.false_or,Bool.true_or,Bool.not_true,Bool.not_false,Bool.true_and,Bool.false_and,Bool.cond_self,cond_true,cond_false];try rfl),hS⟩
    ·obtain rfl:=Option.some.inj ho
     have e7:fL 7=true:=hall ⟨7,.data⟩ (by simp) rfl
     clear hall ho
     try simp only [e7,hf,cond_true,cond_false]
     refine wpOp_step rfl (fun K hK=>?_)
     go_simp
     exact hK _ _ ⟨x,(by simp only [upd,e7,hf,Nat.reduceBEq,Bool.false_or,Bool.true_or,Bool.not_true,Bool.not_false,Bool.true_and,Bool.false_and,Bool.cond_self,cond_true,cond_false];try rfl),hS⟩
    ·obtain rfl:=Option.some.inj ho
     have e8:fL 8=true:=hall ⟨8,.data⟩ (by simp) rfl
     clear hall ho
     have y0:=(hS.cell (p:=_) hbl').trans d0
     try simp only [e8,hf,cond_true,cond_false]
     refine wpOp_step rfl (fun K hK=>?_)
     go_simp
     exact hK _ _ ⟨x,(by simp only [upd,e8,hf,Nat.reduceBEq,Bool.false_or,Bool.true_or,Bool.not_true,Bool.not_false,Bool.true_and,Bool.false_and,Bool.cond_self,cond_true,cond_false];try rfl),hS⟩
    ·obtain rfl:=Option.some.inj ho
     have e4:fL 4=true:=hall ⟨4,.data⟩ (by simp) rfl
     have e9:fL 9=true:=hall ⟨9,.data⟩ (by simp) rfl
     clear hall ho
     try simp only [e4,e9,hf,cond_true,cond_false]
     refine wpOp_step rfl (fun K hK=>?_)
     go_simp
     exact hK _ _ ⟨x,(by simp only [upd,e4,e9,hf,Nat.reduceBEq,Bool.false_or,Bool.true_or,Bool.not_true,Bool.not_false,Bool.true_and,Bool.false_and,Bool.cond_self,cond_true,cond_false];try rfl),hS⟩
    ·obtain rfl:=Option.some.inj ho
     have e10:fL 10=true:=hall ⟨10,.data⟩ (by simp) rfl
     clear hall ho
     try simp only [e10,hf,cond_true,cond_false]
     refine wpOp_step rfl (fun K hK=>?_)
     go_simp
     exact hK _ _ ⟨x,(by simp only [upd,e10,hf,Nat.reduceBEq,Bool.false_or,Bool.true_or,Bool.not_true,Bool.not_false,Bool.true_and,Bool.false_and,Bool.cond_self,cond_true,cond_false];try rfl),hS⟩
    ·obtain rfl:=Option.some.inj ho
     have e11:fL 11=true:=hall ⟨11,.guard⟩ (by simp) rfl
     clear hall ho
     try simp only [e11,hf,cond_true,cond_false]
     refine wpOp_step rfl (fun K hK=>?_)
     go_simp
     exact hK _ _ ⟨x,(by simp only [upd,e11,hf,Nat.reduceBEq,Bool.false_or,Bool.true_or,Bool.not_true,Bool.not_false,Bool.true_and,Bool.false_and,Bool.cond_self,cond_true,cond_false];try rfl),hS⟩
    ·obtain rfl:=Option.some.inj ho
     have e11:fL 11=true:=hall ⟨11,.guard⟩ (by simp) rfl
     clear hall ho
     try simp only [e11,hf,cond_true,cond_false]
     refine wpOp_step rfl (fun K hK=>?_)
     go_simp
     exact hK _ _ ⟨x,(by simp only [upd,e11,hf,Nat.reduceBEq,Bool.false_or,Bool.true_or,Bool.not_true,Bool.not_false,Bool.true_and,Bool.false_and,Bool.cond_self,cond_true,cond_false];try rfl),hS⟩
    ·obtain rfl:=Option.some.inj ho
     have e12:fL 12=true:=hall ⟨12,.data⟩ (by simp) rfl
     have e13:fL 13=true:=hall ⟨13,.data⟩ (by simp) rfl
     have e11:fL 11=true:=hall ⟨11,.guard⟩ (by simp) rfl
     clear hall ho
     try simp only [e12,e13,e11,hf,cond_true,cond_false]
     refine wpOp_step rfl (fun K hK=>?_)
     go_simp
     exact hK _ _ ⟨x,(by simp only [upd,e12,e13,e11,hf,Nat.reduceBEq,Bool.false_or,Bool.true_or,Bool.not_true,Bool.not_false,Bool.true_and,Bool.false_and,Bool.cond_self,cond_true,cond_false];try rfl),hS⟩
    ·obtain rfl:=Option.some.inj ho
     have e14:fL 14=true:=hall ⟨14,.data⟩ (by simp) rfl
     have e11:fL 11=true:=hall ⟨11,.guard⟩ (by simp) rfl
     clear hall ho
     try simp only [e14,e11,hf,cond_true,cond_false]
     refine wpOp_step rfl (fun K hK=>?_)
     go_simp
     exact hK _ _ ⟨x,(by simp only [upd,e14,e11,hf,Nat.reduceBEq,Bool.false_or,Bool.true_or,Bool.not_true,Bool.not_false,Bool.true_and,Bool.false_and,Bool.cond_self,cond_true,cond_false];try rfl),hS⟩
    ·obtain rfl:=Option.some.inj ho
     have e15:fL 15=true:=hall ⟨15,.data⟩ (by simp) rfl
     have e11:fL 11=true:=hall ⟨11,.guard⟩ (by simp) rfl
     clear hall ho
     have y0:=(hS.cell (p:=_) hbl).trans c1
     try simp only [e15,e11,hf,cond_true,cond_false]
     refine wpOp_step rfl (fun K hK=>?_)
     go_simp
     exact hK _ _ ⟨x,(by simp only [upd,e15,e11,hf,Nat.reduceBEq,Bool.false_or,Bool.true_or,Bool.not_true,Bool.not_false,Bool.true_and,Bool.false_and,Bool.cond_self,cond_true,cond_false];try rfl),hS⟩
    ·obtain rfl:=Option.some.inj ho
     have e11:fL 11=true:=hall ⟨11,.guard⟩ (by simp) rfl
     clear hall ho
     try simp only [e11,hf,cond_true,cond_false]
     refine wpOp_step rfl (fun K hK=>?_)
     go_simp
     exact hK _ _ ⟨x,(by simp only [upd,e11,hf,Nat.reduceBEq,Bool.false_or,Bool.true_or,Bool.not_true,Bool.not_false,Bool.true_and,Bool.false_and,Bool.cond_self,cond_true,cond_false];try rfl),hS⟩
    ·obtain rfl:=Option.some.inj ho
     have e11:fL 11=true:=hall ⟨11,.guard⟩ (by simp) rfl
     clear hall ho
     try simp only [e11,hf,cond_true,cond_false]
     refine wpOp_step rfl (fun K hK=>?_)
     go_simp
     exact hK _ _ ⟨x,(by simp only [upd,e11,hf,Nat.reduceBEq,Bool.false_or,Bool.true_or,Bool.not_true,Bool.not_false,Bool.true_and,Bool.false_and,Bool.cond_self,cond_true,cond_false];try rfl),hS⟩
    ·obtain rfl:=Option.some.inj ho
     have e17:fL 17=true:=hall ⟨17,.data⟩ (by simp) rfl
     have e18:fL 18=true:=hall ⟨18,.data⟩ (by simp) rfl
     have e11:fL 11=true:=hall ⟨11,.guard⟩ (by simp) rfl
     clear hall ho
     try simp only [e17,e18,e11,hf,cond_true,cond_false]
     refine wpOp_step rfl (fun K hK=>?_)
     go_simp
     exact hK _ _ ⟨x,(by simp only [upd,e17,e18,e11,hf,Nat.reduceBEq,Bool.false_or,Bool.true_or,Bool.not_true,Bool.not_false,Bool.true_and,Bool.false_and,Bool.cond_self,cond_true,cond_false];try rfl),hS⟩
    ·obtain rfl:=Option.some.inj ho
     have e19:fL 19=true:=hall ⟨19,.data⟩ (by simp) rfl
     have e11:fL 11=true:=hall ⟨11,.guard⟩ (by simp) rfl
     clear hall ho
     try simp only [e19,e11,hf,cond_true,cond_false]
     refine wpOp_step rfl (fun K hK=>?_)
     go_simp
     exact hK _ _ ⟨x,(by simp only [upd,e19,e11,hf,Nat.reduceBEq,Bool.false_or,Bool.true_or,Bool.not_true,Bool.not_false,Bool.true_and,Bool.false_and,Bool.cond_self,cond_true,cond_false];try rfl),hS⟩
    ·obtain rfl:=Option.some.inj ho
     have e20:fL 20=true:=hall ⟨20,.data⟩ (by simp) rfl
     have e11:fL 11=true:=hall ⟨11,.guard⟩ (by simp) rfl
     clear hall ho
     have y0:=(hS.cell (p:=_) hbl').trans d1
     try simp only [e20,e11,hf,cond_true,cond_false]
     refine wpOp_step rfl (fun K hK=>?_)
     go_simp
     exact hK _ _ ⟨x,(by simp only [upd,e20,e11,hf,Nat.reduceBEq,Bool.false_or,Bool.true_or,Bool.not_true,Bool.not_false,Bool.true_and,Bool.false_and,Bool.cond_self,cond_true,cond_false];try rfl),hS⟩
    ·obtain rfl:=Option.some.inj ho
     have e16:fL 16=true:=hall ⟨16,.data⟩ (by simp) rfl
     have e21:fL 21=true:=hall ⟨21,.data⟩ (by simp) rfl
     have e11:fL 11=true:=hall ⟨11,.guard⟩ (by simp) rfl
     clear hall ho
     try simp only [e16,e21,e11,hf,cond_true,cond_false]
     refine wpOp_step rfl (fun K hK=>?_)
     go_simp
     exact hK _ _ ⟨x,(by simp only [upd,e16,e21,e11,hf,Nat.reduceBEq,Bool.false_or,Bool.true_or,Bool.not_true,Bool.not_false,Bool.true_and,Bool.false_and,Bool.cond_self,cond_true,cond_false];try rfl),hS⟩
    ·obtain rfl:=Option.some.inj ho
     have e11:fL 11=true:=hall ⟨11,.data⟩ (by simp) rfl
     have e22:fL 22=true:=hall ⟨22,.data⟩ (by simp) rfl
     clear hall ho
     try simp only [e11,e22,hf,cond_true,cond_false]
     refine wpOp_step rfl (fun K hK=>?_)
     go_simp
     exact hK _ _ ⟨x,(by simp only [upd,e11,e22,hf,Nat.reduceBEq,Bool.false_or,Bool.true_or,Bool.not_true,Bool.not_false,Bool.true_and,Bool.false_and,Bool.cond_self,cond_true,cond_false];try rfl),hS⟩
    ·obtain rfl:=Option.some.inj ho
     have e23:fL 23=true:=hall ⟨23,.data⟩ (by simp) rfl
     clear hall ho
     try simp only [e23,hf,cond_true,cond_false]
     refine wpOp_step rfl (fun K hK=>?_)
     go_simp
     exact hK _ _ ⟨x,(by simp only [upd,e23,hf,Nat.reduceBEq,Bool.false_or,Bool.true_or,Bool.not_true,Bool.not_false,Bool.true_and,Bool.false_and,Bool.cond_self,cond_true,cond_false];try rfl),hS⟩
    ·obtain rfl:=Option.some.inj ho
     have e24:fL 24=true:=hall ⟨24,.guard⟩ (by simp) rfl
     clear hall ho
     try simp only [e24,hf,cond_true,cond_false]
     refine wpOp_step rfl (fun K hK=>?_)
     go_simp
     exact hK _ _ ⟨x,(by simp only [upd,e24,hf,Nat.reduceBEq,Bool.false_or,Bool.true_or,Bool.not_true,Bool.not_false,Bool.true_and,Bool.false_and,Bool.cond_self,cond_true,cond_false];try rfl),hS⟩
    ·obtain rfl:=Option.some.inj ho
     have e24:fL 24=true:=hall ⟨24,.guard⟩ (by simp) rfl
     clear hall ho
     try simp only [e24,hf,cond_true,cond_false]
     refine wpOp_step rfl (fun K hK=>?_)
     go_simp
     exact hK _ _ ⟨x,(by simp only [upd,e24,hf,Nat.reduceBEq,Bool.false_or,Bool.true_or,Bool.not_true,Bool.not_false,Bool.true_and,Bool.false_and,Bool.cond_self,cond_true,cond_false];try rfl),hS⟩
    ·obtain rfl:=Option.some.inj ho
     have e25:fL 25=true:=hall ⟨25,.data⟩ (by simp) rfl
     have e26:fL 26=true:=hall ⟨26,.data⟩ (by simp) rfl
     have e24:fL 24=true:=hall ⟨24,.guard⟩ (by simp) rfl
     clear hall ho
     try simp only [e25,e26,e24,hf,cond_true,cond_false]
     refine wpOp_step rfl (fun K hK=>?_)
     go_simp
     exact hK _ _ ⟨x,(by simp only [upd,e25,e26,e24,hf,Nat.reduceBEq,Bool.false_or,Bool.true_or,Bool.not_true,Bool.not_false,Bool.true_and,Bool.false_and,Bool.cond_self,cond_true,cond_false];try rfl),hS⟩
    ·obtain rfl:=Option.some.inj ho
     have e27:fL 27=true:=hall ⟨27,.data⟩ (by simp) rfl
     have e24:fL 24=true:=hall ⟨24,.guard⟩ (by simp) rfl
     clear hall ho
     try simp only [e27,e24,hf,cond_true,cond_false]
     refine wpOp_step rfl (fun K hK=>?_)
     go_simp
     exact hK _ _ ⟨x,(by simp only [upd,e27,e24,hf,Nat.reduceBEq,Bool.false_or,Bool.true_or,Bool.not_true,Bool.not_false,Bool.true_and,Bool.false_and,Bool.cond_self,cond_true,cond_false];try rfl),hS⟩
    ·obtain rfl:=Option.some.inj ho
     have e28:fL 28=true:=hall ⟨28,.data⟩ (by simp) rfl
     have e24:fL 24=true:=hall ⟨24,.guard⟩ (by simp) rfl
     clear hall ho
     have y0:=(hS.cell (p:=_) hbl).trans c19
     try simp only [e28,e24,hf,cond_true,cond_false]
     refine wpOp_step rfl (fun K hK=>?_)
     go_simp
     exact hK _ _ ⟨x,(by simp only [upd,e28,e24,hf,Nat.reduceBEq,Bool.false_or,Bool.true_or,Bool.not_true,Bool.not_false,Bool.true_and,Bool.false_and,Bool.cond_self,cond_true,cond_false];try rfl),hS⟩
    ·obtain rfl:=Option.some.inj ho
     have e24:fL 24=true:=hall ⟨24,.guard⟩ (by simp) rfl
     clear hall ho
     try simp only [e24,hf,cond_true,cond_false]
     refine wpOp_step rfl (fun K hK=>?_)
     go_simp
     exact hK _ _ ⟨x,(by simp only [upd,e24,hf,Nat.reduceBEq,Bool.false_or,Bool.true_or,Bool.not_true,Bool.not_false,Bool.true_and,Bool.false_and,Bool.cond_self,cond_true,cond_false];try rfl),hS⟩
    ·obtain rfl:=Option.some.inj ho
     have e24:fL 24=true:=hall ⟨24,.guard⟩ (by simp) rfl
     clear hall ho
     try simp only [e24,hf,cond_true,cond_false]
     refine wpOp_step rfl (fun K hK=>?_)
     go_simp
     exact hK _ _ ⟨x,(by simp only [upd,e24,hf,Nat.reduceBEq,Bool.false_or,Bool.true_or,Bool.not_true,Bool.not_false,Bool.true_and,Bool.false_and,Bool.cond_self,cond_true,cond_false];try rfl),hS⟩
    ·obtain rfl:=Option.some.inj ho
     have e30:fL 30=true:=hall ⟨30,.data⟩ (by simp) rfl
     have e31:fL 31=true:=hall ⟨31,.data⟩ (by simp) rfl
     have e24:fL 24=true:=hall ⟨24,.guard⟩ (by simp) rfl
     clear hall ho
     try simp only [e30,e31,e24,hf,cond_true,cond_false]
     refine wpOp_step rfl (fun K hK=>?_)
     go_simp
     exact hK _ _ ⟨x,(by simp only [upd,e30,e31,e24,hf,Nat.reduceBEq,Bool.false_or,Bool.true_or,Bool.not_true,Bool.not_false,Bool.true_and,Bool.false_and,Bool.cond_self,cond_true,cond_false];try rfl),hS⟩
    ·obtain rfl:=Option.some.inj ho
     have e32:fL 32=true:=hall ⟨32,.data⟩ (by simp) rfl
     have e24:fL 24=true:=hall ⟨24,.guard⟩ (by simp) rfl
     clear hall ho
     try simp only [e32,e24,hf,cond_true,cond_false]
     refine wpOp_step rfl (fun K hK=>?_)
     go_simp
     exact hK _ _ ⟨x,(by simp only [upd,e32,e24,hf,Nat.reduceBEq,Bool.false_or,Bool.true_or,Bool.not_true,Bool.not_false,Bool.true_and,Bool.false_and,Bool.cond_self,cond_true,cond_false];try rfl),hS⟩
    ·obtain rfl:=Option.some.inj ho
     have e33:fL 33=true:=hall ⟨33,.data⟩ (by simp) rfl
     have e24:fL 24=true:=hall ⟨24,.guard⟩ (by simp) rfl
     clear hall ho
     have y0:=(hS.cell (p:=_) hbl').trans d19
     try simp only [e33,e24,hf,cond_true,cond_false]
     refine wpOp_step rfl (fun K hK=>?_)
     go_simp
     exact hK _ _ ⟨x,(by simp only [upd,e33,e24,hf,Nat.reduceBEq,Bool.false_or,Bool.true_or,Bool.not_true,Bool.not_false,Bool.true_and,Bool.false_and,Bool.cond_self,cond_true,cond_false];try rfl),hS⟩
    ·obtain rfl:=Option.some.inj ho
     have e29:fL 29=true:=hall ⟨29,.data⟩ (by simp) rfl
     have e34:fL 34=true:=hall ⟨34,.data⟩ (by simp) rfl
     have e24:fL 24=true:=hall ⟨24,.guard⟩ (by simp) rfl
     clear hall ho
     try simp only [e29,e34,e24,hf,cond_true,cond_false]
     refine wpOp_step rfl (fun K hK=>?_)
     go_simp
     exact hK _ _ ⟨x,(by simp only [upd,e29,e34,e24,hf,Nat.reduceBEq,Bool.false_or,Bool.true_or,Bool.not_true,Bool.not_false,Bool.true_and,Bool.false_and,Bool.cond_self,cond_true,cond_false];try rfl),hS⟩
    ·obtain rfl:=Option.some.inj ho
     have e24:fL 24=true:=hall ⟨24,.data⟩ (by simp) rfl
     have e35:fL 35=true:=hall ⟨35,.data⟩ (by simp) rfl
     clear hall ho
     try simp only [e24,e35,hf,cond_true,cond_false]
     refine wpOp_step rfl (fun K hK=>?_)
     go_simp
     exact hK _ _ ⟨x,(by simp only [upd,e24,e35,hf,Nat.reduceBEq,Bool.false_or,Bool.true_or,Bool.not_true,Bool.not_false,Bool.true_and,Bool.false_and,Bool.cond_self,cond_true,cond_false];try rfl),hS⟩
    ·obtain rfl:=Option.some.inj ho
     have e36:fL 36=true:=hall ⟨36,.data⟩ (by simp) rfl
     clear hall ho
     try simp only [e36,hf,cond_true,cond_false]
     refine wpOp_step rfl (fun K hK=>?_)
     go_simp
     exact hK _ _ ⟨x,(by simp only [upd,e36,hf,Nat.reduceBEq,Bool.false_or,Bool.true_or,Bool.not_true,Bool.not_false,Bool.true_and,Bool.false_and,Bool.cond_self,cond_true,cond_false];try rfl),hS⟩
    ·obtain rfl:=Option.some.inj ho
     have e37:fL 37=true:=hall ⟨37,.guard⟩ (by simp) rfl
     clear hall ho
     try simp only [e37,hf,cond_true,cond_false]
     refine wpOp_step rfl (fun K hK=>?_)
     go_simp
     exact hK _ _ ⟨x,(by simp only [upd,e37,hf,Nat.reduceBEq,Bool.false_or,Bool.true_or,Bool.not_true,Bool.not_false,Bool.true_and,Bool.false_and,Bool.cond_self,cond_true,cond_false];try rfl),hS⟩
    ·obtain rfl:=Option.some.inj ho
     have e37:fL 37=true:=hall ⟨37,.guard⟩ (by simp) rfl
     clear hall ho
     try simp only [e37,hf,cond_true,cond_false]
     refine wpOp_step rfl (fun K hK=>?_)
     go_simp
     exact hK _ _ ⟨x,(by simp only [upd,e37,hf,Nat.reduceBEq,Bool.false_or,Bool.true_or,Bool.not_true,Bool.not_false,Bool.true_and,Bool.false_and,Bool.cond_self,cond_true,cond_false];try rfl),hS⟩
    ·obtain rfl:=Option.some.inj ho
     have e38:fL 38=true:=hall ⟨38,.data⟩ (by simp) rfl
     have e39:fL 39=true:=hall ⟨39,.data⟩ (by simp) rfl
     have e37:fL 37=true:=hall ⟨37,.guard⟩ (by simp) rfl
     clear hall ho
     try simp only [e38,e39,e37,hf,cond_true,cond_false]
     refine wpOp_step rfl (fun K hK=>?_)
     go_simp
     exact hK _ _ ⟨x,(by simp only [upd,e38,e39,e37,hf,Nat.reduceBEq,Bool.false_or,Bool.true_or,Bool.not_true,Bool.not_false,Bool.true_and,Bool.false_and,Bool.cond_self,cond_true,cond_false];try rfl),hS⟩
    ·obtain rfl:=Option.some.inj ho
     have e40:fL 40=true:=hall ⟨40,.data⟩ (by simp) rfl
     have e37:fL 37=true:=hall ⟨37,.guard⟩ (by simp) rfl
     clear hall ho
     try simp only [e40,e37,hf,cond_true,cond_false]
     refine wpOp_step rfl (fun K hK=>?_)
     go_simp
     exact hK _ _ ⟨x,(by simp only [upd,e40,e37,hf,Nat.reduceBEq,Bool.false_or,Bool.true_or,Bool.not_true,Bool.not_false,Bool.true_and,Bool.false_and,Bool.cond_self,cond_true,cond_false];try rfl),hS⟩
    ·obtain rfl:=Option.some.inj ho
     have e41:fL 41=true:=hall ⟨41,.data⟩ (by simp) rfl
     have e37:fL 37=true:=hall ⟨37,.guard⟩ (by simp) rfl
     clear hall ho
     try simp only [e41,e37,hf,cond_true,cond_false]
     refine wpOp_step rfl (fun K hK=>?_)
     refine wp_load_mid 33 _ rfl b (off+k * 20+2) rfl rc _ (rangeAt_below hcr hS hbl) Tryz.underlying33 rfl (by rw [hlc];kernel_rfl) ?_
     exact hK _ _ ⟨x,(by simp only [upd,e41,e37,hf,Nat.reduceBEq,Bool.false_or,Bool.true_or,Bool.not_true,Bool.not_false,Bool.true_and,Bool.false_and,Bool.cond_self,cond_true,cond_false];try rfl),hS⟩
    ·obtain rfl:=Option.some.inj ho
     have e37:fL 37=true:=hall ⟨37,.guard⟩ (by simp) rfl
     clear hall ho
     try simp only [e37,hf,cond_true,cond_false]
     refine wpOp_step rfl (fun K hK=>?_)
     go_simp
     exact hK _ _ ⟨x,(by simp only [upd,e37,hf,Nat.reduceBEq,Bool.false_or,Bool.true_or,Bool.not_true,Bool.not_false,Bool.true_and,Bool.false_and,Bool.cond_self,cond_true,cond_false];try rfl),hS⟩
    ·obtain rfl:=Option.some.inj ho
     have e37:fL 37=true:=hall ⟨37,.guard⟩ (by simp) rfl
     clear hall ho
     try simp only [e37,hf,cond_true,cond_false]
     refine wpOp_step rfl (fun K hK=>?_)
     go_simp
     exact hK _ _ ⟨x,(by simp only [upd,e37,hf,Nat.reduceBEq,Bool.false_or,Bool.true_or,Bool.not_true,Bool.not_false,Bool.true_and,Bool.false_and,Bool.cond_self,cond_true,cond_false];try rfl),hS⟩
    ·obtain rfl:=Option.some.inj ho
     have e43:fL 43=true:=hall ⟨43,.data⟩ (by simp) rfl
     have e44:fL 44=true:=hall ⟨44,.data⟩ (by simp) rfl
     have e37:fL 37=true:=hall ⟨37,.guard⟩ (by simp) rfl
     clear hall ho
     try simp only [e43,e44,e37,hf,cond_true,cond_false]
     refine wpOp_step rfl (fun K hK=>?_)
     go_simp
     exact hK _ _ ⟨x,(by simp only [upd,e43,e44,e37,hf,Nat.reduceBEq,Bool.false_or,Bool.true_or,Bool.not_true,Bool.not_false,Bool.true_and,Bool.false_and,Bool.cond_self,cond_true,cond_false];try rfl),hS⟩
    ·obtain rfl:=Option.some.inj ho
     have e45:fL 45=true:=hall ⟨45,.data⟩ (by simp) rfl
     have e37:fL 37=true:=hall ⟨37,.guard⟩ (by simp) rfl
     clear hall ho
     try simp only [e45,e37,hf,cond_true,cond_false]
     refine wpOp_step rfl (fun K hK=>?_)
     go_simp
     exact hK _ _ ⟨x,(by simp only [upd,e45,e37,hf,Nat.reduceBEq,Bool.false_or,Bool.true_or,Bool.not_true,Bool.not_false,Bool.true_and,Bool.false_and,Bool.cond_self,cond_true,cond_false];try rfl),hS⟩
    ·obtain rfl:=Option.some.inj ho
     have e46:fL 46=true:=hall ⟨46,.data⟩ (by simp) rfl
     have e37:fL 37=true:=hall ⟨37,.guard⟩ (by simp) rfl
     clear hall ho
     try simp only [e46,e37,hf,cond_true,cond_false]
     refine wpOp_step rfl (fun K hK=>?_)
     refine wp_load_mid 33 _ rfl b' (off'+k * 20+2) rfl rd _ (rangeAt_below hcr' hS hbl') Tryz.underlying33 rfl (by rw [hlc'];kernel_rfl) ?_
     exact hK _ _ ⟨x,(by simp only [upd,e46,e37,hf,Nat.reduceBEq,Bool.false_or,Bool.true_or,Bool.not_true,Bool.not_false,Bool.true_and,Bool.false_and,Bool.cond_self,cond_true,cond_false];try rfl),hS⟩
    ·obtain rfl:=Option.some.inj ho
     have e42:fL 42=true:=hall ⟨42,.data⟩ (by simp) rfl
     have e47:fL 47=true:=hall ⟨47,.data⟩ (by simp) rfl
     have e37:fL 37=true:=hall ⟨37,.guard⟩ (by simp) rfl
     clear hall ho
     try simp only [e42,e47,e37,hf,cond_true,cond_false]
     refine wpOp_step rfl (fun K hK=>?_)
     go_simp
     refine Calls.mono (hR.out v hS) ?_;rintro e w1 ⟨rfl,hb1⟩
     go_simp
     exact hK _ _ ⟨x,(by simp only [upd,e42,e47,e37,hf,Nat.reduceBEq,Bool.false_or,Bool.true_or,Bool.not_true,Bool.not_false,Bool.true_and,Bool.false_and,Bool.cond_self,cond_true,cond_false];try rfl),hS.trans (hb1.mono hS.size)⟩
    ·obtain rfl:=Option.some.inj ho
     have e48:fL 48=true:=hall ⟨48,.data⟩ (by simp) rfl
     have e37:fL 37=true:=hall ⟨37,.guard⟩ (by simp) rfl
     clear hall ho
     try simp only [e48,e37,hf,cond_true,cond_false]
     refine wpOp_step rfl (fun K hK=>?_)
     go_simp
     exact hK _ _ ⟨x,(by simp only [upd,e48,e37,hf,Nat.reduceBEq,Bool.false_or,Bool.true_or,Bool.not_true,Bool.not_false,Bool.true_and,Bool.false_and,Bool.cond_self,cond_true,cond_false];try rfl),hS⟩
   ·rintro fL x v hS hall
    have e0:fL 0=true:=hall 0 (by omega)
    have e1:fL 1=true:=hall 1 (by omega)
    have e2:fL 2=true:=hall 2 (by omega)
    have e3:fL 3=true:=hall 3 (by omega)
    have e4:fL 4=true:=hall 4 (by omega)
    have e5:fL 5=true:=hall 5 (by omega)
    have e6:fL 6=true:=hall 6 (by omega)
    have e7:fL 7=true:=hall 7 (by omega)
    have e8:fL 8=true:=hall 8 (by omega)
    have e9:fL 9=true:=hall 9 (by omega)
    have e10:fL 10=true:=hall 10 (by omega)
    have e11:fL 11=true:=hall 11 (by omega)
    have e12:fL 12=true:=hall 12 (by omega)
    have e13:fL 13=true:=hall 13 (by omega)
    have e14:fL 14=true:=hall 14 (by omega)
    have e15:fL 15=true:=hall 15 (by omega)
    have e16:fL 16=true:=hall 16 (by omega)
    have e17:fL 17=true:=hall 17 (by omega)
    have e18:fL 18=true:=hall 18 (by omega)
    have e19:fL 19=true:=hall 19 (by omega)
    have e20:fL 20=true:=hall 20 (by omega)
    have e21:fL 21=true:=hall 21 (by omega)
    have e22:fL 22=true:=hall 22 (by omega)
    have e23:fL 23=true:=hall 23 (by omega)
    have e24:fL 24=true:=hall 24 (by omega)
    have e25:fL 25=true:=hall 25 (by omega)
    have e26:fL 26=true:=hall 26 (by omega)
    have e27:fL 27=true:=hall 27 (by omega)
    have e28:fL 28=true:=hall 28 (by omega)
    have e29:fL 29=true:=hall 29 (by omega)
    have e30:fL 30=true:=hall 30 (by omega)
    have e31:fL 31=true:=hall 31 (by omega)
    have e32:fL 32=true:=hall 32 (by omega)
    have e33:fL 33=true:=hall 33 (by omega)
    have e34:fL 34=true:=hall 34 (by omega)
    have e35:fL 35=true:=hall 35 (by omega)
    have e36:fL 36=true:=hall 36 (by omega)
    have e37:fL 37=true:=hall 37 (by omega)
    have e38:fL 38=true:=hall 38 (by omega)
    have e39:fL 39=true:=hall 39 (by omega)
    have e40:fL 40=true:=hall 40 (by omega)
    have e41:fL 41=true:=hall 41 (by omega)
    have e42:fL 42=true:=hall 42 (by omega)
    have e43:fL 43=true:=hall 43 (by omega)
    have e44:fL 44=true:=hall 44 (by omega)
    have e45:fL 45=true:=hall 45 (by omega)
    have e46:fL 46=true:=hall 46 (by omega)
    have e47:fL 47=true:=hall 47 (by omega)
    have e48:fL 48=true:=hall 48 (by omega)
    have e49:fL 49=true:=hall 49 (by omega)
    simp only [e0,e1,e2,e3,e4,e5,e6,e7,e8,e9,e10,e11,e12,e13,e14,e15,e16,e17,e18,e19,e20,e21,e22,e23,e24,e25,e26,e27,e28,e29,e30,e31,e32,e33,e34,e35,e36,e37,e38,e39,e40,e41,e42,e43,e44,e45,e46,e47,e48,e49,cond_true,List.drop_succ_cons,List.drop_zero]
    clear hall
    have hb9:=hb.trans (hS.mono hb.size)
    go_wp2
    go_roundw
    case rel=>exact ⟨k+1,by omega,by go_num,hb9⟩
    case measure=>simp [intOf];omega
  ·have:k=es.length:=by omega
   subst this
   go_wp2
   go_ret
   exact ⟨rfl,hb⟩
theorem hasIntB_c (A:Option Addr) (c:Nat) (l:List Int) (x:Int) (w:World) (hl:l.length ≤ 140737488351232) (hs:Sl w w.heap.size 1 A (l.map ic)) :
  Calls Tryz.prog 21 #[.slice A l.length c,.int .i64 x] w fun e w'=>e=.returned (.bool (decide (x ∈ l)))∧Below w.heap.size w w':=by
 go_enter Tryz.func21,Tryz.ntmps21
 go_wp2_with fail
 go_loopw [5] (fun i wr=>∃ k:Nat,k ≤ l.length∧i=.int .i64 k∧Below w.heap.size w wr∧Hid (x ∉ l.take k)) (fun i _=>l.length - (intOf i).toNat)
 case atStart=>exact ⟨0,Nat.zero_le _,rfl,Below.refl _ _,(show x ∉ l.take 0 by simp)⟩
 case round =>
  obtain ⟨k,hk,rfl,hb,hno⟩:=hrel
  by_cases hlt:k < l.length
  ·obtain ⟨b,off,rfl,hbB,hc⟩:=hs.int hlt
   have c0:wr.cell? ⟨b,off+k,none⟩=some (.int .i64 l[k]):=by rw [hb.cell hbB];exact hc
   have hnx:=Lib.hid (show l.take (k+1)=l.take k ++ [l[k]] from List.take_succ_eq_append_getElem hlt)
   have hmx:=Lib.hid (List.getElem_mem hlt)
   clear hc
   generalize l[k]=y at *
   by_cases he:y=x
   ·have hd:Hid (decide (x ∈ l)=true):=Lib.hid (decide_eq_true (by rw [← he];exact hmx.out))
    subst he
    clear hno hnx hmx
    go_wp2
    go_ret
    exact ⟨by rw [hd.out];rfl,hb⟩
   ·have hno2:Hid (x ∉ l.take (k+1)):=by
     unfold Hid
     rw [hnx.out,List.mem_append,List.mem_singleton]
     rintro (h | h)
     ·exact hno.out h
     ·exact he h.symm
    go_wp2
    go_roundw
    case rel=>exact ⟨k+1,by omega,by go_num,hb,hno2⟩
    case measure=>simp [intOf];omega
  ·have hd:Hid (decide (x ∈ l)=false):=Lib.hid (decide_eq_false (by have h:=hno.out;rwa [show k=l.length by omega,List.take_length] at h))
   clear hno
   go_wp2
   go_ret
   exact ⟨by rw [hd.out];rfl,hb⟩
end Go.Proofs.YtednjmldjbndhaaGreatDoor
