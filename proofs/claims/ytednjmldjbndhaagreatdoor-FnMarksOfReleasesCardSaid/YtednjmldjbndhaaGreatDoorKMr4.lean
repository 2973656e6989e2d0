/- Comparing figures: the program's and the reference's. Conditions: for the reference's, the digits have at most four places. -/
import Derived.BigQuiet
import Derived.Test.YtednjmldjbndhaaGreatDoorKMr2
import Derived.Test.YtednjmldjbndhaaGreatDoorKMr3
set_option linter.unusedSimpArgs false
set_option linter.unusedVariables false
set_option maxRecDepth 100000
set_option maxHeartbeats 8000000
namespace Go.Proofs.YtednjmldjbndhaaGreatDoor
open Go.RowKit
def cmpZ (a b:Int):Int:=if a < b then -1 else if b < a then 1 else 0
def or2 (x y:Int):Int:=if x ≠ 0 then x else y
def cmpF (a b:Figure):Int:=or2 (cmpZ a.tens b.tens) (cmpZ a.digits b.digits)
theorem cmpZ_cases (a b:Int):(a < b∧cmpZ a b=-1) ∨ (b < a∧cmpZ a b=1) ∨ (a=b∧cmpZ a b=0):=by
 unfold cmpZ
 by_cases h1:a < b
 ·exact .inl ⟨h1,if_pos h1⟩
 ·by_cases h2:b < a
  ·exact .inr (.inl ⟨h2,by rw [if_neg h1,if_pos h2]⟩)
  ·exact .inr (.inr ⟨by omega,by rw [if_neg h1,if_neg h2]⟩)
theorem cmpF_num {a b:Figure} (ha:0 ≤ a.digits∧a.digits ≤ 9999) (hb:0 ≤ b.digits∧b.digits ≤ 9999):cmpF a b=cmpZ (10000 * a.tens+a.digits) (10000 * b.tens+b.digits):=by
 unfold cmpF or2
 rcases cmpZ_cases a.tens b.tens with ⟨h1,h⟩ | ⟨h1,h⟩ | ⟨h1,h⟩ <;> rcases cmpZ_cases a.digits b.digits with ⟨h2,h'⟩ | ⟨h2,h'⟩ | ⟨h2,h'⟩ <;> rcases cmpZ_cases (10000 * a.tens+a.digits) (10000 * b.tens+b.digits) with ⟨h3,h''⟩ | ⟨h3,h''⟩ | ⟨h3,h''⟩ <;> rw [h,h',h''] <;> simp <;> omega
theorem isNaNZ_c (a:Int) (w:World):Calls Tryz.prog 133 #[.int .i64 a] w fun e w'=>e=.returned (.bool false)∧w=w':=by
 go_enter Tryz.func133,Tryz.ntmps133
 go_wp2
 go_ret
 exact ⟨by simp,rfl⟩
theorem compareZ_c (a b:Int) (w:World):Calls Tryz.prog 109 #[.int .i64 a,.int .i64 b] w fun e w'=>e=.returned (.int .i64 (cmpZ a b))∧w=w':=by
 rcases cmpZ_cases a b with ⟨h1,e1⟩ | ⟨h2,e1⟩ | ⟨h3,e1⟩
 ·rw [e1]
  clear e1
  go_enter Tryz.func109,Tryz.ntmps109
  go_wp2_with (go_at_call 133;refine (isNaNZ_c _ _).mono ?_;rintro e w' ⟨rfl,rfl⟩)
  go_ret
  exact ⟨rfl,rfl⟩
 ·rw [e1]
  clear e1
  have h1:¬ a < b:=by omega
  go_enter Tryz.func109,Tryz.ntmps109
  go_wp2_with (go_at_call 133;refine (isNaNZ_c _ _).mono ?_;rintro e w' ⟨rfl,rfl⟩)
  go_ret
  exact ⟨rfl,rfl⟩
 ·rw [e1]
  clear e1
  have h1:¬ a < b:=by omega
  have h2:¬ b < a:=by omega
  go_enter Tryz.func109,Tryz.ntmps109
  go_wp2_with (go_at_call 133;refine (isNaNZ_c _ _).mono ?_;rintro e w' ⟨rfl,rfl⟩)
  go_ret
  exact ⟨rfl,rfl⟩
theorem or2_c (b:Nat) (x y:Int) (w:World) (c0:w.cell? ⟨b,0,none⟩=some (.int .i64 x)) (c1:w.cell? ⟨b,1,none⟩=some (.int .i64 y)) :
  Calls Tryz.prog 108 #[.slice (some ⟨b,0,none⟩) 2 2] w fun e w'=>e=.returned (.int .i64 (or2 x y))∧w=w':=by
 go_enter Tryz.func108,Tryz.ntmps108
 go_wp2_with fail
 go_loop [8] (fun i=>∃ k:Nat,k ≤ 2∧i=.int .i64 k∧Hid ((1 ≤ k→x=0)∧(2 ≤ k→y=0))) (fun i=>2 - (intOf i).toNat)
 case atStart=>exact ⟨0,by omega,rfl,⟨fun h=>by omega,fun h=>by omega⟩⟩
 case round =>
  obtain ⟨k,hk,rfl,H⟩:=hrel
  have h4:k=0 ∨ k=1 ∨ k=2:=by omega
  rcases h4 with rfl | rfl | rfl
  ·by_cases hx:x=0
   ·have hx':(x != 0)=false:=by simp [hx]
    have HX:=Lib.hid hx
    clear hx
    go_wp2
    go_round
    case rel=>exact ⟨1,by omega,by first | rfl | go_num,(show Hid _ from ⟨fun _=>HX.out,fun h=>by omega⟩)⟩
    case measure=>simp [intOf]
   ·have hx':(x != 0)=true:=by simp [hx]
    have HX:=Lib.hid hx
    clear hx
    go_wp2
    go_ret
    exact ⟨ret_int (by unfold or2;rw [if_pos HX.out]),rfl⟩
  ·have H1:=Lib.hid (H.out.1 (by omega))
   by_cases hx:y=0
   ·have hx':(y != 0)=false:=by simp [hx]
    have HX:=Lib.hid hx
    clear hx H
    go_wp2
    go_round
    case rel=>exact ⟨2,by omega,by first | rfl | go_num,(show Hid _ from ⟨fun _=>H1.out,fun _=>HX.out⟩)⟩
    case measure=>simp [intOf]
   ·have hx':(y != 0)=true:=by simp [hx]
    have HX:=Lib.hid hx
    clear hx H
    go_wp2
    go_ret
    exact ⟨ret_int (by unfold or2;rw [if_neg (by rw [H1.out];simp)]),rfl⟩
  ·have H1:=Lib.hid (H.out.1 (by omega))
   have H2:=Lib.hid (H.out.2 (by omega))
   clear H
   go_wp2
   go_ret
   exact ⟨ret_int (by unfold or2;rw [if_neg (by rw [H1.out];simp),H2.out]),rfl⟩
structure TwF (w0:World) (a b:Figure) (v:World):Prop where
 hb:Below w0.heap.size w0 v
 b1:Blk v w0.heap.size 26 #[.int .i64 a.digits,.int .i64 a.tens]
 b2:Blk v (w0.heap.size+1) 26 #[.int .i64 b.digits,.int .i64 b.tens]
theorem TwF.below {w0 v v':World} {a b:Figure} (h:TwF w0 a b v) (hb:Below v.heap.size v v'):TwF w0 a b v':=⟨h.hb.trans (hb.mono h.hb.size),h.b1.below hb h.b1.lt,h.b2.below hb h.b2.lt⟩
theorem TwF.drew {w0 v:World} {a b:Figure} (h:TwF w0 a b v):TwF w0 a b v.drew:=⟨h.hb.drew,h.b1,h.b2⟩
theorem TwF.init {w0:World} {a b:Figure}:TwF w0 a b ((w0.alloc (.cells #[.int .i64 a.digits,.int .i64 a.tens] 26)).alloc (.cells #[.int .i64 b.digits,.int .i64 b.tens] 26)) :=
 ⟨(by repeat first | with_reducible (first | exact Below.refl _ _ | apply below_drewN' | apply Below.drew | refine Below.alloc ?_ ?_ _ | refine Below.setCell ?_ ?_ _) | exact Below.refl _ _ | omega | (simp <;> omega) | (have:=(Below.refl _ _).size;first | omega | (simp <;> omega))),(Blk.new _ _ _).alloc _,Blk.new' _ _ _ (by simp)⟩
theorem compareFigures_c (a b:Figure) (w:World):Calls Tryz.prog 77 #[a.agg,b.agg] w fun e w'=>e=.returned (.int .i64 (cmpF a b))∧Below w.heap.size w w':=by
 have hT0:TwF w a b _:=TwF.init
 unfold cmpF
 obtain ⟨d,t⟩:=a
 obtain ⟨d',t'⟩:=b
 unfold Figure.agg
 simp only at hT0 ⊢
 have HC:=fun (x y:Int) W=>Lib.hid ((compareZ_c x y W).mono fun _ w' h=>(⟨h.1,by rw [← h.2];exact Below.refl _ _⟩:_∧Below W.heap.size W w'))
 have HO:=fun b W c0 c1=>Lib.hid (or2_c b (cmpZ t t') (cmpZ d d') W c0 c1)
 generalize hx:cmpZ t t'=x at *
 generalize hy:cmpZ d d'=y at *
 have HX:=Lib.hid hx
 have HY:=Lib.hid hy
 clear hx hy
 go_enter Tryz.func77,Tryz.ntmps77
 go_wp2_with fail
 generalize (w.alloc (.cells #[.int .i64 d,.int .i64 t] 26)).alloc (.cells #[.int .i64 d',.int .i64 t'] 26)=W at *
 refine wp_region_sink 10 (fun a0 fL bA v=>∃ v5 v6 v7 v8 v9 v10 v11 v12 v13 v14:Value,bA=(((((((((a0.put (some 5) v5).put (some 6) v6).put (some 7) v7).put (some 8) v8).put (some 9) v9).put (some 10) v10).put (some 11) v11).put (some 12) v12).put (some 13) v13).put (some 14) v14∧(TwF w ⟨d,t⟩ ⟨d',t'⟩ v)∧(fL 0=true→v5=.pointer (some ⟨w.heap.size,1,none⟩))∧(fL 1=true→v6=.int .i64 t)∧(fL 2=true→v7=.pointer (some ⟨w.heap.size+1,1,none⟩))∧(fL 3=true→v8=.int .i64 t')∧(fL 4=true→v9=.int .i64 x)∧(fL 5=true→v10=.pointer (some ⟨w.heap.size,0,none⟩))∧(fL 6=true→v11=.int .i64 d)∧(fL 7=true→v12=.pointer (some ⟨w.heap.size+1,0,none⟩))∧(fL 8=true→v13=.int .i64 d')∧(fL 9=true→v14=.int .i64 y)) (by kernel_rfl) (by decide +kernel) ?_ ?_ ?_
 ·exact ⟨undef,undef,undef,undef,undef,undef,undef,undef,undef,undef,by simp only [Act.put,List.setIfInBounds_toArray,List.set_cons_zero,List.set_cons_succ],hT0.drew,nofun,nofun,nofun,nofun,nofun,nofun,nofun,nofun,nofun,nofun⟩
 ·rintro fL bA v ⟨v5,v6,v7,v8,v9,v10,v11,v12,v13,v14,rfl,hS,q0,q1,q2,q3,q4,q5,q6,q7,q8,q9⟩ i hi hf o ho hall
  simp only [Act.put,List.setIfInBounds_toArray,List.set_cons_zero,List.set_cons_succ]
  have hn:i=0 ∨ i=1 ∨ i=2 ∨ i=3 ∨ i=4 ∨ i=5 ∨ i=6 ∨ i=7 ∨ i=8 ∨ i=9:=by omega
  clear hi
  rcases hn with rfl | rfl | rfl | rfl | rfl | rfl | rfl | rfl | rfl | rfl
  ·obtain rfl:=Option.some.inj ho
   clear hall ho
   refine wpOp_step rfl (fun K hK=>?_)
   go_simp
   exact hK _ _ ⟨_,_,_,_,_,_,_,_,_,_,rfl,hS,fun _=>rfl,q1,q2,q3,q4,q5,q6,q7,q8,q9⟩
  ·obtain rfl:=Option.some.inj ho
   obtain rfl:=q0 (hall ⟨0,.data⟩ (by simp) rfl)
   have y0:v.cell? ⟨w.heap.size,1,none⟩=some (.int .i64 t):=hS.b1.cell 1
   clear hall ho
   refine wpOp_step rfl (fun K hK=>?_)
   go_simp
   exact hK _ _ ⟨_,_,_,_,_,_,_,_,_,_,rfl,hS,fun _=>rfl,fun _=>rfl,q2,q3,q4,q5,q6,q7,q8,q9⟩
  ·obtain rfl:=Option.some.inj ho
   clear hall ho
   refine wpOp_step rfl (fun K hK=>?_)
   go_simp
   exact hK _ _ ⟨_,_,_,_,_,_,_,_,_,_,rfl,hS,q0,q1,fun _=>rfl,q3,q4,q5,q6,q7,q8,q9⟩
  ·obtain rfl:=Option.some.inj ho
   obtain rfl:=q2 (hall ⟨2,.data⟩ (by simp) rfl)
   have y0:v.cell? ⟨w.heap.size+1,1,none⟩=some (.int .i64 t'):=hS.b2.cell 1
   clear hall ho
   refine wpOp_step rfl (fun K hK=>?_)
   go_simp
   exact hK _ _ ⟨_,_,_,_,_,_,_,_,_,_,rfl,hS,q0,q1,fun _=>rfl,fun _=>rfl,q4,q5,q6,q7,q8,q9⟩
  ·obtain rfl:=Option.some.inj ho
   obtain rfl:=q1 (hall ⟨1,.data⟩ (by simp) rfl)
   obtain rfl:=q3 (hall ⟨3,.data⟩ (by simp) rfl)
   clear hall ho
   refine wpOp_step rfl (fun K hK=>?_)
   go_simp
   refine Calls.mono ((by have h:=(HC t t' v).out;rw [HX.out] at h;exact h)) ?_;rintro e w1 ⟨rfl,hb1⟩
   go_simp
   exact hK _ _ ⟨_,_,_,_,_,_,_,_,_,_,rfl,hS.below hb1,q0,fun _=>rfl,q2,fun _=>rfl,fun _=>rfl,q5,q6,q7,q8,q9⟩
  ·obtain rfl:=Option.some.inj ho
   clear hall ho
   refine wpOp_step rfl (fun K hK=>?_)
   go_simp
   exact hK _ _ ⟨_,_,_,_,_,_,_,_,_,_,rfl,hS,q0,q1,q2,q3,q4,fun _=>rfl,q6,q7,q8,q9⟩
  ·obtain rfl:=Option.some.inj ho
   obtain rfl:=q5 (hall ⟨5,.data⟩ (by simp) rfl)
   have y0:v.cell? ⟨w.heap.size,0,none⟩=some (.int .i64 d):=hS.b1.cell 0
   clear hall ho
   refine wpOp_step rfl (fun K hK=>?_)
   go_simp
   exact hK _ _ ⟨_,_,_,_,_,_,_,_,_,_,rfl,hS,q0,q1,q2,q3,q4,fun _=>rfl,fun _=>rfl,q7,q8,q9⟩
  ·obtain rfl:=Option.some.inj ho
   clear hall ho
   refine wpOp_step rfl (fun K hK=>?_)
   go_simp
   exact hK _ _ ⟨_,_,_,_,_,_,_,_,_,_,rfl,hS,q0,q1,q2,q3,q4,q5,q6,fun _=>rfl,q8,q9⟩
  ·obtain rfl:=Option.some.inj ho
   obtain rfl:=q7 (hall ⟨7,.data⟩ (by simp) rfl)
   have y0:v.cell? ⟨w.heap.size+1,0,none⟩=some (.int .i64 d'):=hS.b2.cell 0
   clear hall ho
   refine wpOp_step rfl (fun K hK=>?_)
   go_simp
   exact hK _ _ ⟨_,_,_,_,_,_,_,_,_,_,rfl,hS,q0,q1,q2,q3,q4,q5,q6,fun _=>rfl,fun _=>rfl,q9⟩
  ·obtain rfl:=Option.some.inj ho
   obtain rfl:=q6 (hall ⟨6,.data⟩ (by simp) rfl)
   obtain rfl:=q8 (hall ⟨8,.data⟩ (by simp) rfl)
   clear hall ho
   refine wpOp_step rfl (fun K hK=>?_)
   go_simp
   refine Calls.mono ((by have h:=(HC d d' v).out;rw [HY.out] at h;exact h)) ?_;rintro e w1 ⟨rfl,hb1⟩
   go_simp
   exact hK _ _ ⟨_,_,_,_,_,_,_,_,_,_,rfl,hS.below hb1,q0,q1,q2,q3,q4,q5,fun _=>rfl,q7,fun _=>rfl,fun _=>rfl⟩
 ·rintro fL bA v ⟨v5,v6,v7,v8,v9,v10,v11,v12,v13,v14,rfl,hS,q0,q1,q2,q3,q4,q5,q6,q7,q8,q9⟩ hall
  simp only [Act.put,List.setIfInBounds_toArray,List.set_cons_zero,List.set_cons_succ]
  obtain rfl:=q0 (hall 0 (by omega))
  obtain rfl:=q1 (hall 1 (by omega))
  obtain rfl:=q2 (hall 2 (by omega))
  obtain rfl:=q3 (hall 3 (by omega))
  obtain rfl:=q4 (hall 4 (by omega))
  obtain rfl:=q5 (hall 5 (by omega))
  obtain rfl:=q6 (hall 6 (by omega))
  obtain rfl:=q7 (hall 7 (by omega))
  obtain rfl:=q8 (hall 8 (by omega))
  obtain rfl:=q9 (hall 9 (by omega))
  clear hall
  simp only [List.drop_succ_cons,List.drop_zero]
  have hb:=hS.hb
  have hsz:=hb.size
  have N:=Blk.new v 3 #[.int .i64 x,.int .i64 y]
  have HO':=HO v.heap.size _ (N.cell 0) (N.cell 1)
  clear hS hT0 HC HO N
  go_wp2_with fail
  refine Calls.mono HO'.out ?_;rintro e w1 ⟨rfl,rfl⟩
  go_wp2
  go_ret
  exact ⟨rfl,(by repeat first | with_reducible (first | exact hb | apply below_drewN' | apply Below.drew | refine Below.alloc ?_ ?_ _ | refine Below.setCell ?_ ?_ _) | exact hb | omega | (simp <;> omega) | (have:=(hb).size;first | omega | (simp <;> omega)))⟩
theorem l02Compare_c (a b:Figure) (w:World) (ha:figOK a=true) (hb:figOK b=true):Calls Tryz.prog 82 #[a.agg,b.agg] w fun e w'=>e=.returned (.int .i64 (cmpF a b))∧Below w.heap.size w w':=by
 obtain ⟨⟨a1,a2⟩,a3,a4⟩:=fig_bd ha
 obtain ⟨⟨b1,b2⟩,b3,b4⟩:=fig_bd hb
 rw [cmpF_num ⟨by omega,a2⟩ ⟨by omega,b2⟩]
 clear ha hb
 obtain ⟨d,t⟩:=a
 obtain ⟨d',t'⟩:=b
 unfold Figure.agg
 simp only at *
 rcases cmpZ_cases (10000 * t+d) (10000 * t'+d') with ⟨h1,e1⟩ | ⟨h2,e1⟩ | ⟨h3,e1⟩
 ·rw [e1]
  clear e1
  go_enter Tryz.func82,Tryz.ntmps82
  go_wp2_with fail
  go_quiet (fail)
  go_wp2
  go_ret
  exact ⟨rfl,(by repeat first | with_reducible (first | exact Below.refl _ _ | apply below_drewN' | apply Below.drew | refine Below.alloc ?_ ?_ _ | refine Below.setCell ?_ ?_ _) | exact Below.refl _ _ | omega | (simp <;> omega) | (have:=(Below.refl _ _).size;first | omega | (simp <;> omega)))⟩
 ·rw [e1]
  clear e1
  have h1:¬ (10000 * t+d) < (10000 * t'+d'):=by omega
  go_enter Tryz.func82,Tryz.ntmps82
  go_wp2_with fail
  go_quiet (fail)
  go_wp2
  go_ret
  exact ⟨rfl,(by repeat first | with_reducible (first | exact Below.refl _ _ | apply below_drewN' | apply Below.drew | refine Below.alloc ?_ ?_ _ | refine Below.setCell ?_ ?_ _) | exact Below.refl _ _ | omega | (simp <;> omega) | (have:=(Below.refl _ _).size;first | omega | (simp <;> omega)))⟩
 ·rw [e1]
  clear e1
  have h1:¬ (10000 * t+d) < (10000 * t'+d'):=by omega
  have h2:¬ (10000 * t'+d') < (10000 * t+d):=by omega
  clear h3
  go_enter Tryz.func82,Tryz.ntmps82
  go_wp2_with fail
  go_quiet (fail)
  go_wp2
  go_ret
  exact ⟨rfl,(by repeat first | with_reducible (first | exact Below.refl _ _ | apply below_drewN' | apply Below.drew | refine Below.alloc ?_ ?_ _ | refine Below.setCell ?_ ?_ _) | exact Below.refl _ _ | omega | (simp <;> omega) | (have:=(Below.refl _ _).size;first | omega | (simp <;> omega)))⟩
end Go.Proofs.YtednjmldjbndhaaGreatDoor
