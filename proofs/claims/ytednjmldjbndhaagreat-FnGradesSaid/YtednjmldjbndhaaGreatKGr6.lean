/- One move: the program's. Conditions: the setting is valid, the kind is one of the seven, and the point of the move's figure is known. -/
import Derived.Test.YtednjmldjbndhaaGreatKGr2
import Derived.Test.YtednjmldjbndhaaGreatKGr5
set_option linter.unusedSimpArgs false
set_option linter.unusedVariables false
set_option maxRecDepth 100000
set_option maxHeartbeats 8000000
namespace Go.Proofs.YtednjmldjbndhaaGreat
open Go.RowKit
theorem implIsSetting_c (a b:Int) (w:World):Calls Tryz.prog 176 #[.agg #[.int .i64 a,.int .i64 b]] w fun e w'=>e=.returned (.bool (setB a b))∧Below w.heap.size w w':=by
 have H:=fun x lo hi W=>Lib.hid (within_c x lo hi W)
 unfold setB
 cases h1:inB a (-1048576) 1048576 <;> cases h2:inB b 0 1048576
 all_goals
  go_enter Tryz.func176,Tryz.ntmps176
  go_wp2_with (go_at_call 52;refine (H _ _ _ _).out.mono ?_;rintro e w1 ⟨rfl,rfl⟩)
  go_ret
  exact ⟨rfl,(by repeat first | with_reducible (first | exact Below.refl _ _ | apply below_drewN' | apply Below.drew | refine Below.alloc ?_ ?_ _ | refine Below.setCell ?_ ?_ _) | exact Below.refl _ _ | omega | (simp <;> omega) | (have:=(Below.refl _ _).size;first | omega | (simp <;> omega)))⟩
theorem specIsSetting_c (a b:Int) (w:World):Calls Tryz.prog 175 #[.agg #[.int .i64 a,.int .i64 b]] w fun e w'=>e=.returned (.bool (setB a b))∧Below w.heap.size w w':=by
 have H:=fun x lo hi W=>Lib.hid (l01In_c x lo hi W)
 unfold setB
 cases h1:inB a (-1048576) 1048576 <;> cases h2:inB b 0 1048576
 all_goals
  go_enter Tryz.func175,Tryz.ntmps175
  go_wp2_with (go_at_call 56;refine (H _ _ _ _).out.mono ?_;rintro e w1 ⟨rfl,rfl⟩)
  go_ret
  exact ⟨rfl,(by repeat first | with_reducible (first | exact Below.refl _ _ | apply below_drewN' | apply Below.drew | refine Below.alloc ?_ ?_ _ | refine Below.setCell ?_ ?_ _) | exact Below.refl _ _ | omega | (simp <;> omega) | (have:=(Below.refl _ _).size;first | omega | (simp <;> omega)))⟩
theorem setCursor_c (sh cu pt:Int) (b:Bool) (w:World) (h:-1048576 ≤ sh∧sh ≤ 1048576) (hp:0 ≤ pt∧pt ≤ 1048576) :
  Calls Tryz.prog 205 #[.agg #[.int .i64 sh,.int .i64 cu],.bool b,.int .i64 pt] w fun e w'=>e=.returned (.agg #[.int .i64 sh,.int .i64 (if b then pt+sh else pt)])∧Below w.heap.size w w':=by
 obtain ⟨h1,h2⟩:=h
 obtain ⟨h3,h4⟩:=hp
 cases b with
 | false =>
  go_enter Tryz.func205,Tryz.ntmps205
  go_wp2
  refine bodyPost_ret (v:=.agg #[.int .i64 sh,.int .i64 pt]) (by simp [results,Tryz.results205,go_sem]) rfl ⟨rfl,(by repeat first | with_reducible (first | exact Below.refl _ _ | apply below_drewN' | apply Below.drew | refine Below.alloc ?_ ?_ _ | refine Below.setCell ?_ ?_ _) | exact Below.refl _ _ | omega | (simp <;> omega) | (have:=(Below.refl _ _).size;first | omega | (simp <;> omega)))⟩
 | true =>
  go_enter Tryz.func205,Tryz.ntmps205
  go_wp2
  refine bodyPost_ret (v:=.agg #[.int .i64 sh,.int .i64 (pt+sh)]) (by simp [results,Tryz.results205,go_sem]) rfl ⟨rfl,(by repeat first | with_reducible (first | exact Below.refl _ _ | apply below_drewN' | apply Below.drew | refine Below.alloc ?_ ?_ _ | refine Below.setCell ?_ ?_ _) | exact Below.refl _ _ | omega | (simp <;> omega) | (have:=(Below.refl _ _).size;first | omega | (simp <;> omega)))⟩
structure MvS (w0:World) (sh cu k s d t:Int) (v:World):Prop where
 hb:Below w0.heap.size w0 v
 b4:Blk v (w0.heap.size+1) 104 #[.int .i64 sh,.int .i64 cu]
 b5:Blk v (w0.heap.size+2) 75 #[.int .i64 k,.int .i64 s,.int .i64 d,.int .i64 t]
 b6:Blk v (w0.heap.size+3) 104 #[.int .i64 0,.int .i64 0]
section
variable {w0 v v' : World} {sh cu k s d t a b : Int}
theorem MvS.below (h:MvS w0 sh cu k s d t v) (hb:Below v.heap.size v v'):MvS w0 sh cu k s d t v' :=
 ⟨h.hb.trans (hb.mono h.hb.size),h.b4.below hb h.b4.lt,h.b5.below hb h.b5.lt,h.b6.below hb h.b6.lt⟩
theorem MvS.set0 (h:MvS w0 sh cu k s d t v):MvS w0 a cu k s d t (v.setCell ⟨w0.heap.size+1,0,none⟩ (.int .i64 a)) :=
 ⟨h.hb.setCell (Nat.le_succ _) _,h.b4.set_ 0 _,h.b5.far (by simp) _,h.b6.far (by simp) _⟩
theorem MvS.set1 (h:MvS w0 sh cu k s d t v):MvS w0 sh b k s d t (v.setCell ⟨w0.heap.size+1,1,none⟩ (.int .i64 b)) :=
 ⟨h.hb.setCell (Nat.le_succ _) _,h.b4.set_ 1 _,h.b5.far (by simp) _,h.b6.far (by simp) _⟩
theorem MvS.c40 (h:MvS w0 sh cu k s d t v):v.cell? ⟨w0.heap.size+1,0,none⟩=some (.int .i64 sh):=h.b4.cell 0
theorem MvS.c41 (h:MvS w0 sh cu k s d t v):v.cell? ⟨w0.heap.size+1,1,none⟩=some (.int .i64 cu):=h.b4.cell 1
theorem MvS.c50 (h:MvS w0 sh cu k s d t v):v.cell? ⟨w0.heap.size+1+1,0,none⟩=some (.int .i64 k):=h.b5.cell 0
theorem MvS.c51 (h:MvS w0 sh cu k s d t v):v.cell? ⟨w0.heap.size+1+1,1,none⟩=some (.int .i64 s):=h.b5.cell 1
theorem MvS.c52 (h:MvS w0 sh cu k s d t v):v.cell? ⟨w0.heap.size+1+1,2,none⟩=some (.int .i64 d):=h.b5.cell 2
theorem MvS.c53 (h:MvS w0 sh cu k s d t v):v.cell? ⟨w0.heap.size+1+1,3,none⟩=some (.int .i64 t):=h.b5.cell 3
theorem MvS.c60 (h:MvS w0 sh cu k s d t v):v.cell? ⟨w0.heap.size+1+1+1,0,none⟩=some (.int .i64 0):=h.b6.cell 0
theorem MvS.c61 (h:MvS w0 sh cu k s d t v):v.cell? ⟨w0.heap.size+1+1+1,1,none⟩=some (.int .i64 0):=h.b6.cell 1
theorem MvS.f60 (h:MvS w0 sh cu k s d t v):v.frozen? ⟨w0.heap.size+1+1+1,0,none⟩=false:=h.b6.frozen 0
theorem MvS.f61 (h:MvS w0 sh cu k s d t v):v.frozen? ⟨w0.heap.size+1+1+1,1,none⟩=false:=h.b6.frozen 1
theorem MvS.f40 (h:MvS w0 sh cu k s d t v):v.frozen? ⟨w0.heap.size+1,0,none⟩=false:=h.b4.frozen 0
theorem MvS.f41 (h:MvS w0 sh cu k s d t v):v.frozen? ⟨w0.heap.size+1,1,none⟩=false:=h.b4.frozen 1
theorem MvS.drew (h:MvS w0 sh cu k s d t v):MvS w0 sh cu k s d t v.drew:=⟨h.hb.drew,h.b4,h.b5,h.b6⟩
end
theorem moved0_c (L:Int) (A1:Option Addr) (c1:Nat) (l1:List Int) (A2:Option Addr) (c2:Nat) (l2:List Int) (sh cu s d t pt:Int) (w:World)
  (hsh:-1048576 ≤ sh∧sh ≤ 1048576) (hcu:0 ≤ cu∧cu ≤ 1048576) (hp:0 ≤ pt∧pt ≤ 1048576) (HP:∀ W,Hid (Calls Tryz.prog 86 #[.int .i64 s,.agg #[.int .i64 d,.int .i64 t]] W fun e w'=>e=.returned (.int .i64 pt)∧Below W.heap.size W w'))
  (h1:l1.length ≤ 1048576) (h2:l2.length ≤ 1048576) (hs1:Sl w w.heap.size 1 A1 (l1.map ic)) (hs2:Sl w w.heap.size 1 A2 (l2.map ic)) :
  Calls Tryz.prog 171 #[.agg #[.int .i64 L,.slice A1 l1.length c1,.slice A2 l2.length c2],.agg #[.int .i64 sh,.int .i64 cu],.agg #[.int .i64 0,.int .i64 s,.int .i64 d,.int .i64 t]] w fun e w' =>
   e=.returned (.tuple #[.agg #[.int .i64 (moveR l1 l2 sh cu 0 s pt).1.1,.int .i64 (moveR l1 l2 sh cu 0 s pt).1.2],.bool (moveR l1 l2 sh cu 0 s pt).2])∧Below w.heap.size w w':=by
 have HA:=fun W h=>Lib.hid (hasScaleStock_c L A1 c1 l1 (.slice A2 l2.length c2) s W h1 h)
 have HB:=fun W h=>Lib.hid (hasScaleSlide_c L (.slice A1 l1.length c1) A2 c2 l2 s W h2 h)
 have s1:=Lib.hid hs1
 have s2:=Lib.hid hs2
 clear hs1 hs2
 have HC:=fun W=>Lib.hid (setCursor_c sh cu pt false W hsh hp)
 obtain ⟨hp1,hp2⟩:=hp
 have HI:=fun a b W=>Lib.hid (implIsSetting_c a b W)
 obtain ⟨hsh1,hsh2⟩:=hsh
 obtain ⟨hcu1,hcu2⟩:=hcu
 have hM0:MvS w sh cu 0 s d t ((((w.alloc (.cells #[.int .i64 L,.slice A1 l1.length c1,.slice A2 l2.length c2] 26)).alloc (.cells #[.int .i64 sh,.int .i64 cu] 104)).alloc (.cells #[.int .i64 0,.int .i64 s,.int .i64 d,.int .i64 t] 75)).alloc (.cells #[.int .i64 0,.int .i64 0] 104)) :=
  ⟨(by repeat first | with_reducible (first | exact Below.refl _ _ | apply below_drewN' | apply Below.drew | refine Below.alloc ?_ ?_ _ | refine Below.setCell ?_ ?_ _) | exact Below.refl _ _ | omega | (simp <;> omega) | (have:=(Below.refl _ _).size;first | omega | (simp <;> omega))),((Blk.new' _ _ _ (by simp)).alloc _).alloc _,(Blk.new' _ _ _ (by simp)).alloc _,Blk.new' _ _ _ (by simp)⟩
 have HR:∀ h,hasS l1 l2 0 s=h→Hid (moveR l1 l2 sh cu 0 s pt=if h then ((sh,pt),setB (sh) (pt)) else ((0,0),false)):=fun h e=>by
  unfold Hid moveR
  rw [e]
  cases h <;> rfl
 have HRx:=HR (decide (s ∈ l1)) rfl
 go_enter Tryz.func171,Tryz.ntmps171
 go_wp2_with fail
 generalize ((((w.alloc (.cells #[.int .i64 L,.slice A1 l1.length c1,.slice A2 l2.length c2] 26)).alloc (.cells #[.int .i64 sh,.int .i64 cu] 104)).alloc (.cells #[.int .i64 _,.int .i64 s,.int .i64 d,.int .i64 t] 75)).alloc (.cells #[.int .i64 0,.int .i64 0] 104))=W at *
 have hWs:=hM0.hb.size
 with_reducible refine Calls.mono (HA _ (((Hid.out ‹Hid (Sl w w.heap.size 1 _ (List.map ic l1))›).below hM0.hb).more hWs)).out ?_
 rintro e w1 ⟨rfl,hb1⟩
 generalize decide (s ∈ l1)=has at *
 have hM1:=hM0.below hb1
 have x50:=hM1.c50
 have x60:=hM1.c60
 have x61:=hM1.c61
 have xf0:=hM1.f60
 have xf1:=hM1.f61
 have hB1:=hM1.hb
 clear HA HB HR hb1
 cases has with
 | false =>
  go_wp2
  refine bodyPost_ret (v:=.tuple #[.agg #[.int .i64 0,.int .i64 0],.bool false]) (by simp [results,Tryz.results171,go_sem,x60,x61]) rfl ⟨by rw [HRx.out];rfl,(by repeat first | with_reducible (first | exact hB1 | apply below_drewN' | apply Below.drew | refine Below.alloc ?_ ?_ _ | refine Below.setCell ?_ ?_ _) | exact hB1 | omega | (simp <;> omega) | (have:=(hB1).size;first | omega | (simp <;> omega)))⟩
 | true =>
  clear x60 x61 xf0 xf1 hB1
  go_wp2_with fail
  clear x50
  refine wp_region_sink 10 (fun a0 fL bA v=>∃ v27 v28 v29 v30 v31 v32 v33 v34 v35 v36:Value,bA=(((((((((a0.put (some 27) v27).put (some 28) v28).put (some 29) v29).put (some 30) v30).put (some 31) v31).put (some 32) v32).put (some 33) v33).put (some 34) v34).put (some 35) v35).put (some 36) v36∧MvS w sh cu 0 s d t v∧(fL 0=true→v27=.agg #[.int .i64 sh,.int .i64 cu])∧(fL 1=true→v28=.pointer (some ⟨w.heap.size+1+1,0,none⟩))∧(fL 2=true→v29=.int .i64 0)∧(fL 3=true→v30=.bool false)∧(fL 4=true→v31=.pointer (some ⟨w.heap.size+1+1,1,none⟩))∧(fL 5=true→v32=.int .i64 s)∧(fL 6=true→v33=.pointer (some ⟨w.heap.size+1+1,2,none⟩))∧(fL 7=true→v34=.agg #[.int .i64 d,.int .i64 t])∧(fL 8=true→v35=.int .i64 pt)∧(fL 9=true→v36=.agg #[.int .i64 sh,.int .i64 (pt)])) (by kernel_rfl) (by decide +kernel) ?_ ?_ ?_
  ·exact ⟨undef,undef,undef,undef,undef,undef,undef,undef,undef,undef,by simp only [Act.put,List.setIfInBounds_toArray,List.set_cons_zero,List.set_cons_succ],hM1.drew,nofun,nofun,nofun,nofun,nofun,nofun,nofun,nofun,nofun,nofun⟩
  ·rintro fL bA v ⟨v27,v28,v29,v30,v31,v32,v33,v34,v35,v36,rfl,hS,q0,q1,q2,q3,q4,q5,q6,q7,q8,q9⟩ i hi hf o ho hall
   simp only [Act.put,List.setIfInBounds_toArray,List.set_cons_zero,List.set_cons_succ]
   have hn:i=0 ∨ i=1 ∨ i=2 ∨ i=3 ∨ i=4 ∨ i=5 ∨ i=6 ∨ i=7 ∨ i=8 ∨ i=9:=by omega
   clear hi
   rcases hn with rfl | rfl | rfl | rfl | rfl | rfl | rfl | rfl | rfl | rfl
   ·obtain rfl:=Option.some.inj ho
    have c0:=hS.c40
    have c1:=hS.c41
    clear hall ho
    refine wpOp_step rfl (fun K hK=>?_)
    go_simp
    exact hK _ _ ⟨_,_,_,_,_,_,_,_,_,_,rfl,hS,fun _=>rfl,q1,q2,q3,q4,q5,q6,q7,q8,q9⟩
   ·obtain rfl:=Option.some.inj ho
    clear hall ho
    refine wpOp_step rfl (fun K hK=>?_)
    go_simp
    exact hK _ _ ⟨_,_,_,_,_,_,_,_,_,_,rfl,hS,q0,fun _=>rfl,q2,q3,q4,q5,q6,q7,q8,q9⟩
   ·obtain rfl:=Option.some.inj ho
    obtain rfl:=q1 (hall ⟨1,.data⟩ (by simp) rfl)
    have c0:=hS.c50
    clear hall ho
    refine wpOp_step rfl (fun K hK=>?_)
    go_simp
    exact hK _ _ ⟨_,_,_,_,_,_,_,_,_,_,rfl,hS,q0,fun _=>rfl,fun _=>rfl,q3,q4,q5,q6,q7,q8,q9⟩
   ·obtain rfl:=Option.some.inj ho
    obtain rfl:=q2 (hall ⟨2,.data⟩ (by simp) rfl)
    clear hall ho
    refine wpOp_step rfl (fun K hK=>?_)
    go_simp
    exact hK _ _ ⟨_,_,_,_,_,_,_,_,_,_,rfl,hS,q0,q1,fun _=>rfl,fun _=>rfl,q4,q5,q6,q7,q8,q9⟩
   ·obtain rfl:=Option.some.inj ho
    clear hall ho
    refine wpOp_step rfl (fun K hK=>?_)
    go_simp
    exact hK _ _ ⟨_,_,_,_,_,_,_,_,_,_,rfl,hS,q0,q1,q2,q3,fun _=>rfl,q5,q6,q7,q8,q9⟩
   ·obtain rfl:=Option.some.inj ho
    obtain rfl:=q4 (hall ⟨4,.data⟩ (by simp) rfl)
    have c0:=hS.c51
    clear hall ho
    refine wpOp_step rfl (fun K hK=>?_)
    go_simp
    exact hK _ _ ⟨_,_,_,_,_,_,_,_,_,_,rfl,hS,q0,q1,q2,q3,fun _=>rfl,fun _=>rfl,q6,q7,q8,q9⟩
   ·obtain rfl:=Option.some.inj ho
    clear hall ho
    refine wpOp_step rfl (fun K hK=>?_)
    go_simp
    exact hK _ _ ⟨_,_,_,_,_,_,_,_,_,_,rfl,hS,q0,q1,q2,q3,q4,q5,fun _=>rfl,q7,q8,q9⟩
   ·obtain rfl:=Option.some.inj ho
    obtain rfl:=q6 (hall ⟨6,.data⟩ (by simp) rfl)
    have c0:=hS.c52
    have c1:=hS.c53
    clear hall ho
    refine wpOp_step rfl (fun K hK=>?_)
    go_simp
    exact hK _ _ ⟨_,_,_,_,_,_,_,_,_,_,rfl,hS,q0,q1,q2,q3,q4,q5,fun _=>rfl,fun _=>rfl,q8,q9⟩
   ·obtain rfl:=Option.some.inj ho
    obtain rfl:=q5 (hall ⟨5,.data⟩ (by simp) rfl)
    obtain rfl:=q7 (hall ⟨7,.data⟩ (by simp) rfl)
    clear hall ho
    refine wpOp_step rfl (fun K hK=>?_)
    go_simp
    refine Calls.mono ((HP _).out) ?_;rintro e w1 ⟨rfl,hb1⟩
    go_simp
    exact hK _ _ ⟨_,_,_,_,_,_,_,_,_,_,rfl,hS.below hb1,q0,q1,q2,q3,q4,fun _=>rfl,q6,fun _=>rfl,fun _=>rfl,q9⟩
   ·obtain rfl:=Option.some.inj ho
    obtain rfl:=q0 (hall ⟨0,.data⟩ (by simp) rfl)
    obtain rfl:=q3 (hall ⟨3,.data⟩ (by simp) rfl)
    obtain rfl:=q8 (hall ⟨8,.data⟩ (by simp) rfl)
    clear hall ho
    refine wpOp_step rfl (fun K hK=>?_)
    go_simp
    refine Calls.mono ((HC _).out) ?_;rintro e w1 ⟨rfl,hb1⟩
    go_simp
    exact hK _ _ ⟨_,_,_,_,_,_,_,_,_,_,rfl,hS.below hb1,fun _=>rfl,q1,q2,fun _=>rfl,q4,q5,q6,q7,fun _=>rfl,fun _=>rfl⟩
  ·rintro fL bA v ⟨v27,v28,v29,v30,v31,v32,v33,v34,v35,v36,rfl,hS,q0,q1,q2,q3,q4,q5,q6,q7,q8,q9⟩ hall
   simp only [Act.put,List.setIfInBounds_toArray,List.set_cons_zero,List.set_cons_succ]
   obtain rfl:=q0 (hall 0 (by omega))
   obtain rfl:=q1 (hall 1 (by omega))
   obtain rfl:=q2 (hall 2 (by omega))
   obtain rfl:=q3 (hall 3 (by omega))
   obtain rfl:=q4 (hall 4 (by omega))
   obtain rfl:=q5 (hall 5 (by omega))
   obtain rfl:=q6 (hall 6 (by omega))
   obtain rfl:=q7 (hall 7 (by omega))
   obtain rfl:=q8 (hall 8 (by omega))
   obtain rfl:=q9 (hall 9 (by omega))
   clear hall
   simp only [List.drop_succ_cons,List.drop_zero]
   have x40:=hS.c40
   have x41:=hS.c41
   have xf0:=hS.f40
   have xf1:=hS.f41
   have hM2:MvS w (sh) (pt) 0 s d t ((v.setCell ⟨w.heap.size+1,0,none⟩ (.int .i64 sh)).setCell ⟨w.heap.size+1,1,none⟩ (.int .i64 (pt))):=(hS.set0 (a:=sh)).set1
   go_wp2_with fail
   clear x40 x41 xf0 xf1 hS
   generalize (v.setCell ⟨w.heap.size+1,0,none⟩ (.int .i64 sh)).setCell ⟨w.heap.size+1,1,none⟩ (.int .i64 (pt))=v2 at *
   have hM2s:=hM2.hb.size
   refine wp_region_sink 3 (fun a0 fL bA v=>∃ v70 v71 v72:Value,bA=((a0.put (some 70) v70).put (some 71) v71).put (some 72) v72∧MvS w (sh) (pt) 0 s d t v∧(fL 0=true→v70=.agg #[.int .i64 (sh),.int .i64 (pt)])∧(fL 1=true→v71=.agg #[.int .i64 (sh),.int .i64 (pt)])∧(fL 2=true→v72=.bool (setB (sh) (pt)))) (by kernel_rfl) (by decide +kernel) ?_ ?_ ?_
   ·exact ⟨undef,undef,undef,by simp only [Act.put,List.setIfInBounds_toArray,List.set_cons_zero,List.set_cons_succ],hM2.drew,nofun,nofun,nofun⟩
   ·rintro fL bA v ⟨v70,v71,v72,rfl,hS,q0,q1,q2⟩ i hi hf o ho hall
    simp only [Act.put,List.setIfInBounds_toArray,List.set_cons_zero,List.set_cons_succ]
    have hn:i=0 ∨ i=1 ∨ i=2:=by omega
    clear hi
    rcases hn with rfl | rfl | rfl
    ·obtain rfl:=Option.some.inj ho
     have c0:=hS.c40
     have c1:=hS.c41
     clear hall ho
     refine wpOp_step rfl (fun K hK=>?_)
     go_simp
     exact hK _ _ ⟨_,_,_,rfl,hS,fun _=>rfl,q1,q2⟩
    ·obtain rfl:=Option.some.inj ho
     have c0:=hS.c40
     have c1:=hS.c41
     clear hall ho
     refine wpOp_step rfl (fun K hK=>?_)
     go_simp
     exact hK _ _ ⟨_,_,_,rfl,hS,q0,fun _=>rfl,q2⟩
    ·obtain rfl:=Option.some.inj ho
     obtain rfl:=q1 (hall ⟨1,.data⟩ (by simp) rfl)
     clear hall ho
     refine wpOp_step rfl (fun K hK=>?_)
     go_simp
     refine Calls.mono ((HI _ _ _).out) ?_;rintro e w1 ⟨rfl,hb1⟩
     go_simp
     exact hK _ _ ⟨_,_,_,rfl,hS.below hb1,q0,fun _=>rfl,fun _=>rfl⟩
   ·rintro fL bA v ⟨v70,v71,v72,rfl,hS,q0,q1,q2⟩ hall
    simp only [Act.put,List.setIfInBounds_toArray,List.set_cons_zero,List.set_cons_succ]
    obtain rfl:=q0 (hall 0 (by omega))
    obtain rfl:=q1 (hall 1 (by omega))
    obtain rfl:=q2 (hall 2 (by omega))
    clear hall
    simp only [List.drop_succ_cons,List.drop_zero]
    have x60:=hS.c60
    have x61:=hS.c61
    have xf0:=hS.f60
    have xf1:=hS.f61
    have hB3:=hS.hb
    go_wp2
    refine bodyPost_ret (v:=.tuple #[.agg #[.int .i64 (sh),.int .i64 (pt)],.bool (setB (sh) (pt))]) (by simp [results,Tryz.results171,go_sem,x60,x61]) rfl ⟨by rw [HRx.out];rfl,(by repeat first | with_reducible (first | exact hB3 | apply below_drewN' | apply Below.drew | refine Below.alloc ?_ ?_ _ | refine Below.setCell ?_ ?_ _) | exact hB3 | omega | (simp <;> omega) | (have:=(hB3).size;first | omega | (simp <;> omega)))⟩
theorem moved1_c (L:Int) (A1:Option Addr) (c1:Nat) (l1:List Int) (A2:Option Addr) (c2:Nat) (l2:List Int) (sh cu s d t pt:Int) (w:World)
  (hsh:-1048576 ≤ sh∧sh ≤ 1048576) (hcu:0 ≤ cu∧cu ≤ 1048576) (hp:0 ≤ pt∧pt ≤ 1048576) (HP:∀ W,Hid (Calls Tryz.prog 86 #[.int .i64 s,.agg #[.int .i64 d,.int .i64 t]] W fun e w'=>e=.returned (.int .i64 pt)∧Below W.heap.size W w'))
  (h1:l1.length ≤ 1048576) (h2:l2.length ≤ 1048576) (hs1:Sl w w.heap.size 1 A1 (l1.map ic)) (hs2:Sl w w.heap.size 1 A2 (l2.map ic)) :
  Calls Tryz.prog 171 #[.agg #[.int .i64 L,.slice A1 l1.length c1,.slice A2 l2.length c2],.agg #[.int .i64 sh,.int .i64 cu],.agg #[.int .i64 1,.int .i64 s,.int .i64 d,.int .i64 t]] w fun e w' =>
   e=.returned (.tuple #[.agg #[.int .i64 (moveR l1 l2 sh cu 1 s pt).1.1,.int .i64 (moveR l1 l2 sh cu 1 s pt).1.2],.bool (moveR l1 l2 sh cu 1 s pt).2])∧Below w.heap.size w w':=by
 have HA:=fun W h=>Lib.hid (hasScaleStock_c L A1 c1 l1 (.slice A2 l2.length c2) s W h1 h)
 have HB:=fun W h=>Lib.hid (hasScaleSlide_c L (.slice A1 l1.length c1) A2 c2 l2 s W h2 h)
 have s1:=Lib.hid hs1
 have s2:=Lib.hid hs2
 clear hs1 hs2
 have HC:=fun W=>Lib.hid (setCursor_c sh cu pt true W hsh hp)
 obtain ⟨hp1,hp2⟩:=hp
 have HI:=fun a b W=>Lib.hid (implIsSetting_c a b W)
 obtain ⟨hsh1,hsh2⟩:=hsh
 obtain ⟨hcu1,hcu2⟩:=hcu
 have hM0:MvS w sh cu 1 s d t ((((w.alloc (.cells #[.int .i64 L,.slice A1 l1.length c1,.slice A2 l2.length c2] 26)).alloc (.cells #[.int .i64 sh,.int .i64 cu] 104)).alloc (.cells #[.int .i64 1,.int .i64 s,.int .i64 d,.int .i64 t] 75)).alloc (.cells #[.int .i64 0,.int .i64 0] 104)) :=
  ⟨(by repeat first | with_reducible (first | exact Below.refl _ _ | apply below_drewN' | apply Below.drew | refine Below.alloc ?_ ?_ _ | refine Below.setCell ?_ ?_ _) | exact Below.refl _ _ | omega | (simp <;> omega) | (have:=(Below.refl _ _).size;first | omega | (simp <;> omega))),((Blk.new' _ _ _ (by simp)).alloc _).alloc _,(Blk.new' _ _ _ (by simp)).alloc _,Blk.new' _ _ _ (by simp)⟩
 have HR:∀ h,hasS l1 l2 1 s=h→Hid (moveR l1 l2 sh cu 1 s pt=if h then ((sh,pt+sh),setB (sh) (pt+sh)) else ((0,0),false)):=fun h e=>by
  unfold Hid moveR
  rw [e]
  cases h <;> rfl
 have HRx:=HR (decide (s ∈ l2)) rfl
 go_enter Tryz.func171,Tryz.ntmps171
 go_wp2_with fail
 generalize ((((w.alloc (.cells #[.int .i64 L,.slice A1 l1.length c1,.slice A2 l2.length c2] 26)).alloc (.cells #[.int .i64 sh,.int .i64 cu] 104)).alloc (.cells #[.int .i64 _,.int .i64 s,.int .i64 d,.int .i64 t] 75)).alloc (.cells #[.int .i64 0,.int .i64 0] 104))=W at *
 have hWs:=hM0.hb.size
 with_reducible refine Calls.mono (HB _ (((Hid.out ‹Hid (Sl w w.heap.size 1 _ (List.map ic l2))›).below hM0.hb).more hWs)).out ?_
 rintro e w1 ⟨rfl,hb1⟩
 generalize decide (s ∈ l2)=has at *
 have hM1:=hM0.below hb1
 have x50:=hM1.c50
 have x60:=hM1.c60
 have x61:=hM1.c61
 have xf0:=hM1.f60
 have xf1:=hM1.f61
 have hB1:=hM1.hb
 clear HA HB HR hb1
 cases has with
 | false =>
  go_wp2
  refine bodyPost_ret (v:=.tuple #[.agg #[.int .i64 0,.int .i64 0],.bool false]) (by simp [results,Tryz.results171,go_sem,x60,x61]) rfl ⟨by rw [HRx.out];rfl,(by repeat first | with_reducible (first | exact hB1 | apply below_drewN' | apply Below.drew | refine Below.alloc ?_ ?_ _ | refine Below.setCell ?_ ?_ _) | exact hB1 | omega | (simp <;> omega) | (have:=(hB1).size;first | omega | (simp <;> omega)))⟩
 | true =>
  clear x60 x61 xf0 xf1 hB1
  go_wp2_with fail
  clear x50
  refine wp_region_sink 10 (fun a0 fL bA v=>∃ v27 v28 v29 v30 v31 v32 v33 v34 v35 v36:Value,bA=(((((((((a0.put (some 27) v27).put (some 28) v28).put (some 29) v29).put (some 30) v30).put (some 31) v31).put (some 32) v32).put (some 33) v33).put (some 34) v34).put (some 35) v35).put (some 36) v36∧MvS w sh cu 1 s d t v∧(fL 0=true→v27=.agg #[.int .i64 sh,.int .i64 cu])∧(fL 1=true→v28=.pointer (some ⟨w.heap.size+1+1,0,none⟩))∧(fL 2=true→v29=.int .i64 1)∧(fL 3=true→v30=.bool true)∧(fL 4=true→v31=.pointer (some ⟨w.heap.size+1+1,1,none⟩))∧(fL 5=true→v32=.int .i64 s)∧(fL 6=true→v33=.pointer (some ⟨w.heap.size+1+1,2,none⟩))∧(fL 7=true→v34=.agg #[.int .i64 d,.int .i64 t])∧(fL 8=true→v35=.int .i64 pt)∧(fL 9=true→v36=.agg #[.int .i64 sh,.int .i64 (pt+sh)])) (by kernel_rfl) (by decide +kernel) ?_ ?_ ?_
  ·exact ⟨undef,undef,undef,undef,undef,undef,undef,undef,undef,undef,by simp only [Act.put,List.setIfInBounds_toArray,List.set_cons_zero,List.set_cons_succ],hM1.drew,nofun,nofun,nofun,nofun,nofun,nofun,nofun,nofun,nofun,nofun⟩
  ·rintro fL bA v ⟨v27,v28,v29,v30,v31,v32,v33,v34,v35,v36,rfl,hS,q0,q1,q2,q3,q4,q5,q6,q7,q8,q9⟩ i hi hf o ho hall
   simp only [Act.put,List.setIfInBounds_toArray,List.set_cons_zero,List.set_cons_succ]
   have hn:i=0 ∨ i=1 ∨ i=2 ∨ i=3 ∨ i=4 ∨ i=5 ∨ i=6 ∨ i=7 ∨ i=8 ∨ i=9:=by omega
   clear hi
   rcases hn with rfl | rfl | rfl | rfl | rfl | rfl | rfl | rfl | rfl | rfl
   ·obtain rfl:=Option.some.inj ho
    have c0:=hS.c40
    have c1:=hS.c41
    clear hall ho
    refine wpOp_step rfl (fun K hK=>?_)
    go_simp
    exact hK _ _ ⟨_,_,_,_,_,_,_,_,_,_,rfl,hS,fun _=>rfl,q1,q2,q3,q4,q5,q6,q7,q8,q9⟩
   ·obtain rfl:=Option.some.inj ho
    clear hall ho
    refine wpOp_step rfl (fun K hK=>?_)
    go_simp
    exact hK _ _ ⟨_,_,_,_,_,_,_,_,_,_,rfl,hS,q0,fun _=>rfl,q2,q3,q4,q5,q6,q7,q8,q9⟩
   ·obtain rfl:=Option.some.inj ho
    obtain rfl:=q1 (hall ⟨1,.data⟩ (by simp) rfl)
    have c0:=hS.c50
    clear hall ho
    refine wpOp_step rfl (fun K hK=>?_)
    go_simp
    exact hK _ _ ⟨_,_,_,_,_,_,_,_,_,_,rfl,hS,q0,fun _=>rfl,fun _=>rfl,q3,q4,q5,q6,q7,q8,q9⟩
   ·obtain rfl:=Option.some.inj ho
    obtain rfl:=q2 (hall ⟨2,.data⟩ (by simp) rfl)
    clear hall ho
    refine wpOp_step rfl (fun K hK=>?_)
    go_simp
    exact hK _ _ ⟨_,_,_,_,_,_,_,_,_,_,rfl,hS,q0,q1,fun _=>rfl,fun _=>rfl,q4,q5,q6,q7,q8,q9⟩
   ·obtain rfl:=Option.some.inj ho
    clear hall ho
    refine wpOp_step rfl (fun K hK=>?_)
    go_simp
    exact hK _ _ ⟨_,_,_,_,_,_,_,_,_,_,rfl,hS,q0,q1,q2,q3,fun _=>rfl,q5,q6,q7,q8,q9⟩
   ·obtain rfl:=Option.some.inj ho
    obtain rfl:=q4 (hall ⟨4,.data⟩ (by simp) rfl)
    have c0:=hS.c51
    clear hall ho
    refine wpOp_step rfl (fun K hK=>?_)
    go_simp
    exact hK _ _ ⟨_,_,_,_,_,_,_,_,_,_,rfl,hS,q0,q1,q2,q3,fun _=>rfl,fun _=>rfl,q6,q7,q8,q9⟩
   ·obtain rfl:=Option.some.inj ho
    clear hall ho
    refine wpOp_step rfl (fun K hK=>?_)
    go_simp
    exact hK _ _ ⟨_,_,_,_,_,_,_,_,_,_,rfl,hS,q0,q1,q2,q3,q4,q5,fun _=>rfl,q7,q8,q9⟩
   ·obtain rfl:=Option.some.inj ho
    obtain rfl:=q6 (hall ⟨6,.data⟩ (by simp) rfl)
    have c0:=hS.c52
    have c1:=hS.c53
    clear hall ho
    refine wpOp_step rfl (fun K hK=>?_)
    go_simp
    exact hK _ _ ⟨_,_,_,_,_,_,_,_,_,_,rfl,hS,q0,q1,q2,q3,q4,q5,fun _=>rfl,fun _=>rfl,q8,q9⟩
   ·obtain rfl:=Option.some.inj ho
    obtain rfl:=q5 (hall ⟨5,.data⟩ (by simp) rfl)
    obtain rfl:=q7 (hall ⟨7,.data⟩ (by simp) rfl)
    clear hall ho
    refine wpOp_step rfl (fun K hK=>?_)
    go_simp
    refine Calls.mono ((HP _).out) ?_;rintro e w1 ⟨rfl,hb1⟩
    go_simp
    exact hK _ _ ⟨_,_,_,_,_,_,_,_,_,_,rfl,hS.below hb1,q0,q1,q2,q3,q4,fun _=>rfl,q6,fun _=>rfl,fun _=>rfl,q9⟩
   ·obtain rfl:=Option.some.inj ho
    obtain rfl:=q0 (hall ⟨0,.data⟩ (by simp) rfl)
    obtain rfl:=q3 (hall ⟨3,.data⟩ (by simp) rfl)
    obtain rfl:=q8 (hall ⟨8,.data⟩ (by simp) rfl)
    clear hall ho
    refine wpOp_step rfl (fun K hK=>?_)
    go_simp
    refine Calls.mono ((HC _).out) ?_;rintro e w1 ⟨rfl,hb1⟩
    go_simp
    exact hK _ _ ⟨_,_,_,_,_,_,_,_,_,_,rfl,hS.below hb1,fun _=>rfl,q1,q2,fun _=>rfl,q4,q5,q6,q7,fun _=>rfl,fun _=>rfl⟩
  ·rintro fL bA v ⟨v27,v28,v29,v30,v31,v32,v33,v34,v35,v36,rfl,hS,q0,q1,q2,q3,q4,q5,q6,q7,q8,q9⟩ hall
   simp only [Act.put,List.setIfInBounds_toArray,List.set_cons_zero,List.set_cons_succ]
   obtain rfl:=q0 (hall 0 (by omega))
   obtain rfl:=q1 (hall 1 (by omega))
   obtain rfl:=q2 (hall 2 (by omega))
   obtain rfl:=q3 (hall 3 (by omega))
   obtain rfl:=q4 (hall 4 (by omega))
   obtain rfl:=q5 (hall 5 (by omega))
   obtain rfl:=q6 (hall 6 (by omega))
   obtain rfl:=q7 (hall 7 (by omega))
   obtain rfl:=q8 (hall 8 (by omega))
   obtain rfl:=q9 (hall 9 (by omega))
   clear hall
   simp only [List.drop_succ_cons,List.drop_zero]
   have x40:=hS.c40
   have x41:=hS.c41
   have xf0:=hS.f40
   have xf1:=hS.f41
   have hM2:MvS w (sh) (pt+sh) 1 s d t ((v.setCell ⟨w.heap.size+1,0,none⟩ (.int .i64 sh)).setCell ⟨w.heap.size+1,1,none⟩ (.int .i64 (pt+sh))):=(hS.set0 (a:=sh)).set1
   go_wp2_with fail
   clear x40 x41 xf0 xf1 hS
   generalize (v.setCell ⟨w.heap.size+1,0,none⟩ (.int .i64 sh)).setCell ⟨w.heap.size+1,1,none⟩ (.int .i64 (pt+sh))=v2 at *
   have hM2s:=hM2.hb.size
   refine wp_region_sink 3 (fun a0 fL bA v=>∃ v70 v71 v72:Value,bA=((a0.put (some 70) v70).put (some 71) v71).put (some 72) v72∧MvS w (sh) (pt+sh) 1 s d t v∧(fL 0=true→v70=.agg #[.int .i64 (sh),.int .i64 (pt+sh)])∧(fL 1=true→v71=.agg #[.int .i64 (sh),.int .i64 (pt+sh)])∧(fL 2=true→v72=.bool (setB (sh) (pt+sh)))) (by kernel_rfl) (by decide +kernel) ?_ ?_ ?_
   ·exact ⟨undef,undef,undef,by simp only [Act.put,List.setIfInBounds_toArray,List.set_cons_zero,List.set_cons_succ],hM2.drew,nofun,nofun,nofun⟩
   ·rintro fL bA v ⟨v70,v71,v72,rfl,hS,q0,q1,q2⟩ i hi hf o ho hall
    simp only [Act.put,List.setIfInBounds_toArray,List.set_cons_zero,List.set_cons_succ]
    have hn:i=0 ∨ i=1 ∨ i=2:=by omega
    clear hi
    rcases hn with rfl | rfl | rfl
    ·obtain rfl:=Option.some.inj ho
     have c0:=hS.c40
     have c1:=hS.c41
     clear hall ho
     refine wpOp_step rfl (fun K hK=>?_)
     go_simp
     exact hK _ _ ⟨_,_,_,rfl,hS,fun _=>rfl,q1,q2⟩
    ·obtain rfl:=Option.some.inj ho
     have c0:=hS.c40
     have c1:=hS.c41
     clear hall ho
     refine wpOp_step rfl (fun K hK=>?_)
     go_simp
     exact hK _ _ ⟨_,_,_,rfl,hS,q0,fun _=>rfl,q2⟩
    ·obtain rfl:=Option.some.inj ho
     obtain rfl:=q1 (hall ⟨1,.data⟩ (by simp) rfl)
     clear hall ho
     refine wpOp_step rfl (fun K hK=>?_)
     go_simp
     refine Calls.mono ((HI _ _ _).out) ?_;rintro e w1 ⟨rfl,hb1⟩
     go_simp
     exact hK _ _ ⟨_,_,_,rfl,hS.below hb1,q0,fun _=>rfl,fun _=>rfl⟩
   ·rintro fL bA v ⟨v70,v71,v72,rfl,hS,q0,q1,q2⟩ hall
    simp only [Act.put,List.setIfInBounds_toArray,List.set_cons_zero,List.set_cons_succ]
    obtain rfl:=q0 (hall 0 (by omega))
    obtain rfl:=q1 (hall 1 (by omega))
    obtain rfl:=q2 (hall 2 (by omega))
    clear hall
    simp only [List.drop_succ_cons,List.drop_zero]
    have x60:=hS.c60
    have x61:=hS.c61
    have xf0:=hS.f60
    have xf1:=hS.f61
    have hB3:=hS.hb
    go_wp2
    refine bodyPost_ret (v:=.tuple #[.agg #[.int .i64 (sh),.int .i64 (pt+sh)],.bool (setB (sh) (pt+sh))]) (by simp [results,Tryz.results171,go_sem,x60,x61]) rfl ⟨by rw [HRx.out];rfl,(by repeat first | with_reducible (first | exact hB3 | apply below_drewN' | apply Below.drew | refine Below.alloc ?_ ?_ _ | refine Below.setCell ?_ ?_ _) | exact hB3 | omega | (simp <;> omega) | (have:=(hB3).size;first | omega | (simp <;> omega)))⟩
theorem moved2_c (L:Int) (A1:Option Addr) (c1:Nat) (l1:List Int) (A2:Option Addr) (c2:Nat) (l2:List Int) (sh cu s d t pt:Int) (w:World)
  (hsh:-1048576 ≤ sh∧sh ≤ 1048576) (hcu:0 ≤ cu∧cu ≤ 1048576) (hp:0 ≤ pt∧pt ≤ 1048576) (HP:∀ W,Hid (Calls Tryz.prog 86 #[.int .i64 s,.agg #[.int .i64 d,.int .i64 t]] W fun e w'=>e=.returned (.int .i64 pt)∧Below W.heap.size W w'))
  (h1:l1.length ≤ 1048576) (h2:l2.length ≤ 1048576) (hs1:Sl w w.heap.size 1 A1 (l1.map ic)) (hs2:Sl w w.heap.size 1 A2 (l2.map ic)) :
  Calls Tryz.prog 171 #[.agg #[.int .i64 L,.slice A1 l1.length c1,.slice A2 l2.length c2],.agg #[.int .i64 sh,.int .i64 cu],.agg #[.int .i64 2,.int .i64 s,.int .i64 d,.int .i64 t]] w fun e w' =>
   e=.returned (.tuple #[.agg #[.int .i64 (moveR l1 l2 sh cu 2 s pt).1.1,.int .i64 (moveR l1 l2 sh cu 2 s pt).1.2],.bool (moveR l1 l2 sh cu 2 s pt).2])∧Below w.heap.size w w':=by
 have HA:=fun W h=>Lib.hid (hasScaleStock_c L A1 c1 l1 (.slice A2 l2.length c2) s W h1 h)
 have HB:=fun W h=>Lib.hid (hasScaleSlide_c L (.slice A1 l1.length c1) A2 c2 l2 s W h2 h)
 have s1:=Lib.hid hs1
 have s2:=Lib.hid hs2
 clear hs1 hs2
 have HC:=fun W=>Lib.hid (setCursor_c sh cu pt true W hsh hp)
 obtain ⟨hp1,hp2⟩:=hp
 have HI:=fun a b W=>Lib.hid (implIsSetting_c a b W)
 obtain ⟨hsh1,hsh2⟩:=hsh
 obtain ⟨hcu1,hcu2⟩:=hcu
 have hM0:MvS w sh cu 2 s d t ((((w.alloc (.cells #[.int .i64 L,.slice A1 l1.length c1,.slice A2 l2.length c2] 26)).alloc (.cells #[.int .i64 sh,.int .i64 cu] 104)).alloc (.cells #[.int .i64 2,.int .i64 s,.int .i64 d,.int .i64 t] 75)).alloc (.cells #[.int .i64 0,.int .i64 0] 104)) :=
  ⟨(by repeat first | with_reducible (first | exact Below.refl _ _ | apply below_drewN' | apply Below.drew | refine Below.alloc ?_ ?_ _ | refine Below.setCell ?_ ?_ _) | exact Below.refl _ _ | omega | (simp <;> omega) | (have:=(Below.refl _ _).size;first | omega | (simp <;> omega))),((Blk.new' _ _ _ (by simp)).alloc _).alloc _,(Blk.new' _ _ _ (by simp)).alloc _,Blk.new' _ _ _ (by simp)⟩
 have HR:∀ h,hasS l1 l2 2 s=h→Hid (moveR l1 l2 sh cu 2 s pt=if h then ((cu - pt,cu),setB (cu - pt) (cu)) else ((0,0),false)):=fun h e=>by
  unfold Hid moveR
  rw [e]
  cases h <;> rfl
 have HRx:=HR (decide (s ∈ l2)) rfl
 go_enter Tryz.func171,Tryz.ntmps171
 go_wp2_with fail
 generalize ((((w.alloc (.cells #[.int .i64 L,.slice A1 l1.length c1,.slice A2 l2.length c2] 26)).alloc (.cells #[.int .i64 sh,.int .i64 cu] 104)).alloc (.cells #[.int .i64 _,.int .i64 s,.int .i64 d,.int .i64 t] 75)).alloc (.cells #[.int .i64 0,.int .i64 0] 104))=W at *
 have hWs:=hM0.hb.size
 with_reducible refine Calls.mono (HB _ (((Hid.out ‹Hid (Sl w w.heap.size 1 _ (List.map ic l2))›).below hM0.hb).more hWs)).out ?_
 rintro e w1 ⟨rfl,hb1⟩
 generalize decide (s ∈ l2)=has at *
 have hM1:=hM0.below hb1
 have x50:=hM1.c50
 have x60:=hM1.c60
 have x61:=hM1.c61
 have xf0:=hM1.f60
 have xf1:=hM1.f61
 have hB1:=hM1.hb
 clear HA HB HR hb1
 cases has with
 | false =>
  go_wp2
  refine bodyPost_ret (v:=.tuple #[.agg #[.int .i64 0,.int .i64 0],.bool false]) (by simp [results,Tryz.results171,go_sem,x60,x61]) rfl ⟨by rw [HRx.out];rfl,(by repeat first | with_reducible (first | exact hB1 | apply below_drewN' | apply Below.drew | refine Below.alloc ?_ ?_ _ | refine Below.setCell ?_ ?_ _) | exact hB1 | omega | (simp <;> omega) | (have:=(hB1).size;first | omega | (simp <;> omega)))⟩
 | true =>
  clear x60 x61 xf0 xf1 hB1
  go_wp2_with fail
  clear x50
  have hw:IntKind.i64.wrap (cu - pt)=cu - pt:=IntWalk.i64_in _ (by omega)
  refine wp_region_sink 9 (fun a0 fL bA v=>∃ v39 v40 v41 v42 v43 v44 v45 v46 v47:Value,bA=((((((((a0.put (some 39) v39).put (some 40) v40).put (some 41) v41).put (some 42) v42).put (some 43) v43).put (some 44) v44).put (some 45) v45).put (some 46) v46).put (some 47) v47∧MvS w sh cu 2 s d t v∧(fL 0=true→v39=.pointer (some ⟨w.heap.size+1,1,none⟩))∧(fL 1=true→v40=.int .i64 cu)∧(fL 2=true→v41=.pointer (some ⟨w.heap.size+1+1,1,none⟩))∧(fL 3=true→v42=.int .i64 s)∧(fL 4=true→v43=.pointer (some ⟨w.heap.size+1+1,2,none⟩))∧(fL 5=true→v44=.agg #[.int .i64 d,.int .i64 t])∧(fL 6=true→v45=.int .i64 pt)∧(fL 7=true→v46=.int .i64 (cu - pt))∧(fL 8=true→v47=.pointer (some ⟨w.heap.size+1,0,none⟩))) (by kernel_rfl) (by decide +kernel) ?_ ?_ ?_
  ·exact ⟨undef,undef,undef,undef,undef,undef,undef,undef,undef,by simp only [Act.put,List.setIfInBounds_toArray,List.set_cons_zero,List.set_cons_succ],hM1.drew,nofun,nofun,nofun,nofun,nofun,nofun,nofun,nofun,nofun⟩
  ·rintro fL bA v ⟨v39,v40,v41,v42,v43,v44,v45,v46,v47,rfl,hS,q0,q1,q2,q3,q4,q5,q6,q7,q8⟩ i hi hf o ho hall
   simp only [Act.put,List.setIfInBounds_toArray,List.set_cons_zero,List.set_cons_succ]
   have hn:i=0 ∨ i=1 ∨ i=2 ∨ i=3 ∨ i=4 ∨ i=5 ∨ i=6 ∨ i=7 ∨ i=8:=by omega
   clear hi
   rcases hn with rfl | rfl | rfl | rfl | rfl | rfl | rfl | rfl | rfl
   ·obtain rfl:=Option.some.inj ho
    clear hall ho
    refine wpOp_step rfl (fun K hK=>?_)
    go_simp
    exact hK _ _ ⟨_,_,_,_,_,_,_,_,_,rfl,hS,fun _=>rfl,q1,q2,q3,q4,q5,q6,q7,q8⟩
   ·obtain rfl:=Option.some.inj ho
    obtain rfl:=q0 (hall ⟨0,.data⟩ (by simp) rfl)
    have c0:=hS.c41
    clear hall ho
    refine wpOp_step rfl (fun K hK=>?_)
    go_simp
    exact hK _ _ ⟨_,_,_,_,_,_,_,_,_,rfl,hS,fun _=>rfl,fun _=>rfl,q2,q3,q4,q5,q6,q7,q8⟩
   ·obtain rfl:=Option.some.inj ho
    clear hall ho
    refine wpOp_step rfl (fun K hK=>?_)
    go_simp
    exact hK _ _ ⟨_,_,_,_,_,_,_,_,_,rfl,hS,q0,q1,fun _=>rfl,q3,q4,q5,q6,q7,q8⟩
   ·obtain rfl:=Option.some.inj ho
    obtain rfl:=q2 (hall ⟨2,.data⟩ (by simp) rfl)
    have c0:=hS.c51
    clear hall ho
    refine wpOp_step rfl (fun K hK=>?_)
    go_simp
    exact hK _ _ ⟨_,_,_,_,_,_,_,_,_,rfl,hS,q0,q1,fun _=>rfl,fun _=>rfl,q4,q5,q6,q7,q8⟩
   ·obtain rfl:=Option.some.inj ho
    clear hall ho
    refine wpOp_step rfl (fun K hK=>?_)
    go_simp
    exact hK _ _ ⟨_,_,_,_,_,_,_,_,_,rfl,hS,q0,q1,q2,q3,fun _=>rfl,q5,q6,q7,q8⟩
   ·obtain rfl:=Option.some.inj ho
    obtain rfl:=q4 (hall ⟨4,.data⟩ (by simp) rfl)
    have c0:=hS.c52
    have c1:=hS.c53
    clear hall ho
    refine wpOp_step rfl (fun K hK=>?_)
    go_simp
    exact hK _ _ ⟨_,_,_,_,_,_,_,_,_,rfl,hS,q0,q1,q2,q3,fun _=>rfl,fun _=>rfl,q6,q7,q8⟩
   ·obtain rfl:=Option.some.inj ho
    obtain rfl:=q3 (hall ⟨3,.data⟩ (by simp) rfl)
    obtain rfl:=q5 (hall ⟨5,.data⟩ (by simp) rfl)
    clear hall ho
    refine wpOp_step rfl (fun K hK=>?_)
    go_simp
    refine Calls.mono ((HP _).out) ?_;rintro e w1 ⟨rfl,hb1⟩
    go_simp
    exact hK _ _ ⟨_,_,_,_,_,_,_,_,_,rfl,hS.below hb1,q0,q1,q2,fun _=>rfl,q4,fun _=>rfl,fun _=>rfl,q7,q8⟩
   ·obtain rfl:=Option.some.inj ho
    obtain rfl:=q1 (hall ⟨1,.data⟩ (by simp) rfl)
    obtain rfl:=q6 (hall ⟨6,.data⟩ (by simp) rfl)
    clear hall ho
    refine wpOp_step rfl (fun K hK=>?_)
    go_simp
    exact hK _ _ ⟨_,_,_,_,_,_,_,_,_,rfl,hS,q0,fun _=>rfl,q2,q3,q4,q5,fun _=>rfl,fun _=>rfl,q8⟩
   ·obtain rfl:=Option.some.inj ho
    clear hall ho
    refine wpOp_step rfl (fun K hK=>?_)
    go_simp
    exact hK _ _ ⟨_,_,_,_,_,_,_,_,_,rfl,hS,q0,q1,q2,q3,q4,q5,q6,q7,fun _=>rfl⟩
  ·rintro fL bA v ⟨v39,v40,v41,v42,v43,v44,v45,v46,v47,rfl,hS,q0,q1,q2,q3,q4,q5,q6,q7,q8⟩ hall
   simp only [Act.put,List.setIfInBounds_toArray,List.set_cons_zero,List.set_cons_succ]
   obtain rfl:=q0 (hall 0 (by omega))
   obtain rfl:=q1 (hall 1 (by omega))
   obtain rfl:=q2 (hall 2 (by omega))
   obtain rfl:=q3 (hall 3 (by omega))
   obtain rfl:=q4 (hall 4 (by omega))
   obtain rfl:=q5 (hall 5 (by omega))
   obtain rfl:=q6 (hall 6 (by omega))
   obtain rfl:=q7 (hall 7 (by omega))
   obtain rfl:=q8 (hall 8 (by omega))
   clear hall
   simp only [List.drop_succ_cons,List.drop_zero]
   have x40:=hS.c40
   have xf0:=hS.f40
   have hM2:MvS w (cu - pt) (cu) 2 s d t (v.setCell ⟨w.heap.size+1,0,none⟩ (.int .i64 (cu - pt))):=hS.set0
   go_wp2_with fail
   clear x40 xf0 hS
   generalize v.setCell ⟨w.heap.size+1,0,none⟩ (.int .i64 (cu - pt))=v2 at *
   have hM2s:=hM2.hb.size
   refine wp_region_sink 3 (fun a0 fL bA v=>∃ v70 v71 v72:Value,bA=((a0.put (some 70) v70).put (some 71) v71).put (some 72) v72∧MvS w (cu - pt) (cu) 2 s d t v∧(fL 0=true→v70=.agg #[.int .i64 (cu - pt),.int .i64 (cu)])∧(fL 1=true→v71=.agg #[.int .i64 (cu - pt),.int .i64 (cu)])∧(fL 2=true→v72=.bool (setB (cu - pt) (cu)))) (by kernel_rfl) (by decide +kernel) ?_ ?_ ?_
   ·exact ⟨undef,undef,undef,by simp only [Act.put,List.setIfInBounds_toArray,List.set_cons_zero,List.set_cons_succ],hM2.drew,nofun,nofun,nofun⟩
   ·rintro fL bA v ⟨v70,v71,v72,rfl,hS,q0,q1,q2⟩ i hi hf o ho hall
    simp only [Act.put,List.setIfInBounds_toArray,List.set_cons_zero,List.set_cons_succ]
    have hn:i=0 ∨ i=1 ∨ i=2:=by omega
    clear hi
    rcases hn with rfl | rfl | rfl
    ·obtain rfl:=Option.some.inj ho
     have c0:=hS.c40
     have c1:=hS.c41
     clear hall ho
     refine wpOp_step rfl (fun K hK=>?_)
     go_simp
     exact hK _ _ ⟨_,_,_,rfl,hS,fun _=>rfl,q1,q2⟩
    ·obtain rfl:=Option.some.inj ho
     have c0:=hS.c40
     have c1:=hS.c41
     clear hall ho
     refine wpOp_step rfl (fun K hK=>?_)
     go_simp
     exact hK _ _ ⟨_,_,_,rfl,hS,q0,fun _=>rfl,q2⟩
    ·obtain rfl:=Option.some.inj ho
     obtain rfl:=q1 (hall ⟨1,.data⟩ (by simp) rfl)
     clear hall ho
     refine wpOp_step rfl (fun K hK=>?_)
     go_simp
     refine Calls.mono ((HI _ _ _).out) ?_;rintro e w1 ⟨rfl,hb1⟩
     go_simp
     exact hK _ _ ⟨_,_,_,rfl,hS.below hb1,q0,fun _=>rfl,fun _=>rfl⟩
   ·rintro fL bA v ⟨v70,v71,v72,rfl,hS,q0,q1,q2⟩ hall
    simp only [Act.put,List.setIfInBounds_toArray,List.set_cons_zero,List.set_cons_succ]
    obtain rfl:=q0 (hall 0 (by omega))
    obtain rfl:=q1 (hall 1 (by omega))
    obtain rfl:=q2 (hall 2 (by omega))
    clear hall
    simp only [List.drop_succ_cons,List.drop_zero]
    have x60:=hS.c60
    have x61:=hS.c61
    have xf0:=hS.f60
    have xf1:=hS.f61
    have hB3:=hS.hb
    go_wp2
    refine bodyPost_ret (v:=.tuple #[.agg #[.int .i64 (cu - pt),.int .i64 (cu)],.bool (setB (cu - pt) (cu))]) (by simp [results,Tryz.results171,go_sem,x60,x61]) rfl ⟨by rw [HRx.out];rfl,(by repeat first | with_reducible (first | exact hB3 | apply below_drewN' | apply Below.drew | refine Below.alloc ?_ ?_ _ | refine Below.setCell ?_ ?_ _) | exact hB3 | omega | (simp <;> omega) | (have:=(hB3).size;first | omega | (simp <;> omega)))⟩
theorem moved3_c (L:Int) (A1:Option Addr) (c1:Nat) (l1:List Int) (A2:Option Addr) (c2:Nat) (l2:List Int) (sh cu s d t pt:Int) (w:World)
  (hsh:-1048576 ≤ sh∧sh ≤ 1048576) (hcu:0 ≤ cu∧cu ≤ 1048576) :
  Calls Tryz.prog 171 #[.agg #[.int .i64 L,.slice A1 l1.length c1,.slice A2 l2.length c2],.agg #[.int .i64 sh,.int .i64 cu],.agg #[.int .i64 3,.int .i64 s,.int .i64 d,.int .i64 t]] w fun e w' =>
   e=.returned (.tuple #[.agg #[.int .i64 (moveR l1 l2 sh cu 3 s pt).1.1,.int .i64 (moveR l1 l2 sh cu 3 s pt).1.2],.bool (moveR l1 l2 sh cu 3 s pt).2])∧Below w.heap.size w w':=by
 have HI:=fun a b W=>Lib.hid (implIsSetting_c a b W)
 obtain ⟨hsh1,hsh2⟩:=hsh
 obtain ⟨hcu1,hcu2⟩:=hcu
 have HRx:Hid (moveR l1 l2 sh cu 3 s pt=if true then ((cu,cu),setB (cu) (cu)) else ((0,0),false)):=by
  unfold Hid moveR
  rfl
 go_enter Tryz.func171,Tryz.ntmps171
 go_wp2_with fail
 have hM2:MvS w (cu) (cu) 3 s d t ((((w.alloc (.cells #[.int .i64 L,.slice A1 l1.length c1,.slice A2 l2.length c2] 26)).alloc (.cells #[.int .i64 (cu),.int .i64 (cu)] 104)).alloc (.cells #[.int .i64 3,.int .i64 s,.int .i64 d,.int .i64 t] 75)).alloc (.cells #[.int .i64 0,.int .i64 0] 104)) :=
  ⟨(by repeat first | with_reducible (first | exact Below.refl _ _ | apply below_drewN' | apply Below.drew | refine Below.alloc ?_ ?_ _ | refine Below.setCell ?_ ?_ _) | exact Below.refl _ _ | omega | (simp <;> omega) | (have:=(Below.refl _ _).size;first | omega | (simp <;> omega))),((Blk.new' _ _ _ (by simp)).alloc _).alloc _,(Blk.new' _ _ _ (by simp)).alloc _,Blk.new' _ _ _ (by simp)⟩
 generalize ((((w.alloc (.cells #[.int .i64 L,.slice A1 l1.length c1,.slice A2 l2.length c2] 26)).alloc (.cells #[.int .i64 (cu),.int .i64 (cu)] 104)).alloc (.cells #[.int .i64 3,.int .i64 s,.int .i64 d,.int .i64 t] 75)).alloc (.cells #[.int .i64 0,.int .i64 0] 104))=v2 at *
 have hM2s:=hM2.hb.size
 refine wp_region_sink 3 (fun a0 fL bA v=>∃ v70 v71 v72:Value,bA=((a0.put (some 70) v70).put (some 71) v71).put (some 72) v72∧MvS w (cu) (cu) 3 s d t v∧(fL 0=true→v70=.agg #[.int .i64 (cu),.int .i64 (cu)])∧(fL 1=true→v71=.agg #[.int .i64 (cu),.int .i64 (cu)])∧(fL 2=true→v72=.bool (setB (cu) (cu)))) (by kernel_rfl) (by decide +kernel) ?_ ?_ ?_
 ·exact ⟨undef,undef,undef,by simp only [Act.put,List.setIfInBounds_toArray,List.set_cons_zero,List.set_cons_succ],hM2.drew,nofun,nofun,nofun⟩
 ·rintro fL bA v ⟨v70,v71,v72,rfl,hS,q0,q1,q2⟩ i hi hf o ho hall
  simp only [Act.put,List.setIfInBounds_toArray,List.set_cons_zero,List.set_cons_succ]
  have hn:i=0 ∨ i=1 ∨ i=2:=by omega
  clear hi
  rcases hn with rfl | rfl | rfl
  ·obtain rfl:=Option.some.inj ho
   have c0:=hS.c40
   have c1:=hS.c41
   clear hall ho
   refine wpOp_step rfl (fun K hK=>?_)
   go_simp
   exact hK _ _ ⟨_,_,_,rfl,hS,fun _=>rfl,q1,q2⟩
  ·obtain rfl:=Option.some.inj ho
   have c0:=hS.c40
   have c1:=hS.c41
   clear hall ho
   refine wpOp_step rfl (fun K hK=>?_)
   go_simp
   exact hK _ _ ⟨_,_,_,rfl,hS,q0,fun _=>rfl,q2⟩
  ·obtain rfl:=Option.some.inj ho
   obtain rfl:=q1 (hall ⟨1,.data⟩ (by simp) rfl)
   clear hall ho
   refine wpOp_step rfl (fun K hK=>?_)
   go_simp
   refine Calls.mono ((HI _ _ _).out) ?_;rintro e w1 ⟨rfl,hb1⟩
   go_simp
   exact hK _ _ ⟨_,_,_,rfl,hS.below hb1,q0,fun _=>rfl,fun _=>rfl⟩
 ·rintro fL bA v ⟨v70,v71,v72,rfl,hS,q0,q1,q2⟩ hall
  simp only [Act.put,List.setIfInBounds_toArray,List.set_cons_zero,List.set_cons_succ]
  obtain rfl:=q0 (hall 0 (by omega))
  obtain rfl:=q1 (hall 1 (by omega))
  obtain rfl:=q2 (hall 2 (by omega))
  clear hall
  simp only [List.drop_succ_cons,List.drop_zero]
  have x60:=hS.c60
  have x61:=hS.c61
  have xf0:=hS.f60
  have xf1:=hS.f61
  have hB3:=hS.hb
  go_wp2
  refine bodyPost_ret (v:=.tuple #[.agg #[.int .i64 (cu),.int .i64 (cu)],.bool (setB (cu) (cu))]) (by simp [results,Tryz.results171,go_sem,x60,x61]) rfl ⟨by rw [HRx.out];rfl,(by repeat first | with_reducible (first | exact hB3 | apply below_drewN' | apply Below.drew | refine Below.alloc ?_ ?_ _ | refine Below.setCell ?_ ?_ _) | exact hB3 | omega | (simp <;> omega) | (have:=(hB3).size;first | omega | (simp <;> omega)))⟩
theorem moved4_c (L:Int) (A1:Option Addr) (c1:Nat) (l1:List Int) (A2:Option Addr) (c2:Nat) (l2:List Int) (sh cu s d t pt:Int) (w:World)
  (hsh:-1048576 ≤ sh∧sh ≤ 1048576) (hcu:0 ≤ cu∧cu ≤ 1048576) :
  Calls Tryz.prog 171 #[.agg #[.int .i64 L,.slice A1 l1.length c1,.slice A2 l2.length c2],.agg #[.int .i64 sh,.int .i64 cu],.agg #[.int .i64 4,.int .i64 s,.int .i64 d,.int .i64 t]] w fun e w' =>
   e=.returned (.tuple #[.agg #[.int .i64 (moveR l1 l2 sh cu 4 s pt).1.1,.int .i64 (moveR l1 l2 sh cu 4 s pt).1.2],.bool (moveR l1 l2 sh cu 4 s pt).2])∧Below w.heap.size w w':=by
 have HI:=fun a b W=>Lib.hid (implIsSetting_c a b W)
 obtain ⟨hsh1,hsh2⟩:=hsh
 obtain ⟨hcu1,hcu2⟩:=hcu
 have HRx:Hid (moveR l1 l2 sh cu 4 s pt=if true then ((cu - 1048576,cu),setB (cu - 1048576) (cu)) else ((0,0),false)):=by
  unfold Hid moveR
  rfl
 go_enter Tryz.func171,Tryz.ntmps171
 go_wp2_with fail
 have hM2:MvS w (cu - 1048576) (cu) 4 s d t ((((w.alloc (.cells #[.int .i64 L,.slice A1 l1.length c1,.slice A2 l2.length c2] 26)).alloc (.cells #[.int .i64 (cu - 1048576),.int .i64 (cu)] 104)).alloc (.cells #[.int .i64 4,.int .i64 s,.int .i64 d,.int .i64 t] 75)).alloc (.cells #[.int .i64 0,.int .i64 0] 104)) :=
  ⟨(by repeat first | with_reducible (first | exact Below.refl _ _ | apply below_drewN' | apply Below.drew | refine Below.alloc ?_ ?_ _ | refine Below.setCell ?_ ?_ _) | exact Below.refl _ _ | omega | (simp <;> omega) | (have:=(Below.refl _ _).size;first | omega | (simp <;> omega))),((Blk.new' _ _ _ (by simp)).alloc _).alloc _,(Blk.new' _ _ _ (by simp)).alloc _,Blk.new' _ _ _ (by simp)⟩
 generalize ((((w.alloc (.cells #[.int .i64 L,.slice A1 l1.length c1,.slice A2 l2.length c2] 26)).alloc (.cells #[.int .i64 (cu - 1048576),.int .i64 (cu)] 104)).alloc (.cells #[.int .i64 4,.int .i64 s,.int .i64 d,.int .i64 t] 75)).alloc (.cells #[.int .i64 0,.int .i64 0] 104))=v2 at *
 have hM2s:=hM2.hb.size
 refine wp_region_sink 3 (fun a0 fL bA v=>∃ v70 v71 v72:Value,bA=((a0.put (some 70) v70).put (some 71) v71).put (some 72) v72∧MvS w (cu - 1048576) (cu) 4 s d t v∧(fL 0=true→v70=.agg #[.int .i64 (cu - 1048576),.int .i64 (cu)])∧(fL 1=true→v71=.agg #[.int .i64 (cu - 1048576),.int .i64 (cu)])∧(fL 2=true→v72=.bool (setB (cu - 1048576) (cu)))) (by kernel_rfl) (by decide +kernel) ?_ ?_ ?_
 ·exact ⟨undef,undef,undef,by simp only [Act.put,List.setIfInBounds_toArray,List.set_cons_zero,List.set_cons_succ],hM2.drew,nofun,nofun,nofun⟩
 ·rintro fL bA v ⟨v70,v71,v72,rfl,hS,q0,q1,q2⟩ i hi hf o ho hall
  simp only [Act.put,List.setIfInBounds_toArray,List.set_cons_zero,List.set_cons_succ]
  have hn:i=0 ∨ i=1 ∨ i=2:=by omega
  clear hi
  rcases hn with rfl | rfl | rfl
  ·obtain rfl:=Option.some.inj ho
   have c0:=hS.c40
   have c1:=hS.c41
   clear hall ho
   refine wpOp_step rfl (fun K hK=>?_)
   go_simp
   exact hK _ _ ⟨_,_,_,rfl,hS,fun _=>rfl,q1,q2⟩
  ·obtain rfl:=Option.some.inj ho
   have c0:=hS.c40
   have c1:=hS.c41
   clear hall ho
   refine wpOp_step rfl (fun K hK=>?_)
   go_simp
   exact hK _ _ ⟨_,_,_,rfl,hS,q0,fun _=>rfl,q2⟩
  ·obtain rfl:=Option.some.inj ho
   obtain rfl:=q1 (hall ⟨1,.data⟩ (by simp) rfl)
   clear hall ho
   refine wpOp_step rfl (fun K hK=>?_)
   go_simp
   refine Calls.mono ((HI _ _ _).out) ?_;rintro e w1 ⟨rfl,hb1⟩
   go_simp
   exact hK _ _ ⟨_,_,_,rfl,hS.below hb1,q0,fun _=>rfl,fun _=>rfl⟩
 ·rintro fL bA v ⟨v70,v71,v72,rfl,hS,q0,q1,q2⟩ hall
  simp only [Act.put,List.setIfInBounds_toArray,List.set_cons_zero,List.set_cons_succ]
  obtain rfl:=q0 (hall 0 (by omega))
  obtain rfl:=q1 (hall 1 (by omega))
  obtain rfl:=q2 (hall 2 (by omega))
  clear hall
  simp only [List.drop_succ_cons,List.drop_zero]
  have x60:=hS.c60
  have x61:=hS.c61
  have xf0:=hS.f60
  have xf1:=hS.f61
  have hB3:=hS.hb
  go_wp2
  refine bodyPost_ret (v:=.tuple #[.agg #[.int .i64 (cu - 1048576),.int .i64 (cu)],.bool (setB (cu - 1048576) (cu))]) (by simp [results,Tryz.results171,go_sem,x60,x61]) rfl ⟨by rw [HRx.out];rfl,(by repeat first | with_reducible (first | exact hB3 | apply below_drewN' | apply Below.drew | refine Below.alloc ?_ ?_ _ | refine Below.setCell ?_ ?_ _) | exact hB3 | omega | (simp <;> omega) | (have:=(hB3).size;first | omega | (simp <;> omega)))⟩
theorem moved5_c (L:Int) (A1:Option Addr) (c1:Nat) (l1:List Int) (A2:Option Addr) (c2:Nat) (l2:List Int) (sh cu s d t pt:Int) (w:World)
  (hsh:-1048576 ≤ sh∧sh ≤ 1048576) (hcu:0 ≤ cu∧cu ≤ 1048576) :
  Calls Tryz.prog 171 #[.agg #[.int .i64 L,.slice A1 l1.length c1,.slice A2 l2.length c2],.agg #[.int .i64 sh,.int .i64 cu],.agg #[.int .i64 5,.int .i64 s,.int .i64 d,.int .i64 t]] w fun e w' =>
   e=.returned (.tuple #[.agg #[.int .i64 (moveR l1 l2 sh cu 5 s pt).1.1,.int .i64 (moveR l1 l2 sh cu 5 s pt).1.2],.bool (moveR l1 l2 sh cu 5 s pt).2])∧Below w.heap.size w w':=by
 have HI:=fun a b W=>Lib.hid (implIsSetting_c a b W)
 obtain ⟨hsh1,hsh2⟩:=hsh
 obtain ⟨hcu1,hcu2⟩:=hcu
 have HRx:Hid (moveR l1 l2 sh cu 5 s pt=if true then ((sh,sh),setB (sh) (sh)) else ((0,0),false)):=by
  unfold Hid moveR
  rfl
 go_enter Tryz.func171,Tryz.ntmps171
 go_wp2_with fail
 have hM2:MvS w (sh) (sh) 5 s d t ((((w.alloc (.cells #[.int .i64 L,.slice A1 l1.length c1,.slice A2 l2.length c2] 26)).alloc (.cells #[.int .i64 (sh),.int .i64 (sh)] 104)).alloc (.cells #[.int .i64 5,.int .i64 s,.int .i64 d,.int .i64 t] 75)).alloc (.cells #[.int .i64 0,.int .i64 0] 104)) :=
  ⟨(by repeat first | with_reducible (first | exact Below.refl _ _ | apply below_drewN' | apply Below.drew | refine Below.alloc ?_ ?_ _ | refine Below.setCell ?_ ?_ _) | exact Below.refl _ _ | omega | (simp <;> omega) | (have:=(Below.refl _ _).size;first | omega | (simp <;> omega))),((Blk.new' _ _ _ (by simp)).alloc _).alloc _,(Blk.new' _ _ _ (by simp)).alloc _,Blk.new' _ _ _ (by simp)⟩
 generalize ((((w.alloc (.cells #[.int .i64 L,.slice A1 l1.length c1,.slice A2 l2.length c2] 26)).alloc (.cells #[.int .i64 (sh),.int .i64 (sh)] 104)).alloc (.cells #[.int .i64 5,.int .i64 s,.int .i64 d,.int .i64 t] 75)).alloc (.cells #[.int .i64 0,.int .i64 0] 104))=v2 at *
 have hM2s:=hM2.hb.size
 refine wp_region_sink 3 (fun a0 fL bA v=>∃ v70 v71 v72:Value,bA=((a0.put (some 70) v70).put (some 71) v71).put (some 72) v72∧MvS w (sh) (sh) 5 s d t v∧(fL 0=true→v70=.agg #[.int .i64 (sh),.int .i64 (sh)])∧(fL 1=true→v71=.agg #[.int .i64 (sh),.int .i64 (sh)])∧(fL 2=true→v72=.bool (setB (sh) (sh)))) (by kernel_rfl) (by decide +kernel) ?_ ?_ ?_
 ·exact ⟨undef,undef,undef,by simp only [Act.put,List.setIfInBounds_toArray,List.set_cons_zero,List.set_cons_succ],hM2.drew,nofun,nofun,nofun⟩
 ·rintro fL bA v ⟨v70,v71,v72,rfl,hS,q0,q1,q2⟩ i hi hf o ho hall
  simp only [Act.put,List.setIfInBounds_toArray,List.set_cons_zero,List.set_cons_succ]
  have hn:i=0 ∨ i=1 ∨ i=2:=by omega
  clear hi
  rcases hn with rfl | rfl | rfl
  ·obtain rfl:=Option.some.inj ho
   have c0:=hS.c40
   have c1:=hS.c41
   clear hall ho
   refine wpOp_step rfl (fun K hK=>?_)
   go_simp
   exact hK _ _ ⟨_,_,_,rfl,hS,fun _=>rfl,q1,q2⟩
  ·obtain rfl:=Option.some.inj ho
   have c0:=hS.c40
   have c1:=hS.c41
   clear hall ho
   refine wpOp_step rfl (fun K hK=>?_)
   go_simp
   exact hK _ _ ⟨_,_,_,rfl,hS,q0,fun _=>rfl,q2⟩
  ·obtain rfl:=Option.some.inj ho
   obtain rfl:=q1 (hall ⟨1,.data⟩ (by simp) rfl)
   clear hall ho
   refine wpOp_step rfl (fun K hK=>?_)
   go_simp
   refine Calls.mono ((HI _ _ _).out) ?_;rintro e w1 ⟨rfl,hb1⟩
   go_simp
   exact hK _ _ ⟨_,_,_,rfl,hS.below hb1,q0,fun _=>rfl,fun _=>rfl⟩
 ·rintro fL bA v ⟨v70,v71,v72,rfl,hS,q0,q1,q2⟩ hall
  simp only [Act.put,List.setIfInBounds_toArray,List.set_cons_zero,List.set_cons_succ]
  obtain rfl:=q0 (hall 0 (by omega))
  obtain rfl:=q1 (hall 1 (by omega))
  obtain rfl:=q2 (hall 2 (by omega))
  clear hall
  simp only [List.drop_succ_cons,List.drop_zero]
  have x60:=hS.c60
  have x61:=hS.c61
  have xf0:=hS.f60
  have xf1:=hS.f61
  have hB3:=hS.hb
  go_wp2
  refine bodyPost_ret (v:=.tuple #[.agg #[.int .i64 (sh),.int .i64 (sh)],.bool (setB (sh) (sh))]) (by simp [results,Tryz.results171,go_sem,x60,x61]) rfl ⟨by rw [HRx.out];rfl,(by repeat first | with_reducible (first | exact hB3 | apply below_drewN' | apply Below.drew | refine Below.alloc ?_ ?_ _ | refine Below.setCell ?_ ?_ _) | exact hB3 | omega | (simp <;> omega) | (have:=(hB3).size;first | omega | (simp <;> omega)))⟩
theorem moved6_c (L:Int) (A1:Option Addr) (c1:Nat) (l1:List Int) (A2:Option Addr) (c2:Nat) (l2:List Int) (sh cu s d t pt:Int) (w:World)
  (hsh:-1048576 ≤ sh∧sh ≤ 1048576) (hcu:0 ≤ cu∧cu ≤ 1048576) :
  Calls Tryz.prog 171 #[.agg #[.int .i64 L,.slice A1 l1.length c1,.slice A2 l2.length c2],.agg #[.int .i64 sh,.int .i64 cu],.agg #[.int .i64 6,.int .i64 s,.int .i64 d,.int .i64 t]] w fun e w' =>
   e=.returned (.tuple #[.agg #[.int .i64 (moveR l1 l2 sh cu 6 s pt).1.1,.int .i64 (moveR l1 l2 sh cu 6 s pt).1.2],.bool (moveR l1 l2 sh cu 6 s pt).2])∧Below w.heap.size w w':=by
 have HI:=fun a b W=>Lib.hid (implIsSetting_c a b W)
 obtain ⟨hsh1,hsh2⟩:=hsh
 obtain ⟨hcu1,hcu2⟩:=hcu
 have HRx:Hid (moveR l1 l2 sh cu 6 s pt=if true then ((sh,sh+1048576),setB (sh) (sh+1048576)) else ((0,0),false)):=by
  unfold Hid moveR
  rfl
 go_enter Tryz.func171,Tryz.ntmps171
 go_wp2_with fail
 have hM2:MvS w (sh) (sh+1048576) 6 s d t ((((w.alloc (.cells #[.int .i64 L,.slice A1 l1.length c1,.slice A2 l2.length c2] 26)).alloc (.cells #[.int .i64 (sh),.int .i64 (sh+1048576)] 104)).alloc (.cells #[.int .i64 6,.int .i64 s,.int .i64 d,.int .i64 t] 75)).alloc (.cells #[.int .i64 0,.int .i64 0] 104)) :=
  ⟨(by repeat first | with_reducible (first | exact Below.refl _ _ | apply below_drewN' | apply Below.drew | refine Below.alloc ?_ ?_ _ | refine Below.setCell ?_ ?_ _) | exact Below.refl _ _ | omega | (simp <;> omega) | (have:=(Below.refl _ _).size;first | omega | (simp <;> omega))),((Blk.new' _ _ _ (by simp)).alloc _).alloc _,(Blk.new' _ _ _ (by simp)).alloc _,Blk.new' _ _ _ (by simp)⟩
 generalize ((((w.alloc (.cells #[.int .i64 L,.slice A1 l1.length c1,.slice A2 l2.length c2] 26)).alloc (.cells #[.int .i64 (sh),.int .i64 (sh+1048576)] 104)).alloc (.cells #[.int .i64 6,.int .i64 s,.int .i64 d,.int .i64 t] 75)).alloc (.cells #[.int .i64 0,.int .i64 0] 104))=v2 at *
 have hM2s:=hM2.hb.size
 refine wp_region_sink 3 (fun a0 fL bA v=>∃ v70 v71 v72:Value,bA=((a0.put (some 70) v70).put (some 71) v71).put (some 72) v72∧MvS w (sh) (sh+1048576) 6 s d t v∧(fL 0=true→v70=.agg #[.int .i64 (sh),.int .i64 (sh+1048576)])∧(fL 1=true→v71=.agg #[.int .i64 (sh),.int .i64 (sh+1048576)])∧(fL 2=true→v72=.bool (setB (sh) (sh+1048576)))) (by kernel_rfl) (by decide +kernel) ?_ ?_ ?_
 ·exact ⟨undef,undef,undef,by simp only [Act.put,List.setIfInBounds_toArray,List.set_cons_zero,List.set_cons_succ],hM2.drew,nofun,nofun,nofun⟩
 ·rintro fL bA v ⟨v70,v71,v72,rfl,hS,q0,q1,q2⟩ i hi hf o ho hall
  simp only [Act.put,List.setIfInBounds_toArray,List.set_cons_zero,List.set_cons_succ]
  have hn:i=0 ∨ i=1 ∨ i=2:=by omega
  clear hi
  rcases hn with rfl | rfl | rfl
  ·obtain rfl:=Option.some.inj ho
   have c0:=hS.c40
   have c1:=hS.c41
   clear hall ho
   refine wpOp_step rfl (fun K hK=>?_)
   go_simp
   exact hK _ _ ⟨_,_,_,rfl,hS,fun _=>rfl,q1,q2⟩
  ·obtain rfl:=Option.some.inj ho
   have c0:=hS.c40
   have c1:=hS.c41
   clear hall ho
   refine wpOp_step rfl (fun K hK=>?_)
   go_simp
   exact hK _ _ ⟨_,_,_,rfl,hS,q0,fun _=>rfl,q2⟩
  ·obtain rfl:=Option.some.inj ho
   obtain rfl:=q1 (hall ⟨1,.data⟩ (by simp) rfl)
   clear hall ho
   refine wpOp_step rfl (fun K hK=>?_)
   go_simp
   refine Calls.mono ((HI _ _ _).out) ?_;rintro e w1 ⟨rfl,hb1⟩
   go_simp
   exact hK _ _ ⟨_,_,_,rfl,hS.below hb1,q0,fun _=>rfl,fun _=>rfl⟩
 ·rintro fL bA v ⟨v70,v71,v72,rfl,hS,q0,q1,q2⟩ hall
  simp only [Act.put,List.setIfInBounds_toArray,List.set_cons_zero,List.set_cons_succ]
  obtain rfl:=q0 (hall 0 (by omega))
  obtain rfl:=q1 (hall 1 (by omega))
  obtain rfl:=q2 (hall 2 (by omega))
  clear hall
  simp only [List.drop_succ_cons,List.drop_zero]
  have x60:=hS.c60
  have x61:=hS.c61
  have xf0:=hS.f60
  have xf1:=hS.f61
  have hB3:=hS.hb
  go_wp2
  refine bodyPost_ret (v:=.tuple #[.agg #[.int .i64 (sh),.int .i64 (sh+1048576)],.bool (setB (sh) (sh+1048576))]) (by simp [results,Tryz.results171,go_sem,x60,x61]) rfl ⟨by rw [HRx.out];rfl,(by repeat first | with_reducible (first | exact hB3 | apply below_drewN' | apply Below.drew | refine Below.alloc ?_ ?_ _ | refine Below.setCell ?_ ?_ _) | exact hB3 | omega | (simp <;> omega) | (have:=(hB3).size;first | omega | (simp <;> omega)))⟩
end Go.Proofs.YtednjmldjbndhaaGreat
