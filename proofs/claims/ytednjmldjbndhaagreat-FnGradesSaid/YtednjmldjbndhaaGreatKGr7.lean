/- One move: the reference's. Conditions: the setting is valid, the kind is one of the seven, and the point of the move's figure is known. -/
import Derived.Test.YtednjmldjbndhaaGreatKGr6
set_option linter.unusedSimpArgs false
set_option linter.unusedVariables false
set_option maxRecDepth 100000
set_option maxHeartbeats 8000000
namespace Go.Proofs.YtednjmldjbndhaaGreat
open Go.RowKit
theorem l11OnT_c (L:Int) (v1 v2:Value) (w:World) (A:Option Addr) (n c:Nat) (hv:v2=.slice A n c):Calls Tryz.prog 173 #[.agg #[.int .i64 L,v1,v2],.bool true] w fun e w'=>e=.returned v2∧Below w.heap.size w w':=by
 subst hv
 go_enter Tryz.func173,Tryz.ntmps173
 go_wp2
 go_ret
 exact ⟨rfl,(by repeat first | with_reducible (first | exact Below.refl _ _ | apply below_drewN' | apply Below.drew | refine Below.alloc ?_ ?_ _ | refine Below.setCell ?_ ?_ _) | exact Below.refl _ _ | omega | (simp <;> omega) | (have:=(Below.refl _ _).size;first | omega | (simp <;> omega)))⟩
theorem l11OnF_c (L:Int) (v1 v2:Value) (w:World) (A:Option Addr) (n c:Nat) (hv:v1=.slice A n c):Calls Tryz.prog 173 #[.agg #[.int .i64 L,v1,v2],.bool false] w fun e w'=>e=.returned v1∧Below w.heap.size w w':=by
 subst hv
 go_enter Tryz.func173,Tryz.ntmps173
 go_wp2
 go_ret
 exact ⟨rfl,(by repeat first | with_reducible (first | exact Below.refl _ _ | apply below_drewN' | apply Below.drew | refine Below.alloc ?_ ?_ _ | refine Below.setCell ?_ ?_ _) | exact Below.refl _ _ | omega | (simp <;> omega) | (have:=(Below.refl _ _).size;first | omega | (simp <;> omega)))⟩
theorem l01HasB_c (A:Option Addr) (c:Nat) (l:List Int) (x:Int) (w:World) (hl:l.length ≤ 1048576) (hs:Sl w w.heap.size 1 A (l.map ic)) :
  Calls Tryz.prog 169 #[.slice A l.length c,.int .i64 x] w fun e w'=>e=.returned (.bool (decide (x ∈ l)))∧Below w.heap.size w w' :=
 (l01Has_c A c l x w (by omega) hs).mono fun _ _ ⟨h1,h2⟩=>⟨h1,h2 ▸ Below.refl _ _⟩
theorem l11Cursor_c (sh cu s d t pt:Int) (b:Bool) (w:World) (h:-1048576 ≤ sh∧sh ≤ 1048576) (hp:0 ≤ pt∧pt ≤ 1048576) (HP:∀ W,Hid (Calls Tryz.prog 172 #[.int .i64 s,.agg #[.int .i64 d,.int .i64 t]] W fun e w'=>e=.returned (.int .i64 pt)∧Below W.heap.size W w')) :
  Calls Tryz.prog 174 #[.agg #[.int .i64 sh,.int .i64 cu],.bool b,.int .i64 s,.agg #[.int .i64 d,.int .i64 t]] w fun e w'=>e=.returned (.agg #[.int .i64 sh,.int .i64 (if b then pt+sh else pt)])∧Below w.heap.size w w':=by
 obtain ⟨h1,h2⟩:=h
 obtain ⟨h3,h4⟩:=hp
 have hW:Below w.heap.size w (((w.alloc (.cells #[.int .i64 sh,.int .i64 cu] 104)).alloc (.cells #[.int .i64 d,.int .i64 t] 51)).alloc (.cells #[.int .i64 0,.int .i64 0] 104)):=(by repeat first | with_reducible (first | exact Below.refl _ _ | apply below_drewN' | apply Below.drew | refine Below.alloc ?_ ?_ _ | refine Below.setCell ?_ ?_ _) | exact Below.refl _ _ | omega | (simp <;> omega) | (have:=(Below.refl _ _).size;first | omega | (simp <;> omega)))
 have B4:Blk (((w.alloc (.cells #[.int .i64 sh,.int .i64 cu] 104)).alloc (.cells #[.int .i64 d,.int .i64 t] 51)).alloc (.cells #[.int .i64 0,.int .i64 0] 104)) w.heap.size 104 #[.int .i64 sh,.int .i64 cu]:=((Blk.new _ _ _).alloc _).alloc _
 have B8:Blk (((w.alloc (.cells #[.int .i64 sh,.int .i64 cu] 104)).alloc (.cells #[.int .i64 d,.int .i64 t] 51)).alloc (.cells #[.int .i64 0,.int .i64 0] 104)) (w.heap.size+2) 104 #[.int .i64 0,.int .i64 0]:=Blk.new' _ _ _ (by simp)
 cases b
 all_goals
  go_enter Tryz.func174,Tryz.ntmps174
  go_wp2_with fail
  generalize (((w.alloc (.cells #[.int .i64 sh,.int .i64 cu] 104)).alloc (.cells #[.int .i64 d,.int .i64 t] 51)).alloc (.cells #[.int .i64 0,.int .i64 0] 104))=W at *
  refine Calls.mono (HP W).out ?_;rintro e w1 ⟨rfl,hb1⟩
  have hW1:=hW.trans (hb1.mono hW.size)
  have C4:=B4.below hb1 B4.lt
  have C8:=B8.below hb1 B8.lt
  have z0:w1.cell? ⟨w.heap.size,0,none⟩=some (.int .i64 sh):=C4.cell 0
  have z1:w1.cell? ⟨w.heap.size+1+1,0,none⟩=some (.int .i64 0):=C8.cell 0
  have z2:w1.cell? ⟨w.heap.size+1+1,1,none⟩=some (.int .i64 0):=C8.cell 1
  have f1:w1.frozen? ⟨w.heap.size+1+1,0,none⟩=false:=C8.frozen 0
  have f2:w1.frozen? ⟨w.heap.size+1+1,1,none⟩=false:=C8.frozen 1
  clear hW B4 B8 hb1 C4 C8
  go_wp2
  first
  | refine bodyPost_ret (v:=.agg #[.int .i64 sh,.int .i64 pt]) (by simp [results,Tryz.results174,go_sem,z1,z2]) rfl ⟨rfl,(by repeat first | with_reducible (first | exact hW1 | apply below_drewN' | apply Below.drew | refine Below.alloc ?_ ?_ _ | refine Below.setCell ?_ ?_ _) | exact hW1 | omega | (simp <;> omega) | (have:=(hW1).size;first | omega | (simp <;> omega)))⟩
  | refine bodyPost_ret (v:=.agg #[.int .i64 sh,.int .i64 (pt+sh)]) (by simp [results,Tryz.results174,go_sem,z1,z2]) rfl ⟨rfl,(by repeat first | with_reducible (first | exact hW1 | apply below_drewN' | apply Below.drew | refine Below.alloc ?_ ?_ _ | refine Below.setCell ?_ ?_ _) | exact hW1 | omega | (simp <;> omega) | (have:=(hW1).size;first | omega | (simp <;> omega)))⟩
structure ApS (w0:World) (g:Nat) (sh cu k s d t a b:Int) (v:World):Prop where
 m:MvS w0 sh cu k s d t v
 b8:Blk v g 104 #[.int .i64 a,.int .i64 b]
 hg:w0.heap.size+4 ≤ g
section
variable {w0 v v' : World} {g : Nat} {sh cu k s d t a b a' b' : Int}
theorem ApS.below (h:ApS w0 g sh cu k s d t a b v) (hb:Below v.heap.size v v'):ApS w0 g sh cu k s d t a b v':=⟨h.m.below hb,h.b8.below hb h.b8.lt,h.hg⟩
theorem ApS.drew (h:ApS w0 g sh cu k s d t a b v):ApS w0 g sh cu k s d t a b v.drew:=⟨h.m.drew,h.b8,h.hg⟩
theorem MvS.far (h:MvS w0 sh cu k s d t v) {j:Nat} {u:Value} (hg:w0.heap.size+4 ≤ g):MvS w0 sh cu k s d t (v.setCell ⟨g,j,none⟩ u) :=
 ⟨h.hb.setCell (by simp only;omega) _,h.b4.far (by simp only;omega) _,h.b5.far (by simp only;omega) _,h.b6.far (by simp only;omega) _⟩
theorem ApS.set0 (h:ApS w0 g sh cu k s d t a b v):ApS w0 g sh cu k s d t a' b (v.setCell ⟨g,0,none⟩ (.int .i64 a')):=⟨h.m.far h.hg,h.b8.set_ 0 _,h.hg⟩
theorem ApS.set1 (h:ApS w0 g sh cu k s d t a b v):ApS w0 g sh cu k s d t a b' (v.setCell ⟨g,1,none⟩ (.int .i64 b')):=⟨h.m.far h.hg,h.b8.set_ 1 _,h.hg⟩
theorem MvS.init (L:Int) (A1:Option Addr) (n1 c1:Nat) (A2:Option Addr) (n2 c2:Nat):MvS w0 sh cu k s d t ((((w0.alloc (.cells #[.int .i64 L,.slice A1 n1 c1,.slice A2 n2 c2] 26)).alloc (.cells #[.int .i64 sh,.int .i64 cu] 104)).alloc (.cells #[.int .i64 k,.int .i64 s,.int .i64 d,.int .i64 t] 75)).alloc (.cells #[.int .i64 0,.int .i64 0] 104)) :=
  ⟨(by repeat first | with_reducible (first | exact Below.refl _ _ | apply below_drewN' | apply Below.drew | refine Below.alloc ?_ ?_ _ | refine Below.setCell ?_ ?_ _) | exact Below.refl _ _ | omega | (simp <;> omega) | (have:=(Below.refl _ _).size;first | omega | (simp <;> omega))),((Blk.new' _ _ _ (by simp)).alloc _).alloc _,(Blk.new' _ _ _ (by simp)).alloc _,Blk.new' _ _ _ (by simp)⟩
end
theorem apply0_c (L:Int) (A1:Option Addr) (c1:Nat) (l1:List Int) (A2:Option Addr) (c2:Nat) (l2:List Int) (sh cu s d t pt:Int) (w:World)
  (hsh:-1048576 ≤ sh∧sh ≤ 1048576) (hcu:0 ≤ cu∧cu ≤ 1048576) (hp:0 ≤ pt∧pt ≤ 1048576) (HP:∀ W,Hid (Calls Tryz.prog 172 #[.int .i64 s,.agg #[.int .i64 d,.int .i64 t]] W fun e w'=>e=.returned (.int .i64 pt)∧Below W.heap.size W w'))
  (h1:l1.length ≤ 1048576) (hs:Sl w w.heap.size 1 A1 (l1.map ic)) :
  Calls Tryz.prog 127 #[.agg #[.int .i64 L,.slice A1 l1.length c1,.slice A2 l2.length c2],.agg #[.int .i64 sh,.int .i64 cu],.agg #[.int .i64 0,.int .i64 s,.int .i64 d,.int .i64 t]] w fun e w' =>
   e=.returned (.tuple #[.agg #[.int .i64 (moveR l1 l2 sh cu 0 s pt).1.1,.int .i64 (moveR l1 l2 sh cu 0 s pt).1.2],.bool (moveR l1 l2 sh cu 0 s pt).2])∧Below w.heap.size w w':=by
 have HI:=fun a b W=>Lib.hid (specIsSetting_c a b W)
 have HO:=fun W=>Lib.hid (l11OnF_c L (.slice A1 l1.length c1) (.slice A2 l2.length c2) W _ _ _ rfl)
 have HH:=fun (W:World) (hW:Below w.heap.size w W)=>Lib.hid (l01HasB_c A1 c1 l1 s W h1 ((hs.below hW).more hW.size))
 have HC:=fun W=>Lib.hid (l11Cursor_c sh cu s d t pt false W hsh hp HP)
 obtain ⟨hp1,hp2⟩:=hp
 have HR:∀ h,hasS l1 l2 0 s=h→Hid (moveR l1 l2 sh cu 0 s pt=if h then ((sh,pt),setB (sh) (pt)) else ((0,0),false)):=fun h e=>by
  unfold Hid moveR
  rw [e]
  cases h <;> rfl
 have HRx:=HR (decide (s ∈ l1)) rfl
 clear HR hs
 generalize decide (s ∈ l1)=has at *
 obtain ⟨hsh1,hsh2⟩:=hsh
 obtain ⟨hcu1,hcu2⟩:=hcu
 have hM0:MvS w sh cu 0 s d t _:=MvS.init L A1 l1.length c1 A2 l2.length c2
 have hB3:Blk ((((w.alloc (.cells #[.int .i64 L,.slice A1 l1.length c1,.slice A2 l2.length c2] 26)).alloc (.cells #[.int .i64 sh,.int .i64 cu] 104)).alloc (.cells #[.int .i64 0,.int .i64 s,.int .i64 d,.int .i64 t] 75)).alloc (.cells #[.int .i64 0,.int .i64 0] 104)) w.heap.size 26 #[.int .i64 L,.slice A1 l1.length c1,.slice A2 l2.length c2]:=(((Blk.new _ _ _).alloc _).alloc _).alloc _
 go_enter Tryz.func127,Tryz.ntmps127
 go_wp2_with fail
 generalize ((((w.alloc (.cells #[.int .i64 L,.slice A1 l1.length c1,.slice A2 l2.length c2] 26)).alloc (.cells #[.int .i64 sh,.int .i64 cu] 104)).alloc (.cells #[.int .i64 0,.int .i64 s,.int .i64 d,.int .i64 t] 75)).alloc (.cells #[.int .i64 0,.int .i64 0] 104))=W at *
 refine wp_region_all (fun a0 fL bA v=>∃ v9 v10 v11 v12 v13 v14 v15 v16 v17 v18 v19 v20 v21 v22:Value,bA=(((((((((((((a0.put (some 9) v9).put (some 10) v10).put (some 11) v11).put (some 12) v12).put (some 13) v13).put (some 14) v14).put (some 15) v15).put (some 16) v16).put (some 17) v17).put (some 18) v18).put (some 19) v19).put (some 20) v20).put (some 21) v21).put (some 22) v22∧(MvS w sh cu 0 s d t v∧Blk v w.heap.size 26 #[.int .i64 L,.slice A1 l1.length c1,.slice A2 l2.length c2])∧(fL 0=true→v9=.pointer (some ⟨w.heap.size+1+1,0,none⟩))∧(fL 1=true→v10=.int .i64 0)∧(fL 2=true→v11=.bool true)∧(fL 3=true→v12=.bool true)∧(fL 4=true→v13=.agg #[.int .i64 L,.slice A1 l1.length c1,.slice A2 l2.length c2])∧(fL 5=true→v14=.pointer (some ⟨w.heap.size+1+1,0,none⟩))∧(fL 6=true→v15=.int .i64 0)∧(fL 7=true→v16=.bool false)∧(fL 8=true→v17=.slice A1 l1.length c1)∧(fL 9=true→v18=.pointer (some ⟨w.heap.size+1+1,1,none⟩))∧(fL 10=true→v19=.int .i64 s)∧(fL 11=true→v20=.bool has)∧(fL 12=true→v21=.bool (!has))∧(fL 13=true→v22=.bool (!has))) (by kernel_rfl) (by decide +kernel) ?_ ?_ ?_
 ·exact ⟨undef,undef,undef,undef,undef,undef,undef,undef,undef,undef,undef,undef,undef,undef,by simp only [Act.put,List.setIfInBounds_toArray,List.set_cons_zero,List.set_cons_succ],⟨hM0.drew,hB3⟩,nofun,nofun,nofun,nofun,nofun,nofun,nofun,nofun,nofun,nofun,nofun,nofun,nofun,nofun⟩
 ·rintro fL bA v ⟨v9,v10,v11,v12,v13,v14,v15,v16,v17,v18,v19,v20,v21,v22,rfl,hS,q0,q1,q2,q3,q4,q5,q6,q7,q8,q9,q10,q11,q12,q13⟩ i hi hf o ho hall
  simp only [Act.put,List.setIfInBounds_toArray,List.set_cons_zero,List.set_cons_succ]
  simp only [List.length_cons,List.length_nil] at hi
  have hn:i=0 ∨ i=1 ∨ i=2 ∨ i=3 ∨ i=4 ∨ i=5 ∨ i=6 ∨ i=7 ∨ i=8 ∨ i=9 ∨ i=10 ∨ i=11 ∨ i=12 ∨ i=13:=by omega
  clear hi
  rcases hn with rfl | rfl | rfl | rfl | rfl | rfl | rfl | rfl | rfl | rfl | rfl | rfl | rfl | rfl
  ·obtain rfl:=Option.some.inj ho
   clear hall ho
   refine wpOp_step rfl (fun K hK=>?_)
   go_simp
   exact hK _ _ ⟨_,_,_,_,_,_,_,_,_,_,_,_,_,_,rfl,hS,fun _=>rfl,q1,q2,q3,q4,q5,q6,q7,q8,q9,q10,q11,q12,q13⟩
  ·obtain rfl:=Option.some.inj ho
   obtain rfl:=q0 (hall ⟨0,.data⟩ (by simp) rfl)
   have y0:=hS.1.c50
   clear hall ho
   refine wpOp_step rfl (fun K hK=>?_)
   go_simp
   exact hK _ _ ⟨_,_,_,_,_,_,_,_,_,_,_,_,_,_,rfl,hS,fun _=>rfl,fun _=>rfl,q2,q3,q4,q5,q6,q7,q8,q9,q10,q11,q12,q13⟩
  ·obtain rfl:=Option.some.inj ho
   obtain rfl:=q1 (hall ⟨1,.data⟩ (by simp) rfl)
   clear hall ho
   refine wpOp_step rfl (fun K hK=>?_)
   go_simp
   exact hK _ _ ⟨_,_,_,_,_,_,_,_,_,_,_,_,_,_,rfl,hS,q0,fun _=>rfl,fun _=>rfl,q3,q4,q5,q6,q7,q8,q9,q10,q11,q12,q13⟩
  ·obtain rfl:=Option.some.inj ho
   obtain rfl:=q2 (hall ⟨2,.data⟩ (by simp) rfl)
   clear hall ho
   refine wpOp_step rfl (fun K hK=>?_)
   go_simp
   exact hK _ _ ⟨_,_,_,_,_,_,_,_,_,_,_,_,_,_,rfl,hS,q0,q1,fun _=>rfl,fun _=>rfl,q4,q5,q6,q7,q8,q9,q10,q11,q12,q13⟩
  ·obtain rfl:=Option.some.inj ho
   obtain rfl:=q3 (hall ⟨3,.guard⟩ (by simp) rfl)
   have y0:v.cell? ⟨w.heap.size,0,none⟩=some (.int .i64 L):=hS.2.cell 0
   have y1:v.cell? ⟨w.heap.size,1,none⟩=some (.slice A1 l1.length c1):=hS.2.cell 1
   have y2:v.cell? ⟨w.heap.size,2,none⟩=some (.slice A2 l2.length c2):=hS.2.cell 2
   clear hall ho
   refine wpOp_step rfl (fun K hK=>?_)
   go_simp
   exact hK _ _ ⟨_,_,_,_,_,_,_,_,_,_,_,_,_,_,rfl,hS,q0,q1,q2,fun _=>rfl,fun _=>rfl,q5,q6,q7,q8,q9,q10,q11,q12,q13⟩
  ·obtain rfl:=Option.some.inj ho
   obtain rfl:=q3 (hall ⟨3,.guard⟩ (by simp) rfl)
   clear hall ho
   refine wpOp_step rfl (fun K hK=>?_)
   go_simp
   exact hK _ _ ⟨_,_,_,_,_,_,_,_,_,_,_,_,_,_,rfl,hS,q0,q1,q2,fun _=>rfl,q4,fun _=>rfl,q6,q7,q8,q9,q10,q11,q12,q13⟩
  ·obtain rfl:=Option.some.inj ho
   obtain rfl:=q5 (hall ⟨5,.data⟩ (by simp) rfl)
   obtain rfl:=q3 (hall ⟨3,.guard⟩ (by simp) rfl)
   have y0:=hS.1.c50
   clear hall ho
   refine wpOp_step rfl (fun K hK=>?_)
   go_simp
   exact hK _ _ ⟨_,_,_,_,_,_,_,_,_,_,_,_,_,_,rfl,hS,q0,q1,q2,fun _=>rfl,q4,fun _=>rfl,fun _=>rfl,q7,q8,q9,q10,q11,q12,q13⟩
  ·obtain rfl:=Option.some.inj ho
   obtain rfl:=q6 (hall ⟨6,.data⟩ (by simp) rfl)
   obtain rfl:=q3 (hall ⟨3,.guard⟩ (by simp) rfl)
   clear hall ho
   refine wpOp_step rfl (fun K hK=>?_)
   go_simp
   exact hK _ _ ⟨_,_,_,_,_,_,_,_,_,_,_,_,_,_,rfl,hS,q0,q1,q2,fun _=>rfl,q4,q5,fun _=>rfl,fun _=>rfl,q8,q9,q10,q11,q12,q13⟩
  ·obtain rfl:=Option.some.inj ho
   obtain rfl:=q4 (hall ⟨4,.data⟩ (by simp) rfl)
   obtain rfl:=q7 (hall ⟨7,.data⟩ (by simp) rfl)
   obtain rfl:=q3 (hall ⟨3,.guard⟩ (by simp) rfl)
   clear hall ho
   refine wpOp_step rfl (fun K hK=>?_)
   go_simp
   refine Calls.mono ((HO _).out) ?_;rintro e w1 ⟨rfl,hb1⟩
   go_simp
   exact hK _ _ ⟨_,_,_,_,_,_,_,_,_,_,_,_,_,_,rfl,⟨hS.1.below hb1,hS.2.below hb1 hS.2.lt⟩,q0,q1,q2,fun _=>rfl,fun _=>rfl,q5,q6,fun _=>rfl,fun _=>rfl,q9,q10,q11,q12,q13⟩
  ·obtain rfl:=Option.some.inj ho
   obtain rfl:=q3 (hall ⟨3,.guard⟩ (by simp) rfl)
   clear hall ho
   refine wpOp_step rfl (fun K hK=>?_)
   go_simp
   exact hK _ _ ⟨_,_,_,_,_,_,_,_,_,_,_,_,_,_,rfl,hS,q0,q1,q2,fun _=>rfl,q4,q5,q6,q7,q8,fun _=>rfl,q10,q11,q12,q13⟩
  ·obtain rfl:=Option.some.inj ho
   obtain rfl:=q9 (hall ⟨9,.data⟩ (by simp) rfl)
   obtain rfl:=q3 (hall ⟨3,.guard⟩ (by simp) rfl)
   have y0:=hS.1.c51
   clear hall ho
   refine wpOp_step rfl (fun K hK=>?_)
   go_simp
   exact hK _ _ ⟨_,_,_,_,_,_,_,_,_,_,_,_,_,_,rfl,hS,q0,q1,q2,fun _=>rfl,q4,q5,q6,q7,q8,fun _=>rfl,fun _=>rfl,q11,q12,q13⟩
  ·obtain rfl:=Option.some.inj ho
   obtain rfl:=q8 (hall ⟨8,.data⟩ (by simp) rfl)
   obtain rfl:=q10 (hall ⟨10,.data⟩ (by simp) rfl)
   obtain rfl:=q3 (hall ⟨3,.guard⟩ (by simp) rfl)
   clear hall ho
   refine wpOp_step rfl (fun K hK=>?_)
   go_simp
   refine Calls.mono ((HH _ hS.1.hb).out) ?_;rintro e w1 ⟨rfl,hb1⟩
   go_simp
   exact hK _ _ ⟨_,_,_,_,_,_,_,_,_,_,_,_,_,_,rfl,⟨hS.1.below hb1,hS.2.below hb1 hS.2.lt⟩,q0,q1,q2,fun _=>rfl,q4,q5,q6,q7,fun _=>rfl,q9,fun _=>rfl,fun _=>rfl,q12,q13⟩
  ·obtain rfl:=Option.some.inj ho
   obtain rfl:=q11 (hall ⟨11,.data⟩ (by simp) rfl)
   obtain rfl:=q3 (hall ⟨3,.guard⟩ (by simp) rfl)
   clear hall ho
   refine wpOp_step rfl (fun K hK=>?_)
   go_simp
   exact hK _ _ ⟨_,_,_,_,_,_,_,_,_,_,_,_,_,_,rfl,hS,q0,q1,q2,fun _=>rfl,q4,q5,q6,q7,q8,q9,q10,fun _=>rfl,fun _=>rfl,q13⟩
  ·obtain rfl:=Option.some.inj ho
   obtain rfl:=q3 (hall ⟨3,.data⟩ (by simp) rfl)
   obtain rfl:=q12 (hall ⟨12,.data⟩ (by simp) rfl)
   clear hall ho
   refine wpOp_step rfl (fun K hK=>?_)
   go_simp
   exact hK _ _ ⟨_,_,_,_,_,_,_,_,_,_,_,_,_,_,rfl,hS,q0,q1,q2,fun _=>rfl,q4,q5,q6,q7,q8,q9,q10,q11,fun _=>rfl,fun _=>rfl⟩
 ·rintro fL bA v ⟨v9,v10,v11,v12,v13,v14,v15,v16,v17,v18,v19,v20,v21,v22,rfl,hS,q0,q1,q2,q3,q4,q5,q6,q7,q8,q9,q10,q11,q12,q13⟩ hall
  simp only [Act.put,List.setIfInBounds_toArray,List.set_cons_zero,List.set_cons_succ]
  simp only [List.length_cons,List.length_nil] at hall
  obtain rfl:=q0 (hall 0 (by omega))
  obtain rfl:=q1 (hall 1 (by omega))
  obtain rfl:=q2 (hall 2 (by omega))
  obtain rfl:=q3 (hall 3 (by omega))
  obtain rfl:=q4 (hall 4 (by omega))
  obtain rfl:=q5 (hall 5 (by omega))
  obtain rfl:=q6 (hall 6 (by omega))
  obtain rfl:=q7 (hall 7 (by omega))
  obtain rfl:=q8 (hall 8 (by omega))
  obtain rfl:=q9 (hall 9 (by omega))
  obtain rfl:=q10 (hall 10 (by omega))
  obtain rfl:=q11 (hall 11 (by omega))
  obtain rfl:=q12 (hall 12 (by omega))
  obtain rfl:=q13 (hall 13 (by omega))
  clear hall
  have hM:=hS.1
  clear hM0 hB3 hS
  have x60:=hM.c60
  have x61:=hM.c61
  have xf0:=hM.f60
  have xf1:=hM.f61
  have x40:=hM.c40
  have x41:=hM.c41
  have x50:=hM.c50
  have x51:=hM.c51
  have x52:=hM.c52
  have x53:=hM.c53
  have l4:w.heap.size+1 < v.heap.size:=hM.b4.lt
  have l5:w.heap.size+1+1 < v.heap.size:=hM.b5.lt
  have l6:w.heap.size+1+1+1 < v.heap.size:=hM.b6.lt
  have hbv:=hM.hb
  cases has with
  | false =>
   clear hM
   go_wp2
   refine bodyPost_ret (v:=.tuple #[.agg #[.int .i64 0,.int .i64 0],.bool false]) (by simp [results,Tryz.results127,go_sem,x60,x61]) rfl ⟨by rw [HRx.out];rfl,(by repeat first | with_reducible (first | exact hbv | apply below_drewN' | apply Below.drew | refine Below.alloc ?_ ?_ _ | refine Below.setCell ?_ ?_ _) | exact hbv | omega | (simp <;> omega) | (have:=(hbv).size;first | omega | (simp <;> omega)))⟩
  | true =>
   have hA0:ApS w v.heap.size sh cu 0 s d t sh cu (v.alloc (.cells #[.int .i64 sh,.int .i64 cu] 104)):=⟨hM.below ((Below.refl _ _).alloc (Nat.le_refl _) _),Blk.new _ _ _,by omega⟩
   go_wp2_with fail
   clear x60 x61 xf0 xf1 x40 x41 x50 x51 x52 x53 hM hbv
   generalize v.alloc (.cells #[.int .i64 sh,.int .i64 cu] 104)=v3 at *
   generalize v.heap.size=g at *
   refine Calls.mono (HC v3).out ?_;rintro e v4 ⟨rfl,hb4⟩
   have hA1:=hA0.below hb4
   have z0:v4.cell? ⟨g,0,none⟩=some (.int .i64 sh):=hA1.b8.cell 0
   have z1:v4.cell? ⟨g,1,none⟩=some (.int .i64 cu):=hA1.b8.cell 1
   have zf0:=hA1.b8.frozen 0
   have zf1:=hA1.b8.frozen 1
   have hA:ApS w g sh cu 0 s d t (sh) (pt) ((v4.setCell ⟨g,0,none⟩ (.int .i64 (sh))).setCell ⟨g,1,none⟩ (.int .i64 (pt))):=hA1.set0.set1
   go_wp2_with fail
   clear z0 z1 zf0 zf1 hA0 hA1 hb4
   generalize (v4.setCell ⟨g,0,none⟩ (.int .i64 (sh))).setCell ⟨g,1,none⟩ (.int .i64 (pt))=v5 at *
   refine wp_region_sink 3 (fun a0 fL bA v=>∃ v72 v73 v74:Value,bA=((a0.put (some 72) v72).put (some 73) v73).put (some 74) v74∧(ApS w g sh cu 0 s d t (sh) (pt) v)∧(fL 0=true→v72=.agg #[.int .i64 (sh),.int .i64 (pt)])∧(fL 1=true→v73=.agg #[.int .i64 (sh),.int .i64 (pt)])∧(fL 2=true→v74=.bool (setB (sh) (pt)))) (by kernel_rfl) (by decide +kernel) ?_ ?_ ?_
   ·exact ⟨undef,undef,undef,by simp only [Act.put,List.setIfInBounds_toArray,List.set_cons_zero,List.set_cons_succ],hA.drew,nofun,nofun,nofun⟩
   ·rintro fL bA v ⟨v72,v73,v74,rfl,hS,q0,q1,q2⟩ i hi hf o ho hall
    simp only [Act.put,List.setIfInBounds_toArray,List.set_cons_zero,List.set_cons_succ]
    have hn:i=0 ∨ i=1 ∨ i=2:=by omega
    clear hi
    rcases hn with rfl | rfl | rfl
    ·obtain rfl:=Option.some.inj ho
     have y0:v.cell? ⟨g,0,none⟩=some (.int .i64 (sh)):=hS.b8.cell 0
     have y1:v.cell? ⟨g,1,none⟩=some (.int .i64 (pt)):=hS.b8.cell 1
     clear hall ho
     refine wpOp_step rfl (fun K hK=>?_)
     go_simp
     exact hK _ _ ⟨_,_,_,rfl,hS,fun _=>rfl,q1,q2⟩
    ·obtain rfl:=Option.some.inj ho
     have y0:v.cell? ⟨g,0,none⟩=some (.int .i64 (sh)):=hS.b8.cell 0
     have y1:v.cell? ⟨g,1,none⟩=some (.int .i64 (pt)):=hS.b8.cell 1
     clear hall ho
     refine wpOp_step rfl (fun K hK=>?_)
     go_simp
     exact hK _ _ ⟨_,_,_,rfl,hS,q0,fun _=>rfl,q2⟩
    ·obtain rfl:=Option.some.inj ho
     obtain rfl:=q1 (hall ⟨1,.data⟩ (by simp) rfl)
     clear hall ho
     refine wpOp_step rfl (fun K hK=>?_)
     go_simp
     refine Calls.mono ((HI _ _ _).out) ?_;rintro e w1 ⟨rfl,hb1⟩
     go_simp
     exact hK _ _ ⟨_,_,_,rfl,hS.below hb1,q0,fun _=>rfl,fun _=>rfl⟩
   ·rintro fL bA v ⟨v72,v73,v74,rfl,hS,q0,q1,q2⟩ hall
    simp only [Act.put,List.setIfInBounds_toArray,List.set_cons_zero,List.set_cons_succ]
    obtain rfl:=q0 (hall 0 (by omega))
    obtain rfl:=q1 (hall 1 (by omega))
    obtain rfl:=q2 (hall 2 (by omega))
    clear hall
    simp only [List.drop_succ_cons,List.drop_zero]
    have x60:=hS.m.c60
    have x61:=hS.m.c61
    have xf0:=hS.m.f60
    have xf1:=hS.m.f61
    have hB3:=hS.m.hb
    go_wp2
    refine bodyPost_ret (v:=.tuple #[.agg #[.int .i64 (sh),.int .i64 (pt)],.bool (setB (sh) (pt))]) (by simp [results,Tryz.results127,go_sem,x60,x61]) rfl ⟨by rw [HRx.out];rfl,(by repeat first | with_reducible (first | exact hB3 | apply below_drewN' | apply Below.drew | refine Below.alloc ?_ ?_ _ | refine Below.setCell ?_ ?_ _) | exact hB3 | omega | (simp <;> omega) | (have:=(hB3).size;first | omega | (simp <;> omega)))⟩
theorem apply1_c (L:Int) (A1:Option Addr) (c1:Nat) (l1:List Int) (A2:Option Addr) (c2:Nat) (l2:List Int) (sh cu s d t pt:Int) (w:World)
  (hsh:-1048576 ≤ sh∧sh ≤ 1048576) (hcu:0 ≤ cu∧cu ≤ 1048576) (hp:0 ≤ pt∧pt ≤ 1048576) (HP:∀ W,Hid (Calls Tryz.prog 172 #[.int .i64 s,.agg #[.int .i64 d,.int .i64 t]] W fun e w'=>e=.returned (.int .i64 pt)∧Below W.heap.size W w'))
  (h2:l2.length ≤ 1048576) (hs:Sl w w.heap.size 1 A2 (l2.map ic)) :
  Calls Tryz.prog 127 #[.agg #[.int .i64 L,.slice A1 l1.length c1,.slice A2 l2.length c2],.agg #[.int .i64 sh,.int .i64 cu],.agg #[.int .i64 1,.int .i64 s,.int .i64 d,.int .i64 t]] w fun e w' =>
   e=.returned (.tuple #[.agg #[.int .i64 (moveR l1 l2 sh cu 1 s pt).1.1,.int .i64 (moveR l1 l2 sh cu 1 s pt).1.2],.bool (moveR l1 l2 sh cu 1 s pt).2])∧Below w.heap.size w w':=by
 have HI:=fun a b W=>Lib.hid (specIsSetting_c a b W)
 have HO:=fun W=>Lib.hid (l11OnT_c L (.slice A1 l1.length c1) (.slice A2 l2.length c2) W _ _ _ rfl)
 have HH:=fun (W:World) (hW:Below w.heap.size w W)=>Lib.hid (l01HasB_c A2 c2 l2 s W h2 ((hs.below hW).more hW.size))
 have HC:=fun W=>Lib.hid (l11Cursor_c sh cu s d t pt true W hsh hp HP)
 obtain ⟨hp1,hp2⟩:=hp
 have HR:∀ h,hasS l1 l2 1 s=h→Hid (moveR l1 l2 sh cu 1 s pt=if h then ((sh,pt+sh),setB (sh) (pt+sh)) else ((0,0),false)):=fun h e=>by
  unfold Hid moveR
  rw [e]
  cases h <;> rfl
 have HRx:=HR (decide (s ∈ l2)) rfl
 clear HR hs
 generalize decide (s ∈ l2)=has at *
 obtain ⟨hsh1,hsh2⟩:=hsh
 obtain ⟨hcu1,hcu2⟩:=hcu
 have hM0:MvS w sh cu 1 s d t _:=MvS.init L A1 l1.length c1 A2 l2.length c2
 have hB3:Blk ((((w.alloc (.cells #[.int .i64 L,.slice A1 l1.length c1,.slice A2 l2.length c2] 26)).alloc (.cells #[.int .i64 sh,.int .i64 cu] 104)).alloc (.cells #[.int .i64 1,.int .i64 s,.int .i64 d,.int .i64 t] 75)).alloc (.cells #[.int .i64 0,.int .i64 0] 104)) w.heap.size 26 #[.int .i64 L,.slice A1 l1.length c1,.slice A2 l2.length c2]:=(((Blk.new _ _ _).alloc _).alloc _).alloc _
 go_enter Tryz.func127,Tryz.ntmps127
 go_wp2_with fail
 generalize ((((w.alloc (.cells #[.int .i64 L,.slice A1 l1.length c1,.slice A2 l2.length c2] 26)).alloc (.cells #[.int .i64 sh,.int .i64 cu] 104)).alloc (.cells #[.int .i64 1,.int .i64 s,.int .i64 d,.int .i64 t] 75)).alloc (.cells #[.int .i64 0,.int .i64 0] 104))=W at *
 refine wp_region_all (fun a0 fL bA v=>∃ v9 v10 v11 v12 v13 v14 v15 v16 v17 v18 v19 v20 v21 v22:Value,bA=(((((((((((((a0.put (some 9) v9).put (some 10) v10).put (some 11) v11).put (some 12) v12).put (some 13) v13).put (some 14) v14).put (some 15) v15).put (some 16) v16).put (some 17) v17).put (some 18) v18).put (some 19) v19).put (some 20) v20).put (some 21) v21).put (some 22) v22∧(MvS w sh cu 1 s d t v∧Blk v w.heap.size 26 #[.int .i64 L,.slice A1 l1.length c1,.slice A2 l2.length c2])∧(fL 0=true→v9=.pointer (some ⟨w.heap.size+1+1,0,none⟩))∧(fL 1=true→v10=.int .i64 1)∧(fL 2=true→v11=.bool true)∧(fL 3=true→v12=.bool true)∧(fL 4=true→v13=.agg #[.int .i64 L,.slice A1 l1.length c1,.slice A2 l2.length c2])∧(fL 5=true→v14=.pointer (some ⟨w.heap.size+1+1,0,none⟩))∧(fL 6=true→v15=.int .i64 1)∧(fL 7=true→v16=.bool true)∧(fL 8=true→v17=.slice A2 l2.length c2)∧(fL 9=true→v18=.pointer (some ⟨w.heap.size+1+1,1,none⟩))∧(fL 10=true→v19=.int .i64 s)∧(fL 11=true→v20=.bool has)∧(fL 12=true→v21=.bool (!has))∧(fL 13=true→v22=.bool (!has))) (by kernel_rfl) (by decide +kernel) ?_ ?_ ?_
 ·exact ⟨undef,undef,undef,undef,undef,undef,undef,undef,undef,undef,undef,undef,undef,undef,by simp only [Act.put,List.setIfInBounds_toArray,List.set_cons_zero,List.set_cons_succ],⟨hM0.drew,hB3⟩,nofun,nofun,nofun,nofun,nofun,nofun,nofun,nofun,nofun,nofun,nofun,nofun,nofun,nofun⟩
 ·rintro fL bA v ⟨v9,v10,v11,v12,v13,v14,v15,v16,v17,v18,v19,v20,v21,v22,rfl,hS,q0,q1,q2,q3,q4,q5,q6,q7,q8,q9,q10,q11,q12,q13⟩ i hi hf o ho hall
  simp only [Act.put,List.setIfInBounds_toArray,List.set_cons_zero,List.set_cons_succ]
  simp only [List.length_cons,List.length_nil] at hi
  have hn:i=0 ∨ i=1 ∨ i=2 ∨ i=3 ∨ i=4 ∨ i=5 ∨ i=6 ∨ i=7 ∨ i=8 ∨ i=9 ∨ i=10 ∨ i=11 ∨ i=12 ∨ i=13:=by omega
  clear hi
  rcases hn with rfl | rfl | rfl | rfl | rfl | rfl | rfl | rfl | rfl | rfl | rfl | rfl | rfl | rfl
  ·obtain rfl:=Option.some.inj ho
   clear hall ho
   refine wpOp_step rfl (fun K hK=>?_)
   go_simp
   exact hK _ _ ⟨_,_,_,_,_,_,_,_,_,_,_,_,_,_,rfl,hS,fun _=>rfl,q1,q2,q3,q4,q5,q6,q7,q8,q9,q10,q11,q12,q13⟩
  ·obtain rfl:=Option.some.inj ho
   obtain rfl:=q0 (hall ⟨0,.data⟩ (by simp) rfl)
   have y0:=hS.1.c50
   clear hall ho
   refine wpOp_step rfl (fun K hK=>?_)
   go_simp
   exact hK _ _ ⟨_,_,_,_,_,_,_,_,_,_,_,_,_,_,rfl,hS,fun _=>rfl,fun _=>rfl,q2,q3,q4,q5,q6,q7,q8,q9,q10,q11,q12,q13⟩
  ·obtain rfl:=Option.some.inj ho
   obtain rfl:=q1 (hall ⟨1,.data⟩ (by simp) rfl)
   clear hall ho
   refine wpOp_step rfl (fun K hK=>?_)
   go_simp
   exact hK _ _ ⟨_,_,_,_,_,_,_,_,_,_,_,_,_,_,rfl,hS,q0,fun _=>rfl,fun _=>rfl,q3,q4,q5,q6,q7,q8,q9,q10,q11,q12,q13⟩
  ·obtain rfl:=Option.some.inj ho
   obtain rfl:=q2 (hall ⟨2,.data⟩ (by simp) rfl)
   clear hall ho
   refine wpOp_step rfl (fun K hK=>?_)
   go_simp
   exact hK _ _ ⟨_,_,_,_,_,_,_,_,_,_,_,_,_,_,rfl,hS,q0,q1,fun _=>rfl,fun _=>rfl,q4,q5,q6,q7,q8,q9,q10,q11,q12,q13⟩
  ·obtain rfl:=Option.some.inj ho
   obtain rfl:=q3 (hall ⟨3,.guard⟩ (by simp) rfl)
   have y0:v.cell? ⟨w.heap.size,0,none⟩=some (.int .i64 L):=hS.2.cell 0
   have y1:v.cell? ⟨w.heap.size,1,none⟩=some (.slice A1 l1.length c1):=hS.2.cell 1
   have y2:v.cell? ⟨w.heap.size,2,none⟩=some (.slice A2 l2.length c2):=hS.2.cell 2
   clear hall ho
   refine wpOp_step rfl (fun K hK=>?_)
   go_simp
   exact hK _ _ ⟨_,_,_,_,_,_,_,_,_,_,_,_,_,_,rfl,hS,q0,q1,q2,fun _=>rfl,fun _=>rfl,q5,q6,q7,q8,q9,q10,q11,q12,q13⟩
  ·obtain rfl:=Option.some.inj ho
   obtain rfl:=q3 (hall ⟨3,.guard⟩ (by simp) rfl)
   clear hall ho
   refine wpOp_step rfl (fun K hK=>?_)
   go_simp
   exact hK _ _ ⟨_,_,_,_,_,_,_,_,_,_,_,_,_,_,rfl,hS,q0,q1,q2,fun _=>rfl,q4,fun _=>rfl,q6,q7,q8,q9,q10,q11,q12,q13⟩
  ·obtain rfl:=Option.some.inj ho
   obtain rfl:=q5 (hall ⟨5,.data⟩ (by simp) rfl)
   obtain rfl:=q3 (hall ⟨3,.guard⟩ (by simp) rfl)
   have y0:=hS.1.c50
   clear hall ho
   refine wpOp_step rfl (fun K hK=>?_)
   go_simp
   exact hK _ _ ⟨_,_,_,_,_,_,_,_,_,_,_,_,_,_,rfl,hS,q0,q1,q2,fun _=>rfl,q4,fun _=>rfl,fun _=>rfl,q7,q8,q9,q10,q11,q12,q13⟩
  ·obtain rfl:=Option.some.inj ho
   obtain rfl:=q6 (hall ⟨6,.data⟩ (by simp) rfl)
   obtain rfl:=q3 (hall ⟨3,.guard⟩ (by simp) rfl)
   clear hall ho
   refine wpOp_step rfl (fun K hK=>?_)
   go_simp
   exact hK _ _ ⟨_,_,_,_,_,_,_,_,_,_,_,_,_,_,rfl,hS,q0,q1,q2,fun _=>rfl,q4,q5,fun _=>rfl,fun _=>rfl,q8,q9,q10,q11,q12,q13⟩
  ·obtain rfl:=Option.some.inj ho
   obtain rfl:=q4 (hall ⟨4,.data⟩ (by simp) rfl)
   obtain rfl:=q7 (hall ⟨7,.data⟩ (by simp) rfl)
   obtain rfl:=q3 (hall ⟨3,.guard⟩ (by simp) rfl)
   clear hall ho
   refine wpOp_step rfl (fun K hK=>?_)
   go_simp
   refine Calls.mono ((HO _).out) ?_;rintro e w1 ⟨rfl,hb1⟩
   go_simp
   exact hK _ _ ⟨_,_,_,_,_,_,_,_,_,_,_,_,_,_,rfl,⟨hS.1.below hb1,hS.2.below hb1 hS.2.lt⟩,q0,q1,q2,fun _=>rfl,fun _=>rfl,q5,q6,fun _=>rfl,fun _=>rfl,q9,q10,q11,q12,q13⟩
  ·obtain rfl:=Option.some.inj ho
   obtain rfl:=q3 (hall ⟨3,.guard⟩ (by simp) rfl)
   clear hall ho
   refine wpOp_step rfl (fun K hK=>?_)
   go_simp
   exact hK _ _ ⟨_,_,_,_,_,_,_,_,_,_,_,_,_,_,rfl,hS,q0,q1,q2,fun _=>rfl,q4,q5,q6,q7,q8,fun _=>rfl,q10,q11,q12,q13⟩
  ·obtain rfl:=Option.some.inj ho
   obtain rfl:=q9 (hall ⟨9,.data⟩ (by simp) rfl)
   obtain rfl:=q3 (hall ⟨3,.guard⟩ (by simp) rfl)
   have y0:=hS.1.c51
   clear hall ho
   refine wpOp_step rfl (fun K hK=>?_)
   go_simp
   exact hK _ _ ⟨_,_,_,_,_,_,_,_,_,_,_,_,_,_,rfl,hS,q0,q1,q2,fun _=>rfl,q4,q5,q6,q7,q8,fun _=>rfl,fun _=>rfl,q11,q12,q13⟩
  ·obtain rfl:=Option.some.inj ho
   obtain rfl:=q8 (hall ⟨8,.data⟩ (by simp) rfl)
   obtain rfl:=q10 (hall ⟨10,.data⟩ (by simp) rfl)
   obtain rfl:=q3 (hall ⟨3,.guard⟩ (by simp) rfl)
   clear hall ho
   refine wpOp_step rfl (fun K hK=>?_)
   go_simp
   refine Calls.mono ((HH _ hS.1.hb).out) ?_;rintro e w1 ⟨rfl,hb1⟩
   go_simp
   exact hK _ _ ⟨_,_,_,_,_,_,_,_,_,_,_,_,_,_,rfl,⟨hS.1.below hb1,hS.2.below hb1 hS.2.lt⟩,q0,q1,q2,fun _=>rfl,q4,q5,q6,q7,fun _=>rfl,q9,fun _=>rfl,fun _=>rfl,q12,q13⟩
  ·obtain rfl:=Option.some.inj ho
   obtain rfl:=q11 (hall ⟨11,.data⟩ (by simp) rfl)
   obtain rfl:=q3 (hall ⟨3,.guard⟩ (by simp) rfl)
   clear hall ho
   refine wpOp_step rfl (fun K hK=>?_)
   go_simp
   exact hK _ _ ⟨_,_,_,_,_,_,_,_,_,_,_,_,_,_,rfl,hS,q0,q1,q2,fun _=>rfl,q4,q5,q6,q7,q8,q9,q10,fun _=>rfl,fun _=>rfl,q13⟩
  ·obtain rfl:=Option.some.inj ho
   obtain rfl:=q3 (hall ⟨3,.data⟩ (by simp) rfl)
   obtain rfl:=q12 (hall ⟨12,.data⟩ (by simp) rfl)
   clear hall ho
   refine wpOp_step rfl (fun K hK=>?_)
   go_simp
   exact hK _ _ ⟨_,_,_,_,_,_,_,_,_,_,_,_,_,_,rfl,hS,q0,q1,q2,fun _=>rfl,q4,q5,q6,q7,q8,q9,q10,q11,fun _=>rfl,fun _=>rfl⟩
 ·rintro fL bA v ⟨v9,v10,v11,v12,v13,v14,v15,v16,v17,v18,v19,v20,v21,v22,rfl,hS,q0,q1,q2,q3,q4,q5,q6,q7,q8,q9,q10,q11,q12,q13⟩ hall
  simp only [Act.put,List.setIfInBounds_toArray,List.set_cons_zero,List.set_cons_succ]
  simp only [List.length_cons,List.length_nil] at hall
  obtain rfl:=q0 (hall 0 (by omega))
  obtain rfl:=q1 (hall 1 (by omega))
  obtain rfl:=q2 (hall 2 (by omega))
  obtain rfl:=q3 (hall 3 (by omega))
  obtain rfl:=q4 (hall 4 (by omega))
  obtain rfl:=q5 (hall 5 (by omega))
  obtain rfl:=q6 (hall 6 (by omega))
  obtain rfl:=q7 (hall 7 (by omega))
  obtain rfl:=q8 (hall 8 (by omega))
  obtain rfl:=q9 (hall 9 (by omega))
  obtain rfl:=q10 (hall 10 (by omega))
  obtain rfl:=q11 (hall 11 (by omega))
  obtain rfl:=q12 (hall 12 (by omega))
  obtain rfl:=q13 (hall 13 (by omega))
  clear hall
  have hM:=hS.1
  clear hM0 hB3 hS
  have x60:=hM.c60
  have x61:=hM.c61
  have xf0:=hM.f60
  have xf1:=hM.f61
  have x40:=hM.c40
  have x41:=hM.c41
  have x50:=hM.c50
  have x51:=hM.c51
  have x52:=hM.c52
  have x53:=hM.c53
  have l4:w.heap.size+1 < v.heap.size:=hM.b4.lt
  have l5:w.heap.size+1+1 < v.heap.size:=hM.b5.lt
  have l6:w.heap.size+1+1+1 < v.heap.size:=hM.b6.lt
  have hbv:=hM.hb
  cases has with
  | false =>
   clear hM
   go_wp2
   refine bodyPost_ret (v:=.tuple #[.agg #[.int .i64 0,.int .i64 0],.bool false]) (by simp [results,Tryz.results127,go_sem,x60,x61]) rfl ⟨by rw [HRx.out];rfl,(by repeat first | with_reducible (first | exact hbv | apply below_drewN' | apply Below.drew | refine Below.alloc ?_ ?_ _ | refine Below.setCell ?_ ?_ _) | exact hbv | omega | (simp <;> omega) | (have:=(hbv).size;first | omega | (simp <;> omega)))⟩
  | true =>
   have hA0:ApS w v.heap.size sh cu 1 s d t sh cu (v.alloc (.cells #[.int .i64 sh,.int .i64 cu] 104)):=⟨hM.below ((Below.refl _ _).alloc (Nat.le_refl _) _),Blk.new _ _ _,by omega⟩
   go_wp2_with fail
   clear x60 x61 xf0 xf1 x40 x41 x50 x51 x52 x53 hM hbv
   generalize v.alloc (.cells #[.int .i64 sh,.int .i64 cu] 104)=v3 at *
   generalize v.heap.size=g at *
   refine Calls.mono (HC v3).out ?_;rintro e v4 ⟨rfl,hb4⟩
   have hA1:=hA0.below hb4
   have z0:v4.cell? ⟨g,0,none⟩=some (.int .i64 sh):=hA1.b8.cell 0
   have z1:v4.cell? ⟨g,1,none⟩=some (.int .i64 cu):=hA1.b8.cell 1
   have zf0:=hA1.b8.frozen 0
   have zf1:=hA1.b8.frozen 1
   have hA:ApS w g sh cu 1 s d t (sh) (pt+sh) ((v4.setCell ⟨g,0,none⟩ (.int .i64 (sh))).setCell ⟨g,1,none⟩ (.int .i64 (pt+sh))):=hA1.set0.set1
   go_wp2_with fail
   clear z0 z1 zf0 zf1 hA0 hA1 hb4
   generalize (v4.setCell ⟨g,0,none⟩ (.int .i64 (sh))).setCell ⟨g,1,none⟩ (.int .i64 (pt+sh))=v5 at *
   refine wp_region_sink 3 (fun a0 fL bA v=>∃ v72 v73 v74:Value,bA=((a0.put (some 72) v72).put (some 73) v73).put (some 74) v74∧(ApS w g sh cu 1 s d t (sh) (pt+sh) v)∧(fL 0=true→v72=.agg #[.int .i64 (sh),.int .i64 (pt+sh)])∧(fL 1=true→v73=.agg #[.int .i64 (sh),.int .i64 (pt+sh)])∧(fL 2=true→v74=.bool (setB (sh) (pt+sh)))) (by kernel_rfl) (by decide +kernel) ?_ ?_ ?_
   ·exact ⟨undef,undef,undef,by simp only [Act.put,List.setIfInBounds_toArray,List.set_cons_zero,List.set_cons_succ],hA.drew,nofun,nofun,nofun⟩
   ·rintro fL bA v ⟨v72,v73,v74,rfl,hS,q0,q1,q2⟩ i hi hf o ho hall
    simp only [Act.put,List.setIfInBounds_toArray,List.set_cons_zero,List.set_cons_succ]
    have hn:i=0 ∨ i=1 ∨ i=2:=by omega
    clear hi
    rcases hn with rfl | rfl | rfl
    ·obtain rfl:=Option.some.inj ho
     have y0:v.cell? ⟨g,0,none⟩=some (.int .i64 (sh)):=hS.b8.cell 0
     have y1:v.cell? ⟨g,1,none⟩=some (.int .i64 (pt+sh)):=hS.b8.cell 1
     clear hall ho
     refine wpOp_step rfl (fun K hK=>?_)
     go_simp
     exact hK _ _ ⟨_,_,_,rfl,hS,fun _=>rfl,q1,q2⟩
    ·obtain rfl:=Option.some.inj ho
     have y0:v.cell? ⟨g,0,none⟩=some (.int .i64 (sh)):=hS.b8.cell 0
     have y1:v.cell? ⟨g,1,none⟩=some (.int .i64 (pt+sh)):=hS.b8.cell 1
     clear hall ho
     refine wpOp_step rfl (fun K hK=>?_)
     go_simp
     exact hK _ _ ⟨_,_,_,rfl,hS,q0,fun _=>rfl,q2⟩
    ·obtain rfl:=Option.some.inj ho
     obtain rfl:=q1 (hall ⟨1,.data⟩ (by simp) rfl)
     clear hall ho
     refine wpOp_step rfl (fun K hK=>?_)
     go_simp
     refine Calls.mono ((HI _ _ _).out) ?_;rintro e w1 ⟨rfl,hb1⟩
     go_simp
     exact hK _ _ ⟨_,_,_,rfl,hS.below hb1,q0,fun _=>rfl,fun _=>rfl⟩
   ·rintro fL bA v ⟨v72,v73,v74,rfl,hS,q0,q1,q2⟩ hall
    simp only [Act.put,List.setIfInBounds_toArray,List.set_cons_zero,List.set_cons_succ]
    obtain rfl:=q0 (hall 0 (by omega))
    obtain rfl:=q1 (hall 1 (by omega))
    obtain rfl:=q2 (hall 2 (by omega))
    clear hall
    simp only [List.drop_succ_cons,List.drop_zero]
    have x60:=hS.m.c60
    have x61:=hS.m.c61
    have xf0:=hS.m.f60
    have xf1:=hS.m.f61
    have hB3:=hS.m.hb
    go_wp2
    refine bodyPost_ret (v:=.tuple #[.agg #[.int .i64 (sh),.int .i64 (pt+sh)],.bool (setB (sh) (pt+sh))]) (by simp [results,Tryz.results127,go_sem,x60,x61]) rfl ⟨by rw [HRx.out];rfl,(by repeat first | with_reducible (first | exact hB3 | apply below_drewN' | apply Below.drew | refine Below.alloc ?_ ?_ _ | refine Below.setCell ?_ ?_ _) | exact hB3 | omega | (simp <;> omega) | (have:=(hB3).size;first | omega | (simp <;> omega)))⟩
theorem apply2_c (L:Int) (A1:Option Addr) (c1:Nat) (l1:List Int) (A2:Option Addr) (c2:Nat) (l2:List Int) (sh cu s d t pt:Int) (w:World)
  (hsh:-1048576 ≤ sh∧sh ≤ 1048576) (hcu:0 ≤ cu∧cu ≤ 1048576) (hp:0 ≤ pt∧pt ≤ 1048576) (HP:∀ W,Hid (Calls Tryz.prog 172 #[.int .i64 s,.agg #[.int .i64 d,.int .i64 t]] W fun e w'=>e=.returned (.int .i64 pt)∧Below W.heap.size W w'))
  (h2:l2.length ≤ 1048576) (hs:Sl w w.heap.size 1 A2 (l2.map ic)) :
  Calls Tryz.prog 127 #[.agg #[.int .i64 L,.slice A1 l1.length c1,.slice A2 l2.length c2],.agg #[.int .i64 sh,.int .i64 cu],.agg #[.int .i64 2,.int .i64 s,.int .i64 d,.int .i64 t]] w fun e w' =>
   e=.returned (.tuple #[.agg #[.int .i64 (moveR l1 l2 sh cu 2 s pt).1.1,.int .i64 (moveR l1 l2 sh cu 2 s pt).1.2],.bool (moveR l1 l2 sh cu 2 s pt).2])∧Below w.heap.size w w':=by
 have HI:=fun a b W=>Lib.hid (specIsSetting_c a b W)
 have HO:=fun W=>Lib.hid (l11OnT_c L (.slice A1 l1.length c1) (.slice A2 l2.length c2) W _ _ _ rfl)
 have HH:=fun (W:World) (hW:Below w.heap.size w W)=>Lib.hid (l01HasB_c A2 c2 l2 s W h2 ((hs.below hW).more hW.size))
 have HC:=fun W=>Lib.hid (l11Cursor_c sh cu s d t pt false W hsh hp HP)
 obtain ⟨hp1,hp2⟩:=hp
 have HR:∀ h,hasS l1 l2 2 s=h→Hid (moveR l1 l2 sh cu 2 s pt=if h then ((cu - pt,cu),setB (cu - pt) (cu)) else ((0,0),false)):=fun h e=>by
  unfold Hid moveR
  rw [e]
  cases h <;> rfl
 have HRx:=HR (decide (s ∈ l2)) rfl
 clear HR hs
 generalize decide (s ∈ l2)=has at *
 obtain ⟨hsh1,hsh2⟩:=hsh
 obtain ⟨hcu1,hcu2⟩:=hcu
 have hM0:MvS w sh cu 2 s d t _:=MvS.init L A1 l1.length c1 A2 l2.length c2
 have hB3:Blk ((((w.alloc (.cells #[.int .i64 L,.slice A1 l1.length c1,.slice A2 l2.length c2] 26)).alloc (.cells #[.int .i64 sh,.int .i64 cu] 104)).alloc (.cells #[.int .i64 2,.int .i64 s,.int .i64 d,.int .i64 t] 75)).alloc (.cells #[.int .i64 0,.int .i64 0] 104)) w.heap.size 26 #[.int .i64 L,.slice A1 l1.length c1,.slice A2 l2.length c2]:=(((Blk.new _ _ _).alloc _).alloc _).alloc _
 go_enter Tryz.func127,Tryz.ntmps127
 go_wp2_with fail
 generalize ((((w.alloc (.cells #[.int .i64 L,.slice A1 l1.length c1,.slice A2 l2.length c2] 26)).alloc (.cells #[.int .i64 sh,.int .i64 cu] 104)).alloc (.cells #[.int .i64 2,.int .i64 s,.int .i64 d,.int .i64 t] 75)).alloc (.cells #[.int .i64 0,.int .i64 0] 104))=W at *
 refine wp_region_all (fun a0 fL bA v=>∃ v9 v10 v11 v12 v13 v14 v15 v16 v17 v18 v19 v20 v21 v22:Value,bA=(((((((((((((a0.put (some 9) v9).put (some 10) v10).put (some 11) v11).put (some 12) v12).put (some 13) v13).put (some 14) v14).put (some 15) v15).put (some 16) v16).put (some 17) v17).put (some 18) v18).put (some 19) v19).put (some 20) v20).put (some 21) v21).put (some 22) v22∧(MvS w sh cu 2 s d t v∧Blk v w.heap.size 26 #[.int .i64 L,.slice A1 l1.length c1,.slice A2 l2.length c2])∧(fL 0=true→v9=.pointer (some ⟨w.heap.size+1+1,0,none⟩))∧(fL 1=true→v10=.int .i64 2)∧(fL 2=true→v11=.bool true)∧(fL 3=true→v12=.bool true)∧(fL 4=true→v13=.agg #[.int .i64 L,.slice A1 l1.length c1,.slice A2 l2.length c2])∧(fL 5=true→v14=.pointer (some ⟨w.heap.size+1+1,0,none⟩))∧(fL 6=true→v15=.int .i64 2)∧(fL 7=true→v16=.bool true)∧(fL 8=true→v17=.slice A2 l2.length c2)∧(fL 9=true→v18=.pointer (some ⟨w.heap.size+1+1,1,none⟩))∧(fL 10=true→v19=.int .i64 s)∧(fL 11=true→v20=.bool has)∧(fL 12=true→v21=.bool (!has))∧(fL 13=true→v22=.bool (!has))) (by kernel_rfl) (by decide +kernel) ?_ ?_ ?_
 ·exact ⟨undef,undef,undef,undef,undef,undef,undef,undef,undef,undef,undef,undef,undef,undef,by simp only [Act.put,List.setIfInBounds_toArray,List.set_cons_zero,List.set_cons_succ],⟨hM0.drew,hB3⟩,nofun,nofun,nofun,nofun,nofun,nofun,nofun,nofun,nofun,nofun,nofun,nofun,nofun,nofun⟩
 ·rintro fL bA v ⟨v9,v10,v11,v12,v13,v14,v15,v16,v17,v18,v19,v20,v21,v22,rfl,hS,q0,q1,q2,q3,q4,q5,q6,q7,q8,q9,q10,q11,q12,q13⟩ i hi hf o ho hall
  simp only [Act.put,List.setIfInBounds_toArray,List.set_cons_zero,List.set_cons_succ]
  simp only [List.length_cons,List.length_nil] at hi
  have hn:i=0 ∨ i=1 ∨ i=2 ∨ i=3 ∨ i=4 ∨ i=5 ∨ i=6 ∨ i=7 ∨ i=8 ∨ i=9 ∨ i=10 ∨ i=11 ∨ i=12 ∨ i=13:=by omega
  clear hi
  rcases hn with rfl | rfl | rfl | rfl | rfl | rfl | rfl | rfl | rfl | rfl | rfl | rfl | rfl | rfl
  ·obtain rfl:=Option.some.inj ho
   clear hall ho
   refine wpOp_step rfl (fun K hK=>?_)
   go_simp
   exact hK _ _ ⟨_,_,_,_,_,_,_,_,_,_,_,_,_,_,rfl,hS,fun _=>rfl,q1,q2,q3,q4,q5,q6,q7,q8,q9,q10,q11,q12,q13⟩
  ·obtain rfl:=Option.some.inj ho
   obtain rfl:=q0 (hall ⟨0,.data⟩ (by simp) rfl)
   have y0:=hS.1.c50
   clear hall ho
   refine wpOp_step rfl (fun K hK=>?_)
   go_simp
   exact hK _ _ ⟨_,_,_,_,_,_,_,_,_,_,_,_,_,_,rfl,hS,fun _=>rfl,fun _=>rfl,q2,q3,q4,q5,q6,q7,q8,q9,q10,q11,q12,q13⟩
  ·obtain rfl:=Option.some.inj ho
   obtain rfl:=q1 (hall ⟨1,.data⟩ (by simp) rfl)
   clear hall ho
   refine wpOp_step rfl (fun K hK=>?_)
   go_simp
   exact hK _ _ ⟨_,_,_,_,_,_,_,_,_,_,_,_,_,_,rfl,hS,q0,fun _=>rfl,fun _=>rfl,q3,q4,q5,q6,q7,q8,q9,q10,q11,q12,q13⟩
  ·obtain rfl:=Option.some.inj ho
   obtain rfl:=q2 (hall ⟨2,.data⟩ (by simp) rfl)
   clear hall ho
   refine wpOp_step rfl (fun K hK=>?_)
   go_simp
   exact hK _ _ ⟨_,_,_,_,_,_,_,_,_,_,_,_,_,_,rfl,hS,q0,q1,fun _=>rfl,fun _=>rfl,q4,q5,q6,q7,q8,q9,q10,q11,q12,q13⟩
  ·obtain rfl:=Option.some.inj ho
   obtain rfl:=q3 (hall ⟨3,.guard⟩ (by simp) rfl)
   have y0:v.cell? ⟨w.heap.size,0,none⟩=some (.int .i64 L):=hS.2.cell 0
   have y1:v.cell? ⟨w.heap.size,1,none⟩=some (.slice A1 l1.length c1):=hS.2.cell 1
   have y2:v.cell? ⟨w.heap.size,2,none⟩=some (.slice A2 l2.length c2):=hS.2.cell 2
   clear hall ho
   refine wpOp_step rfl (fun K hK=>?_)
   go_simp
   exact hK _ _ ⟨_,_,_,_,_,_,_,_,_,_,_,_,_,_,rfl,hS,q0,q1,q2,fun _=>rfl,fun _=>rfl,q5,q6,q7,q8,q9,q10,q11,q12,q13⟩
  ·obtain rfl:=Option.some.inj ho
   obtain rfl:=q3 (hall ⟨3,.guard⟩ (by simp) rfl)
   clear hall ho
   refine wpOp_step rfl (fun K hK=>?_)
   go_simp
   exact hK _ _ ⟨_,_,_,_,_,_,_,_,_,_,_,_,_,_,rfl,hS,q0,q1,q2,fun _=>rfl,q4,fun _=>rfl,q6,q7,q8,q9,q10,q11,q12,q13⟩
  ·obtain rfl:=Option.some.inj ho
   obtain rfl:=q5 (hall ⟨5,.data⟩ (by simp) rfl)
   obtain rfl:=q3 (hall ⟨3,.guard⟩ (by simp) rfl)
   have y0:=hS.1.c50
   clear hall ho
   refine wpOp_step rfl (fun K hK=>?_)
   go_simp
   exact hK _ _ ⟨_,_,_,_,_,_,_,_,_,_,_,_,_,_,rfl,hS,q0,q1,q2,fun _=>rfl,q4,fun _=>rfl,fun _=>rfl,q7,q8,q9,q10,q11,q12,q13⟩
  ·obtain rfl:=Option.some.inj ho
   obtain rfl:=q6 (hall ⟨6,.data⟩ (by simp) rfl)
   obtain rfl:=q3 (hall ⟨3,.guard⟩ (by simp) rfl)
   clear hall ho
   refine wpOp_step rfl (fun K hK=>?_)
   go_simp
   exact hK _ _ ⟨_,_,_,_,_,_,_,_,_,_,_,_,_,_,rfl,hS,q0,q1,q2,fun _=>rfl,q4,q5,fun _=>rfl,fun _=>rfl,q8,q9,q10,q11,q12,q13⟩
  ·obtain rfl:=Option.some.inj ho
   obtain rfl:=q4 (hall ⟨4,.data⟩ (by simp) rfl)
   obtain rfl:=q7 (hall ⟨7,.data⟩ (by simp) rfl)
   obtain rfl:=q3 (hall ⟨3,.guard⟩ (by simp) rfl)
   clear hall ho
   refine wpOp_step rfl (fun K hK=>?_)
   go_simp
   refine Calls.mono ((HO _).out) ?_;rintro e w1 ⟨rfl,hb1⟩
   go_simp
   exact hK _ _ ⟨_,_,_,_,_,_,_,_,_,_,_,_,_,_,rfl,⟨hS.1.below hb1,hS.2.below hb1 hS.2.lt⟩,q0,q1,q2,fun _=>rfl,fun _=>rfl,q5,q6,fun _=>rfl,fun _=>rfl,q9,q10,q11,q12,q13⟩
  ·obtain rfl:=Option.some.inj ho
   obtain rfl:=q3 (hall ⟨3,.guard⟩ (by simp) rfl)
   clear hall ho
   refine wpOp_step rfl (fun K hK=>?_)
   go_simp
   exact hK _ _ ⟨_,_,_,_,_,_,_,_,_,_,_,_,_,_,rfl,hS,q0,q1,q2,fun _=>rfl,q4,q5,q6,q7,q8,fun _=>rfl,q10,q11,q12,q13⟩
  ·obtain rfl:=Option.some.inj ho
   obtain rfl:=q9 (hall ⟨9,.data⟩ (by simp) rfl)
   obtain rfl:=q3 (hall ⟨3,.guard⟩ (by simp) rfl)
   have y0:=hS.1.c51
   clear hall ho
   refine wpOp_step rfl (fun K hK=>?_)
   go_simp
   exact hK _ _ ⟨_,_,_,_,_,_,_,_,_,_,_,_,_,_,rfl,hS,q0,q1,q2,fun _=>rfl,q4,q5,q6,q7,q8,fun _=>rfl,fun _=>rfl,q11,q12,q13⟩
  ·obtain rfl:=Option.some.inj ho
   obtain rfl:=q8 (hall ⟨8,.data⟩ (by simp) rfl)
   obtain rfl:=q10 (hall ⟨10,.data⟩ (by simp) rfl)
   obtain rfl:=q3 (hall ⟨3,.guard⟩ (by simp) rfl)
   clear hall ho
   refine wpOp_step rfl (fun K hK=>?_)
   go_simp
   refine Calls.mono ((HH _ hS.1.hb).out) ?_;rintro e w1 ⟨rfl,hb1⟩
   go_simp
   exact hK _ _ ⟨_,_,_,_,_,_,_,_,_,_,_,_,_,_,rfl,⟨hS.1.below hb1,hS.2.below hb1 hS.2.lt⟩,q0,q1,q2,fun _=>rfl,q4,q5,q6,q7,fun _=>rfl,q9,fun _=>rfl,fun _=>rfl,q12,q13⟩
  ·obtain rfl:=Option.some.inj ho
   obtain rfl:=q11 (hall ⟨11,.data⟩ (by simp) rfl)
   obtain rfl:=q3 (hall ⟨3,.guard⟩ (by simp) rfl)
   clear hall ho
   refine wpOp_step rfl (fun K hK=>?_)
   go_simp
   exact hK _ _ ⟨_,_,_,_,_,_,_,_,_,_,_,_,_,_,rfl,hS,q0,q1,q2,fun _=>rfl,q4,q5,q6,q7,q8,q9,q10,fun _=>rfl,fun _=>rfl,q13⟩
  ·obtain rfl:=Option.some.inj ho
   obtain rfl:=q3 (hall ⟨3,.data⟩ (by simp) rfl)
   obtain rfl:=q12 (hall ⟨12,.data⟩ (by simp) rfl)
   clear hall ho
   refine wpOp_step rfl (fun K hK=>?_)
   go_simp
   exact hK _ _ ⟨_,_,_,_,_,_,_,_,_,_,_,_,_,_,rfl,hS,q0,q1,q2,fun _=>rfl,q4,q5,q6,q7,q8,q9,q10,q11,fun _=>rfl,fun _=>rfl⟩
 ·rintro fL bA v ⟨v9,v10,v11,v12,v13,v14,v15,v16,v17,v18,v19,v20,v21,v22,rfl,hS,q0,q1,q2,q3,q4,q5,q6,q7,q8,q9,q10,q11,q12,q13⟩ hall
  simp only [Act.put,List.setIfInBounds_toArray,List.set_cons_zero,List.set_cons_succ]
  simp only [List.length_cons,List.length_nil] at hall
  obtain rfl:=q0 (hall 0 (by omega))
  obtain rfl:=q1 (hall 1 (by omega))
  obtain rfl:=q2 (hall 2 (by omega))
  obtain rfl:=q3 (hall 3 (by omega))
  obtain rfl:=q4 (hall 4 (by omega))
  obtain rfl:=q5 (hall 5 (by omega))
  obtain rfl:=q6 (hall 6 (by omega))
  obtain rfl:=q7 (hall 7 (by omega))
  obtain rfl:=q8 (hall 8 (by omega))
  obtain rfl:=q9 (hall 9 (by omega))
  obtain rfl:=q10 (hall 10 (by omega))
  obtain rfl:=q11 (hall 11 (by omega))
  obtain rfl:=q12 (hall 12 (by omega))
  obtain rfl:=q13 (hall 13 (by omega))
  clear hall
  have hM:=hS.1
  clear hM0 hB3 hS
  have x60:=hM.c60
  have x61:=hM.c61
  have xf0:=hM.f60
  have xf1:=hM.f61
  have x40:=hM.c40
  have x41:=hM.c41
  have x50:=hM.c50
  have x51:=hM.c51
  have x52:=hM.c52
  have x53:=hM.c53
  have l4:w.heap.size+1 < v.heap.size:=hM.b4.lt
  have l5:w.heap.size+1+1 < v.heap.size:=hM.b5.lt
  have l6:w.heap.size+1+1+1 < v.heap.size:=hM.b6.lt
  have hbv:=hM.hb
  cases has with
  | false =>
   clear hM
   go_wp2
   refine bodyPost_ret (v:=.tuple #[.agg #[.int .i64 0,.int .i64 0],.bool false]) (by simp [results,Tryz.results127,go_sem,x60,x61]) rfl ⟨by rw [HRx.out];rfl,(by repeat first | with_reducible (first | exact hbv | apply below_drewN' | apply Below.drew | refine Below.alloc ?_ ?_ _ | refine Below.setCell ?_ ?_ _) | exact hbv | omega | (simp <;> omega) | (have:=(hbv).size;first | omega | (simp <;> omega)))⟩
  | true =>
   have hA0:ApS w v.heap.size sh cu 2 s d t sh cu (v.alloc (.cells #[.int .i64 sh,.int .i64 cu] 104)):=⟨hM.below ((Below.refl _ _).alloc (Nat.le_refl _) _),Blk.new _ _ _,by omega⟩
   go_wp2_with fail
   clear x60 x61 xf0 xf1 x40 x41 x50 x51 x52 x53 hM hbv
   generalize v.alloc (.cells #[.int .i64 sh,.int .i64 cu] 104)=v3 at *
   generalize v.heap.size=g at *
   have hw:IntKind.i64.wrap (cu - pt)=cu - pt:=IntWalk.i64_in _ (by omega)
   refine wp_region_sink 9 (fun a0 fL bA v=>∃ v41 v42 v43 v44 v45 v46 v47 v48 v49:Value,bA=((((((((a0.put (some 41) v41).put (some 42) v42).put (some 43) v43).put (some 44) v44).put (some 45) v45).put (some 46) v46).put (some 47) v47).put (some 48) v48).put (some 49) v49∧(ApS w g sh cu 2 s d t sh cu v)∧(fL 0=true→v41=.pointer (some ⟨w.heap.size+1,1,none⟩))∧(fL 1=true→v42=.int .i64 cu)∧(fL 2=true→v43=.pointer (some ⟨w.heap.size+1+1,1,none⟩))∧(fL 3=true→v44=.int .i64 s)∧(fL 4=true→v45=.pointer (some ⟨w.heap.size+1+1,2,none⟩))∧(fL 5=true→v46=.agg #[.int .i64 d,.int .i64 t])∧(fL 6=true→v47=.int .i64 pt)∧(fL 7=true→v48=.int .i64 (cu - pt))∧(fL 8=true→v49=.pointer (some ⟨g,0,none⟩))) (by kernel_rfl) (by decide +kernel) ?_ ?_ ?_
   ·exact ⟨undef,undef,undef,undef,undef,undef,undef,undef,undef,by simp only [Act.put,List.setIfInBounds_toArray,List.set_cons_zero,List.set_cons_succ],hA0.drew,nofun,nofun,nofun,nofun,nofun,nofun,nofun,nofun,nofun⟩
   ·rintro fL bA v ⟨v41,v42,v43,v44,v45,v46,v47,v48,v49,rfl,hS,q0,q1,q2,q3,q4,q5,q6,q7,q8⟩ i hi hf o ho hall
    simp only [Act.put,List.setIfInBounds_toArray,List.set_cons_zero,List.set_cons_succ]
    have hn:i=0 ∨ i=1 ∨ i=2 ∨ i=3 ∨ i=4 ∨ i=5 ∨ i=6 ∨ i=7 ∨ i=8:=by omega
    clear hi
    rcases hn with rfl | rfl | rfl | rfl | rfl | rfl | rfl | rfl | rfl
    ·obtain rfl:=Option.some.inj ho
     clear hall ho
     refine wpOp_step rfl (fun K hK=>?_)
     go_simp
     exact hK _ _ ⟨_,_,_,_,_,_,_,_,_,rfl,hS,fun _=>rfl,q1,q2,q3,q4,q5,q6,q7,q8⟩
    ·obtain rfl:=Option.some.inj ho
     obtain rfl:=q0 (hall ⟨0,.data⟩ (by simp) rfl)
     have y0:=hS.m.c41
     clear hall ho
     refine wpOp_step rfl (fun K hK=>?_)
     go_simp
     exact hK _ _ ⟨_,_,_,_,_,_,_,_,_,rfl,hS,fun _=>rfl,fun _=>rfl,q2,q3,q4,q5,q6,q7,q8⟩
    ·obtain rfl:=Option.some.inj ho
     clear hall ho
     refine wpOp_step rfl (fun K hK=>?_)
     go_simp
     exact hK _ _ ⟨_,_,_,_,_,_,_,_,_,rfl,hS,q0,q1,fun _=>rfl,q3,q4,q5,q6,q7,q8⟩
    ·obtain rfl:=Option.some.inj ho
     obtain rfl:=q2 (hall ⟨2,.data⟩ (by simp) rfl)
     have y0:=hS.m.c51
     clear hall ho
     refine wpOp_step rfl (fun K hK=>?_)
     go_simp
     exact hK _ _ ⟨_,_,_,_,_,_,_,_,_,rfl,hS,q0,q1,fun _=>rfl,fun _=>rfl,q4,q5,q6,q7,q8⟩
    ·obtain rfl:=Option.some.inj ho
     clear hall ho
     refine wpOp_step rfl (fun K hK=>?_)
     go_simp
     exact hK _ _ ⟨_,_,_,_,_,_,_,_,_,rfl,hS,q0,q1,q2,q3,fun _=>rfl,q5,q6,q7,q8⟩
    ·obtain rfl:=Option.some.inj ho
     obtain rfl:=q4 (hall ⟨4,.data⟩ (by simp) rfl)
     have y0:=hS.m.c52
     have y1:=hS.m.c53
     clear hall ho
     refine wpOp_step rfl (fun K hK=>?_)
     go_simp
     exact hK _ _ ⟨_,_,_,_,_,_,_,_,_,rfl,hS,q0,q1,q2,q3,fun _=>rfl,fun _=>rfl,q6,q7,q8⟩
    ·obtain rfl:=Option.some.inj ho
     obtain rfl:=q3 (hall ⟨3,.data⟩ (by simp) rfl)
     obtain rfl:=q5 (hall ⟨5,.data⟩ (by simp) rfl)
     clear hall ho
     refine wpOp_step rfl (fun K hK=>?_)
     go_simp
     refine Calls.mono ((HP _).out) ?_;rintro e w1 ⟨rfl,hb1⟩
     go_simp
     exact hK _ _ ⟨_,_,_,_,_,_,_,_,_,rfl,hS.below hb1,q0,q1,q2,fun _=>rfl,q4,fun _=>rfl,fun _=>rfl,q7,q8⟩
    ·obtain rfl:=Option.some.inj ho
     obtain rfl:=q1 (hall ⟨1,.data⟩ (by simp) rfl)
     obtain rfl:=q6 (hall ⟨6,.data⟩ (by simp) rfl)
     clear hall ho
     refine wpOp_step rfl (fun K hK=>?_)
     go_simp
     exact hK _ _ ⟨_,_,_,_,_,_,_,_,_,rfl,hS,q0,fun _=>rfl,q2,q3,q4,q5,fun _=>rfl,fun _=>rfl,q8⟩
    ·obtain rfl:=Option.some.inj ho
     clear hall ho
     refine wpOp_step rfl (fun K hK=>?_)
     go_simp
     exact hK _ _ ⟨_,_,_,_,_,_,_,_,_,rfl,hS,q0,q1,q2,q3,q4,q5,q6,q7,fun _=>rfl⟩
   ·rintro fL bA v ⟨v41,v42,v43,v44,v45,v46,v47,v48,v49,rfl,hS,q0,q1,q2,q3,q4,q5,q6,q7,q8⟩ hall
    simp only [Act.put,List.setIfInBounds_toArray,List.set_cons_zero,List.set_cons_succ]
    obtain rfl:=q0 (hall 0 (by omega))
    obtain rfl:=q1 (hall 1 (by omega))
    obtain rfl:=q2 (hall 2 (by omega))
    obtain rfl:=q3 (hall 3 (by omega))
    obtain rfl:=q4 (hall 4 (by omega))
    obtain rfl:=q5 (hall 5 (by omega))
    obtain rfl:=q6 (hall 6 (by omega))
    obtain rfl:=q7 (hall 7 (by omega))
    obtain rfl:=q8 (hall 8 (by omega))
    clear hall
    simp only [List.drop_succ_cons,List.drop_zero]
    have z0:v.cell? ⟨g,0,none⟩=some (.int .i64 sh):=hS.b8.cell 0
    have zf0:=hS.b8.frozen 0
    have hA:ApS w g sh cu 2 s d t (cu - pt) (cu) (v.setCell ⟨g,0,none⟩ (.int .i64 (cu - pt))):=hS.set0
    go_wp2_with fail
    clear z0 zf0 hA0 hS
    generalize v.setCell ⟨g,0,none⟩ (.int .i64 (cu - pt))=v5 at *
    refine wp_region_sink 3 (fun a0 fL bA v=>∃ v72 v73 v74:Value,bA=((a0.put (some 72) v72).put (some 73) v73).put (some 74) v74∧(ApS w g sh cu 2 s d t (cu - pt) (cu) v)∧(fL 0=true→v72=.agg #[.int .i64 (cu - pt),.int .i64 (cu)])∧(fL 1=true→v73=.agg #[.int .i64 (cu - pt),.int .i64 (cu)])∧(fL 2=true→v74=.bool (setB (cu - pt) (cu)))) (by kernel_rfl) (by decide +kernel) ?_ ?_ ?_
    ·exact ⟨undef,undef,undef,by simp only [Act.put,List.setIfInBounds_toArray,List.set_cons_zero,List.set_cons_succ],hA.drew,nofun,nofun,nofun⟩
    ·rintro fL bA v ⟨v72,v73,v74,rfl,hS,q0,q1,q2⟩ i hi hf o ho hall
     simp only [Act.put,List.setIfInBounds_toArray,List.set_cons_zero,List.set_cons_succ]
     have hn:i=0 ∨ i=1 ∨ i=2:=by omega
     clear hi
     rcases hn with rfl | rfl | rfl
     ·obtain rfl:=Option.some.inj ho
      have y0:v.cell? ⟨g,0,none⟩=some (.int .i64 (cu - pt)):=hS.b8.cell 0
      have y1:v.cell? ⟨g,1,none⟩=some (.int .i64 (cu)):=hS.b8.cell 1
      clear hall ho
      refine wpOp_step rfl (fun K hK=>?_)
      go_simp
      exact hK _ _ ⟨_,_,_,rfl,hS,fun _=>rfl,q1,q2⟩
     ·obtain rfl:=Option.some.inj ho
      have y0:v.cell? ⟨g,0,none⟩=some (.int .i64 (cu - pt)):=hS.b8.cell 0
      have y1:v.cell? ⟨g,1,none⟩=some (.int .i64 (cu)):=hS.b8.cell 1
      clear hall ho
      refine wpOp_step rfl (fun K hK=>?_)
      go_simp
      exact hK _ _ ⟨_,_,_,rfl,hS,q0,fun _=>rfl,q2⟩
     ·obtain rfl:=Option.some.inj ho
      obtain rfl:=q1 (hall ⟨1,.data⟩ (by simp) rfl)
      clear hall ho
      refine wpOp_step rfl (fun K hK=>?_)
      go_simp
      refine Calls.mono ((HI _ _ _).out) ?_;rintro e w1 ⟨rfl,hb1⟩
      go_simp
      exact hK _ _ ⟨_,_,_,rfl,hS.below hb1,q0,fun _=>rfl,fun _=>rfl⟩
    ·rintro fL bA v ⟨v72,v73,v74,rfl,hS,q0,q1,q2⟩ hall
     simp only [Act.put,List.setIfInBounds_toArray,List.set_cons_zero,List.set_cons_succ]
     obtain rfl:=q0 (hall 0 (by omega))
     obtain rfl:=q1 (hall 1 (by omega))
     obtain rfl:=q2 (hall 2 (by omega))
     clear hall
     simp only [List.drop_succ_cons,List.drop_zero]
     have x60:=hS.m.c60
     have x61:=hS.m.c61
     have xf0:=hS.m.f60
     have xf1:=hS.m.f61
     have hB3:=hS.m.hb
     go_wp2
     refine bodyPost_ret (v:=.tuple #[.agg #[.int .i64 (cu - pt),.int .i64 (cu)],.bool (setB (cu - pt) (cu))]) (by simp [results,Tryz.results127,go_sem,x60,x61]) rfl ⟨by rw [HRx.out];rfl,(by repeat first | with_reducible (first | exact hB3 | apply below_drewN' | apply Below.drew | refine Below.alloc ?_ ?_ _ | refine Below.setCell ?_ ?_ _) | exact hB3 | omega | (simp <;> omega) | (have:=(hB3).size;first | omega | (simp <;> omega)))⟩
theorem apply3_c (L:Int) (A1:Option Addr) (c1:Nat) (l1:List Int) (A2:Option Addr) (c2:Nat) (l2:List Int) (sh cu s d t pt:Int) (w:World)
  (hsh:-1048576 ≤ sh∧sh ≤ 1048576) (hcu:0 ≤ cu∧cu ≤ 1048576) :
  Calls Tryz.prog 127 #[.agg #[.int .i64 L,.slice A1 l1.length c1,.slice A2 l2.length c2],.agg #[.int .i64 sh,.int .i64 cu],.agg #[.int .i64 3,.int .i64 s,.int .i64 d,.int .i64 t]] w fun e w' =>
   e=.returned (.tuple #[.agg #[.int .i64 (moveR l1 l2 sh cu 3 s pt).1.1,.int .i64 (moveR l1 l2 sh cu 3 s pt).1.2],.bool (moveR l1 l2 sh cu 3 s pt).2])∧Below w.heap.size w w':=by
 have HI:=fun a b W=>Lib.hid (specIsSetting_c a b W)
 have HRx:Hid (moveR l1 l2 sh cu 3 s pt=if true then ((cu,cu),setB (cu) (cu)) else ((0,0),false)):=by
  unfold Hid moveR
  rfl
 obtain ⟨hsh1,hsh2⟩:=hsh
 obtain ⟨hcu1,hcu2⟩:=hcu
 have hM0:MvS w sh cu 3 s d t _:=MvS.init L A1 l1.length c1 A2 l2.length c2
 have hB3:Blk ((((w.alloc (.cells #[.int .i64 L,.slice A1 l1.length c1,.slice A2 l2.length c2] 26)).alloc (.cells #[.int .i64 sh,.int .i64 cu] 104)).alloc (.cells #[.int .i64 3,.int .i64 s,.int .i64 d,.int .i64 t] 75)).alloc (.cells #[.int .i64 0,.int .i64 0] 104)) w.heap.size 26 #[.int .i64 L,.slice A1 l1.length c1,.slice A2 l2.length c2]:=(((Blk.new _ _ _).alloc _).alloc _).alloc _
 go_enter Tryz.func127,Tryz.ntmps127
 go_wp2_with fail
 generalize ((((w.alloc (.cells #[.int .i64 L,.slice A1 l1.length c1,.slice A2 l2.length c2] 26)).alloc (.cells #[.int .i64 sh,.int .i64 cu] 104)).alloc (.cells #[.int .i64 3,.int .i64 s,.int .i64 d,.int .i64 t] 75)).alloc (.cells #[.int .i64 0,.int .i64 0] 104))=W at *
 refine wp_region_all (fun a0 fL bA v=>∃ v9 v10 v11 v12 v13 v14 v15 v16 v17 v18 v19 v20 v21 v22:Value,bA=(((((((((((((a0.put (some 9) v9).put (some 10) v10).put (some 11) v11).put (some 12) v12).put (some 13) v13).put (some 14) v14).put (some 15) v15).put (some 16) v16).put (some 17) v17).put (some 18) v18).put (some 19) v19).put (some 20) v20).put (some 21) v21).put (some 22) v22∧(MvS w sh cu 3 s d t v∧Blk v w.heap.size 26 #[.int .i64 L,.slice A1 l1.length c1,.slice A2 l2.length c2])∧(fL 0=true→v9=.pointer (some ⟨w.heap.size+1+1,0,none⟩))∧(fL 1=true→v10=.int .i64 3)∧(fL 2=true→v11=.bool false)∧(fL 3=true→v12=.bool false)∧(fL 4=true→v13=undef)∧(fL 5=true→v14=undef)∧(fL 6=true→v15=undef)∧(fL 7=true→v16=undef)∧(fL 8=true→v17=undef)∧(fL 9=true→v18=undef)∧(fL 10=true→v19=undef)∧(fL 11=true→v20=undef)∧(fL 12=true→v21=undef)∧(fL 13=true→v22=.bool false)) (by kernel_rfl) (by decide +kernel) ?_ ?_ ?_
 ·exact ⟨undef,undef,undef,undef,undef,undef,undef,undef,undef,undef,undef,undef,undef,undef,by simp only [Act.put,List.setIfInBounds_toArray,List.set_cons_zero,List.set_cons_succ],⟨hM0.drew,hB3⟩,nofun,nofun,nofun,nofun,nofun,nofun,nofun,nofun,nofun,nofun,nofun,nofun,nofun,nofun⟩
 ·rintro fL bA v ⟨v9,v10,v11,v12,v13,v14,v15,v16,v17,v18,v19,v20,v21,v22,rfl,hS,q0,q1,q2,q3,q4,q5,q6,q7,q8,q9,q10,q11,q12,q13⟩ i hi hf o ho hall
  simp only [Act.put,List.setIfInBounds_toArray,List.set_cons_zero,List.set_cons_succ]
  simp only [List.length_cons,List.length_nil] at hi
  have hn:i=0 ∨ i=1 ∨ i=2 ∨ i=3 ∨ i=4 ∨ i=5 ∨ i=6 ∨ i=7 ∨ i=8 ∨ i=9 ∨ i=10 ∨ i=11 ∨ i=12 ∨ i=13:=by omega
  clear hi
  rcases hn with rfl | rfl | rfl | rfl | rfl | rfl | rfl | rfl | rfl | rfl | rfl | rfl | rfl | rfl
  ·obtain rfl:=Option.some.inj ho
   clear hall ho
   refine wpOp_step rfl (fun K hK=>?_)
   go_simp
   exact hK _ _ ⟨_,_,_,_,_,_,_,_,_,_,_,_,_,_,rfl,hS,fun _=>rfl,q1,q2,q3,q4,q5,q6,q7,q8,q9,q10,q11,q12,q13⟩
  ·obtain rfl:=Option.some.inj ho
   obtain rfl:=q0 (hall ⟨0,.data⟩ (by simp) rfl)
   have y0:=hS.1.c50
   clear hall ho
   refine wpOp_step rfl (fun K hK=>?_)
   go_simp
   exact hK _ _ ⟨_,_,_,_,_,_,_,_,_,_,_,_,_,_,rfl,hS,fun _=>rfl,fun _=>rfl,q2,q3,q4,q5,q6,q7,q8,q9,q10,q11,q12,q13⟩
  ·obtain rfl:=Option.some.inj ho
   obtain rfl:=q1 (hall ⟨1,.data⟩ (by simp) rfl)
   clear hall ho
   refine wpOp_step rfl (fun K hK=>?_)
   go_simp
   exact hK _ _ ⟨_,_,_,_,_,_,_,_,_,_,_,_,_,_,rfl,hS,q0,fun _=>rfl,fun _=>rfl,q3,q4,q5,q6,q7,q8,q9,q10,q11,q12,q13⟩
  ·obtain rfl:=Option.some.inj ho
   obtain rfl:=q2 (hall ⟨2,.data⟩ (by simp) rfl)
   clear hall ho
   refine wpOp_step rfl (fun K hK=>?_)
   go_simp
   exact hK _ _ ⟨_,_,_,_,_,_,_,_,_,_,_,_,_,_,rfl,hS,q0,q1,fun _=>rfl,fun _=>rfl,q4,q5,q6,q7,q8,q9,q10,q11,q12,q13⟩
  ·obtain rfl:=Option.some.inj ho
   obtain rfl:=q3 (hall ⟨3,.guard⟩ (by simp) rfl)
   clear hall ho
   refine wpOp_step rfl (fun K hK=>?_)
   go_simp
   exact hK _ _ ⟨_,_,_,_,_,_,_,_,_,_,_,_,_,_,rfl,hS,q0,q1,q2,fun _=>rfl,fun _=>rfl,q5,q6,q7,q8,q9,q10,q11,q12,q13⟩
  ·obtain rfl:=Option.some.inj ho
   obtain rfl:=q3 (hall ⟨3,.guard⟩ (by simp) rfl)
   clear hall ho
   refine wpOp_step rfl (fun K hK=>?_)
   go_simp
   exact hK _ _ ⟨_,_,_,_,_,_,_,_,_,_,_,_,_,_,rfl,hS,q0,q1,q2,fun _=>rfl,q4,fun _=>rfl,q6,q7,q8,q9,q10,q11,q12,q13⟩
  ·obtain rfl:=Option.some.inj ho
   obtain rfl:=q5 (hall ⟨5,.data⟩ (by simp) rfl)
   obtain rfl:=q3 (hall ⟨3,.guard⟩ (by simp) rfl)
   clear hall ho
   refine wpOp_step rfl (fun K hK=>?_)
   go_simp
   exact hK _ _ ⟨_,_,_,_,_,_,_,_,_,_,_,_,_,_,rfl,hS,q0,q1,q2,fun _=>rfl,q4,fun _=>rfl,fun _=>rfl,q7,q8,q9,q10,q11,q12,q13⟩
  ·obtain rfl:=Option.some.inj ho
   obtain rfl:=q6 (hall ⟨6,.data⟩ (by simp) rfl)
   obtain rfl:=q3 (hall ⟨3,.guard⟩ (by simp) rfl)
   clear hall ho
   refine wpOp_step rfl (fun K hK=>?_)
   go_simp
   exact hK _ _ ⟨_,_,_,_,_,_,_,_,_,_,_,_,_,_,rfl,hS,q0,q1,q2,fun _=>rfl,q4,q5,fun _=>rfl,fun _=>rfl,q8,q9,q10,q11,q12,q13⟩
  ·obtain rfl:=Option.some.inj ho
   obtain rfl:=q4 (hall ⟨4,.data⟩ (by simp) rfl)
   obtain rfl:=q7 (hall ⟨7,.data⟩ (by simp) rfl)
   obtain rfl:=q3 (hall ⟨3,.guard⟩ (by simp) rfl)
   clear hall ho
   refine wpOp_step rfl (fun K hK=>?_)
   go_simp
   exact hK _ _ ⟨_,_,_,_,_,_,_,_,_,_,_,_,_,_,rfl,hS,q0,q1,q2,fun _=>rfl,fun _=>rfl,q5,q6,fun _=>rfl,fun _=>rfl,q9,q10,q11,q12,q13⟩
  ·obtain rfl:=Option.some.inj ho
   obtain rfl:=q3 (hall ⟨3,.guard⟩ (by simp) rfl)
   clear hall ho
   refine wpOp_step rfl (fun K hK=>?_)
   go_simp
   exact hK _ _ ⟨_,_,_,_,_,_,_,_,_,_,_,_,_,_,rfl,hS,q0,q1,q2,fun _=>rfl,q4,q5,q6,q7,q8,fun _=>rfl,q10,q11,q12,q13⟩
  ·obtain rfl:=Option.some.inj ho
   obtain rfl:=q9 (hall ⟨9,.data⟩ (by simp) rfl)
   obtain rfl:=q3 (hall ⟨3,.guard⟩ (by simp) rfl)
   clear hall ho
   refine wpOp_step rfl (fun K hK=>?_)
   go_simp
   exact hK _ _ ⟨_,_,_,_,_,_,_,_,_,_,_,_,_,_,rfl,hS,q0,q1,q2,fun _=>rfl,q4,q5,q6,q7,q8,fun _=>rfl,fun _=>rfl,q11,q12,q13⟩
  ·obtain rfl:=Option.some.inj ho
   obtain rfl:=q8 (hall ⟨8,.data⟩ (by simp) rfl)
   obtain rfl:=q10 (hall ⟨10,.data⟩ (by simp) rfl)
   obtain rfl:=q3 (hall ⟨3,.guard⟩ (by simp) rfl)
   clear hall ho
   refine wpOp_step rfl (fun K hK=>?_)
   go_simp
   exact hK _ _ ⟨_,_,_,_,_,_,_,_,_,_,_,_,_,_,rfl,hS,q0,q1,q2,fun _=>rfl,q4,q5,q6,q7,fun _=>rfl,q9,fun _=>rfl,fun _=>rfl,q12,q13⟩
  ·obtain rfl:=Option.some.inj ho
   obtain rfl:=q11 (hall ⟨11,.data⟩ (by simp) rfl)
   obtain rfl:=q3 (hall ⟨3,.guard⟩ (by simp) rfl)
   clear hall ho
   refine wpOp_step rfl (fun K hK=>?_)
   go_simp
   exact hK _ _ ⟨_,_,_,_,_,_,_,_,_,_,_,_,_,_,rfl,hS,q0,q1,q2,fun _=>rfl,q4,q5,q6,q7,q8,q9,q10,fun _=>rfl,fun _=>rfl,q13⟩
  ·obtain rfl:=Option.some.inj ho
   obtain rfl:=q3 (hall ⟨3,.data⟩ (by simp) rfl)
   obtain rfl:=q12 (hall ⟨12,.data⟩ (by simp) rfl)
   clear hall ho
   refine wpOp_step rfl (fun K hK=>?_)
   go_simp
   exact hK _ _ ⟨_,_,_,_,_,_,_,_,_,_,_,_,_,_,rfl,hS,q0,q1,q2,fun _=>rfl,q4,q5,q6,q7,q8,q9,q10,q11,fun _=>rfl,fun _=>rfl⟩
 ·rintro fL bA v ⟨v9,v10,v11,v12,v13,v14,v15,v16,v17,v18,v19,v20,v21,v22,rfl,hS,q0,q1,q2,q3,q4,q5,q6,q7,q8,q9,q10,q11,q12,q13⟩ hall
  simp only [Act.put,List.setIfInBounds_toArray,List.set_cons_zero,List.set_cons_succ]
  simp only [List.length_cons,List.length_nil] at hall
  obtain rfl:=q0 (hall 0 (by omega))
  obtain rfl:=q1 (hall 1 (by omega))
  obtain rfl:=q2 (hall 2 (by omega))
  obtain rfl:=q3 (hall 3 (by omega))
  obtain rfl:=q4 (hall 4 (by omega))
  obtain rfl:=q5 (hall 5 (by omega))
  obtain rfl:=q6 (hall 6 (by omega))
  obtain rfl:=q7 (hall 7 (by omega))
  obtain rfl:=q8 (hall 8 (by omega))
  obtain rfl:=q9 (hall 9 (by omega))
  obtain rfl:=q10 (hall 10 (by omega))
  obtain rfl:=q11 (hall 11 (by omega))
  obtain rfl:=q12 (hall 12 (by omega))
  obtain rfl:=q13 (hall 13 (by omega))
  clear hall
  have hM:=hS.1
  clear hM0 hB3 hS
  have x60:=hM.c60
  have x61:=hM.c61
  have xf0:=hM.f60
  have xf1:=hM.f61
  have x40:=hM.c40
  have x41:=hM.c41
  have x50:=hM.c50
  have x51:=hM.c51
  have x52:=hM.c52
  have x53:=hM.c53
  have l4:w.heap.size+1 < v.heap.size:=hM.b4.lt
  have l5:w.heap.size+1+1 < v.heap.size:=hM.b5.lt
  have l6:w.heap.size+1+1+1 < v.heap.size:=hM.b6.lt
  have hbv:=hM.hb
  have hA:ApS w v.heap.size sh cu 3 s d t (cu) (cu) (v.alloc (.cells #[.int .i64 (cu),.int .i64 (cu)] 104)):=⟨hM.below ((Below.refl _ _).alloc (Nat.le_refl _) _),Blk.new _ _ _,by omega⟩
  go_wp2_with fail
  clear x60 x61 xf0 xf1 x40 x41 x50 x51 x52 x53 hM hbv
  generalize v.alloc (.cells #[.int .i64 (cu),.int .i64 (cu)] 104)=v5 at *
  generalize v.heap.size=g at *
  refine wp_region_sink 3 (fun a0 fL bA v=>∃ v72 v73 v74:Value,bA=((a0.put (some 72) v72).put (some 73) v73).put (some 74) v74∧(ApS w g sh cu 3 s d t (cu) (cu) v)∧(fL 0=true→v72=.agg #[.int .i64 (cu),.int .i64 (cu)])∧(fL 1=true→v73=.agg #[.int .i64 (cu),.int .i64 (cu)])∧(fL 2=true→v74=.bool (setB (cu) (cu)))) (by kernel_rfl) (by decide +kernel) ?_ ?_ ?_
  ·exact ⟨undef,undef,undef,by simp only [Act.put,List.setIfInBounds_toArray,List.set_cons_zero,List.set_cons_succ],hA.drew,nofun,nofun,nofun⟩
  ·rintro fL bA v ⟨v72,v73,v74,rfl,hS,q0,q1,q2⟩ i hi hf o ho hall
   simp only [Act.put,List.setIfInBounds_toArray,List.set_cons_zero,List.set_cons_succ]
   have hn:i=0 ∨ i=1 ∨ i=2:=by omega
   clear hi
   rcases hn with rfl | rfl | rfl
   ·obtain rfl:=Option.some.inj ho
    have y0:v.cell? ⟨g,0,none⟩=some (.int .i64 (cu)):=hS.b8.cell 0
    have y1:v.cell? ⟨g,1,none⟩=some (.int .i64 (cu)):=hS.b8.cell 1
    clear hall ho
    refine wpOp_step rfl (fun K hK=>?_)
    go_simp
    exact hK _ _ ⟨_,_,_,rfl,hS,fun _=>rfl,q1,q2⟩
   ·obtain rfl:=Option.some.inj ho
    have y0:v.cell? ⟨g,0,none⟩=some (.int .i64 (cu)):=hS.b8.cell 0
    have y1:v.cell? ⟨g,1,none⟩=some (.int .i64 (cu)):=hS.b8.cell 1
    clear hall ho
    refine wpOp_step rfl (fun K hK=>?_)
    go_simp
    exact hK _ _ ⟨_,_,_,rfl,hS,q0,fun _=>rfl,q2⟩
   ·obtain rfl:=Option.some.inj ho
    obtain rfl:=q1 (hall ⟨1,.data⟩ (by simp) rfl)
    clear hall ho
    refine wpOp_step rfl (fun K hK=>?_)
    go_simp
    refine Calls.mono ((HI _ _ _).out) ?_;rintro e w1 ⟨rfl,hb1⟩
    go_simp
    exact hK _ _ ⟨_,_,_,rfl,hS.below hb1,q0,fun _=>rfl,fun _=>rfl⟩
  ·rintro fL bA v ⟨v72,v73,v74,rfl,hS,q0,q1,q2⟩ hall
   simp only [Act.put,List.setIfInBounds_toArray,List.set_cons_zero,List.set_cons_succ]
   obtain rfl:=q0 (hall 0 (by omega))
   obtain rfl:=q1 (hall 1 (by omega))
   obtain rfl:=q2 (hall 2 (by omega))
   clear hall
   simp only [List.drop_succ_cons,List.drop_zero]
   have x60:=hS.m.c60
   have x61:=hS.m.c61
   have xf0:=hS.m.f60
   have xf1:=hS.m.f61
   have hB3:=hS.m.hb
   go_wp2
   refine bodyPost_ret (v:=.tuple #[.agg #[.int .i64 (cu),.int .i64 (cu)],.bool (setB (cu) (cu))]) (by simp [results,Tryz.results127,go_sem,x60,x61]) rfl ⟨by rw [HRx.out];rfl,(by repeat first | with_reducible (first | exact hB3 | apply below_drewN' | apply Below.drew | refine Below.alloc ?_ ?_ _ | refine Below.setCell ?_ ?_ _) | exact hB3 | omega | (simp <;> omega) | (have:=(hB3).size;first | omega | (simp <;> omega)))⟩
theorem apply4_c (L:Int) (A1:Option Addr) (c1:Nat) (l1:List Int) (A2:Option Addr) (c2:Nat) (l2:List Int) (sh cu s d t pt:Int) (w:World)
  (hsh:-1048576 ≤ sh∧sh ≤ 1048576) (hcu:0 ≤ cu∧cu ≤ 1048576) :
  Calls Tryz.prog 127 #[.agg #[.int .i64 L,.slice A1 l1.length c1,.slice A2 l2.length c2],.agg #[.int .i64 sh,.int .i64 cu],.agg #[.int .i64 4,.int .i64 s,.int .i64 d,.int .i64 t]] w fun e w' =>
   e=.returned (.tuple #[.agg #[.int .i64 (moveR l1 l2 sh cu 4 s pt).1.1,.int .i64 (moveR l1 l2 sh cu 4 s pt).1.2],.bool (moveR l1 l2 sh cu 4 s pt).2])∧Below w.heap.size w w':=by
 have HI:=fun a b W=>Lib.hid (specIsSetting_c a b W)
 have HRx:Hid (moveR l1 l2 sh cu 4 s pt=if true then ((cu - 1048576,cu),setB (cu - 1048576) (cu)) else ((0,0),false)):=by
  unfold Hid moveR
  rfl
 obtain ⟨hsh1,hsh2⟩:=hsh
 obtain ⟨hcu1,hcu2⟩:=hcu
 have hM0:MvS w sh cu 4 s d t _:=MvS.init L A1 l1.length c1 A2 l2.length c2
 have hB3:Blk ((((w.alloc (.cells #[.int .i64 L,.slice A1 l1.length c1,.slice A2 l2.length c2] 26)).alloc (.cells #[.int .i64 sh,.int .i64 cu] 104)).alloc (.cells #[.int .i64 4,.int .i64 s,.int .i64 d,.int .i64 t] 75)).alloc (.cells #[.int .i64 0,.int .i64 0] 104)) w.heap.size 26 #[.int .i64 L,.slice A1 l1.length c1,.slice A2 l2.length c2]:=(((Blk.new _ _ _).alloc _).alloc _).alloc _
 go_enter Tryz.func127,Tryz.ntmps127
 go_wp2_with fail
 generalize ((((w.alloc (.cells #[.int .i64 L,.slice A1 l1.length c1,.slice A2 l2.length c2] 26)).alloc (.cells #[.int .i64 sh,.int .i64 cu] 104)).alloc (.cells #[.int .i64 4,.int .i64 s,.int .i64 d,.int .i64 t] 75)).alloc (.cells #[.int .i64 0,.int .i64 0] 104))=W at *
 refine wp_region_all (fun a0 fL bA v=>∃ v9 v10 v11 v12 v13 v14 v15 v16 v17 v18 v19 v20 v21 v22:Value,bA=(((((((((((((a0.put (some 9) v9).put (some 10) v10).put (some 11) v11).put (some 12) v12).put (some 13) v13).put (some 14) v14).put (some 15) v15).put (some 16) v16).put (some 17) v17).put (some 18) v18).put (some 19) v19).put (some 20) v20).put (some 21) v21).put (some 22) v22∧(MvS w sh cu 4 s d t v∧Blk v w.heap.size 26 #[.int .i64 L,.slice A1 l1.length c1,.slice A2 l2.length c2])∧(fL 0=true→v9=.pointer (some ⟨w.heap.size+1+1,0,none⟩))∧(fL 1=true→v10=.int .i64 4)∧(fL 2=true→v11=.bool false)∧(fL 3=true→v12=.bool false)∧(fL 4=true→v13=undef)∧(fL 5=true→v14=undef)∧(fL 6=true→v15=undef)∧(fL 7=true→v16=undef)∧(fL 8=true→v17=undef)∧(fL 9=true→v18=undef)∧(fL 10=true→v19=undef)∧(fL 11=true→v20=undef)∧(fL 12=true→v21=undef)∧(fL 13=true→v22=.bool false)) (by kernel_rfl) (by decide +kernel) ?_ ?_ ?_
 ·exact ⟨undef,undef,undef,undef,undef,undef,undef,undef,undef,undef,undef,undef,undef,undef,by simp only [Act.put,List.setIfInBounds_toArray,List.set_cons_zero,List.set_cons_succ],⟨hM0.drew,hB3⟩,nofun,nofun,nofun,nofun,nofun,nofun,nofun,nofun,nofun,nofun,nofun,nofun,nofun,nofun⟩
 ·rintro fL bA v ⟨v9,v10,v11,v12,v13,v14,v15,v16,v17,v18,v19,v20,v21,v22,rfl,hS,q0,q1,q2,q3,q4,q5,q6,q7,q8,q9,q10,q11,q12,q13⟩ i hi hf o ho hall
  simp only [Act.put,List.setIfInBounds_toArray,List.set_cons_zero,List.set_cons_succ]
  simp only [List.length_cons,List.length_nil] at hi
  have hn:i=0 ∨ i=1 ∨ i=2 ∨ i=3 ∨ i=4 ∨ i=5 ∨ i=6 ∨ i=7 ∨ i=8 ∨ i=9 ∨ i=10 ∨ i=11 ∨ i=12 ∨ i=13:=by omega
  clear hi
  rcases hn with rfl | rfl | rfl | rfl | rfl | rfl | rfl | rfl | rfl | rfl | rfl | rfl | rfl | rfl
  ·obtain rfl:=Option.some.inj ho
   clear hall ho
   refine wpOp_step rfl (fun K hK=>?_)
   go_simp
   exact hK _ _ ⟨_,_,_,_,_,_,_,_,_,_,_,_,_,_,rfl,hS,fun _=>rfl,q1,q2,q3,q4,q5,q6,q7,q8,q9,q10,q11,q12,q13⟩
  ·obtain rfl:=Option.some.inj ho
   obtain rfl:=q0 (hall ⟨0,.data⟩ (by simp) rfl)
   have y0:=hS.1.c50
   clear hall ho
   refine wpOp_step rfl (fun K hK=>?_)
   go_simp
   exact hK _ _ ⟨_,_,_,_,_,_,_,_,_,_,_,_,_,_,rfl,hS,fun _=>rfl,fun _=>rfl,q2,q3,q4,q5,q6,q7,q8,q9,q10,q11,q12,q13⟩
  ·obtain rfl:=Option.some.inj ho
   obtain rfl:=q1 (hall ⟨1,.data⟩ (by simp) rfl)
   clear hall ho
   refine wpOp_step rfl (fun K hK=>?_)
   go_simp
   exact hK _ _ ⟨_,_,_,_,_,_,_,_,_,_,_,_,_,_,rfl,hS,q0,fun _=>rfl,fun _=>rfl,q3,q4,q5,q6,q7,q8,q9,q10,q11,q12,q13⟩
  ·obtain rfl:=Option.some.inj ho
   obtain rfl:=q2 (hall ⟨2,.data⟩ (by simp) rfl)
   clear hall ho
   refine wpOp_step rfl (fun K hK=>?_)
   go_simp
   exact hK _ _ ⟨_,_,_,_,_,_,_,_,_,_,_,_,_,_,rfl,hS,q0,q1,fun _=>rfl,fun _=>rfl,q4,q5,q6,q7,q8,q9,q10,q11,q12,q13⟩
  ·obtain rfl:=Option.some.inj ho
   obtain rfl:=q3 (hall ⟨3,.guard⟩ (by simp) rfl)
   clear hall ho
   refine wpOp_step rfl (fun K hK=>?_)
   go_simp
   exact hK _ _ ⟨_,_,_,_,_,_,_,_,_,_,_,_,_,_,rfl,hS,q0,q1,q2,fun _=>rfl,fun _=>rfl,q5,q6,q7,q8,q9,q10,q11,q12,q13⟩
  ·obtain rfl:=Option.some.inj ho
   obtain rfl:=q3 (hall ⟨3,.guard⟩ (by simp) rfl)
   clear hall ho
   refine wpOp_step rfl (fun K hK=>?_)
   go_simp
   exact hK _ _ ⟨_,_,_,_,_,_,_,_,_,_,_,_,_,_,rfl,hS,q0,q1,q2,fun _=>rfl,q4,fun _=>rfl,q6,q7,q8,q9,q10,q11,q12,q13⟩
  ·obtain rfl:=Option.some.inj ho
   obtain rfl:=q5 (hall ⟨5,.data⟩ (by simp) rfl)
   obtain rfl:=q3 (hall ⟨3,.guard⟩ (by simp) rfl)
   clear hall ho
   refine wpOp_step rfl (fun K hK=>?_)
   go_simp
   exact hK _ _ ⟨_,_,_,_,_,_,_,_,_,_,_,_,_,_,rfl,hS,q0,q1,q2,fun _=>rfl,q4,fun _=>rfl,fun _=>rfl,q7,q8,q9,q10,q11,q12,q13⟩
  ·obtain rfl:=Option.some.inj ho
   obtain rfl:=q6 (hall ⟨6,.data⟩ (by simp) rfl)
   obtain rfl:=q3 (hall ⟨3,.guard⟩ (by simp) rfl)
   clear hall ho
   refine wpOp_step rfl (fun K hK=>?_)
   go_simp
   exact hK _ _ ⟨_,_,_,_,_,_,_,_,_,_,_,_,_,_,rfl,hS,q0,q1,q2,fun _=>rfl,q4,q5,fun _=>rfl,fun _=>rfl,q8,q9,q10,q11,q12,q13⟩
  ·obtain rfl:=Option.some.inj ho
   obtain rfl:=q4 (hall ⟨4,.data⟩ (by simp) rfl)
   obtain rfl:=q7 (hall ⟨7,.data⟩ (by simp) rfl)
   obtain rfl:=q3 (hall ⟨3,.guard⟩ (by simp) rfl)
   clear hall ho
   refine wpOp_step rfl (fun K hK=>?_)
   go_simp
   exact hK _ _ ⟨_,_,_,_,_,_,_,_,_,_,_,_,_,_,rfl,hS,q0,q1,q2,fun _=>rfl,fun _=>rfl,q5,q6,fun _=>rfl,fun _=>rfl,q9,q10,q11,q12,q13⟩
  ·obtain rfl:=Option.some.inj ho
   obtain rfl:=q3 (hall ⟨3,.guard⟩ (by simp) rfl)
   clear hall ho
   refine wpOp_step rfl (fun K hK=>?_)
   go_simp
   exact hK _ _ ⟨_,_,_,_,_,_,_,_,_,_,_,_,_,_,rfl,hS,q0,q1,q2,fun _=>rfl,q4,q5,q6,q7,q8,fun _=>rfl,q10,q11,q12,q13⟩
  ·obtain rfl:=Option.some.inj ho
   obtain rfl:=q9 (hall ⟨9,.data⟩ (by simp) rfl)
   obtain rfl:=q3 (hall ⟨3,.guard⟩ (by simp) rfl)
   clear hall ho
   refine wpOp_step rfl (fun K hK=>?_)
   go_simp
   exact hK _ _ ⟨_,_,_,_,_,_,_,_,_,_,_,_,_,_,rfl,hS,q0,q1,q2,fun _=>rfl,q4,q5,q6,q7,q8,fun _=>rfl,fun _=>rfl,q11,q12,q13⟩
  ·obtain rfl:=Option.some.inj ho
   obtain rfl:=q8 (hall ⟨8,.data⟩ (by simp) rfl)
   obtain rfl:=q10 (hall ⟨10,.data⟩ (by simp) rfl)
   obtain rfl:=q3 (hall ⟨3,.guard⟩ (by simp) rfl)
   clear hall ho
   refine wpOp_step rfl (fun K hK=>?_)
   go_simp
   exact hK _ _ ⟨_,_,_,_,_,_,_,_,_,_,_,_,_,_,rfl,hS,q0,q1,q2,fun _=>rfl,q4,q5,q6,q7,fun _=>rfl,q9,fun _=>rfl,fun _=>rfl,q12,q13⟩
  ·obtain rfl:=Option.some.inj ho
   obtain rfl:=q11 (hall ⟨11,.data⟩ (by simp) rfl)
   obtain rfl:=q3 (hall ⟨3,.guard⟩ (by simp) rfl)
   clear hall ho
   refine wpOp_step rfl (fun K hK=>?_)
   go_simp
   exact hK _ _ ⟨_,_,_,_,_,_,_,_,_,_,_,_,_,_,rfl,hS,q0,q1,q2,fun _=>rfl,q4,q5,q6,q7,q8,q9,q10,fun _=>rfl,fun _=>rfl,q13⟩
  ·obtain rfl:=Option.some.inj ho
   obtain rfl:=q3 (hall ⟨3,.data⟩ (by simp) rfl)
   obtain rfl:=q12 (hall ⟨12,.data⟩ (by simp) rfl)
   clear hall ho
   refine wpOp_step rfl (fun K hK=>?_)
   go_simp
   exact hK _ _ ⟨_,_,_,_,_,_,_,_,_,_,_,_,_,_,rfl,hS,q0,q1,q2,fun _=>rfl,q4,q5,q6,q7,q8,q9,q10,q11,fun _=>rfl,fun _=>rfl⟩
 ·rintro fL bA v ⟨v9,v10,v11,v12,v13,v14,v15,v16,v17,v18,v19,v20,v21,v22,rfl,hS,q0,q1,q2,q3,q4,q5,q6,q7,q8,q9,q10,q11,q12,q13⟩ hall
  simp only [Act.put,List.setIfInBounds_toArray,List.set_cons_zero,List.set_cons_succ]
  simp only [List.length_cons,List.length_nil] at hall
  obtain rfl:=q0 (hall 0 (by omega))
  obtain rfl:=q1 (hall 1 (by omega))
  obtain rfl:=q2 (hall 2 (by omega))
  obtain rfl:=q3 (hall 3 (by omega))
  obtain rfl:=q4 (hall 4 (by omega))
  obtain rfl:=q5 (hall 5 (by omega))
  obtain rfl:=q6 (hall 6 (by omega))
  obtain rfl:=q7 (hall 7 (by omega))
  obtain rfl:=q8 (hall 8 (by omega))
  obtain rfl:=q9 (hall 9 (by omega))
  obtain rfl:=q10 (hall 10 (by omega))
  obtain rfl:=q11 (hall 11 (by omega))
  obtain rfl:=q12 (hall 12 (by omega))
  obtain rfl:=q13 (hall 13 (by omega))
  clear hall
  have hM:=hS.1
  clear hM0 hB3 hS
  have x60:=hM.c60
  have x61:=hM.c61
  have xf0:=hM.f60
  have xf1:=hM.f61
  have x40:=hM.c40
  have x41:=hM.c41
  have x50:=hM.c50
  have x51:=hM.c51
  have x52:=hM.c52
  have x53:=hM.c53
  have l4:w.heap.size+1 < v.heap.size:=hM.b4.lt
  have l5:w.heap.size+1+1 < v.heap.size:=hM.b5.lt
  have l6:w.heap.size+1+1+1 < v.heap.size:=hM.b6.lt
  have hbv:=hM.hb
  have hA:ApS w v.heap.size sh cu 4 s d t (cu - 1048576) (cu) (v.alloc (.cells #[.int .i64 (cu - 1048576),.int .i64 (cu)] 104)):=⟨hM.below ((Below.refl _ _).alloc (Nat.le_refl _) _),Blk.new _ _ _,by omega⟩
  go_wp2_with fail
  clear x60 x61 xf0 xf1 x40 x41 x50 x51 x52 x53 hM hbv
  generalize v.alloc (.cells #[.int .i64 (cu - 1048576),.int .i64 (cu)] 104)=v5 at *
  generalize v.heap.size=g at *
  refine wp_region_sink 3 (fun a0 fL bA v=>∃ v72 v73 v74:Value,bA=((a0.put (some 72) v72).put (some 73) v73).put (some 74) v74∧(ApS w g sh cu 4 s d t (cu - 1048576) (cu) v)∧(fL 0=true→v72=.agg #[.int .i64 (cu - 1048576),.int .i64 (cu)])∧(fL 1=true→v73=.agg #[.int .i64 (cu - 1048576),.int .i64 (cu)])∧(fL 2=true→v74=.bool (setB (cu - 1048576) (cu)))) (by kernel_rfl) (by decide +kernel) ?_ ?_ ?_
  ·exact ⟨undef,undef,undef,by simp only [Act.put,List.setIfInBounds_toArray,List.set_cons_zero,List.set_cons_succ],hA.drew,nofun,nofun,nofun⟩
  ·rintro fL bA v ⟨v72,v73,v74,rfl,hS,q0,q1,q2⟩ i hi hf o ho hall
   simp only [Act.put,List.setIfInBounds_toArray,List.set_cons_zero,List.set_cons_succ]
   have hn:i=0 ∨ i=1 ∨ i=2:=by omega
   clear hi
   rcases hn with rfl | rfl | rfl
   ·obtain rfl:=Option.some.inj ho
    have y0:v.cell? ⟨g,0,none⟩=some (.int .i64 (cu - 1048576)):=hS.b8.cell 0
    have y1:v.cell? ⟨g,1,none⟩=some (.int .i64 (cu)):=hS.b8.cell 1
    clear hall ho
    refine wpOp_step rfl (fun K hK=>?_)
    go_simp
    exact hK _ _ ⟨_,_,_,rfl,hS,fun _=>rfl,q1,q2⟩
   ·obtain rfl:=Option.some.inj ho
    have y0:v.cell? ⟨g,0,none⟩=some (.int .i64 (cu - 1048576)):=hS.b8.cell 0
    have y1:v.cell? ⟨g,1,none⟩=some (.int .i64 (cu)):=hS.b8.cell 1
    clear hall ho
    refine wpOp_step rfl (fun K hK=>?_)
    go_simp
    exact hK _ _ ⟨_,_,_,rfl,hS,q0,fun _=>rfl,q2⟩
   ·obtain rfl:=Option.some.inj ho
    obtain rfl:=q1 (hall ⟨1,.data⟩ (by simp) rfl)
    clear hall ho
    refine wpOp_step rfl (fun K hK=>?_)
    go_simp
    refine Calls.mono ((HI _ _ _).out) ?_;rintro e w1 ⟨rfl,hb1⟩
    go_simp
    exact hK _ _ ⟨_,_,_,rfl,hS.below hb1,q0,fun _=>rfl,fun _=>rfl⟩
  ·rintro fL bA v ⟨v72,v73,v74,rfl,hS,q0,q1,q2⟩ hall
   simp only [Act.put,List.setIfInBounds_toArray,List.set_cons_zero,List.set_cons_succ]
   obtain rfl:=q0 (hall 0 (by omega))
   obtain rfl:=q1 (hall 1 (by omega))
   obtain rfl:=q2 (hall 2 (by omega))
   clear hall
   simp only [List.drop_succ_cons,List.drop_zero]
   have x60:=hS.m.c60
   have x61:=hS.m.c61
   have xf0:=hS.m.f60
   have xf1:=hS.m.f61
   have hB3:=hS.m.hb
   go_wp2
   refine bodyPost_ret (v:=.tuple #[.agg #[.int .i64 (cu - 1048576),.int .i64 (cu)],.bool (setB (cu - 1048576) (cu))]) (by simp [results,Tryz.results127,go_sem,x60,x61]) rfl ⟨by rw [HRx.out];rfl,(by repeat first | with_reducible (first | exact hB3 | apply below_drewN' | apply Below.drew | refine Below.alloc ?_ ?_ _ | refine Below.setCell ?_ ?_ _) | exact hB3 | omega | (simp <;> omega) | (have:=(hB3).size;first | omega | (simp <;> omega)))⟩
theorem apply5_c (L:Int) (A1:Option Addr) (c1:Nat) (l1:List Int) (A2:Option Addr) (c2:Nat) (l2:List Int) (sh cu s d t pt:Int) (w:World)
  (hsh:-1048576 ≤ sh∧sh ≤ 1048576) (hcu:0 ≤ cu∧cu ≤ 1048576) :
  Calls Tryz.prog 127 #[.agg #[.int .i64 L,.slice A1 l1.length c1,.slice A2 l2.length c2],.agg #[.int .i64 sh,.int .i64 cu],.agg #[.int .i64 5,.int .i64 s,.int .i64 d,.int .i64 t]] w fun e w' =>
   e=.returned (.tuple #[.agg #[.int .i64 (moveR l1 l2 sh cu 5 s pt).1.1,.int .i64 (moveR l1 l2 sh cu 5 s pt).1.2],.bool (moveR l1 l2 sh cu 5 s pt).2])∧Below w.heap.size w w':=by
 have HI:=fun a b W=>Lib.hid (specIsSetting_c a b W)
 have HRx:Hid (moveR l1 l2 sh cu 5 s pt=if true then ((sh,sh),setB (sh) (sh)) else ((0,0),false)):=by
  unfold Hid moveR
  rfl
 obtain ⟨hsh1,hsh2⟩:=hsh
 obtain ⟨hcu1,hcu2⟩:=hcu
 have hM0:MvS w sh cu 5 s d t _:=MvS.init L A1 l1.length c1 A2 l2.length c2
 have hB3:Blk ((((w.alloc (.cells #[.int .i64 L,.slice A1 l1.length c1,.slice A2 l2.length c2] 26)).alloc (.cells #[.int .i64 sh,.int .i64 cu] 104)).alloc (.cells #[.int .i64 5,.int .i64 s,.int .i64 d,.int .i64 t] 75)).alloc (.cells #[.int .i64 0,.int .i64 0] 104)) w.heap.size 26 #[.int .i64 L,.slice A1 l1.length c1,.slice A2 l2.length c2]:=(((Blk.new _ _ _).alloc _).alloc _).alloc _
 go_enter Tryz.func127,Tryz.ntmps127
 go_wp2_with fail
 generalize ((((w.alloc (.cells #[.int .i64 L,.slice A1 l1.length c1,.slice A2 l2.length c2] 26)).alloc (.cells #[.int .i64 sh,.int .i64 cu] 104)).alloc (.cells #[.int .i64 5,.int .i64 s,.int .i64 d,.int .i64 t] 75)).alloc (.cells #[.int .i64 0,.int .i64 0] 104))=W at *
 refine wp_region_all (fun a0 fL bA v=>∃ v9 v10 v11 v12 v13 v14 v15 v16 v17 v18 v19 v20 v21 v22:Value,bA=(((((((((((((a0.put (some 9) v9).put (some 10) v10).put (some 11) v11).put (some 12) v12).put (some 13) v13).put (some 14) v14).put (some 15) v15).put (some 16) v16).put (some 17) v17).put (some 18) v18).put (some 19) v19).put (some 20) v20).put (some 21) v21).put (some 22) v22∧(MvS w sh cu 5 s d t v∧Blk v w.heap.size 26 #[.int .i64 L,.slice A1 l1.length c1,.slice A2 l2.length c2])∧(fL 0=true→v9=.pointer (some ⟨w.heap.size+1+1,0,none⟩))∧(fL 1=true→v10=.int .i64 5)∧(fL 2=true→v11=.bool false)∧(fL 3=true→v12=.bool false)∧(fL 4=true→v13=undef)∧(fL 5=true→v14=undef)∧(fL 6=true→v15=undef)∧(fL 7=true→v16=undef)∧(fL 8=true→v17=undef)∧(fL 9=true→v18=undef)∧(fL 10=true→v19=undef)∧(fL 11=true→v20=undef)∧(fL 12=true→v21=undef)∧(fL 13=true→v22=.bool false)) (by kernel_rfl) (by decide +kernel) ?_ ?_ ?_
 ·exact ⟨undef,undef,undef,undef,undef,undef,undef,undef,undef,undef,undef,undef,undef,undef,by simp only [Act.put,List.setIfInBounds_toArray,List.set_cons_zero,List.set_cons_succ],⟨hM0.drew,hB3⟩,nofun,nofun,nofun,nofun,nofun,nofun,nofun,nofun,nofun,nofun,nofun,nofun,nofun,nofun⟩
 ·rintro fL bA v ⟨v9,v10,v11,v12,v13,v14,v15,v16,v17,v18,v19,v20,v21,v22,rfl,hS,q0,q1,q2,q3,q4,q5,q6,q7,q8,q9,q10,q11,q12,q13⟩ i hi hf o ho hall
  simp only [Act.put,List.setIfInBounds_toArray,List.set_cons_zero,List.set_cons_succ]
  simp only [List.length_cons,List.length_nil] at hi
  have hn:i=0 ∨ i=1 ∨ i=2 ∨ i=3 ∨ i=4 ∨ i=5 ∨ i=6 ∨ i=7 ∨ i=8 ∨ i=9 ∨ i=10 ∨ i=11 ∨ i=12 ∨ i=13:=by omega
  clear hi
  rcases hn with rfl | rfl | rfl | rfl | rfl | rfl | rfl | rfl | rfl | rfl | rfl | rfl | rfl | rfl
  ·obtain rfl:=Option.some.inj ho
   clear hall ho
   refine wpOp_step rfl (fun K hK=>?_)
   go_simp
   exact hK _ _ ⟨_,_,_,_,_,_,_,_,_,_,_,_,_,_,rfl,hS,fun _=>rfl,q1,q2,q3,q4,q5,q6,q7,q8,q9,q10,q11,q12,q13⟩
  ·obtain rfl:=Option.some.inj ho
   obtain rfl:=q0 (hall ⟨0,.data⟩ (by simp) rfl)
   have y0:=hS.1.c50
   clear hall ho
   refine wpOp_step rfl (fun K hK=>?_)
   go_simp
   exact hK _ _ ⟨_,_,_,_,_,_,_,_,_,_,_,_,_,_,rfl,hS,fun _=>rfl,fun _=>rfl,q2,q3,q4,q5,q6,q7,q8,q9,q10,q11,q12,q13⟩
  ·obtain rfl:=Option.some.inj ho
   obtain rfl:=q1 (hall ⟨1,.data⟩ (by simp) rfl)
   clear hall ho
   refine wpOp_step rfl (fun K hK=>?_)
   go_simp
   exact hK _ _ ⟨_,_,_,_,_,_,_,_,_,_,_,_,_,_,rfl,hS,q0,fun _=>rfl,fun _=>rfl,q3,q4,q5,q6,q7,q8,q9,q10,q11,q12,q13⟩
  ·obtain rfl:=Option.some.inj ho
   obtain rfl:=q2 (hall ⟨2,.data⟩ (by simp) rfl)
   clear hall ho
   refine wpOp_step rfl (fun K hK=>?_)
   go_simp
   exact hK _ _ ⟨_,_,_,_,_,_,_,_,_,_,_,_,_,_,rfl,hS,q0,q1,fun _=>rfl,fun _=>rfl,q4,q5,q6,q7,q8,q9,q10,q11,q12,q13⟩
  ·obtain rfl:=Option.some.inj ho
   obtain rfl:=q3 (hall ⟨3,.guard⟩ (by simp) rfl)
   clear hall ho
   refine wpOp_step rfl (fun K hK=>?_)
   go_simp
   exact hK _ _ ⟨_,_,_,_,_,_,_,_,_,_,_,_,_,_,rfl,hS,q0,q1,q2,fun _=>rfl,fun _=>rfl,q5,q6,q7,q8,q9,q10,q11,q12,q13⟩
  ·obtain rfl:=Option.some.inj ho
   obtain rfl:=q3 (hall ⟨3,.guard⟩ (by simp) rfl)
   clear hall ho
   refine wpOp_step rfl (fun K hK=>?_)
   go_simp
   exact hK _ _ ⟨_,_,_,_,_,_,_,_,_,_,_,_,_,_,rfl,hS,q0,q1,q2,fun _=>rfl,q4,fun _=>rfl,q6,q7,q8,q9,q10,q11,q12,q13⟩
  ·obtain rfl:=Option.some.inj ho
   obtain rfl:=q5 (hall ⟨5,.data⟩ (by simp) rfl)
   obtain rfl:=q3 (hall ⟨3,.guard⟩ (by simp) rfl)
   clear hall ho
   refine wpOp_step rfl (fun K hK=>?_)
   go_simp
   exact hK _ _ ⟨_,_,_,_,_,_,_,_,_,_,_,_,_,_,rfl,hS,q0,q1,q2,fun _=>rfl,q4,fun _=>rfl,fun _=>rfl,q7,q8,q9,q10,q11,q12,q13⟩
  ·obtain rfl:=Option.some.inj ho
   obtain rfl:=q6 (hall ⟨6,.data⟩ (by simp) rfl)
   obtain rfl:=q3 (hall ⟨3,.guard⟩ (by simp) rfl)
   clear hall ho
   refine wpOp_step rfl (fun K hK=>?_)
   go_simp
   exact hK _ _ ⟨_,_,_,_,_,_,_,_,_,_,_,_,_,_,rfl,hS,q0,q1,q2,fun _=>rfl,q4,q5,fun _=>rfl,fun _=>rfl,q8,q9,q10,q11,q12,q13⟩
  ·obtain rfl:=Option.some.inj ho
   obtain rfl:=q4 (hall ⟨4,.data⟩ (by simp) rfl)
   obtain rfl:=q7 (hall ⟨7,.data⟩ (by simp) rfl)
   obtain rfl:=q3 (hall ⟨3,.guard⟩ (by simp) rfl)
   clear hall ho
   refine wpOp_step rfl (fun K hK=>?_)
   go_simp
   exact hK _ _ ⟨_,_,_,_,_,_,_,_,_,_,_,_,_,_,rfl,hS,q0,q1,q2,fun _=>rfl,fun _=>rfl,q5,q6,fun _=>rfl,fun _=>rfl,q9,q10,q11,q12,q13⟩
  ·obtain rfl:=Option.some.inj ho
   obtain rfl:=q3 (hall ⟨3,.guard⟩ (by simp) rfl)
   clear hall ho
   refine wpOp_step rfl (fun K hK=>?_)
   go_simp
   exact hK _ _ ⟨_,_,_,_,_,_,_,_,_,_,_,_,_,_,rfl,hS,q0,q1,q2,fun _=>rfl,q4,q5,q6,q7,q8,fun _=>rfl,q10,q11,q12,q13⟩
  ·obtain rfl:=Option.some.inj ho
   obtain rfl:=q9 (hall ⟨9,.data⟩ (by simp) rfl)
   obtain rfl:=q3 (hall ⟨3,.guard⟩ (by simp) rfl)
   clear hall ho
   refine wpOp_step rfl (fun K hK=>?_)
   go_simp
   exact hK _ _ ⟨_,_,_,_,_,_,_,_,_,_,_,_,_,_,rfl,hS,q0,q1,q2,fun _=>rfl,q4,q5,q6,q7,q8,fun _=>rfl,fun _=>rfl,q11,q12,q13⟩
  ·obtain rfl:=Option.some.inj ho
   obtain rfl:=q8 (hall ⟨8,.data⟩ (by simp) rfl)
   obtain rfl:=q10 (hall ⟨10,.data⟩ (by simp) rfl)
   obtain rfl:=q3 (hall ⟨3,.guard⟩ (by simp) rfl)
   clear hall ho
   refine wpOp_step rfl (fun K hK=>?_)
   go_simp
   exact hK _ _ ⟨_,_,_,_,_,_,_,_,_,_,_,_,_,_,rfl,hS,q0,q1,q2,fun _=>rfl,q4,q5,q6,q7,fun _=>rfl,q9,fun _=>rfl,fun _=>rfl,q12,q13⟩
  ·obtain rfl:=Option.some.inj ho
   obtain rfl:=q11 (hall ⟨11,.data⟩ (by simp) rfl)
   obtain rfl:=q3 (hall ⟨3,.guard⟩ (by simp) rfl)
   clear hall ho
   refine wpOp_step rfl (fun K hK=>?_)
   go_simp
   exact hK _ _ ⟨_,_,_,_,_,_,_,_,_,_,_,_,_,_,rfl,hS,q0,q1,q2,fun _=>rfl,q4,q5,q6,q7,q8,q9,q10,fun _=>rfl,fun _=>rfl,q13⟩
  ·obtain rfl:=Option.some.inj ho
   obtain rfl:=q3 (hall ⟨3,.data⟩ (by simp) rfl)
   obtain rfl:=q12 (hall ⟨12,.data⟩ (by simp) rfl)
   clear hall ho
   refine wpOp_step rfl (fun K hK=>?_)
   go_simp
   exact hK _ _ ⟨_,_,_,_,_,_,_,_,_,_,_,_,_,_,rfl,hS,q0,q1,q2,fun _=>rfl,q4,q5,q6,q7,q8,q9,q10,q11,fun _=>rfl,fun _=>rfl⟩
 ·rintro fL bA v ⟨v9,v10,v11,v12,v13,v14,v15,v16,v17,v18,v19,v20,v21,v22,rfl,hS,q0,q1,q2,q3,q4,q5,q6,q7,q8,q9,q10,q11,q12,q13⟩ hall
  simp only [Act.put,List.setIfInBounds_toArray,List.set_cons_zero,List.set_cons_succ]
  simp only [List.length_cons,List.length_nil] at hall
  obtain rfl:=q0 (hall 0 (by omega))
  obtain rfl:=q1 (hall 1 (by omega))
  obtain rfl:=q2 (hall 2 (by omega))
  obtain rfl:=q3 (hall 3 (by omega))
  obtain rfl:=q4 (hall 4 (by omega))
  obtain rfl:=q5 (hall 5 (by omega))
  obtain rfl:=q6 (hall 6 (by omega))
  obtain rfl:=q7 (hall 7 (by omega))
  obtain rfl:=q8 (hall 8 (by omega))
  obtain rfl:=q9 (hall 9 (by omega))
  obtain rfl:=q10 (hall 10 (by omega))
  obtain rfl:=q11 (hall 11 (by omega))
  obtain rfl:=q12 (hall 12 (by omega))
  obtain rfl:=q13 (hall 13 (by omega))
  clear hall
  have hM:=hS.1
  clear hM0 hB3 hS
  have x60:=hM.c60
  have x61:=hM.c61
  have xf0:=hM.f60
  have xf1:=hM.f61
  have x40:=hM.c40
  have x41:=hM.c41
  have x50:=hM.c50
  have x51:=hM.c51
  have x52:=hM.c52
  have x53:=hM.c53
  have l4:w.heap.size+1 < v.heap.size:=hM.b4.lt
  have l5:w.heap.size+1+1 < v.heap.size:=hM.b5.lt
  have l6:w.heap.size+1+1+1 < v.heap.size:=hM.b6.lt
  have hbv:=hM.hb
  have hA:ApS w v.heap.size sh cu 5 s d t (sh) (sh) (v.alloc (.cells #[.int .i64 (sh),.int .i64 (sh)] 104)):=⟨hM.below ((Below.refl _ _).alloc (Nat.le_refl _) _),Blk.new _ _ _,by omega⟩
  go_wp2_with fail
  clear x60 x61 xf0 xf1 x40 x41 x50 x51 x52 x53 hM hbv
  generalize v.alloc (.cells #[.int .i64 (sh),.int .i64 (sh)] 104)=v5 at *
  generalize v.heap.size=g at *
  refine wp_region_sink 3 (fun a0 fL bA v=>∃ v72 v73 v74:Value,bA=((a0.put (some 72) v72).put (some 73) v73).put (some 74) v74∧(ApS w g sh cu 5 s d t (sh) (sh) v)∧(fL 0=true→v72=.agg #[.int .i64 (sh),.int .i64 (sh)])∧(fL 1=true→v73=.agg #[.int .i64 (sh),.int .i64 (sh)])∧(fL 2=true→v74=.bool (setB (sh) (sh)))) (by kernel_rfl) (by decide +kernel) ?_ ?_ ?_
  ·exact ⟨undef,undef,undef,by simp only [Act.put,List.setIfInBounds_toArray,List.set_cons_zero,List.set_cons_succ],hA.drew,nofun,nofun,nofun⟩
  ·rintro fL bA v ⟨v72,v73,v74,rfl,hS,q0,q1,q2⟩ i hi hf o ho hall
   simp only [Act.put,List.setIfInBounds_toArray,List.set_cons_zero,List.set_cons_succ]
   have hn:i=0 ∨ i=1 ∨ i=2:=by omega
   clear hi
   rcases hn with rfl | rfl | rfl
   ·obtain rfl:=Option.some.inj ho
    have y0:v.cell? ⟨g,0,none⟩=some (.int .i64 (sh)):=hS.b8.cell 0
    have y1:v.cell? ⟨g,1,none⟩=some (.int .i64 (sh)):=hS.b8.cell 1
    clear hall ho
    refine wpOp_step rfl (fun K hK=>?_)
    go_simp
    exact hK _ _ ⟨_,_,_,rfl,hS,fun _=>rfl,q1,q2⟩
   ·obtain rfl:=Option.some.inj ho
    have y0:v.cell? ⟨g,0,none⟩=some (.int .i64 (sh)):=hS.b8.cell 0
    have y1:v.cell? ⟨g,1,none⟩=some (.int .i64 (sh)):=hS.b8.cell 1
    clear hall ho
    refine wpOp_step rfl (fun K hK=>?_)
    go_simp
    exact hK _ _ ⟨_,_,_,rfl,hS,q0,fun _=>rfl,q2⟩
   ·obtain rfl:=Option.some.inj ho
    obtain rfl:=q1 (hall ⟨1,.data⟩ (by simp) rfl)
    clear hall ho
    refine wpOp_step rfl (fun K hK=>?_)
    go_simp
    refine Calls.mono ((HI _ _ _).out) ?_;rintro e w1 ⟨rfl,hb1⟩
    go_simp
    exact hK _ _ ⟨_,_,_,rfl,hS.below hb1,q0,fun _=>rfl,fun _=>rfl⟩
  ·rintro fL bA v ⟨v72,v73,v74,rfl,hS,q0,q1,q2⟩ hall
   simp only [Act.put,List.setIfInBounds_toArray,List.set_cons_zero,List.set_cons_succ]
   obtain rfl:=q0 (hall 0 (by omega))
   obtain rfl:=q1 (hall 1 (by omega))
   obtain rfl:=q2 (hall 2 (by omega))
   clear hall
   simp only [List.drop_succ_cons,List.drop_zero]
   have x60:=hS.m.c60
   have x61:=hS.m.c61
   have xf0:=hS.m.f60
   have xf1:=hS.m.f61
   have hB3:=hS.m.hb
   go_wp2
   refine bodyPost_ret (v:=.tuple #[.agg #[.int .i64 (sh),.int .i64 (sh)],.bool (setB (sh) (sh))]) (by simp [results,Tryz.results127,go_sem,x60,x61]) rfl ⟨by rw [HRx.out];rfl,(by repeat first | with_reducible (first | exact hB3 | apply below_drewN' | apply Below.drew | refine Below.alloc ?_ ?_ _ | refine Below.setCell ?_ ?_ _) | exact hB3 | omega | (simp <;> omega) | (have:=(hB3).size;first | omega | (simp <;> omega)))⟩
theorem apply6_c (L:Int) (A1:Option Addr) (c1:Nat) (l1:List Int) (A2:Option Addr) (c2:Nat) (l2:List Int) (sh cu s d t pt:Int) (w:World)
  (hsh:-1048576 ≤ sh∧sh ≤ 1048576) (hcu:0 ≤ cu∧cu ≤ 1048576) :
  Calls Tryz.prog 127 #[.agg #[.int .i64 L,.slice A1 l1.length c1,.slice A2 l2.length c2],.agg #[.int .i64 sh,.int .i64 cu],.agg #[.int .i64 6,.int .i64 s,.int .i64 d,.int .i64 t]] w fun e w' =>
   e=.returned (.tuple #[.agg #[.int .i64 (moveR l1 l2 sh cu 6 s pt).1.1,.int .i64 (moveR l1 l2 sh cu 6 s pt).1.2],.bool (moveR l1 l2 sh cu 6 s pt).2])∧Below w.heap.size w w':=by
 have HI:=fun a b W=>Lib.hid (specIsSetting_c a b W)
 have HRx:Hid (moveR l1 l2 sh cu 6 s pt=if true then ((sh,sh+1048576),setB (sh) (sh+1048576)) else ((0,0),false)):=by
  unfold Hid moveR
  rfl
 obtain ⟨hsh1,hsh2⟩:=hsh
 obtain ⟨hcu1,hcu2⟩:=hcu
 have hM0:MvS w sh cu 6 s d t _:=MvS.init L A1 l1.length c1 A2 l2.length c2
 have hB3:Blk ((((w.alloc (.cells #[.int .i64 L,.slice A1 l1.length c1,.slice A2 l2.length c2] 26)).alloc (.cells #[.int .i64 sh,.int .i64 cu] 104)).alloc (.cells #[.int .i64 6,.int .i64 s,.int .i64 d,.int .i64 t] 75)).alloc (.cells #[.int .i64 0,.int .i64 0] 104)) w.heap.size 26 #[.int .i64 L,.slice A1 l1.length c1,.slice A2 l2.length c2]:=(((Blk.new _ _ _).alloc _).alloc _).alloc _
 go_enter Tryz.func127,Tryz.ntmps127
 go_wp2_with fail
 generalize ((((w.alloc (.cells #[.int .i64 L,.slice A1 l1.length c1,.slice A2 l2.length c2] 26)).alloc (.cells #[.int .i64 sh,.int .i64 cu] 104)).alloc (.cells #[.int .i64 6,.int .i64 s,.int .i64 d,.int .i64 t] 75)).alloc (.cells #[.int .i64 0,.int .i64 0] 104))=W at *
 refine wp_region_all (fun a0 fL bA v=>∃ v9 v10 v11 v12 v13 v14 v15 v16 v17 v18 v19 v20 v21 v22:Value,bA=(((((((((((((a0.put (some 9) v9).put (some 10) v10).put (some 11) v11).put (some 12) v12).put (some 13) v13).put (some 14) v14).put (some 15) v15).put (some 16) v16).put (some 17) v17).put (some 18) v18).put (some 19) v19).put (some 20) v20).put (some 21) v21).put (some 22) v22∧(MvS w sh cu 6 s d t v∧Blk v w.heap.size 26 #[.int .i64 L,.slice A1 l1.length c1,.slice A2 l2.length c2])∧(fL 0=true→v9=.pointer (some ⟨w.heap.size+1+1,0,none⟩))∧(fL 1=true→v10=.int .i64 6)∧(fL 2=true→v11=.bool false)∧(fL 3=true→v12=.bool false)∧(fL 4=true→v13=undef)∧(fL 5=true→v14=undef)∧(fL 6=true→v15=undef)∧(fL 7=true→v16=undef)∧(fL 8=true→v17=undef)∧(fL 9=true→v18=undef)∧(fL 10=true→v19=undef)∧(fL 11=true→v20=undef)∧(fL 12=true→v21=undef)∧(fL 13=true→v22=.bool false)) (by kernel_rfl) (by decide +kernel) ?_ ?_ ?_
 ·exact ⟨undef,undef,undef,undef,undef,undef,undef,undef,undef,undef,undef,undef,undef,undef,by simp only [Act.put,List.setIfInBounds_toArray,List.set_cons_zero,List.set_cons_succ],⟨hM0.drew,hB3⟩,nofun,nofun,nofun,nofun,nofun,nofun,nofun,nofun,nofun,nofun,nofun,nofun,nofun,nofun⟩
 ·rintro fL bA v ⟨v9,v10,v11,v12,v13,v14,v15,v16,v17,v18,v19,v20,v21,v22,rfl,hS,q0,q1,q2,q3,q4,q5,q6,q7,q8,q9,q10,q11,q12,q13⟩ i hi hf o ho hall
  simp only [Act.put,List.setIfInBounds_toArray,List.set_cons_zero,List.set_cons_succ]
  simp only [List.length_cons,List.length_nil] at hi
  have hn:i=0 ∨ i=1 ∨ i=2 ∨ i=3 ∨ i=4 ∨ i=5 ∨ i=6 ∨ i=7 ∨ i=8 ∨ i=9 ∨ i=10 ∨ i=11 ∨ i=12 ∨ i=13:=by omega
  clear hi
  rcases hn with rfl | rfl | rfl | rfl | rfl | rfl | rfl | rfl | rfl | rfl | rfl | rfl | rfl | rfl
  ·obtain rfl:=Option.some.inj ho
   clear hall ho
   refine wpOp_step rfl (fun K hK=>?_)
   go_simp
   exact hK _ _ ⟨_,_,_,_,_,_,_,_,_,_,_,_,_,_,rfl,hS,fun _=>rfl,q1,q2,q3,q4,q5,q6,q7,q8,q9,q10,q11,q12,q13⟩
  ·obtain rfl:=Option.some.inj ho
   obtain rfl:=q0 (hall ⟨0,.data⟩ (by simp) rfl)
   have y0:=hS.1.c50
   clear hall ho
   refine wpOp_step rfl (fun K hK=>?_)
   go_simp
   exact hK _ _ ⟨_,_,_,_,_,_,_,_,_,_,_,_,_,_,rfl,hS,fun _=>rfl,fun _=>rfl,q2,q3,q4,q5,q6,q7,q8,q9,q10,q11,q12,q13⟩
  ·obtain rfl:=Option.some.inj ho
   obtain rfl:=q1 (hall ⟨1,.data⟩ (by simp) rfl)
   clear hall ho
   refine wpOp_step rfl (fun K hK=>?_)
   go_simp
   exact hK _ _ ⟨_,_,_,_,_,_,_,_,_,_,_,_,_,_,rfl,hS,q0,fun _=>rfl,fun _=>rfl,q3,q4,q5,q6,q7,q8,q9,q10,q11,q12,q13⟩
  ·obtain rfl:=Option.some.inj ho
   obtain rfl:=q2 (hall ⟨2,.data⟩ (by simp) rfl)
   clear hall ho
   refine wpOp_step rfl (fun K hK=>?_)
   go_simp
   exact hK _ _ ⟨_,_,_,_,_,_,_,_,_,_,_,_,_,_,rfl,hS,q0,q1,fun _=>rfl,fun _=>rfl,q4,q5,q6,q7,q8,q9,q10,q11,q12,q13⟩
  ·obtain rfl:=Option.some.inj ho
   obtain rfl:=q3 (hall ⟨3,.guard⟩ (by simp) rfl)
   clear hall ho
   refine wpOp_step rfl (fun K hK=>?_)
   go_simp
   exact hK _ _ ⟨_,_,_,_,_,_,_,_,_,_,_,_,_,_,rfl,hS,q0,q1,q2,fun _=>rfl,fun _=>rfl,q5,q6,q7,q8,q9,q10,q11,q12,q13⟩
  ·obtain rfl:=Option.some.inj ho
   obtain rfl:=q3 (hall ⟨3,.guard⟩ (by simp) rfl)
   clear hall ho
   refine wpOp_step rfl (fun K hK=>?_)
   go_simp
   exact hK _ _ ⟨_,_,_,_,_,_,_,_,_,_,_,_,_,_,rfl,hS,q0,q1,q2,fun _=>rfl,q4,fun _=>rfl,q6,q7,q8,q9,q10,q11,q12,q13⟩
  ·obtain rfl:=Option.some.inj ho
   obtain rfl:=q5 (hall ⟨5,.data⟩ (by simp) rfl)
   obtain rfl:=q3 (hall ⟨3,.guard⟩ (by simp) rfl)
   clear hall ho
   refine wpOp_step rfl (fun K hK=>?_)
   go_simp
   exact hK _ _ ⟨_,_,_,_,_,_,_,_,_,_,_,_,_,_,rfl,hS,q0,q1,q2,fun _=>rfl,q4,fun _=>rfl,fun _=>rfl,q7,q8,q9,q10,q11,q12,q13⟩
  ·obtain rfl:=Option.some.inj ho
   obtain rfl:=q6 (hall ⟨6,.data⟩ (by simp) rfl)
   obtain rfl:=q3 (hall ⟨3,.guard⟩ (by simp) rfl)
   clear hall ho
   refine wpOp_step rfl (fun K hK=>?_)
   go_simp
   exact hK _ _ ⟨_,_,_,_,_,_,_,_,_,_,_,_,_,_,rfl,hS,q0,q1,q2,fun _=>rfl,q4,q5,fun _=>rfl,fun _=>rfl,q8,q9,q10,q11,q12,q13⟩
  ·obtain rfl:=Option.some.inj ho
   obtain rfl:=q4 (hall ⟨4,.data⟩ (by simp) rfl)
   obtain rfl:=q7 (hall ⟨7,.data⟩ (by simp) rfl)
   obtain rfl:=q3 (hall ⟨3,.guard⟩ (by simp) rfl)
   clear hall ho
   refine wpOp_step rfl (fun K hK=>?_)
   go_simp
   exact hK _ _ ⟨_,_,_,_,_,_,_,_,_,_,_,_,_,_,rfl,hS,q0,q1,q2,fun _=>rfl,fun _=>rfl,q5,q6,fun _=>rfl,fun _=>rfl,q9,q10,q11,q12,q13⟩
  ·obtain rfl:=Option.some.inj ho
   obtain rfl:=q3 (hall ⟨3,.guard⟩ (by simp) rfl)
   clear hall ho
   refine wpOp_step rfl (fun K hK=>?_)
   go_simp
   exact hK _ _ ⟨_,_,_,_,_,_,_,_,_,_,_,_,_,_,rfl,hS,q0,q1,q2,fun _=>rfl,q4,q5,q6,q7,q8,fun _=>rfl,q10,q11,q12,q13⟩
  ·obtain rfl:=Option.some.inj ho
   obtain rfl:=q9 (hall ⟨9,.data⟩ (by simp) rfl)
   obtain rfl:=q3 (hall ⟨3,.guard⟩ (by simp) rfl)
   clear hall ho
   refine wpOp_step rfl (fun K hK=>?_)
   go_simp
   exact hK _ _ ⟨_,_,_,_,_,_,_,_,_,_,_,_,_,_,rfl,hS,q0,q1,q2,fun _=>rfl,q4,q5,q6,q7,q8,fun _=>rfl,fun _=>rfl,q11,q12,q13⟩
  ·obtain rfl:=Option.some.inj ho
   obtain rfl:=q8 (hall ⟨8,.data⟩ (by simp) rfl)
   obtain rfl:=q10 (hall ⟨10,.data⟩ (by simp) rfl)
   obtain rfl:=q3 (hall ⟨3,.guard⟩ (by simp) rfl)
   clear hall ho
   refine wpOp_step rfl (fun K hK=>?_)
   go_simp
   exact hK _ _ ⟨_,_,_,_,_,_,_,_,_,_,_,_,_,_,rfl,hS,q0,q1,q2,fun _=>rfl,q4,q5,q6,q7,fun _=>rfl,q9,fun _=>rfl,fun _=>rfl,q12,q13⟩
  ·obtain rfl:=Option.some.inj ho
   obtain rfl:=q11 (hall ⟨11,.data⟩ (by simp) rfl)
   obtain rfl:=q3 (hall ⟨3,.guard⟩ (by simp) rfl)
   clear hall ho
   refine wpOp_step rfl (fun K hK=>?_)
   go_simp
   exact hK _ _ ⟨_,_,_,_,_,_,_,_,_,_,_,_,_,_,rfl,hS,q0,q1,q2,fun _=>rfl,q4,q5,q6,q7,q8,q9,q10,fun _=>rfl,fun _=>rfl,q13⟩
  ·obtain rfl:=Option.some.inj ho
   obtain rfl:=q3 (hall ⟨3,.data⟩ (by simp) rfl)
   obtain rfl:=q12 (hall ⟨12,.data⟩ (by simp) rfl)
   clear hall ho
   refine wpOp_step rfl (fun K hK=>?_)
   go_simp
   exact hK _ _ ⟨_,_,_,_,_,_,_,_,_,_,_,_,_,_,rfl,hS,q0,q1,q2,fun _=>rfl,q4,q5,q6,q7,q8,q9,q10,q11,fun _=>rfl,fun _=>rfl⟩
 ·rintro fL bA v ⟨v9,v10,v11,v12,v13,v14,v15,v16,v17,v18,v19,v20,v21,v22,rfl,hS,q0,q1,q2,q3,q4,q5,q6,q7,q8,q9,q10,q11,q12,q13⟩ hall
  simp only [Act.put,List.setIfInBounds_toArray,List.set_cons_zero,List.set_cons_succ]
  simp only [List.length_cons,List.length_nil] at hall
  obtain rfl:=q0 (hall 0 (by omega))
  obtain rfl:=q1 (hall 1 (by omega))
  obtain rfl:=q2 (hall 2 (by omega))
  obtain rfl:=q3 (hall 3 (by omega))
  obtain rfl:=q4 (hall 4 (by omega))
  obtain rfl:=q5 (hall 5 (by omega))
  obtain rfl:=q6 (hall 6 (by omega))
  obtain rfl:=q7 (hall 7 (by omega))
  obtain rfl:=q8 (hall 8 (by omega))
  obtain rfl:=q9 (hall 9 (by omega))
  obtain rfl:=q10 (hall 10 (by omega))
  obtain rfl:=q11 (hall 11 (by omega))
  obtain rfl:=q12 (hall 12 (by omega))
  obtain rfl:=q13 (hall 13 (by omega))
  clear hall
  have hM:=hS.1
  clear hM0 hB3 hS
  have x60:=hM.c60
  have x61:=hM.c61
  have xf0:=hM.f60
  have xf1:=hM.f61
  have x40:=hM.c40
  have x41:=hM.c41
  have x50:=hM.c50
  have x51:=hM.c51
  have x52:=hM.c52
  have x53:=hM.c53
  have l4:w.heap.size+1 < v.heap.size:=hM.b4.lt
  have l5:w.heap.size+1+1 < v.heap.size:=hM.b5.lt
  have l6:w.heap.size+1+1+1 < v.heap.size:=hM.b6.lt
  have hbv:=hM.hb
  have hA:ApS w v.heap.size sh cu 6 s d t (sh) (sh+1048576) (v.alloc (.cells #[.int .i64 (sh),.int .i64 (sh+1048576)] 104)):=⟨hM.below ((Below.refl _ _).alloc (Nat.le_refl _) _),Blk.new _ _ _,by omega⟩
  go_wp2_with fail
  clear x60 x61 xf0 xf1 x40 x41 x50 x51 x52 x53 hM hbv
  generalize v.alloc (.cells #[.int .i64 (sh),.int .i64 (sh+1048576)] 104)=v5 at *
  generalize v.heap.size=g at *
  refine wp_region_sink 3 (fun a0 fL bA v=>∃ v72 v73 v74:Value,bA=((a0.put (some 72) v72).put (some 73) v73).put (some 74) v74∧(ApS w g sh cu 6 s d t (sh) (sh+1048576) v)∧(fL 0=true→v72=.agg #[.int .i64 (sh),.int .i64 (sh+1048576)])∧(fL 1=true→v73=.agg #[.int .i64 (sh),.int .i64 (sh+1048576)])∧(fL 2=true→v74=.bool (setB (sh) (sh+1048576)))) (by kernel_rfl) (by decide +kernel) ?_ ?_ ?_
  ·exact ⟨undef,undef,undef,by simp only [Act.put,List.setIfInBounds_toArray,List.set_cons_zero,List.set_cons_succ],hA.drew,nofun,nofun,nofun⟩
  ·rintro fL bA v ⟨v72,v73,v74,rfl,hS,q0,q1,q2⟩ i hi hf o ho hall
   simp only [Act.put,List.setIfInBounds_toArray,List.set_cons_zero,List.set_cons_succ]
   have hn:i=0 ∨ i=1 ∨ i=2:=by omega
   clear hi
   rcases hn with rfl | rfl | rfl
   ·obtain rfl:=Option.some.inj ho
    have y0:v.cell? ⟨g,0,none⟩=some (.int .i64 (sh)):=hS.b8.cell 0
    have y1:v.cell? ⟨g,1,none⟩=some (.int .i64 (sh+1048576)):=hS.b8.cell 1
    clear hall ho
    refine wpOp_step rfl (fun K hK=>?_)
    go_simp
    exact hK _ _ ⟨_,_,_,rfl,hS,fun _=>rfl,q1,q2⟩
   ·obtain rfl:=Option.some.inj ho
    have y0:v.cell? ⟨g,0,none⟩=some (.int .i64 (sh)):=hS.b8.cell 0
    have y1:v.cell? ⟨g,1,none⟩=some (.int .i64 (sh+1048576)):=hS.b8.cell 1
    clear hall ho
    refine wpOp_step rfl (fun K hK=>?_)
    go_simp
    exact hK _ _ ⟨_,_,_,rfl,hS,q0,fun _=>rfl,q2⟩
   ·obtain rfl:=Option.some.inj ho
    obtain rfl:=q1 (hall ⟨1,.data⟩ (by simp) rfl)
    clear hall ho
    refine wpOp_step rfl (fun K hK=>?_)
    go_simp
    refine Calls.mono ((HI _ _ _).out) ?_;rintro e w1 ⟨rfl,hb1⟩
    go_simp
    exact hK _ _ ⟨_,_,_,rfl,hS.below hb1,q0,fun _=>rfl,fun _=>rfl⟩
  ·rintro fL bA v ⟨v72,v73,v74,rfl,hS,q0,q1,q2⟩ hall
   simp only [Act.put,List.setIfInBounds_toArray,List.set_cons_zero,List.set_cons_succ]
   obtain rfl:=q0 (hall 0 (by omega))
   obtain rfl:=q1 (hall 1 (by omega))
   obtain rfl:=q2 (hall 2 (by omega))
   clear hall
   simp only [List.drop_succ_cons,List.drop_zero]
   have x60:=hS.m.c60
   have x61:=hS.m.c61
   have xf0:=hS.m.f60
   have xf1:=hS.m.f61
   have hB3:=hS.m.hb
   go_wp2
   refine bodyPost_ret (v:=.tuple #[.agg #[.int .i64 (sh),.int .i64 (sh+1048576)],.bool (setB (sh) (sh+1048576))]) (by simp [results,Tryz.results127,go_sem,x60,x61]) rfl ⟨by rw [HRx.out];rfl,(by repeat first | with_reducible (first | exact hB3 | apply below_drewN' | apply Below.drew | refine Below.alloc ?_ ?_ _ | refine Below.setCell ?_ ?_ _) | exact hB3 | omega | (simp <;> omega) | (have:=(hB3).size;first | omega | (simp <;> omega)))⟩
end Go.Proofs.YtednjmldjbndhaaGreat
