/- The planner's methods toCursor and term, and the usual plan: the program's. Conditions: the rule has ScaleC on both parts; the terms are valid. The planner's method term: the program's. Conditions: the rule has ScaleC on both parts; the term is valid; the plan so far is sound. -/
import Derived.Test.YtednjmldjbndhaaGreatKGr9
set_option linter.unusedSimpArgs false
set_option linter.unusedVariables false
set_option maxRecDepth 100000
set_option maxHeartbeats 8000000
namespace Go.Proofs.YtednjmldjbndhaaGreat
open Go.RowKit
structure RuleIn (w0:World) (A1:Option Addr) (l1:List Int) (A2:Option Addr) (l2:List Int):Prop where
 h1:l1.length ≤ 1048576
 h2:l2.length ≤ 1048576
 s1:Sl w0 w0.heap.size 1 A1 (l1.map ic)
 s2:Sl w0 w0.heap.size 1 A2 (l2.map ic)
 m1:(0:Int) ∈ l1
 m2:(0:Int) ∈ l2
theorem moveR_has {l1 l2:List Int} (m1:(0:Int) ∈ l1) (m2:(0:Int) ∈ l2) (sh cu k pt:Int):moveR l1 l2 sh cu k 0 pt=(moveS sh cu k pt,setB (moveS sh cu k pt).1 (moveS sh cu k pt).2):=by
 unfold moveR hasS
 rw [decide_eq_true m1,decide_eq_true m2]
 simp
theorem movedC_c {w0:World} {A1:Option Addr} {l1:List Int} {A2:Option Addr} {l2:List Int} (R:RuleIn w0 A1 l1 A2 l2) (L:Int) (c1 c2:Nat) (sh cu k d t:Int) (hk:0 ≤ k∧k ≤ 6) (hs:(-1048576 ≤ sh∧sh ≤ 1048576)∧0 ≤ cu∧cu ≤ 1048576) (hd:k ≤ 2→1000 ≤ d∧d ≤ 9999)
  (W:World) (hW:Below w0.heap.size w0 W) :
  Hid (Calls Tryz.prog 171 #[.agg #[.int .i64 L,.slice A1 l1.length c1,.slice A2 l2.length c2],.agg #[.int .i64 sh,.int .i64 cu],.agg #[.int .i64 k,.int .i64 0,.int .i64 d,.int .i64 t]] W fun e w' =>
   e=.returned (.tuple #[.agg #[.int .i64 (moveS sh cu k (pointC d)).1,.int .i64 (moveS sh cu k (pointC d)).2],.bool (setB (moveS sh cu k (pointC d)).1 (moveS sh cu k (pointC d)).2)])∧Below W.heap.size W w'):=by
 have e:=moveR_has R.m1 R.m2 sh cu k (pointC d)
 have s1:=(R.s1.below hW).more hW.size
 have s2:=(R.s2.below hW).more hW.size
 have hk':k=0 ∨ k=1 ∨ k=2 ∨ k=3 ∨ k=4 ∨ k=5 ∨ k=6:=by omega
 unfold Hid
 rcases hk' with rfl | rfl | rfl | rfl | rfl | rfl | rfl
 ·have h:=moved0_c L A1 c1 l1 A2 c2 l2 sh cu 0 d t (pointC d) W hs.1 hs.2 (pointC_bd (hd (by omega))) (fun W=>pointOf_c d t W (hd (by omega))) R.h1 R.h2 s1 s2
  rw [e] at h
  exact h
 ·have h:=moved1_c L A1 c1 l1 A2 c2 l2 sh cu 0 d t (pointC d) W hs.1 hs.2 (pointC_bd (hd (by omega))) (fun W=>pointOf_c d t W (hd (by omega))) R.h1 R.h2 s1 s2
  rw [e] at h
  exact h
 ·have h:=moved2_c L A1 c1 l1 A2 c2 l2 sh cu 0 d t (pointC d) W hs.1 hs.2 (pointC_bd (hd (by omega))) (fun W=>pointOf_c d t W (hd (by omega))) R.h1 R.h2 s1 s2
  rw [e] at h
  exact h
 ·have h:=moved3_c L A1 c1 l1 A2 c2 l2 sh cu 0 d t (pointC d) W hs.1 hs.2
  rw [e] at h
  exact h
 ·have h:=moved4_c L A1 c1 l1 A2 c2 l2 sh cu 0 d t (pointC d) W hs.1 hs.2
  rw [e] at h
  exact h
 ·have h:=moved5_c L A1 c1 l1 A2 c2 l2 sh cu 0 d t (pointC d) W hs.1 hs.2
  rw [e] at h
  exact h
 ·have h:=moved6_c L A1 c1 l1 A2 c2 l2 sh cu 0 d t (pointC d) W hs.1 hs.2
  rw [e] at h
  exact h
structure PlAt (w0:World) (g:Nat) (L:Int) (A1:Option Addr) (n1 c1:Nat) (A2:Option Addr) (n2 c2:Nat) (p:PS) (mv:Value) (v:World):Prop where
 hb:Below w0.heap.size w0 v
 bp:Blk v g 150 (plCells L A1 n1 c1 A2 n2 c2 p.sh p.cu mv p.en)
 own:Own v w0.heap.size 75 4 mv (p.ms.map Move.cells)
section
variable {w0 v v' : World} {g : Nat} {L : Int} {A1 : Option Addr} {n1 c1 : Nat} {A2 : Option Addr} {n2 c2 : Nat} {p : PS} {mv : Value}
theorem PlAt.below (h:PlAt w0 g L A1 n1 c1 A2 n2 c2 p mv v) (hb:Below v.heap.size v v'):PlAt w0 g L A1 n1 c1 A2 n2 c2 p mv v' :=
 ⟨h.hb.trans (hb.mono h.hb.size),h.bp.below hb h.bp.lt,h.own.below hb⟩
theorem PlAt.setEn (h:PlAt w0 g L A1 n1 c1 A2 n2 c2 p mv v) (hg:w0.heap.size ≤ g) (b:Bool):PlAt w0 g L A1 n1 c1 A2 n2 c2 ⟨p.sh,p.cu,p.ms,b⟩ mv (v.setCell ⟨g,6,none⟩ (.bool b)) :=
 ⟨h.hb.setCell hg _,h.bp.set_ 6 (.bool b),h.own.kept (grownBy_stores [_] 6 (World.grownBy.refl _ _)) (.inr (Ne.symm (own_ne_blk h.own h.bp (by decide))))⟩
end
theorem doP_c {w0:World} {A1:Option Addr} {l1:List Int} {A2:Option Addr} {l2:List Int} (R:RuleIn w0 A1 l1 A2 l2) (L:Int) (c1 c2:Nat) (g:Nat) (p:PS) (mv:Value) (k d t:Int) (w:World)
  (P:PlAt w0 g L A1 l1.length c1 A2 l2.length c2 p mv w) (hg:w0.heap.size ≤ g) (hk:0 ≤ k∧k ≤ 6) (hs:(-1048576 ≤ p.sh∧p.sh ≤ 1048576)∧0 ≤ p.cu∧p.cu ≤ 1048576) (hd:k ≤ 2→1000 ≤ d∧d ≤ 9999) (hr:p.ms.length ≤ 1000) :
  Calls Tryz.prog 115 #[.pointer (some ⟨g,0,none⟩),.int .i64 k,.agg #[.int .i64 d,.int .i64 t]] w fun e w'=>e=.returned (.tuple #[])∧∃ mv',PlAt w0 g L A1 l1.length c1 A2 l2.length c2 (mvP p k d t p.en) mv' w'∧Spare w w' g mv mv':=by
 refine (do_c w0.heap.size g L A1 l1.length c1 A2 l2.length c2 p.sh p.cu mv (p.ms.map Move.cells) p.en k d t _ _ _ w P.bp P.own hg (by simpa using hr) (fun W hW=>movedC_c R L c1 c2 p.sh p.cu k d t hk hs hd W (P.hb.trans (hW.mono P.hb.size)))).mono ?_
 rintro e w' ⟨rfl,mv',h1,h2,h3,h4⟩
 refine ⟨rfl,mv',⟨P.hb.trans h3,h1,?_⟩,h4⟩
 unfold mvP
 rw [List.map_append]
 exact h2
theorem toCursor_c {w0:World} {A1:Option Addr} {l1:List Int} {A2:Option Addr} {l2:List Int} (R:RuleIn w0 A1 l1 A2 l2) (L:Int) (c1 c2:Nat) (g:Nat) (p:PS) (mv:Value) (w:World)
  (P:PlAt w0 g L A1 l1.length c1 A2 l2.length c2 p mv w) (hg:w0.heap.size ≤ g) (hs:(-1048576 ≤ p.sh∧p.sh ≤ 1048576)∧0 ≤ p.cu∧p.cu ≤ 1048576) (hr:p.ms.length ≤ 1000) :
  Calls Tryz.prog 117 #[.pointer (some ⟨g,0,none⟩)] w fun e w'=>e=.returned (.tuple #[])∧∃ mv',PlAt w0 g L A1 l1.length c1 A2 l2.length c2 (underP p) mv' w'∧Spare w w' g mv mv':=by
 have HD:=fun k (hk:5 ≤ k∧k ≤ 6)=>Lib.hid (doP_c R L c1 c2 g p mv k 0 0 w P hg (by omega) hs (fun h=>by omega) hr)
 obtain ⟨sh,cu,ms,en⟩:=p
 have k6:w.cell? ⟨g,6,none⟩=some (.bool en):=P.bp.cell 6
 have k3:w.cell? ⟨g,3,none⟩=some (.int .i64 sh):=P.bp.cell 3
 have P':=Lib.hid P
 clear P
 unfold underP
 cases en with
 | false =>
  go_enter Tryz.func117,Tryz.ntmps117
  go_wp2
  refine bodyPost_ret (v:=.tuple #[]) (by simp [results,Tryz.results117,go_sem]) rfl ⟨rfl,mv,P'.out,Spare.refl _ _ _⟩
 | true =>
  by_cases h5:0 ≤ sh
  ·have H:=HD 5 (by omega)
   simp only [if_true,if_pos h5]
   clear HD
   go_enter Tryz.func117,Tryz.ntmps117
   go_wp2_with fail
   refine Calls.mono H.out ?_;rintro e w1 ⟨rfl,mv',P1,hSp⟩
   have z6:w1.cell? ⟨g,6,none⟩=some (.bool true):=P1.bp.cell 6
   have zf:=P1.bp.frozen 6
   go_wp2
   refine bodyPost_end (v:=.tuple #[]) (by simp [results,Tryz.results117,go_sem]) rfl ⟨rfl,mv',P1.setEn hg false,hSp.set⟩
  ·have H:=HD 6 (by omega)
   simp only [if_true,if_neg h5]
   clear HD
   go_enter Tryz.func117,Tryz.ntmps117
   go_wp2_with fail
   refine Calls.mono H.out ?_;rintro e w1 ⟨rfl,mv',P1,hSp⟩
   have z6:w1.cell? ⟨g,6,none⟩=some (.bool true):=P1.bp.cell 6
   have zf:=P1.bp.frozen 6
   go_wp2
   refine bodyPost_end (v:=.tuple #[]) (by simp [results,Tryz.results117,go_sem]) rfl ⟨rfl,mv',P1.setEn hg false,hSp.set⟩
end Go.Proofs.YtednjmldjbndhaaGreat
namespace Go.Proofs.YtednjmldjbndhaaGreat
open Go.RowKit
theorem Spare.blk {w w':World} {g b:Nat} {mv mv':Value} {ty:TypeId} {cs:Array Value} (h:Spare w w' g mv mv') (hB:Blk w b ty cs) (h1:b ≠ g) (h2:some b ≠ mv.ownBlock):Blk w' b ty cs∧some b ≠ mv'.ownBlock:=by
 obtain ⟨k1,k2⟩:=h.keep b hB.lt h1 h2
 exact ⟨k1.trans hB,k2⟩
theorem own_lt {w:World} {base k:Nat} {e:TypeId} {v:Value} {xs:List (List Value)} {b:Nat} (h:Own w base e k v xs) (hb:w.heap.size ≤ b):some b ≠ v.ownBlock:=fun e=>by
 have:=(h.1.lt _ e.symm).2
 omega
theorem setB_fits {sh:Int} (d:Int) (h:-1048576 ≤ sh∧sh ≤ 1048576):setB sh (pointC d+sh)=fitsB sh d:=by
 unfold setB fitsB
 rw [inB_true.2 h,Int.add_comm]
 rfl
def AlS (w1:World) (b9:Bool) (v9:Value) (v:World):Prop:=Below w1.heap.size w1 v∧(b9=true→∃ gb x y,v9=.pointer (some ⟨gb,0,none⟩)∧Blk v gb 104 #[x,y]∧w1.heap.size ≤ gb)
theorem AlS.below {w1 v v':World} {b9:Bool} {v9:Value} (h:AlS w1 b9 v9 v) (hb:Below v.heap.size v v'):AlS w1 b9 v9 v' :=
 ⟨h.1.trans (hb.mono h.1.size),fun e=>by
  obtain ⟨gb,x,y,h1,h2,h3⟩:=h.2 e
  exact ⟨gb,x,y,h1,h2.below hb h2.lt,h3⟩⟩
theorem AlS.new {w1 v:World} {b9:Bool} {v9:Value} (h:AlS w1 b9 v9 v):AlS w1 true (.pointer (some ⟨v.heap.size,0,none⟩)) (v.alloc (.cells #[.int .i64 0,.int .i64 0] 104)) :=
 ⟨h.1.alloc h.1.size _,fun _=>⟨_,_,_,rfl,Blk.new _ _ _,h.1.size⟩⟩
theorem AlS.set {w1 v:World} {b9:Bool} {gb:Nat} {x y:Value} (h:AlS w1 b9 (.pointer (some ⟨gb,0,none⟩)) v) (hB:Blk v gb 104 #[x,y]) (hg:w1.heap.size ≤ gb) (a b:Value):AlS w1 b9 (.pointer (some ⟨gb,0,none⟩)) ((v.setCell ⟨gb,0,none⟩ a).setCell ⟨gb,1,none⟩ b) :=
 ⟨(h.1.setCell hg _).setCell hg _,fun _=>⟨gb,a,b,rfl,(hB.set_ 0 a).set_ 1 b,hg⟩⟩
theorem termDiv_c {w0:World} {A1:Option Addr} {l1:List Int} {A2:Option Addr} {l2:List Int} (R:RuleIn w0 A1 l1 A2 l2) (L:Int) (c1 c2:Nat) (g:Nat) (p:PS) (mv:Value) (d t:Int) (w:World)
  (P:PlAt w0 g L A1 l1.length c1 A2 l2.length c2 p mv w) (hg:w0.heap.size ≤ g) (hp:okP p) (ht:termOK ⟨d,t,true⟩=true) (hr:p.ms.length ≤ 900) :
  Calls Tryz.prog 116 #[.pointer (some ⟨g,0,none⟩),.agg #[.int .i64 d,.int .i64 t,.bool true]] w fun e w'=>e=.returned (.tuple #[])∧∃ mv',PlAt w0 g L A1 l1.length c1 A2 l2.length c2 (termP p ⟨d,t,true⟩) mv' w'∧Spare w w' g mv mv':=by
 have hfb:=(term_bd ht).1
 simp only at hfb
 have hu:=okP_under hp
 have hul:=under_len p
 have hT:=fun W mv PW=>Lib.hid (toCursor_c R L c1 c2 g p mv W PW hg hp.1 (by omega))
 have hD:=fun W mv PW=>Lib.hid (doP_c R L c1 c2 g (underP p) mv 2 d t W PW hg (by omega) hu.1 (fun _=>hfb) (by omega))
 rw [under_en] at hD
 have hW:Below w.heap.size w ((w.alloc (.cells #[.int .i64 d,.int .i64 t,.bool true] 100)).alloc (.cells #[.int .i64 1,.int .i64 0,.int .i64 d,.int .i64 t] 75)):=(by repeat first | with_reducible (first | exact Below.refl _ _ | apply below_drewN' | apply Below.drew | refine Below.alloc ?_ ?_ _ | refine Below.setCell ?_ ?_ _) | exact Below.refl _ _ | omega | (simp <;> omega) | (have:=(Below.refl _ _).size;first | omega | (simp <;> omega)))
 have hB3:Blk ((w.alloc (.cells #[.int .i64 d,.int .i64 t,.bool true] 100)).alloc (.cells #[.int .i64 1,.int .i64 0,.int .i64 d,.int .i64 t] 75)) w.heap.size 100 #[.int .i64 d,.int .i64 t,.bool true]:=(Blk.new _ _ _).alloc _
 have hgl:=P.bp.lt
 have hw3:=own_lt P.own (Nat.le_refl w.heap.size)
 have e:termP p ⟨d,t,true⟩=mvP (underP p) 2 d t true:=rfl
 rw [e]
 clear e ht hp hu hul hfb hr
 have P:=Lib.hid P
 go_enter Tryz.func116,Tryz.ntmps116
 go_wp2_with fail
 generalize ((w.alloc (.cells #[.int .i64 d,.int .i64 t,.bool true] 100)).alloc (.cells #[.int .i64 1,.int .i64 0,.int .i64 d,.int .i64 t] 75))=W at *
 refine Calls.mono (hT W mv (P.out.below hW)).out ?_;rintro e w1 ⟨rfl,mv1,P1,hS1⟩
 obtain ⟨B3,n3⟩:=hS1.blk hB3 (by omega) hw3
 have c0:w1.cell? ⟨w.heap.size,0,none⟩=some (.int .i64 d):=B3.cell 0
 have c1:w1.cell? ⟨w.heap.size,1,none⟩=some (.int .i64 t):=B3.cell 1
 go_wp2_with fail
 refine Calls.mono (hD w1 mv1 P1).out ?_;rintro e w2 ⟨rfl,mv2,P2,hS2⟩
 have z6:w2.cell? ⟨g,6,none⟩=some (.bool false):=P2.bp.cell 6
 have zf:=P2.bp.frozen 6
 have P3:=P2.setEn hg true
 go_wp2
 refine bodyPost_ret (v:=.tuple #[]) (by simp [results,Tryz.results116,go_sem]) rfl ⟨rfl,mv2,P3,(((Spare.ofBelow hW).trans hS1).trans hS2).set⟩
theorem termFit_c {w0:World} {A1:Option Addr} {l1:List Int} {A2:Option Addr} {l2:List Int} (R:RuleIn w0 A1 l1 A2 l2) (L:Int) (c1 c2:Nat) (g:Nat) (sh cu:Int) (ms:List Move) (mv:Value) (d t:Int) (w:World)
  (P:PlAt w0 g L A1 l1.length c1 A2 l2.length c2 ⟨sh,cu,ms,true⟩ mv w) (hg:w0.heap.size ≤ g) (hp:okP ⟨sh,cu,ms,true⟩) (ht:termOK ⟨d,t,false⟩=true) (hr:ms.length ≤ 900) (hfit:fitsB sh d=true) :
  Calls Tryz.prog 116 #[.pointer (some ⟨g,0,none⟩),.agg #[.int .i64 d,.int .i64 t,.bool false]] w fun e w'=>e=.returned (.tuple #[])∧∃ mv',PlAt w0 g L A1 l1.length c1 A2 l2.length c2 (termP ⟨sh,cu,ms,true⟩ ⟨d,t,false⟩) mv' w'∧Spare w w' g mv mv':=by
 have hfb:=(term_bd ht).1
 simp only at hfb
 have hsB:=setB_fits d hp.1.1
 rw [hfit] at hsB
 have hC:=fun (W:World) mv (PW:PlAt w0 g L A1 l1.length c1 A2 l2.length c2 ⟨sh,cu,ms,true⟩ mv W)=>can_c g L A1 l1.length c1 A2 l2.length c2 sh cu mv true 1 0 d t sh (pointC d+sh) true W PW.bp (fun W' hW'=>by
  have:=movedC_c R L c1 c2 sh cu 1 d t (by omega) hp.1 (fun _=>hfb) W' (PW.hb.trans (hW'.mono PW.hb.size))
  rw [show moveS sh cu 1 (pointC d)=(sh,pointC d+sh) from rfl] at this
  simp only at this hsB
  rw [hsB] at this
  exact this)
 have hC:=fun W mv PW=>Lib.hid (hC W mv PW)
 have hD:=fun W mv PW=>Lib.hid (doP_c R L c1 c2 g ⟨sh,cu,ms,true⟩ mv 1 d t W PW hg (by omega) hp.1 (fun _=>hfb) (by simp only;omega))
 have hW:Below w.heap.size w ((w.alloc (.cells #[.int .i64 d,.int .i64 t,.bool false] 100)).alloc (.cells #[.int .i64 1,.int .i64 0,.int .i64 d,.int .i64 t] 75)):=(by repeat first | with_reducible (first | exact Below.refl _ _ | apply below_drewN' | apply Below.drew | refine Below.alloc ?_ ?_ _ | refine Below.setCell ?_ ?_ _) | exact Below.refl _ _ | omega | (simp <;> omega) | (have:=(Below.refl _ _).size;first | omega | (simp <;> omega)))
 have hB3:Blk ((w.alloc (.cells #[.int .i64 d,.int .i64 t,.bool false] 100)).alloc (.cells #[.int .i64 1,.int .i64 0,.int .i64 d,.int .i64 t] 75)) w.heap.size 100 #[.int .i64 d,.int .i64 t,.bool false]:=(Blk.new _ _ _).alloc _
 have hgl:=P.bp.lt
 have e:termP ⟨sh,cu,ms,true⟩ ⟨d,t,false⟩=mvP ⟨sh,cu,ms,true⟩ 1 d t false:=by
  unfold termP
  simp only [hfit]
  rfl
 rw [e]
 clear e ht hp hfb hr hfit hsB
 have k6:w.cell? ⟨g,6,none⟩=some (.bool true):=P.bp.cell 6
 have PW:=P.below hW
 clear P
 go_enter Tryz.func116,Tryz.ntmps116
 go_wp2_with fail
 generalize ((w.alloc (.cells #[.int .i64 d,.int .i64 t,.bool false] 100)).alloc (.cells #[.int .i64 1,.int .i64 0,.int .i64 d,.int .i64 t] 75))=W at *
 refine Calls.mono (hC W mv PW).out ?_;rintro e w1 ⟨rfl,hb1⟩
 have P1:=PW.below hb1
 have B3:=hB3.below hb1 hB3.lt
 have hW1:=hW.trans (hb1.mono hW.size)
 clear k6 PW
 have zz:=B3.lt
 have c0:w1.cell? ⟨w.heap.size,0,none⟩=some (.int .i64 d):=B3.cell 0
 have c1:w1.cell? ⟨w.heap.size,1,none⟩=some (.int .i64 t):=B3.cell 1
 go_wp2_with fail
 have P2:=P1.below (v':=w1.alloc (.cells #[.int .i64 sh,.int .i64 (pointC d+sh)] 104)) ((Below.refl _ _).alloc (Nat.le_refl _) _)
 have hW2:Below w.heap.size w (w1.alloc (.cells #[.int .i64 sh,.int .i64 (pointC d+sh)] 104)):=hW1.alloc hW1.size _
 clear c0 c1 B3 P1 hW1
 generalize w1.alloc (.cells #[.int .i64 sh,.int .i64 (pointC d+sh)] 104)=w3 at *
 refine Calls.mono (hD w3 mv P2).out ?_;rintro e w4 ⟨rfl,mv2,P4,hS4⟩
 have z6:w4.cell? ⟨g,6,none⟩=some (.bool true):=P4.bp.cell 6
 have zf:=P4.bp.frozen 6
 have P5:=P4.setEn hg false
 go_wp2
 refine bodyPost_ret (v:=.tuple #[]) (by simp [results,Tryz.results116,go_sem]) rfl ⟨rfl,mv2,P5,((Spare.ofBelow hW2).trans hS4).set⟩
end Go.Proofs.YtednjmldjbndhaaGreat
