/- The planner's methods can and do: they make a move on the planner's own memory. Conditions: the planner's block and its list of moves are known. -/
import Derived.Test.YtednjmldjbndhaaGreatKGr1
import Derived.Test.YtednjmldjbndhaaGreatKGr6
set_option linter.unusedSimpArgs false
set_option linter.unusedVariables false
set_option maxRecDepth 100000
set_option maxHeartbeats 8000000
namespace Go.Proofs.YtednjmldjbndhaaGreat
open Go.RowKit
theorem Move.one {l:List Move}:∀ y ∈ l.map Move.cells,∀ u ∈ y,u.oneCell'=true:=fun y hy u hu=>by
 obtain ⟨s,_,rfl⟩:=List.mem_map.1 hy
 simp [Move.cells] at hu
 repeat (first | (rcases hu with rfl | hu;rfl) | (subst hu;rfl))
theorem own_ne_blk {w:World} {base k:Nat} {e t:TypeId} {v:Value} {xs:List (List Value)} {g:Nat} {cs:Array Value} (h:Own w base e k v xs) (hB:Blk w g t cs) (hte:t ≠ e):some g ≠ v.ownBlock:=by
 rcases h.1.2 with ⟨rfl,_⟩ | ⟨g',cap,cur,rfl,_,hh,_⟩
 ·simp [Value.ownBlock]
 ·intro he
  simp only [Value.ownBlock,Option.some.injEq] at he
  subst he
  unfold Blk at hB
  rw [hB] at hh
  simp only [Option.some.injEq,Obj.cells.injEq] at hh
  exact hte hh.2.1
def plCells (L:Int) (A1:Option Addr) (n1 c1:Nat) (A2:Option Addr) (n2 c2:Nat) (sh cu:Int) (mv:Value) (en:Bool):Array Value :=
 #[.int .i64 L,.slice A1 n1 c1,.slice A2 n2 c2,.int .i64 sh,.int .i64 cu,mv,.bool en]
structure CanS (w0:World) (g:Nat) (L:Int) (A1:Option Addr) (n1 c1:Nat) (A2:Option Addr) (n2 c2:Nat) (sh cu:Int) (mv:Value) (en:Bool) (k s d t:Int) (v:World):Prop where
 hb:Below w0.heap.size w0 v
 bp:Blk v g 150 (plCells L A1 n1 c1 A2 n2 c2 sh cu mv en)
 bm:Blk v w0.heap.size 75 #[.int .i64 k,.int .i64 s,.int .i64 d,.int .i64 t]
 br:Blk v (w0.heap.size+1) 104 #[.int .i64 0,.int .i64 0]
section
variable {w0 v v' : World} {g : Nat} {L : Int} {A1 : Option Addr} {n1 c1 : Nat} {A2 : Option Addr} {n2 c2 : Nat} {sh cu : Int} {mv : Value} {en : Bool} {k s d t : Int}
theorem CanS.below (h:CanS w0 g L A1 n1 c1 A2 n2 c2 sh cu mv en k s d t v) (hb:Below v.heap.size v v'):CanS w0 g L A1 n1 c1 A2 n2 c2 sh cu mv en k s d t v' :=
 ⟨h.hb.trans (hb.mono h.hb.size),h.bp.below hb h.bp.lt,h.bm.below hb h.bm.lt,h.br.below hb h.br.lt⟩
theorem CanS.drew (h:CanS w0 g L A1 n1 c1 A2 n2 c2 sh cu mv en k s d t v):CanS w0 g L A1 n1 c1 A2 n2 c2 sh cu mv en k s d t v.drew:=⟨h.hb.drew,h.bp,h.bm,h.br⟩
end
theorem can_c (g:Nat) (L:Int) (A1:Option Addr) (n1 c1:Nat) (A2:Option Addr) (n2 c2:Nat) (sh cu:Int) (mv:Value) (en:Bool) (k s d t a b:Int) (ok:Bool) (w:World)
  (hB:Blk w g 150 (plCells L A1 n1 c1 A2 n2 c2 sh cu mv en))
  (HM:∀ W,Below w.heap.size w W→Hid (Calls Tryz.prog 171 #[.agg #[.int .i64 L,.slice A1 n1 c1,.slice A2 n2 c2],.agg #[.int .i64 sh,.int .i64 cu],.agg #[.int .i64 k,.int .i64 s,.int .i64 d,.int .i64 t]] W fun e w'=>e=.returned (.tuple #[.agg #[.int .i64 a,.int .i64 b],.bool ok])∧Below W.heap.size W w')) :
  Calls Tryz.prog 170 #[.pointer (some ⟨g,0,none⟩),.agg #[.int .i64 k,.int .i64 s,.int .i64 d,.int .i64 t]] w fun e w'=>e=.returned (.tuple #[.agg #[.int .i64 a,.int .i64 b],.bool ok])∧Below w.heap.size w w':=by
 have HM:=Lib.hid HM
 have hC0:CanS w g L A1 n1 c1 A2 n2 c2 sh cu mv en k s d t ((w.alloc (.cells #[.int .i64 k,.int .i64 s,.int .i64 d,.int .i64 t] 75)).alloc (.cells #[.int .i64 0,.int .i64 0] 104)) :=
  ⟨(by repeat first | with_reducible (first | exact Below.refl _ _ | apply below_drewN' | apply Below.drew | refine Below.alloc ?_ ?_ _ | refine Below.setCell ?_ ?_ _) | exact Below.refl _ _ | omega | (simp <;> omega) | (have:=(Below.refl _ _).size;first | omega | (simp <;> omega))),(hB.alloc _).alloc _,(Blk.new _ _ _).alloc _,Blk.new' _ _ _ (by simp)⟩
 clear hB
 go_enter Tryz.func170,Tryz.ntmps170
 go_wp2_with fail
 generalize ((w.alloc (.cells #[.int .i64 k,.int .i64 s,.int .i64 d,.int .i64 t] 75)).alloc (.cells #[.int .i64 0,.int .i64 0] 104))=W at *
 refine wp_region_sink 12 (fun a0 fL bA v=>∃ v6 v7 v8 v9 v10 v11 v12 v13 v14 v15 v16 v17:Value,bA=(((((((((((a0.put (some 6) v6).put (some 7) v7).put (some 8) v8).put (some 9) v9).put (some 10) v10).put (some 11) v11).put (some 12) v12).put (some 13) v13).put (some 14) v14).put (some 15) v15).put (some 16) v16).put (some 17) v17∧CanS w g L A1 n1 c1 A2 n2 c2 sh cu mv en k s d t v∧(fL 0=true→v6=.pointer (some ⟨g,0,none⟩))∧(fL 1=true→v7=.pointer (some ⟨g,0,none⟩))∧(fL 2=true→v8=.pointer (some ⟨g,0,none⟩))∧(fL 3=true→v9=.agg #[.int .i64 L,.slice A1 n1 c1,.slice A2 n2 c2])∧(fL 4=true→v10=.pointer (some ⟨g,0,none⟩))∧(fL 5=true→v11=.pointer (some ⟨g,0,none⟩))∧(fL 6=true→v12=.pointer (some ⟨g,3,none⟩))∧(fL 7=true→v13=.agg #[.int .i64 sh,.int .i64 cu])∧(fL 8=true→v14=.agg #[.int .i64 k,.int .i64 s,.int .i64 d,.int .i64 t])∧(fL 9=true→v15=.tuple #[.agg #[.int .i64 a,.int .i64 b],.bool ok])∧(fL 10=true→v16=.agg #[.int .i64 a,.int .i64 b])∧(fL 11=true→v17=.bool ok)) (by kernel_rfl) (by decide +kernel) ?_ ?_ ?_
 ·exact ⟨undef,undef,undef,undef,undef,undef,undef,undef,undef,undef,undef,undef,by simp only [Act.put,List.setIfInBounds_toArray,List.set_cons_zero,List.set_cons_succ],hC0.drew,nofun,nofun,nofun,nofun,nofun,nofun,nofun,nofun,nofun,nofun,nofun,nofun⟩
 ·rintro fL bA v ⟨v6,v7,v8,v9,v10,v11,v12,v13,v14,v15,v16,v17,rfl,hS,q0,q1,q2,q3,q4,q5,q6,q7,q8,q9,q10,q11⟩ i hi hf o ho hall
  simp only [Act.put,List.setIfInBounds_toArray,List.set_cons_zero,List.set_cons_succ]
  have hn:i=0 ∨ i=1 ∨ i=2 ∨ i=3 ∨ i=4 ∨ i=5 ∨ i=6 ∨ i=7 ∨ i=8 ∨ i=9 ∨ i=10 ∨ i=11:=by omega
  clear hi
  rcases hn with rfl | rfl | rfl | rfl | rfl | rfl | rfl | rfl | rfl | rfl | rfl | rfl
  ·obtain rfl:=Option.some.inj ho
   clear hall ho
   refine wpOp_step rfl (fun K hK=>?_)
   go_simp
   exact hK _ _ ⟨_,_,_,_,_,_,_,_,_,_,_,_,rfl,hS,fun _=>rfl,q1,q2,q3,q4,q5,q6,q7,q8,q9,q10,q11⟩
  ·obtain rfl:=Option.some.inj ho
   obtain rfl:=q0 (hall ⟨0,.data⟩ (by simp) rfl)
   clear hall ho
   refine wpOp_step rfl (fun K hK=>?_)
   go_simp
   exact hK _ _ ⟨_,_,_,_,_,_,_,_,_,_,_,_,rfl,hS,fun _=>rfl,fun _=>rfl,q2,q3,q4,q5,q6,q7,q8,q9,q10,q11⟩
  ·obtain rfl:=Option.some.inj ho
   obtain rfl:=q1 (hall ⟨1,.data⟩ (by simp) rfl)
   clear hall ho
   refine wpOp_step rfl (fun K hK=>?_)
   go_simp
   exact hK _ _ ⟨_,_,_,_,_,_,_,_,_,_,_,_,rfl,hS,q0,fun _=>rfl,fun _=>rfl,q3,q4,q5,q6,q7,q8,q9,q10,q11⟩
  ·obtain rfl:=Option.some.inj ho
   obtain rfl:=q2 (hall ⟨2,.data⟩ (by simp) rfl)
   have c0:v.cell? ⟨g,0,none⟩=some (.int .i64 L):=hS.bp.cell 0
   have c1:v.cell? ⟨g,1,none⟩=some (.slice A1 n1 c1):=hS.bp.cell 1
   have c2:v.cell? ⟨g,2,none⟩=some (.slice A2 n2 c2):=hS.bp.cell 2
   clear hall ho
   refine wpOp_step rfl (fun K hK=>?_)
   go_simp
   exact hK _ _ ⟨_,_,_,_,_,_,_,_,_,_,_,_,rfl,hS,q0,q1,fun _=>rfl,fun _=>rfl,q4,q5,q6,q7,q8,q9,q10,q11⟩
  ·obtain rfl:=Option.some.inj ho
   clear hall ho
   refine wpOp_step rfl (fun K hK=>?_)
   go_simp
   exact hK _ _ ⟨_,_,_,_,_,_,_,_,_,_,_,_,rfl,hS,q0,q1,q2,q3,fun _=>rfl,q5,q6,q7,q8,q9,q10,q11⟩
  ·obtain rfl:=Option.some.inj ho
   obtain rfl:=q4 (hall ⟨4,.data⟩ (by simp) rfl)
   clear hall ho
   refine wpOp_step rfl (fun K hK=>?_)
   go_simp
   exact hK _ _ ⟨_,_,_,_,_,_,_,_,_,_,_,_,rfl,hS,q0,q1,q2,q3,fun _=>rfl,fun _=>rfl,q6,q7,q8,q9,q10,q11⟩
  ·obtain rfl:=Option.some.inj ho
   obtain rfl:=q5 (hall ⟨5,.data⟩ (by simp) rfl)
   clear hall ho
   refine wpOp_step rfl (fun K hK=>?_)
   go_simp
   exact hK _ _ ⟨_,_,_,_,_,_,_,_,_,_,_,_,rfl,hS,q0,q1,q2,q3,q4,fun _=>rfl,fun _=>rfl,q7,q8,q9,q10,q11⟩
  ·obtain rfl:=Option.some.inj ho
   obtain rfl:=q6 (hall ⟨6,.data⟩ (by simp) rfl)
   have c0:v.cell? ⟨g,3,none⟩=some (.int .i64 sh):=hS.bp.cell 3
   have c1:v.cell? ⟨g,4,none⟩=some (.int .i64 cu):=hS.bp.cell 4
   clear hall ho
   refine wpOp_step rfl (fun K hK=>?_)
   go_simp
   exact hK _ _ ⟨_,_,_,_,_,_,_,_,_,_,_,_,rfl,hS,q0,q1,q2,q3,q4,q5,fun _=>rfl,fun _=>rfl,q8,q9,q10,q11⟩
  ·obtain rfl:=Option.some.inj ho
   have c0:v.cell? ⟨w.heap.size,0,none⟩=some (.int .i64 k):=hS.bm.cell 0
   have c1:v.cell? ⟨w.heap.size,1,none⟩=some (.int .i64 s):=hS.bm.cell 1
   have c2:v.cell? ⟨w.heap.size,2,none⟩=some (.int .i64 d):=hS.bm.cell 2
   have c3:v.cell? ⟨w.heap.size,3,none⟩=some (.int .i64 t):=hS.bm.cell 3
   clear hall ho
   refine wpOp_step rfl (fun K hK=>?_)
   go_simp
   exact hK _ _ ⟨_,_,_,_,_,_,_,_,_,_,_,_,rfl,hS,q0,q1,q2,q3,q4,q5,q6,q7,fun _=>rfl,q9,q10,q11⟩
  ·obtain rfl:=Option.some.inj ho
   obtain rfl:=q3 (hall ⟨3,.data⟩ (by simp) rfl)
   obtain rfl:=q7 (hall ⟨7,.data⟩ (by simp) rfl)
   obtain rfl:=q8 (hall ⟨8,.data⟩ (by simp) rfl)
   clear hall ho
   refine wpOp_step rfl (fun K hK=>?_)
   go_simp
   refine Calls.mono ((HM.out _ hS.hb).out) ?_;rintro e w1 ⟨rfl,hb1⟩
   go_simp
   exact hK _ _ ⟨_,_,_,_,_,_,_,_,_,_,_,_,rfl,hS.below hb1,q0,q1,q2,fun _=>rfl,q4,q5,q6,fun _=>rfl,fun _=>rfl,fun _=>rfl,q10,q11⟩
  ·obtain rfl:=Option.some.inj ho
   obtain rfl:=q9 (hall ⟨9,.data⟩ (by simp) rfl)
   clear hall ho
   refine wpOp_step rfl (fun K hK=>?_)
   go_simp
   exact hK _ _ ⟨_,_,_,_,_,_,_,_,_,_,_,_,rfl,hS,q0,q1,q2,q3,q4,q5,q6,q7,q8,fun _=>rfl,fun _=>rfl,q11⟩
  ·obtain rfl:=Option.some.inj ho
   obtain rfl:=q9 (hall ⟨9,.data⟩ (by simp) rfl)
   clear hall ho
   refine wpOp_step rfl (fun K hK=>?_)
   go_simp
   exact hK _ _ ⟨_,_,_,_,_,_,_,_,_,_,_,_,rfl,hS,q0,q1,q2,q3,q4,q5,q6,q7,q8,fun _=>rfl,q10,fun _=>rfl⟩
 ·rintro fL bA v ⟨v6,v7,v8,v9,v10,v11,v12,v13,v14,v15,v16,v17,rfl,hS,q0,q1,q2,q3,q4,q5,q6,q7,q8,q9,q10,q11⟩ hall
  simp only [Act.put,List.setIfInBounds_toArray,List.set_cons_zero,List.set_cons_succ]
  obtain rfl:=q0 (hall 0 (by omega))
  obtain rfl:=q1 (hall 1 (by omega))
  obtain rfl:=q2 (hall 2 (by omega))
  obtain rfl:=q3 (hall 3 (by omega))
  obtain rfl:=q4 (hall 4 (by omega))
  obtain rfl:=q5 (hall 5 (by omega))
  obtain rfl:=q6 (hall 6 (by omega))
  obtain rfl:=q7 (hall 7 (by omega))
  obtain rfl:=q8 (hall 8 (by omega))
  obtain rfl:=q9 (hall 9 (by omega))
  obtain rfl:=q10 (hall 10 (by omega))
  obtain rfl:=q11 (hall 11 (by omega))
  clear hall
  simp only [List.drop_succ_cons,List.drop_zero]
  have x60:v.cell? ⟨w.heap.size+1,0,none⟩=some (.int .i64 0):=hS.br.cell 0
  have x61:v.cell? ⟨w.heap.size+1,1,none⟩=some (.int .i64 0):=hS.br.cell 1
  have xf0:=hS.br.frozen 0
  have xf1:=hS.br.frozen 1
  have hB3:=hS.hb
  go_wp2
  refine bodyPost_ret (v:=.tuple #[.agg #[.int .i64 a,.int .i64 b],.bool ok]) (by simp [results,Tryz.results170,go_sem,x60,x61]) rfl ⟨rfl,(by repeat first | with_reducible (first | exact hB3 | apply below_drewN' | apply Below.drew | refine Below.alloc ?_ ?_ _ | refine Below.setCell ?_ ?_ _) | exact hB3 | omega | (simp <;> omega) | (have:=(hB3).size;first | omega | (simp <;> omega)))⟩
structure Spare (w w':World) (g:Nat) (mv mv':Value):Prop where
 sz:w.heap.size ≤ w'.heap.size
 keep:∀ bl,bl < w.heap.size→bl ≠ g→some bl ≠ mv.ownBlock→w'.heap[bl]?=w.heap[bl]?∧some bl ≠ mv'.ownBlock
theorem Spare.refl (w:World) (g:Nat) (mv:Value):Spare w w g mv mv:=⟨Nat.le_refl _,fun _ _ _ h=>⟨rfl,h⟩⟩
theorem Spare.trans {w w' w'':World} {g:Nat} {m m' m'':Value} (h:Spare w w' g m m') (h':Spare w' w'' g m' m''):Spare w w'' g m m'' :=
 ⟨Nat.le_trans h.sz h'.sz,fun bl h1 h2 h3=>by
  obtain ⟨k1,k2⟩:=h.keep bl h1 h2 h3
  obtain ⟨k3,k4⟩:=h'.keep bl (Nat.lt_of_lt_of_le h1 h.sz) h2 k2
  exact ⟨k3.trans k1,k4⟩⟩
theorem Spare.ofBelow {w w':World} {g:Nat} {mv:Value} (h:Below w.heap.size w w'):Spare w w' g mv mv:=⟨h.size,fun bl h1 _ h3=>⟨h.block bl h1,h3⟩⟩
theorem Spare.set {w w':World} {g j:Nat} {mv mv' u:Value} (h:Spare w w' g mv mv'):Spare w (w'.setCell ⟨g,j,none⟩ u) g mv mv' :=
 ⟨by simpa using h.sz,fun bl h1 h2 h3=>⟨(Below.heap_setCell w' ⟨g,j,none⟩ u bl h2).trans (h.keep bl h1 h2 h3).1,(h.keep bl h1 h2 h3).2⟩⟩
theorem Spare.alloc {w v:World} {g:Nat} {m m':Value} {o:Obj} (h:Spare w v g m m'):Spare w (v.alloc o) g m m' :=
 ⟨Nat.le_trans h.sz (by simp),fun bl h1 h2 h3=>⟨(Below.heap_alloc v o bl (Nat.lt_of_lt_of_le h1 h.sz)).trans (h.keep bl h1 h2 h3).1,(h.keep bl h1 h2 h3).2⟩⟩
theorem Spare.grown {w v w':World} {g:Nat} {mv v':Value} (h:Spare w v g mv mv) (hg:v.grownBy w' mv.ownBlock) (hat:v'.ownBlock=mv.ownBlock ∨ v'.ownBlock=some v.heap.size):Spare w w' g mv v' :=
 ⟨Nat.le_trans h.sz hg.size,fun bl h1 h2 h3=>⟨(hg.block bl (Nat.lt_of_lt_of_le h1 h.sz) h3).trans (h.keep bl h1 h2 h3).1,by
  rcases hat with e | e
  ·rw [e];exact h3
  ·rw [e];intro e';have:=h.sz;simp only [Option.some.injEq] at e';omega⟩⟩
structure DoS (w0:World) (base g gm:Nat) (pc:Array Value) (mv:Value) (rows:List (List Value)) (k d t:Int) (b4 b5:Bool) (v25 v26:Value) (v:World):Prop where
 hb:Below base w0 v
 sz:w0.heap.size ≤ v.heap.size
 bp:Blk v g 150 pc
 bm:Blk v gm 75 #[.int .i64 k,.int .i64 0,.int .i64 d,.int .i64 t]
 own:b5=false→Own v base 75 4 mv rows
 q4:b4=true→b5=false→∃ gb,v25=.slice (some ⟨gb,0,none⟩) 1 1∧Blk v gb 75 #[.int .i64 k,.int .i64 0,.int .i64 d,.int .i64 t]
 q5:b5=true→Own v base 75 4 v26 (rows ++ [[.int .i64 k,.int .i64 0,.int .i64 d,.int .i64 t]])
 dd:b5=true→b4=true
 sp:Spare w0 v g mv (if b5=true then v26 else mv)
section
variable {w0 v : World} {base g gm : Nat} {pc : Array Value} {mv : Value} {rows : List (List Value)} {k d t : Int} {b4 b5 : Bool} {v25 v26 : Value}
theorem DoS.drew (h:DoS w0 base g gm pc mv rows k d t b4 b5 v25 v26 v):DoS w0 base g gm pc mv rows k d t b4 b5 v25 v26 v.drew:=⟨h.hb.drew,h.sz,h.bp,h.bm,h.own,h.q4,h.q5,h.dd,⟨h.sp.sz,h.sp.keep⟩⟩
theorem DoS.lit (h:DoS w0 base g gm pc mv rows k d t b4 b5 v25 v26 v) (h5:b5=false) (hb:base ≤ w0.heap.size) :
  DoS w0 base g gm pc mv rows k d t true b5 (.slice (some ⟨v.heap.size,0,none⟩) 1 1) v26 (v.alloc (.cells #[.int .i64 k,.int .i64 0,.int .i64 d,.int .i64 t] 75)) :=
 ⟨h.hb.alloc (Nat.le_trans hb h.sz) _,by simp;exact Nat.le_succ_of_le h.sz,h.bp.alloc _,h.bm.alloc _,fun e=>(h.own e).alloc _,fun _ _=>⟨_,rfl,Blk.new _ _ _⟩,fun e=>(by rw [h5] at e;cases e),fun _=>rfl,h.sp.alloc⟩
theorem DoS.app {v':Value} {w':World} (h:DoS w0 base g gm pc mv rows k d t b4 b5 v25 v26 v) (hb:base ≤ w0.heap.size) (h5:b5=false) (h4:b4=true) (hO:Own w' base 75 4 v' (rows ++ [[.int .i64 k,.int .i64 0,.int .i64 d,.int .i64 t]])) (hg:v.grownBy w' mv.ownBlock)
  (hne:some gm ≠ mv.ownBlock) (hat:v'.ownBlock=mv.ownBlock ∨ v'.ownBlock=some v.heap.size):DoS w0 base g gm pc mv rows k d t b4 true v25 v' w' :=
 ⟨below_app h.hb hg (Nat.le_trans hb h.sz) (h.own h5).ownGe,Nat.le_trans h.sz hg.size,(hg.block g h.bp.lt (own_ne_blk (h.own h5) h.bp (by decide))).trans h.bp,(hg.block gm h.bm.lt hne).trans h.bm,nofun,nofun,fun _=>hO,fun _=>h4,by
  have hs:=h.sp
  rw [h5] at hs
  exact hs.grown hg hat⟩
end
theorem do_c (base g:Nat) (L:Int) (A1:Option Addr) (n1 c1:Nat) (A2:Option Addr) (n2 c2:Nat) (sh cu:Int) (mv:Value) (rows:List (List Value)) (en:Bool) (k d t a b:Int) (ok:Bool) (w:World)
  (hB:Blk w g 150 (plCells L A1 n1 c1 A2 n2 c2 sh cu mv en)) (hO:Own w base 75 4 mv rows) (hg:base ≤ g) (hr:rows.length ≤ 1000)
  (HM:∀ W,Below w.heap.size w W→Hid (Calls Tryz.prog 171 #[.agg #[.int .i64 L,.slice A1 n1 c1,.slice A2 n2 c2],.agg #[.int .i64 sh,.int .i64 cu],.agg #[.int .i64 k,.int .i64 0,.int .i64 d,.int .i64 t]] W fun e w'=>e=.returned (.tuple #[.agg #[.int .i64 a,.int .i64 b],.bool ok])∧Below W.heap.size W w')) :
  Calls Tryz.prog 115 #[.pointer (some ⟨g,0,none⟩),.int .i64 k,.agg #[.int .i64 d,.int .i64 t]] w fun e w'=>e=.returned (.tuple #[])∧∃ mv',Blk w' g 150 (plCells L A1 n1 c1 A2 n2 c2 a b mv' en)∧Own w' base 75 4 mv' (rows ++ [[.int .i64 k,.int .i64 0,.int .i64 d,.int .i64 t]])∧Below base w w'∧Spare w w' g mv mv':=by
 obtain ⟨i0,hi0,hz0,hz1,hz2⟩:=info_parts info_Move
 have hwb:base ≤ w.heap.size:=by have:=hB.lt;omega
 have HC:=fun W hb hm=>Lib.hid (can_c g L A1 n1 c1 A2 n2 c2 sh cu mv en k 0 d t a b ok W hb hm)
 have HM:=Lib.hid HM
 have Hr:=Lib.hid hr;clear hr
 have hOw:=Lib.hid hO
 have hbw:Below base w w:=Below.refl _ _
 go_enter Tryz.func115,Tryz.ntmps115
 go_wp2_with fail
 have hW:Below w.heap.size w ((w.alloc (.cells #[.int .i64 d,.int .i64 t] 51)).alloc (.cells #[.int .i64 k,.int .i64 0,.int .i64 d,.int .i64 t] 75)):=(by repeat first | with_reducible (first | exact Below.refl _ _ | apply below_drewN' | apply Below.drew | refine Below.alloc ?_ ?_ _ | refine Below.setCell ?_ ?_ _) | exact Below.refl _ _ | omega | (simp <;> omega) | (have:=(Below.refl _ _).size;first | omega | (simp <;> omega)))
 have hBW:Blk ((w.alloc (.cells #[.int .i64 d,.int .i64 t] 51)).alloc (.cells #[.int .i64 k,.int .i64 0,.int .i64 d,.int .i64 t] 75)) g 150 (plCells L A1 n1 c1 A2 n2 c2 sh cu mv en):=(hB.alloc _).alloc _
 have hOW:Own ((w.alloc (.cells #[.int .i64 d,.int .i64 t] 51)).alloc (.cells #[.int .i64 k,.int .i64 0,.int .i64 d,.int .i64 t] 75)) base 75 4 mv rows:=(hO.alloc _).alloc _
 have hMW:Blk ((w.alloc (.cells #[.int .i64 d,.int .i64 t] 51)).alloc (.cells #[.int .i64 k,.int .i64 0,.int .i64 d,.int .i64 t] 75)) (w.heap.size+1) 75 #[.int .i64 k,.int .i64 0,.int .i64 d,.int .i64 t]:=Blk.new' _ _ _ (by simp)
 generalize ((w.alloc (.cells #[.int .i64 d,.int .i64 t] 51)).alloc (.cells #[.int .i64 k,.int .i64 0,.int .i64 d,.int .i64 t] 75))=W at *
 have hWs:=hW.size
 refine Calls.mono (HC W hBW (fun W' hb'=>HM.out W' (hW.trans (hb'.mono hWs)))).out ?_;rintro e w1 ⟨rfl,hb1⟩
 have hB1:=hBW.below hb1 hBW.lt
 have hO1:=hOW.below hb1
 have hM1:=hMW.below hb1 hMW.lt
 have hW1:=hW.trans (hb1.mono hWs)
 clear hBW hOW hMW HC HM hb1 hB hO hW
 have g3:w1.cell? ⟨g,3,none⟩=some (.int .i64 sh):=hB1.cell 3
 have g4:w1.cell? ⟨g,4,none⟩=some (.int .i64 cu):=hB1.cell 4
 have gf3:=hB1.frozen 3
 have gf4:=hB1.frozen 4
 go_wp2_with fail
 have hB2:Blk ((w1.setCell ⟨g,3,none⟩ (.int .i64 a)).setCell ⟨g,4,none⟩ (.int .i64 b)) g 150 (plCells L A1 n1 c1 A2 n2 c2 a b mv en):=(hB1.set_ 3 (.int .i64 a)).set_ 4 (.int .i64 b)
 have hne:some g ≠ mv.ownBlock:=own_ne_blk hO1 hB1 (by decide)
 have hgr:w1.grownBy ((w1.setCell ⟨g,3,none⟩ (.int .i64 a)).setCell ⟨g,4,none⟩ (.int .i64 b)) (some g):=grownBy_stores [_,_] 3 (World.grownBy.refl _ _)
 have hO2:Own ((w1.setCell ⟨g,3,none⟩ (.int .i64 a)).setCell ⟨g,4,none⟩ (.int .i64 b)) base 75 4 mv rows:=hO1.kept hgr (.inr (Ne.symm hne))
 have hgm:g ≠ w.heap.size+1:=by
  intro e
  have h1:=hB1
  have h2:=hM1
  unfold Blk at h1 h2
  rw [e,h2] at h1
  simp at h1
 have hM2:Blk ((w1.setCell ⟨g,3,none⟩ (.int .i64 a)).setCell ⟨g,4,none⟩ (.int .i64 b)) (w.heap.size+1) 75 #[.int .i64 k,.int .i64 0,.int .i64 d,.int .i64 t]:=(hM1.far (Ne.symm hgm) _).far (Ne.symm hgm) _
 have hW2:Below base w ((w1.setCell ⟨g,3,none⟩ (.int .i64 a)).setCell ⟨g,4,none⟩ (.int .i64 b)):=((hW1.mono hwb).setCell hg _).setCell hg _
 have hSp2:Spare w ((w1.setCell ⟨g,3,none⟩ (.int .i64 a)).setCell ⟨g,4,none⟩ (.int .i64 b)) g mv mv:=((Spare.ofBelow hW1).set).set
 have hs2:w.heap.size ≤ ((w1.setCell ⟨g,3,none⟩ (.int .i64 a)).setCell ⟨g,4,none⟩ (.int .i64 b)).heap.size:=by simpa using hW1.size
 clear g3 g4 gf3 gf4 hgr hB1 hO1 hM1 hW1 hne
 generalize (w1.setCell ⟨g,3,none⟩ (.int .i64 a)).setCell ⟨g,4,none⟩ (.int .i64 b)=w2 at *
 have hD0:DoS w base g (w.heap.size+1) (plCells L A1 n1 c1 A2 n2 c2 a b mv en) mv rows k d t false false undef undef w2:=⟨hW2,hs2,hB2,hM2,fun _=>hO2,nofun,nofun,nofun,hSp2⟩
 have hlo:base ≤ w.heap.size:=hwb
 have hgmv:some (w.heap.size+1) ≠ mv.ownBlock:=fun e=>by
  have:=(hOw.out.1.lt _ e.symm).2
  omega
 refine wp_region_sink 10 (fun a0 fL bA v=>∃ v19 v20 v21 v22 v23 v24 v25 v26 v27 v28:Value,bA=(((((((((a0.put (some 19) v19).put (some 20) v20).put (some 21) v21).put (some 22) v22).put (some 23) v23).put (some 24) v24).put (some 25) v25).put (some 26) v26).put (some 27) v27).put (some 28) v28∧DoS w base g (w.heap.size+1) (plCells L A1 n1 c1 A2 n2 c2 a b mv en) mv rows k d t (fL 6) (fL 7) v25 v26 v∧(fL 0=true→v19=.pointer (some ⟨g,0,none⟩))∧(fL 1=true→v20=.pointer (some ⟨g,0,none⟩))∧(fL 2=true→v21=.pointer (some ⟨g,0,none⟩))∧(fL 3=true→v22=.pointer (some ⟨g,5,none⟩))∧(fL 4=true→v23=mv)∧(fL 5=true→v24=.agg #[.int .i64 k,.int .i64 0,.int .i64 d,.int .i64 t])∧(fL 6=true→True)∧(fL 7=true→True)∧(fL 8=true→v27=.pointer (some ⟨g,0,none⟩))∧(fL 9=true→v28=.pointer (some ⟨g,5,none⟩))) (by kernel_rfl) (by decide +kernel) ?_ ?_ ?_
 ·exact ⟨undef,undef,undef,undef,undef,undef,undef,undef,undef,undef,by simp only [Act.put,List.setIfInBounds_toArray,List.set_cons_zero,List.set_cons_succ],hD0.drew,nofun,nofun,nofun,nofun,nofun,nofun,nofun,nofun,nofun,nofun⟩
 ·rintro fL bA v ⟨v19,v20,v21,v22,v23,v24,v25,v26,v27,v28,rfl,hS,q0,q1,q2,q3,q4,q5,q6,q7,q8,q9⟩ i hi hf o ho hall
  simp only [Act.put,List.setIfInBounds_toArray,List.set_cons_zero,List.set_cons_succ]
  have hn:i=0 ∨ i=1 ∨ i=2 ∨ i=3 ∨ i=4 ∨ i=5 ∨ i=6 ∨ i=7 ∨ i=8 ∨ i=9:=by omega
  clear hi
  rcases hn with rfl | rfl | rfl | rfl | rfl | rfl | rfl | rfl | rfl | rfl
  ·obtain rfl:=Option.some.inj ho
   clear hall ho
   refine wpOp_step rfl (fun K hK=>?_)
   go_simp
   exact hK _ _ ⟨_,_,_,_,_,_,_,_,_,_,rfl,hS,fun _=>rfl,q1,q2,q3,q4,q5,fun _=>trivial,fun _=>trivial,q8,q9⟩
  ·obtain rfl:=Option.some.inj ho
   clear hall ho
   refine wpOp_step rfl (fun K hK=>?_)
   go_simp
   exact hK _ _ ⟨_,_,_,_,_,_,_,_,_,_,rfl,hS,q0,fun _=>rfl,q2,q3,q4,q5,fun _=>trivial,fun _=>trivial,q8,q9⟩
  ·obtain rfl:=Option.some.inj ho
   obtain rfl:=q1 (hall ⟨1,.data⟩ (by simp) rfl)
   clear hall ho
   refine wpOp_step rfl (fun K hK=>?_)
   go_simp
   exact hK _ _ ⟨_,_,_,_,_,_,_,_,_,_,rfl,hS,q0,fun _=>rfl,fun _=>rfl,q3,q4,q5,fun _=>trivial,fun _=>trivial,q8,q9⟩
  ·obtain rfl:=Option.some.inj ho
   obtain rfl:=q2 (hall ⟨2,.data⟩ (by simp) rfl)
   clear hall ho
   refine wpOp_step rfl (fun K hK=>?_)
   go_simp
   exact hK _ _ ⟨_,_,_,_,_,_,_,_,_,_,rfl,hS,q0,q1,fun _=>rfl,fun _=>rfl,q4,q5,fun _=>trivial,fun _=>trivial,q8,q9⟩
  ·obtain rfl:=Option.some.inj ho
   obtain rfl:=q3 (hall ⟨3,.data⟩ (by simp) rfl)
   have c0:v.cell? ⟨g,5,none⟩=some mv:=hS.bp.cell 5
   clear hall ho
   refine wpOp_step rfl (fun K hK=>?_)
   go_simp
   exact hK _ _ ⟨_,_,_,_,_,_,_,_,_,_,rfl,hS,q0,q1,q2,fun _=>rfl,fun _=>rfl,q5,fun _=>trivial,fun _=>trivial,q8,q9⟩
  ·obtain rfl:=Option.some.inj ho
   have c0:v.cell? ⟨w.heap.size+1,0,none⟩=some (.int .i64 k):=hS.bm.cell 0
   have c1:v.cell? ⟨w.heap.size+1,1,none⟩=some (.int .i64 0):=hS.bm.cell 1
   have c2:v.cell? ⟨w.heap.size+1,2,none⟩=some (.int .i64 d):=hS.bm.cell 2
   have c3:v.cell? ⟨w.heap.size+1,3,none⟩=some (.int .i64 t):=hS.bm.cell 3
   clear hall ho
   refine wpOp_step rfl (fun K hK=>?_)
   go_simp
   exact hK _ _ ⟨_,_,_,_,_,_,_,_,_,_,rfl,hS,q0,q1,q2,q3,q4,fun _=>rfl,fun _=>trivial,fun _=>trivial,q8,q9⟩
  ·obtain rfl:=Option.some.inj ho
   obtain rfl:=q5 (hall ⟨5,.data⟩ (by simp) rfl)
   have h7:fL 7=false:=by cases h:fL 7 with | false=>rfl | true=>exact absurd (hS.dd h) (by rw [hf];simp)
   clear hall ho
   refine wpOp_step rfl (fun K hK=>?_)
   go_simp
   exact hK _ _ ⟨_,_,_,_,_,_,_,_,_,_,rfl,hS.lit h7 hlo,q0,q1,q2,q3,q4,fun _=>rfl,fun _=>trivial,fun _=>trivial,q8,q9⟩
  ·obtain rfl:=Option.some.inj ho
   obtain rfl:=q4 (hall ⟨4,.data⟩ (by simp) rfl)
   have e6:fL 6=true:=hall ⟨6,.data⟩ (by simp) rfl
   clear hall ho
   refine wpOp_step rfl (fun K hK=>?_)
   obtain ⟨gb,rfl,Bb⟩:=hS.q4 e6 hf
   refine step_append_rows _ rfl _ _ _ rfl base 75 i0 _ 4 32 Tryz.underlying49 hi0 hz0 hz1 hz2 rfl (by omega) _ rows rfl (hS.own hf) _ _ _ _ [[.int .i64 k,.int .i64 0,.int .i64 d,.int .i64 t]] rfl rfl (Sl.of_blk Bb _ rfl (by simp)) (by simp [Value.oneCell']) (by have:=Hr.out;unfold maxLen;omega) (by have:=Hr.out;omega) (Nat.le_trans hlo hS.sz) ?_
   intro v' w' hO' hg' hat
   exact hK _ _ ⟨_,_,_,_,_,_,_,_,_,_,rfl,hS.app hlo hf e6 hO' hg' hgmv hat,q0,q1,q2,q3,fun _=>rfl,q5,fun _=>trivial,fun _=>trivial,q8,q9⟩
  ·obtain rfl:=Option.some.inj ho
   obtain rfl:=q0 (hall ⟨0,.data⟩ (by simp) rfl)
   clear hall ho
   refine wpOp_step rfl (fun K hK=>?_)
   go_simp
   exact hK _ _ ⟨_,_,_,_,_,_,_,_,_,_,rfl,hS,fun _=>rfl,q1,q2,q3,q4,q5,fun _=>trivial,fun _=>trivial,fun _=>rfl,q9⟩
  ·obtain rfl:=Option.some.inj ho
   obtain rfl:=q8 (hall ⟨8,.data⟩ (by simp) rfl)
   clear hall ho
   refine wpOp_step rfl (fun K hK=>?_)
   go_simp
   exact hK _ _ ⟨_,_,_,_,_,_,_,_,_,_,rfl,hS,q0,q1,q2,q3,q4,q5,fun _=>trivial,fun _=>trivial,fun _=>rfl,fun _=>rfl⟩
 ·rintro fL bA v ⟨v19,v20,v21,v22,v23,v24,v25,v26,v27,v28,rfl,hS,q0,q1,q2,q3,q4,q5,q6,q7,q8,q9⟩ hall
  simp only [Act.put,List.setIfInBounds_toArray,List.set_cons_zero,List.set_cons_succ]
  obtain rfl:=q0 (hall 0 (by omega))
  obtain rfl:=q1 (hall 1 (by omega))
  obtain rfl:=q2 (hall 2 (by omega))
  obtain rfl:=q3 (hall 3 (by omega))
  obtain rfl:=q4 (hall 4 (by omega))
  obtain rfl:=q5 (hall 5 (by omega))
  have e6:fL 6=true:=hall 6 (by omega)
  have e7:fL 7=true:=hall 7 (by omega)
  obtain rfl:=q8 (hall 8 (by omega))
  obtain rfl:=q9 (hall 9 (by omega))
  clear hall
  simp only [List.drop_succ_cons,List.drop_zero]
  have hO5:=hS.q5 e7
  have hSp:=hS.sp
  rw [e7] at hSp
  have hB5:=hS.bp
  have hb5:=hS.hb
  have z5:v.cell? ⟨g,5,none⟩=some v23:=hB5.cell 5
  have zf5:=hB5.frozen 5
  obtain ⟨A',c',rfl,hc'⟩:=hO5.form
  generalize hnn:(rows ++ [[Value.int .i64 k,Value.int .i64 0,Value.int .i64 d,Value.int .i64 t]]).length=nn at *
  go_wp2
  have hg2:v.grownBy (v.setCell ⟨g,5,none⟩ (.slice A' nn c')) (some g):=grownBy_stores [_] 5 (World.grownBy.refl _ _)
  refine bodyPost_end (v:=.tuple #[]) (by simp [results,Tryz.results115,go_sem]) rfl ⟨rfl,.slice A' nn c',hB5.set_ 5 _,hO5.kept hg2 (.inr (Ne.symm (own_ne_blk hO5 hB5 (by decide)))),hb5.setCell hg _,hSp.set⟩
end Go.Proofs.YtednjmldjbndhaaGreat
