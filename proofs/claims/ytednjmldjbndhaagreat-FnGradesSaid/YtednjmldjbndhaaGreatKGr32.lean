/- Moves made one after the other on a rule, in plain words; a single move of either side. Conditions: the setting and the move are valid. Moves made one after the other: the program. Conditions: the rule, the setting and the moves are valid. Moves made on a rule, and whether they are a plan: the program. Conditions: the rule and the moves are valid. Comparing figures: the program's and the reference's. Conditions: for the reference's, the digits have at most four places. -/
import Derived.BigQuiet
import Derived.Test.YtednjmldjbndhaaGreatKGr19
import Derived.Test.YtednjmldjbndhaaGreatKGr2
import Derived.Test.YtednjmldjbndhaaGreatKGr21
import Derived.Test.YtednjmldjbndhaaGreatKGr22
import Derived.Test.YtednjmldjbndhaaGreatKGr3
import Derived.Test.YtednjmldjbndhaaGreatKGr31
import Derived.Test.YtednjmldjbndhaaGreatKGr6
import Derived.Test.YtednjmldjbndhaaGreatKGr7
set_option linter.unusedSimpArgs false
set_option linter.unusedVariables false
set_option maxRecDepth 100000
set_option maxHeartbeats 8000000
namespace Go.Proofs.YtednjmldjbndhaaGreat
open Go.RowKit
def stepM (l1 l2:List Int) (st:Int × Int) (m:Move):(Int × Int) × Bool:=moveR l1 l2 st.1 st.2 m.kind m.scale (pointT m.scale m.digits m.tens)
def runR (l1 l2:List Int):Int × Int→List Move→(Int × Int) × Nat
 | st,[]=>(st,0)
 | st,m :: r=>if (stepM l1 l2 st m).2=true then ((runR l1 l2 (stepM l1 l2 st m).1 r).1,(runR l1 l2 (stepM l1 l2 st m).1 r).2+1) else (st,0)
section
variable {l1 l2 : List Int} {s0 st : Int × Int} {l : List Move} {k : Nat}
theorem step_ok {m:Move} (h:(stepM l1 l2 st m).2=true):setB (stepM l1 l2 st m).1.1 (stepM l1 l2 st m).1.2=true:=by
 unfold stepM moveR at *
 split at h
 ·cases h
 ·rename_i hn
  rw [if_neg hn]
  exact h
def RunI (l1 l2:List Int) (s0:Int × Int) (l:List Move) (k:Nat) (st:Int × Int):Prop:=runR l1 l2 s0 l=((runR l1 l2 st (l.drop k)).1,(runR l1 l2 st (l.drop k)).2+k)
theorem RunI.start (l1 l2:List Int) (s0:Int × Int) (l:List Move):RunI l1 l2 s0 l 0 s0:=rfl
theorem RunI.next (h:RunI l1 l2 s0 l k st) (hk:k < l.length) (hs:(stepM l1 l2 st l[k]).2=true):RunI l1 l2 s0 l (k+1) (stepM l1 l2 st l[k]).1:=by
 unfold RunI at *
 rw [h,List.drop_eq_getElem_cons hk]
 conv=>lhs;unfold runR
 rw [if_pos hs]
 simp only
 congr 1
 omega
theorem RunI.stop (h:RunI l1 l2 s0 l k st) (hk:k < l.length) (hs:(stepM l1 l2 st l[k]).2=false):runR l1 l2 s0 l=(st,k):=by
 unfold RunI at *
 rw [h,List.drop_eq_getElem_cons hk]
 unfold runR
 rw [if_neg (by rw [hs];decide)]
 simp
theorem RunI.done (h:RunI l1 l2 s0 l k st) (hk:k=l.length):runR l1 l2 s0 l=(st,k):=by
 unfold RunI at *
 rw [h,hk,List.drop_length]
 unfold runR
 simp
theorem runR_le (l1 l2:List Int):∀ (l:List Move) (s0:Int × Int),(runR l1 l2 s0 l).2 ≤ l.length
 | [],_=>Nat.le_refl _
 | m :: r,s0=>by
  unfold runR
  split
  ·have:=runR_le l1 l2 r (stepM l1 l2 s0 m).1
   simp only [List.length_cons]
   omega
  ·simp
end
theorem move_parts {m:Move} (h:moveB m=true):(m.kind=0 ∨ m.kind=1 ∨ m.kind=2 ∨ m.kind=3 ∨ m.kind=4 ∨ m.kind=5 ∨ m.kind=6)∧(m.kind ≤ 2→(0 ≤ m.scale∧m.scale ≤ 4)∧(1000 ≤ m.digits∧m.digits ≤ 9999)∧(-30 ≤ m.tens∧m.tens ≤ 30)):=by
 by_cases hout:m.kind < 0 ∨ 6 < m.kind
 ·rw [moveB_out hout] at h;cases h
 ·refine ⟨by omega,fun h2=>?_⟩
  rw [moveB_lo (by omega),Bool.and_eq_true] at h
  obtain ⟨h3,h4⟩:=fig_bd h.2
  refine ⟨?_,h3,h4⟩
  have h5:=h.1
  unfold scaleB at h5
  rw [Bool.and_eq_true,inB_true] at h5
  have h6:m.scale ≠ 5:=by simpa using h5.2
  omega
theorem movedM_c (L:Int) (A1:Option Addr) (c1:Nat) (l1:List Int) (A2:Option Addr) (c2:Nat) (l2:List Int) (st:Int × Int) (m:Move) (w:World)
  (hst:setB st.1 st.2=true) (hm:moveB m=true) (h1:l1.length ≤ 1048576) (h2:l2.length ≤ 1048576) (s1:Sl w w.heap.size 1 A1 (l1.map ic)) (s2:Sl w w.heap.size 1 A2 (l2.map ic)) :
  Calls Tryz.prog 171 #[.agg #[.int .i64 L,.slice A1 l1.length c1,.slice A2 l2.length c2],.agg #[.int .i64 st.1,.int .i64 st.2],m.agg] w fun e w' =>
   e=.returned (.tuple #[.agg #[.int .i64 (stepM l1 l2 st m).1.1,.int .i64 (stepM l1 l2 st m).1.2],.bool (stepM l1 l2 st m).2])∧Below w.heap.size w w':=by
 obtain ⟨hk,hp⟩:=move_parts hm
 obtain ⟨hsh,hcu⟩:=setB_true.1 hst
 obtain ⟨k,s,d,t⟩:=m
 simp only at hk hp
 unfold Move.agg stepM
 simp only
 rcases hk with rfl | rfl | rfl | rfl | rfl | rfl | rfl
 ·obtain ⟨p1,p2,p3⟩:=hp (by decide)
  exact moved0_c L A1 c1 l1 A2 c2 l2 st.1 st.2 s d t (pointT s d t) w hsh hcu (pointT_bd p1 p2) (fun W=>Lib.hid (pointOfT_c s d t W p1 p2 (by omega))) h1 h2 s1 s2
 ·obtain ⟨p1,p2,p3⟩:=hp (by decide)
  exact moved1_c L A1 c1 l1 A2 c2 l2 st.1 st.2 s d t (pointT s d t) w hsh hcu (pointT_bd p1 p2) (fun W=>Lib.hid (pointOfT_c s d t W p1 p2 (by omega))) h1 h2 s1 s2
 ·obtain ⟨p1,p2,p3⟩:=hp (by decide)
  exact moved2_c L A1 c1 l1 A2 c2 l2 st.1 st.2 s d t (pointT s d t) w hsh hcu (pointT_bd p1 p2) (fun W=>Lib.hid (pointOfT_c s d t W p1 p2 (by omega))) h1 h2 s1 s2
 ·exact moved3_c L A1 c1 l1 A2 c2 l2 st.1 st.2 s d t (pointT s d t) w hsh hcu
 ·exact moved4_c L A1 c1 l1 A2 c2 l2 st.1 st.2 s d t (pointT s d t) w hsh hcu
 ·exact moved5_c L A1 c1 l1 A2 c2 l2 st.1 st.2 s d t (pointT s d t) w hsh hcu
 ·exact moved6_c L A1 c1 l1 A2 c2 l2 st.1 st.2 s d t (pointT s d t) w hsh hcu
theorem applyM_c (L:Int) (A1:Option Addr) (c1:Nat) (l1:List Int) (A2:Option Addr) (c2:Nat) (l2:List Int) (st:Int × Int) (m:Move) (w:World)
  (hst:setB st.1 st.2=true) (hm:moveB m=true) (h1:l1.length ≤ 1048576) (h2:l2.length ≤ 1048576) (s1:Sl w w.heap.size 1 A1 (l1.map ic)) (s2:Sl w w.heap.size 1 A2 (l2.map ic)) :
  Calls Tryz.prog 127 #[.agg #[.int .i64 L,.slice A1 l1.length c1,.slice A2 l2.length c2],.agg #[.int .i64 st.1,.int .i64 st.2],m.agg] w fun e w' =>
   e=.returned (.tuple #[.agg #[.int .i64 (stepM l1 l2 st m).1.1,.int .i64 (stepM l1 l2 st m).1.2],.bool (stepM l1 l2 st m).2])∧Below w.heap.size w w':=by
 obtain ⟨hk,hp⟩:=move_parts hm
 obtain ⟨hsh,hcu⟩:=setB_true.1 hst
 obtain ⟨k,s,d,t⟩:=m
 simp only at hk hp
 unfold Move.agg stepM
 simp only
 rcases hk with rfl | rfl | rfl | rfl | rfl | rfl | rfl
 ·obtain ⟨p1,p2,p3⟩:=hp (by decide)
  exact apply0_c L A1 c1 l1 A2 c2 l2 st.1 st.2 s d t (pointT s d t) w hsh hcu (pointT_bd p1 p2) (fun W=>Lib.hid (l11PointT_c s d t W p1 p2 (by omega))) h1 s1
 ·obtain ⟨p1,p2,p3⟩:=hp (by decide)
  exact apply1_c L A1 c1 l1 A2 c2 l2 st.1 st.2 s d t (pointT s d t) w hsh hcu (pointT_bd p1 p2) (fun W=>Lib.hid (l11PointT_c s d t W p1 p2 (by omega))) h2 s2
 ·obtain ⟨p1,p2,p3⟩:=hp (by decide)
  exact apply2_c L A1 c1 l1 A2 c2 l2 st.1 st.2 s d t (pointT s d t) w hsh hcu (pointT_bd p1 p2) (fun W=>Lib.hid (l11PointT_c s d t W p1 p2 (by omega))) h2 s2
 ·exact apply3_c L A1 c1 l1 A2 c2 l2 st.1 st.2 s d t (pointT s d t) w hsh hcu
 ·exact apply4_c L A1 c1 l1 A2 c2 l2 st.1 st.2 s d t (pointT s d t) w hsh hcu
 ·exact apply5_c L A1 c1 l1 A2 c2 l2 st.1 st.2 s d t (pointT s d t) w hsh hcu
 ·exact apply6_c L A1 c1 l1 A2 c2 l2 st.1 st.2 s d t (pointT s d t) w hsh hcu
end Go.Proofs.YtednjmldjbndhaaGreat
namespace Go.Proofs.YtednjmldjbndhaaGreat
open Go.RowKit
theorem info_Setting:(Tryz.prog.info? 104).map (fun i=>(i.zero,i.size,i.bytes))=some (some (.agg #[.int .i64 0,.int .i64 0]),2,16):=by kernel_rfl
def stc (st:Int × Int):List Value:=[.int .i64 st.1,.int .i64 st.2]
theorem stc_one {R:List (Int × Int)}:∀ y ∈ R.map stc,∀ u ∈ y,u.oneCell'=true:=fun y hy u hu=>by
 obtain ⟨x,_,rfl⟩:=List.mem_map.1 hy
 simp only [stc,List.mem_cons,List.not_mem_nil,or_false] at hu
 rcases hu with rfl | rfl <;> rfl
def LastSt (R:List (Int × Int)) (s0 st:Int × Int):Prop:=(R=[]∧st=s0) ∨ ∃ R',R=R' ++ [st]
structure StL (w:World) (rc:Array Value) (sh cu:Int) (rows:List (List Value)) (o:Value) (wr:World):Prop where
 hb:Below w.heap.size w wr
 br:Blk wr w.heap.size 26 rc
 bs:Blk wr (w.heap.size+1) 104 #[.int .i64 sh,.int .i64 cu]
 o:Own wr (w.heap.size+2) 104 2 o rows
section
variable {w : World} {rc : Array Value} {sh cu : Int} {rows rows' : List (List Value)} {o o' : Value} {wr w2 : World}
theorem StL.below (h:StL w rc sh cu rows o wr) (hb:Below wr.heap.size wr w2):StL w rc sh cu rows o w2 :=
 ⟨h.hb.trans (hb.mono h.hb.size),h.br.below hb h.br.lt,h.bs.below hb h.bs.lt,h.o.below hb⟩
theorem StL.alloc (h:StL w rc sh cu rows o wr) (ob:Obj):StL w rc sh cu rows o (wr.alloc ob):=h.below ((Below.refl _ _).alloc (Nat.le_refl _) ob)
theorem StL.app (h:StL w rc sh cu rows o wr) (hg:wr.grownBy w2 o.ownBlock) (h2:Own w2 (w.heap.size+2) 104 2 o' rows'):StL w rc sh cu rows' o' w2 :=
 ⟨below_app h.hb hg h.hb.size (fun g hh=>by have:=h.o.ownGe g hh;omega),(hg.block _ h.br.lt (fun hh=>by have:=h.o.ownGe _ hh.symm;omega)).trans h.br,(hg.block _ h.bs.lt (fun hh=>by have:=h.o.ownGe _ hh.symm;omega)).trans h.bs,h2⟩
theorem StL.set (h:StL w rc sh cu rows o wr) (a b:Int):StL w rc a b rows o ((wr.setCell ⟨w.heap.size+1,0,none⟩ (.int .i64 a)).setCell ⟨w.heap.size+1,1,none⟩ (.int .i64 b)) :=
 ⟨(by repeat first | with_reducible (first | exact h.hb | apply below_drewN' | apply Below.drew | refine Below.alloc ?_ ?_ _ | refine Below.setCell ?_ ?_ _) | exact h.hb | omega | (simp <;> omega) | (have:=(h.hb).size;first | omega | (simp <;> omega))),(h.br.far (by simp) _).far (by simp) _,h.bs.two0.two1,h.o.kept (grownBy_stores [.int .i64 a,.int .i64 b] 0 (World.grownBy.refl wr (some (w.heap.size+1)))) (by
  cases hv:o.ownBlock with
  | none=>exact .inl rfl
  | some r=>exact .inr fun e=>by have:=h.o.ownGe r hv;cases e;omega)⟩
end
theorem settings_c (L:Int) (A1:Option Addr) (c1:Nat) (l1:List Int) (A2:Option Addr) (c2:Nat) (l2:List Int) (a0 b0:Int) (A:Option Addr) (c:Nat) (l:List Move) (w:World)
  (hst:setB a0 b0=true) (hall:l.all moveB=true) (hl:l.length ≤ 30) (h1:l1.length ≤ 1048576) (h2:l2.length ≤ 1048576) (s1:Sl w w.heap.size 1 A1 (l1.map ic)) (s2:Sl w w.heap.size 1 A2 (l2.map ic)) (hs:Sl w w.heap.size 4 A (l.map Move.cells)) :
  Calls Tryz.prog 132 #[.agg #[.int .i64 L,.slice A1 l1.length c1,.slice A2 l2.length c2],.agg #[.int .i64 a0,.int .i64 b0],.slice A l.length c] w fun e w' =>
   ∃ (R:List (Int × Int)) (A':Option Addr) (c':Nat),e=.returned (.slice A' R.length c')∧R.length=(runR l1 l2 (a0,b0) l).2∧LastSt R (a0,b0) (runR l1 l2 (a0,b0) l).1∧Own w' w.heap.size 104 2 (.slice A' R.length c') (R.map stc)∧Below w.heap.size w w':=by
 obtain ⟨i0,hi,hz0,hz1,hz2⟩:=info_parts info_Setting
 have HM:Hid (∀ (a b:Int) (m:Move) (W:World),setB a b=true→moveB m=true→Below w.heap.size w W→_):=fun a b m W hs hm hW=>movedM_c L A1 c1 l1 A2 c2 l2 (a,b) m W hs hm h1 h2 ((s1.below hW).more hW.size) ((s2.below hW).more hW.size)
 unfold Move.agg at HM
 simp only at HM
 have HS:=Lib.hid hs
 have HA:=Lib.hid (List.all_eq_true.1 hall)
 have Hst:=Lib.hid hst
 have hR0:=Lib.hid (RunI.start l1 l2 (a0,b0) l)
 have L0:StL w #[.int .i64 L,.slice A1 l1.length c1,.slice A2 l2.length c2] a0 b0 (([]:List (Int × Int)).map stc) (.slice (some ⟨w.heap.size+1+1,0,none⟩) 0 0) (((w.alloc (.cells #[.int .i64 L,.slice A1 l1.length c1,.slice A2 l2.length c2] 26)).alloc (.cells #[.int .i64 a0,.int .i64 b0] 104)).alloc (.cells #[] 104)):=by
  refine ⟨(by repeat first | with_reducible (first | exact Below.refl _ _ | apply below_drewN' | apply Below.drew | refine Below.alloc ?_ ?_ _ | refine Below.setCell ?_ ?_ _) | exact Below.refl _ _ | omega | (simp <;> omega) | (have:=(Below.refl _ _).size;first | omega | (simp <;> omega))),((Blk.new _ _ _).alloc _).alloc _,(Blk.new' _ _ _ (by simp)).alloc _,?_⟩
  have:=Own.empty (w:=(w.alloc (.cells #[.int .i64 L,.slice A1 l1.length c1,.slice A2 l2.length c2] 26)).alloc (.cells #[.int .i64 a0,.int .i64 b0] 104)) (base:=w.heap.size+2) (e:=104) (k:=2) (by simp)
  simpa using this
 clear hst hall h1 h2 s1 s2 hs
 go_enter Tryz.func132,Tryz.ntmps132
 go_wp2_with fail
 generalize (((w.alloc (.cells #[.int .i64 L,.slice A1 l1.length c1,.slice A2 l2.length c2] 26)).alloc (.cells #[.int .i64 a0,.int .i64 b0] 104)).alloc (.cells #[] 104))=W0 at *
 go_loopw [7,15] (fun o i wr=>∃ (k:Nat) (R:List (Int × Int)) (a b:Int),k ≤ l.length∧i=.int .i64 k∧Hid (R.length=k)∧Hid (RunI l1 l2 (a0,b0) l k (a,b))∧Hid (LastSt R (a0,b0) (a,b))∧Hid (setB a b=true)∧StL w #[.int .i64 L,.slice A1 l1.length c1,.slice A2 l2.length c2] a b (R.map stc) o wr) (fun _ i _=>l.length - (intOf i).toNat)
 case atStart=>exact ⟨0,[],a0,b0,Nat.zero_le _,rfl,rfl,hR0,.inl ⟨rfl,rfl⟩,Hst,L0⟩
 case round =>
  clear L0 Hst hR0
  obtain ⟨k,R,a,b,hk,rfl,hRk,hRun,hLa,hSt,hL⟩:=hrel
  obtain ⟨A9,c9,hv,hle⟩:=hL.o.form
  rw [List.length_map] at hv
  have hRl:R.length ≤ 30:=by have:=hRk.out;omega
  subst hv
  by_cases hlt:k < l.length
  ·obtain ⟨bm,off,rfl,hbB,hc⟩:=(HS.out.below hL.hb).at_ (i:=k) (by rw [List.length_map];exact hlt)
   simp only [List.getElem_map] at hc
   have hmv:=Lib.hid (HA.out l[k] (List.getElem_mem hlt))
   have hnx:=Lib.hid (fun hs=>hRun.out.next hlt hs)
   have hsp:=Lib.hid (fun hs=>hRun.out.stop hlt hs)
   generalize l[k]=m at *
   obtain ⟨mk,ms,md,mt⟩:=m
   have y0:wr.cell? ⟨bm,off+k * 4,none⟩=some (.int .i64 mk):=hc 0 _ rfl
   have y1:wr.cell? ⟨bm,off+k * 4+1,none⟩=some (.int .i64 ms):=hc 1 _ rfl
   have y2:wr.cell? ⟨bm,off+k * 4+2,none⟩=some (.int .i64 md):=hc 2 _ rfl
   have y3:wr.cell? ⟨bm,off+k * 4+3,none⟩=some (.int .i64 mt):=hc 3 _ rfl
   have hz:=hL.hb.size
   have hzl:=hL.bs.lt
   have hL1:=hL.alloc (.cells #[.int .i64 mk,.int .i64 ms,.int .i64 md,.int .i64 mt] 75)
   have hcall:=Lib.hid (HM.out a b ⟨mk,ms,md,mt⟩ _ hSt.out hmv.out hL1.hb)
   have r0:(wr.alloc (.cells #[.int .i64 mk,.int .i64 ms,.int .i64 md,.int .i64 mt] 75)).cell? ⟨w.heap.size,0,none⟩=some (.int .i64 L):=hL1.br.cell 0
   have r1:(wr.alloc (.cells #[.int .i64 mk,.int .i64 ms,.int .i64 md,.int .i64 mt] 75)).cell? ⟨w.heap.size,1,none⟩=some (.slice A1 l1.length c1):=hL1.br.cell 1
   have r2:(wr.alloc (.cells #[.int .i64 mk,.int .i64 ms,.int .i64 md,.int .i64 mt] 75)).cell? ⟨w.heap.size,2,none⟩=some (.slice A2 l2.length c2):=hL1.br.cell 2
   have q0:(wr.alloc (.cells #[.int .i64 mk,.int .i64 ms,.int .i64 md,.int .i64 mt] 75)).cell? ⟨w.heap.size+1,0,none⟩=some (.int .i64 a):=hL1.bs.cell 0
   have q1:(wr.alloc (.cells #[.int .i64 mk,.int .i64 ms,.int .i64 md,.int .i64 mt] 75)).cell? ⟨w.heap.size+1,1,none⟩=some (.int .i64 b):=hL1.bs.cell 1
   have hso:=Lib.hid (fun h=>step_ok (l1:=l1) (l2:=l2) (st:=(a,b)) (m:=⟨mk,ms,md,mt⟩) h)
   generalize stepM l1 l2 (a,b) ⟨mk,ms,md,mt⟩=x at *
   obtain ⟨⟨xa,xb⟩,ok⟩:=x
   simp only at hcall hso hnx hsp
   clear hc HM hmv hRun hL
   go_wp2_with fail
   refine Calls.mono hcall.out ?_;rintro e w1 ⟨rfl,hb1⟩
   have hL2:=hL1.below hb1
   clear y0 y1 y2 y3 r0 r1 r2 q0 q1 hcall hL1 hb1
   cases ok with
   | false =>
    have hrr:=hsp.out rfl
    have hO:=hL2.o
    have hB:=hL2.hb
    go_wp2
    go_ret
    exact ⟨R,A9,c9,rfl,by rw [hrr];exact hRk.out,by rw [hrr];exact hLa.out,(hO.alloc _).mono (show w.heap.size ≤ w.heap.size+2 by omega),(by repeat first | with_reducible (first | exact hB | apply below_drewN' | apply Below.drew | refine Below.alloc ?_ ?_ _ | refine Below.setCell ?_ ?_ _) | exact hB | omega | (simp <;> omega) | (have:=(hB).size;first | omega | (simp <;> omega)))⟩
   | true =>
    have hrn:=hnx.out rfl
    have hst2:=hso.out rfl
    have hzq1:=hL2.hb.size
    have hzq2:=hL2.bs.lt
    have hL3:=hL2.alloc (.cells #[.int .i64 xa,.int .i64 xb] 104)
    have hL4:=hL3.alloc (.cells #[.int .i64 xa,.int .i64 xb] 104)
    have hne:∀ r,(Value.slice A9 R.length c9).ownBlock=some r→r ≠ w1.heap.size:=fun r hr=>by have:=(hL2.o.1.lt r hr).2;omega
    have Hrn:=Lib.hid hrn;have Hst2:=Lib.hid hst2;have Hne:=Lib.hid hne
    clear hnx hsp hso hrn hst2 hne
    go_wp2_with (at_builtin;refine wpList_append_rows _ rfl _ _ _ rfl (w.heap.size+2) 104 i0 _ 2 16 Tryz.underlying171 hi hz0 hz1 hz2 rfl (by omega) _ _ rfl hL4.o _ _ _ _ ([(xa,xb)].map stc) rfl rfl (Sl.of_blk (Blk.new' _ _ _ (by first | rfl | simp)) _ rfl (by simp [stc])) (stc_one (R:=[(xa,xb)])) (by simp;unfold maxLen;omega) (by simp;omega) (by have:=hL4.bs.lt;omega) ?_;intro v1 w2 hO2 hg2 hat;have hL5:=hL4.app hg2 hO2;have B10:Blk w2 w1.heap.size 104 #[.int .i64 xa,.int .i64 xb]:=(hg2.block w1.heap.size (by first | (simp;done) | (simp;omega)) (fun e=>Hne.out _ e.symm rfl)).trans ((Blk.new w1 _ _).alloc _);have x0:w2.cell? ⟨w1.heap.size,0,none⟩=some (.int .i64 xa):=B10.cell 0;have x1:w2.cell? ⟨w1.heap.size,1,none⟩=some (.int .i64 xb):=B10.cell 1;have p0:w2.cell? ⟨w.heap.size+1,0,none⟩=some (.int .i64 a):=hL5.bs.cell 0;have p1:w2.cell? ⟨w.heap.size+1,1,none⟩=some (.int .i64 b):=hL5.bs.cell 1;have f0:=hL5.bs.frozen 0;have f1:=hL5.bs.frozen 1;clear hL3 hL4 hL2)
    go_roundw
    case rel=>exact ⟨k+1,R ++ [(xa,xb)],xa,xb,by omega,by go_num,(by have:=hRk.out;unfold Hid;simp;omega),Hrn,Lib.hid (.inr ⟨R,rfl⟩),Hst2,by rw [List.map_append];exact hL5.set xa xb⟩
    case measure=>simp [intOf];omega
  ·have hke:k=l.length:=by omega
   have hrr:=hRun.out.done hke
   have hO:=hL.o
   have hB:=hL.hb
   go_wp2
   go_ret
   exact ⟨R,A9,c9,rfl,by rw [hrr];exact hRk.out,by rw [hrr];exact hLa.out,hO.mono (show w.heap.size ≤ w.heap.size+2 by omega),(by repeat first | with_reducible (first | exact hB | apply below_drewN' | apply Below.drew | refine Below.alloc ?_ ?_ _ | refine Below.setCell ?_ ?_ _) | exact hB | omega | (simp <;> omega) | (have:=(hB).size;first | omega | (simp <;> omega)))⟩
end Go.Proofs.YtednjmldjbndhaaGreat
namespace Go.Proofs.YtednjmldjbndhaaGreat
open Go.RowKit
structure RuOK (w:World) (L:Int) (A1:Option Addr) (c1:Nat) (l1:List Int) (A2:Option Addr) (c2:Nat) (l2:List Int):Prop where
 r:ruleB L l1 l2=true
 h1:l1.length ≤ 1048576
 h2:l2.length ≤ 1048576
 k1:l1.length ≤ c1
 k2:l2.length ≤ c2
 s1:Sl w w.heap.size 1 A1 (l1.map ic)
 s2:Sl w w.heap.size 1 A2 (l2.map ic)
theorem RuOK.later {w W:World} {L:Int} {A1:Option Addr} {c1:Nat} {l1:List Int} {A2:Option Addr} {c2:Nat} {l2:List Int} (R:RuOK w L A1 c1 l1 A2 c2 l2) (hW:Below w.heap.size w W):RuOK W L A1 c1 l1 A2 c2 l2 :=
 ⟨R.r,R.h1,R.h2,R.k1,R.k2,(R.s1.below hW).more hW.size,(R.s2.below hW).more hW.size⟩
structure MvOK (w:World) (A:Option Addr) (l:List Move):Prop where
 a:l.all moveB=true
 n:l.length ≤ 30
 s:Sl w w.heap.size 4 A (l.map Move.cells)
theorem MvOK.later {w W:World} {A:Option Addr} {l:List Move} (R:MvOK w A l) (hW:Below w.heap.size w W):MvOK W A l:=⟨R.a,R.n,(R.s.below hW).more hW.size⟩
def ptT (t:Term):Int:=if t.div then -pointC t.digits else pointC t.digits
def sumP (l:List Term) (k:Nat):Int:=((l.take k).map ptT).sum
theorem sumP_succ (l:List Term) {k:Nat} (hk:k < l.length):sumP l (k+1)=sumP l k+ptT l[k]:=by
 unfold sumP
 rw [List.take_succ_eq_append_getElem hk,List.map_append,List.sum_append]
 simp
theorem sumP_bd {l:List Term} (hall:l.all termOK=true):∀ k:Nat,k ≤ l.length→-(1048576 * (k:Int)) ≤ sumP l k∧sumP l k ≤ 1048576 * k:=fun k=>by
 induction k with
 | zero=>intro _;simp [sumP]
 | succ k ih =>
  intro hk
  have h1:=ih (by omega)
  have h2:=(fig_bd (List.all_eq_true.1 hall l[k] (List.getElem_mem (by omega)))).1
  have h3:=pointC_bd h2
  rw [sumP_succ l (by omega)]
  unfold ptT
  simp only [Term.fig] at h3
  split <;> omega
def planB (l1 l2:List Int) (l3:List Term) (l:List Move):Bool:=decide ((runR l1 l2 (0,0) l).2=l.length) && decide (((runR l1 l2 (0,0) l).1.2 - sumP l3 l3.length) % 1048576=0)
theorem checkMoves_c (L:Int) (A1:Option Addr) (c1:Nat) (l1:List Int) (A2:Option Addr) (c2:Nat) (l2:List Int) (A:Option Addr) (c:Nat) (l:List Move) (w:World) (R:RuOK w L A1 c1 l1 A2 c2 l2) (M:MvOK w A l) :
  Calls Tryz.prog 131 #[.agg #[.int .i64 L,.slice A1 l1.length c1,.slice A2 l2.length c2],.agg #[.int .i64 0,.int .i64 0],.slice A l.length c] w fun e w'=>e=.returned (.int .i64 0)∧Below w.heap.size w w':=by
 have hW:Below w.heap.size w ((w.alloc (.cells #[.int .i64 L,.slice A1 l1.length c1,.slice A2 l2.length c2] 26)).alloc (.cells #[.int .i64 0,.int .i64 0] 104)):=(by repeat first | with_reducible (first | exact Below.refl _ _ | apply below_drewN' | apply Below.drew | refine Below.alloc ?_ ?_ _ | refine Below.setCell ?_ ?_ _) | exact Below.refl _ _ | omega | (simp <;> omega) | (have:=(Below.refl _ _).size;first | omega | (simp <;> omega)))
 have B1:Blk ((w.alloc (.cells #[.int .i64 L,.slice A1 l1.length c1,.slice A2 l2.length c2] 26)).alloc (.cells #[.int .i64 0,.int .i64 0] 104)) (w.heap.size+1) 104 #[.int .i64 0,.int .i64 0]:=Blk.new' _ _ _ (by simp)
 have HR:=Lib.hid (have Q:=R.later hW;implIsRule_c L A1 c1 l1 A2 c2 l2 _ Q.h1 Q.h2 Q.k1 Q.k2 Q.s1 Q.s2)
 rw [R.r] at HR
 have HI:=fun W=>Lib.hid (implIsSetting_c 0 0 W)
 rw [show setB 0 0=true from by decide] at HI
 have HA:=fun W (h:Below w.heap.size w W)=>Lib.hid (allMoves_c A c l W (by have:=M.n;omega) (M.later h).s)
 rw [M.a] at HA
 have HA:=Lib.hid HA
 have hl:¬ (l.length:Int) > 30:=by have:=M.n;omega
 have hl2:(l.length:Int) ≤ 30:=by have:=M.n;omega
 clear R M
 go_enter Tryz.func131,Tryz.ntmps131
 go_wp2_with fail
 generalize ((w.alloc (.cells #[.int .i64 L,.slice A1 l1.length c1,.slice A2 l2.length c2] 26)).alloc (.cells #[.int .i64 0,.int .i64 0] 104))=W at *
 refine Calls.mono HR.out ?_;rintro e w1 ⟨rfl,hb1⟩
 have hW1:=hW.trans (hb1.mono hW.size)
 have C1:=B1.below hb1 B1.lt
 have y0:w1.cell? ⟨w.heap.size+1,0,none⟩=some (.int .i64 0):=C1.cell 0
 have y1:w1.cell? ⟨w.heap.size+1,1,none⟩=some (.int .i64 0):=C1.cell 1
 clear B1 hW hb1 HR
 go_wp2_with fail
 refine Calls.mono (HI w1).out ?_;rintro e w2 ⟨rfl,hb2⟩
 have hW2:=hW1.trans (hb2.mono hW1.size)
 clear y0 y1 C1 hb2
 go_wp2_with fail
 refine Calls.mono (HA.out w2 hW2).out ?_;rintro e w3 ⟨rfl,hb3⟩
 have hW3:=hW2.trans (hb3.mono hW2.size)
 go_wp2
 go_ret
 exact ⟨rfl,hW3⟩
theorem last_cell {w:World} {base:Nat} {A:Option Addr} {n c:Nat} {R:List (Int × Int)} {s0 st:Int × Int} (hL:LastSt R s0 st) (hn:R.length=n+1) (hO:Own w base 104 2 (.slice A R.length c) (R.map stc)) :
  ∃ g,A=some ⟨g,0,none⟩∧g < w.heap.size∧w.cell? ⟨g,n * 2,none⟩=some (.int .i64 st.1)∧w.cell? ⟨g,n * 2+1,none⟩=some (.int .i64 st.2):=by
 rcases hL with ⟨rfl,_⟩ | ⟨R',rfl⟩
 ·simp at hn
 ·have hn':n=R'.length:=by simp at hn;omega
  subst hn'
  obtain ⟨g,off,rfl,hg,hc⟩:=hO.sl.at_ (i:=R'.length) (by simp)
  obtain rfl:=hO.off0 (i:=R'.length) (by simp)
  simp only [List.getElem_map] at hc
  refine ⟨g,rfl,hg,?_,?_⟩
  ·have:=hc 0 (.int .i64 st.1) (by simp [stc])
   simpa using this
  ·have:=hc 1 (.int .i64 st.2) (by simp [stc])
   simpa using this
theorem runMoves_c (L:Int) (A1:Option Addr) (c1:Nat) (l1:List Int) (A2:Option Addr) (c2:Nat) (l2:List Int) (A:Option Addr) (c:Nat) (l:List Move) (w:World) (R:RuOK w L A1 c1 l1 A2 c2 l2) (M:MvOK w A l) :
  Calls Tryz.prog 85 #[.agg #[.int .i64 L,.slice A1 l1.length c1,.slice A2 l2.length c2],.agg #[.int .i64 0,.int .i64 0],.slice A l.length c] w fun e w'=>e=.returned (if (runR l1 l2 (0,0) l).2=l.length then .tuple #[.agg #[.int .i64 (runR l1 l2 (0,0) l).1.1,.int .i64 (runR l1 l2 (0,0) l).1.2],.int .i64 0] else .tuple #[.agg #[.int .i64 0,.int .i64 0],.int .i64 5])∧Below w.heap.size w w':=by
 have hW:Below w.heap.size w (((w.alloc (.cells #[.int .i64 L,.slice A1 l1.length c1,.slice A2 l2.length c2] 26)).alloc (.cells #[.int .i64 0,.int .i64 0] 104)).alloc (.cells #[.int .i64 0,.int .i64 0] 104)):=(by repeat first | with_reducible (first | exact Below.refl _ _ | apply below_drewN' | apply Below.drew | refine Below.alloc ?_ ?_ _ | refine Below.setCell ?_ ?_ _) | exact Below.refl _ _ | omega | (simp <;> omega) | (have:=(Below.refl _ _).size;first | omega | (simp <;> omega)))
 have B0:Blk (((w.alloc (.cells #[.int .i64 L,.slice A1 l1.length c1,.slice A2 l2.length c2] 26)).alloc (.cells #[.int .i64 0,.int .i64 0] 104)).alloc (.cells #[.int .i64 0,.int .i64 0] 104)) w.heap.size 26 #[.int .i64 L,.slice A1 l1.length c1,.slice A2 l2.length c2]:=((Blk.new _ _ _).alloc _).alloc _
 have B1:Blk (((w.alloc (.cells #[.int .i64 L,.slice A1 l1.length c1,.slice A2 l2.length c2] 26)).alloc (.cells #[.int .i64 0,.int .i64 0] 104)).alloc (.cells #[.int .i64 0,.int .i64 0] 104)) (w.heap.size+1) 104 #[.int .i64 0,.int .i64 0]:=(Blk.new' _ _ _ (by simp)).alloc _
 have B2:Blk (((w.alloc (.cells #[.int .i64 L,.slice A1 l1.length c1,.slice A2 l2.length c2] 26)).alloc (.cells #[.int .i64 0,.int .i64 0] 104)).alloc (.cells #[.int .i64 0,.int .i64 0] 104)) (w.heap.size+2) 104 #[.int .i64 0,.int .i64 0]:=Blk.new' _ _ _ (by simp)
 have HC:=Lib.hid (checkMoves_c L A1 c1 l1 A2 c2 l2 A c l _ (R.later hW) (M.later hW))
 have HS:=Lib.hid (fun W (h:Below w.heap.size w W)=>have Q:=R.later h;settings_c L A1 c1 l1 A2 c2 l2 0 0 A c l W (by decide) M.a M.n Q.h1 Q.h2 Q.s1 Q.s2 (M.later h).s)
 have hle:=runR_le l1 l2 l (0,0)
 have hl:=M.n
 have hz0:l.length=0→(runR l1 l2 (0,0) l).1=(0,0):=fun h=>by rw [List.eq_nil_of_length_eq_zero h];rfl
 clear R M
 generalize runR l1 l2 (0,0) l=rr at *
 obtain ⟨⟨ra,rb⟩,n⟩:=rr
 simp only at HS hle hz0 ⊢
 generalize hres:(if n=l.length then Value.tuple #[.agg #[.int .i64 ra,.int .i64 rb],.int .i64 0] else Value.tuple #[.agg #[.int .i64 0,.int .i64 0],.int .i64 5])=res
 have hres:=Lib.hid hres
 go_enter Tryz.func85,Tryz.ntmps85
 go_wp2_with fail
 generalize (((w.alloc (.cells #[.int .i64 L,.slice A1 l1.length c1,.slice A2 l2.length c2] 26)).alloc (.cells #[.int .i64 0,.int .i64 0] 104)).alloc (.cells #[.int .i64 0,.int .i64 0] 104))=W at *
 refine Calls.mono HC.out ?_;rintro e w1 ⟨rfl,hb1⟩
 have hW1:=hW.trans (hb1.mono hW.size)
 have C0:=B0.below hb1 B0.lt
 have C1:=B1.below hb1 B1.lt
 have C2:=B2.below hb1 B2.lt
 have r0:w1.cell? ⟨w.heap.size,0,none⟩=some (.int .i64 L):=C0.cell 0
 have r1:w1.cell? ⟨w.heap.size,1,none⟩=some (.slice A1 l1.length c1):=C0.cell 1
 have r2:w1.cell? ⟨w.heap.size,2,none⟩=some (.slice A2 l2.length c2):=C0.cell 2
 have q0:w1.cell? ⟨w.heap.size+1,0,none⟩=some (.int .i64 0):=C1.cell 0
 have q1:w1.cell? ⟨w.heap.size+1,1,none⟩=some (.int .i64 0):=C1.cell 1
 clear B0 B1 B2 hW hb1 HC
 go_wp2_with fail
 refine Calls.mono (HS.out w1 hW1) ?_;rintro e w2 ⟨S,A',c',rfl,hSl,hLa,hO,hb2⟩
 have hW2:=hW1.trans (hb2.mono hW1.size)
 have D1:=C1.below hb2 C1.lt
 have D2:=C2.below hb2 C2.lt
 have u0:w2.cell? ⟨w.heap.size+1+1,0,none⟩=some (.int .i64 0):=D2.cell 0
 have u1:w2.cell? ⟨w.heap.size+1+1,1,none⟩=some (.int .i64 0):=D2.cell 1
 have f0:w2.frozen? ⟨w.heap.size+1+1,0,none⟩=false:=D2.frozen 0
 have f1:w2.frozen? ⟨w.heap.size+1+1,1,none⟩=false:=D2.frozen 1
 have p0:w2.cell? ⟨w.heap.size+1,0,none⟩=some (.int .i64 0):=D1.cell 0
 have p1:w2.cell? ⟨w.heap.size+1,1,none⟩=some (.int .i64 0):=D1.cell 1
 clear r0 r1 r2 q0 q1 C0 C1 C2 hb2 HS D1 D2 hW1
 by_cases hn:n=l.length
 ·have hrv:=hres.out
  rw [if_pos hn] at hrv
  have hrv:=Lib.hid hrv
  subst hn
  have hlt:¬ (S.length:Int) < (l.length:Int):=by omega
  by_cases hz:l.length=0
  ·have hra:=hz0 hz
   simp only [Prod.mk.injEq] at hra
   obtain ⟨rfl,rfl⟩:=hra
   have he:((S.length:Int) == 0)=true:=by rw [hSl,hz];rfl
   clear hSl hz hle hl hz0
   go_wp2
   refine bodyPost_ret (v:=.tuple #[.agg #[.int .i64 0,.int .i64 0],.int .i64 0]) (by simp [results,Tryz.results85,go_sem,u0,u1]) rfl ⟨by rw [← hrv.out],(by repeat first | with_reducible (first | exact hW2 | apply below_drewN' | apply Below.drew | refine Below.alloc ?_ ?_ _ | refine Below.setCell ?_ ?_ _) | exact hW2 | omega | (simp <;> omega) | (have:=(hW2).size;first | omega | (simp <;> omega)))⟩
  ·obtain ⟨m,hm⟩:∃ m,S.length=m+1:=⟨S.length - 1,by omega⟩
   obtain ⟨g,rfl,hg,x0,x1⟩:=last_cell hLa hm hO
   simp only at x0 x1
   have hne:((S.length:Int) == 0)=false:=by simpa using (by omega:¬ (S.length:Int)=0)
   have hi1:(S.length:Int) - 1=(m:Int):=by omega
   have hi2:IntKind.i64.wrap (m:Int)=m:=IntWalk.i64_in _ (by omega)
   have hi3:(m:Int) < (S.length:Int):=by omega
   clear hSl hm hle hl hz0 hO hLa hz
   go_wp2
   refine bodyPost_ret (v:=.tuple #[.agg #[.int .i64 ra,.int .i64 rb],.int .i64 0]) (by simp [results,Tryz.results85,go_sem,u0,u1]) rfl ⟨by rw [← hrv.out],(by repeat first | with_reducible (first | exact hW2 | apply below_drewN' | apply Below.drew | refine Below.alloc ?_ ?_ _ | refine Below.setCell ?_ ?_ _) | exact hW2 | omega | (simp <;> omega) | (have:=(hW2).size;first | omega | (simp <;> omega)))⟩
 ·have hrv:=hres.out
  rw [if_neg hn] at hrv
  have hrv:=Lib.hid hrv
  have hlt:(S.length:Int) < (l.length:Int):=by omega
  clear hSl hn hle hl hz0
  go_wp2
  refine bodyPost_ret (v:=.tuple #[.agg #[.int .i64 0,.int .i64 0],.int .i64 5]) (by simp [results,Tryz.results85,go_sem,u0,u1]) rfl ⟨by rw [← hrv.out],(by repeat first | with_reducible (first | exact hW2 | apply below_drewN' | apply Below.drew | refine Below.alloc ?_ ?_ _ | refine Below.setCell ?_ ?_ _) | exact hW2 | omega | (simp <;> omega) | (have:=(hW2).size;first | omega | (simp <;> omega)))⟩
theorem firstImp_c (L:Int) (A1:Option Addr) (c1:Nat) (l1:List Int) (A2:Option Addr) (c2:Nat) (l2:List Int) (A:Option Addr) (c:Nat) (l:List Move) (w:World) (R:RuOK w L A1 c1 l1 A2 c2 l2) (M:MvOK w A l) :
  Calls Tryz.prog 74 #[.agg #[.int .i64 L,.slice A1 l1.length c1,.slice A2 l2.length c2],.agg #[.int .i64 0,.int .i64 0],.slice A l.length c] w fun e w'=>e=.returned (if (runR l1 l2 (0,0) l).2=l.length then .tuple #[.int .i64 0,.int .i64 4] else .tuple #[.int .i64 ((runR l1 l2 (0,0) l).2:Int),.int .i64 0])∧Below w.heap.size w w':=by
 have hW:Below w.heap.size w ((w.alloc (.cells #[.int .i64 L,.slice A1 l1.length c1,.slice A2 l2.length c2] 26)).alloc (.cells #[.int .i64 0,.int .i64 0] 104)):=(by repeat first | with_reducible (first | exact Below.refl _ _ | apply below_drewN' | apply Below.drew | refine Below.alloc ?_ ?_ _ | refine Below.setCell ?_ ?_ _) | exact Below.refl _ _ | omega | (simp <;> omega) | (have:=(Below.refl _ _).size;first | omega | (simp <;> omega)))
 have B0:Blk ((w.alloc (.cells #[.int .i64 L,.slice A1 l1.length c1,.slice A2 l2.length c2] 26)).alloc (.cells #[.int .i64 0,.int .i64 0] 104)) w.heap.size 26 #[.int .i64 L,.slice A1 l1.length c1,.slice A2 l2.length c2]:=(Blk.new _ _ _).alloc _
 have B1:Blk ((w.alloc (.cells #[.int .i64 L,.slice A1 l1.length c1,.slice A2 l2.length c2] 26)).alloc (.cells #[.int .i64 0,.int .i64 0] 104)) (w.heap.size+1) 104 #[.int .i64 0,.int .i64 0]:=Blk.new' _ _ _ (by simp)
 have HC:=Lib.hid (checkMoves_c L A1 c1 l1 A2 c2 l2 A c l _ (R.later hW) (M.later hW))
 have HS:=Lib.hid (fun W (h:Below w.heap.size w W)=>have Q:=R.later h;settings_c L A1 c1 l1 A2 c2 l2 0 0 A c l W (by decide) M.a M.n Q.h1 Q.h2 Q.s1 Q.s2 (M.later h).s)
 have hle:=runR_le l1 l2 l (0,0)
 have hl:=M.n
 clear R M
 generalize runR l1 l2 (0,0) l=rr at *
 obtain ⟨⟨ra,rb⟩,n⟩:=rr
 simp only at HS hle ⊢
 generalize hres:(if n=l.length then Value.tuple #[.int .i64 0,.int .i64 4] else Value.tuple #[.int .i64 (n:Int),.int .i64 0])=res
 have hres:=Lib.hid hres
 go_enter Tryz.func74,Tryz.ntmps74
 go_wp2_with fail
 generalize ((w.alloc (.cells #[.int .i64 L,.slice A1 l1.length c1,.slice A2 l2.length c2] 26)).alloc (.cells #[.int .i64 0,.int .i64 0] 104))=W at *
 refine Calls.mono HC.out ?_;rintro e w1 ⟨rfl,hb1⟩
 have hW1:=hW.trans (hb1.mono hW.size)
 have C0:=B0.below hb1 B0.lt
 have C1:=B1.below hb1 B1.lt
 have r0:w1.cell? ⟨w.heap.size,0,none⟩=some (.int .i64 L):=C0.cell 0
 have r1:w1.cell? ⟨w.heap.size,1,none⟩=some (.slice A1 l1.length c1):=C0.cell 1
 have r2:w1.cell? ⟨w.heap.size,2,none⟩=some (.slice A2 l2.length c2):=C0.cell 2
 have q0:w1.cell? ⟨w.heap.size+1,0,none⟩=some (.int .i64 0):=C1.cell 0
 have q1:w1.cell? ⟨w.heap.size+1,1,none⟩=some (.int .i64 0):=C1.cell 1
 clear B0 B1 hW hb1 HC
 go_wp2_with fail
 refine Calls.mono (HS.out w1 hW1) ?_;rintro e w2 ⟨S,A',c',rfl,hSl,hLa,hO,hb2⟩
 have hW2:=hW1.trans (hb2.mono hW1.size)
 clear r0 r1 r2 q0 q1 C0 C1 hb2 HS hO hLa hW1
 have hwr:IntKind.i64.wrap (S.length:Int)=S.length:=IntWalk.i64_in _ (by omega)
 by_cases hn:n=l.length
 ·have hrv:=hres.out
  rw [if_pos hn] at hrv
  have hrv:=Lib.hid hrv
  have he:((S.length:Int) == (l.length:Int))=true:=by rw [hSl,hn];simp
  clear hSl hn hle hl
  go_wp2
  go_ret2
  exact ⟨by rw [← hrv.out];rfl,hW2⟩
 ·have hrv:=hres.out
  rw [if_neg hn] at hrv
  have hrv:=Lib.hid hrv
  have he:((S.length:Int) == (l.length:Int))=false:=by simpa using (by omega:¬ (S.length:Int)=(l.length:Int))
  have hSl':=Lib.hid hSl
  clear hSl hn hle hl
  go_wp2
  go_ret2
  exact ⟨by rw [← hrv.out,← hSl'.out];rfl,hW2⟩
end Go.Proofs.YtednjmldjbndhaaGreat
namespace Go.Proofs.YtednjmldjbndhaaGreat
open Go.RowKit
def cmpZ (a b:Int):Int:=if a < b then -1 else if b < a then 1 else 0
def or2 (x y:Int):Int:=if x ≠ 0 then x else y
def cmpF (a b:Figure):Int:=or2 (cmpZ a.tens b.tens) (cmpZ a.digits b.digits)
def leF (a b:Figure):Bool:=decide (cmpF a b ≤ 0)
theorem cmpZ_cases (a b:Int):(a < b∧cmpZ a b=-1) ∨ (b < a∧cmpZ a b=1) ∨ (a=b∧cmpZ a b=0):=by
 unfold cmpZ
 by_cases h1:a < b
 ·exact .inl ⟨h1,if_pos h1⟩
 ·by_cases h2:b < a
  ·exact .inr (.inl ⟨h2,by rw [if_neg h1,if_pos h2]⟩)
  ·exact .inr (.inr ⟨by omega,by rw [if_neg h1,if_neg h2]⟩)
theorem leF_iff {a b:Figure}:leF a b=true ↔ a.tens < b.tens ∨ (a.tens=b.tens∧a.digits ≤ b.digits):=by
 unfold leF cmpF or2
 rw [decide_eq_true_eq]
 rcases cmpZ_cases a.tens b.tens with ⟨h1,h⟩ | ⟨h1,h⟩ | ⟨h1,h⟩ <;> rcases cmpZ_cases a.digits b.digits with ⟨h2,h'⟩ | ⟨h2,h'⟩ | ⟨h2,h'⟩ <;> rw [h] <;> (try rw [h']) <;> simp <;> omega
theorem cmpF_num {a b:Figure} (ha:0 ≤ a.digits∧a.digits ≤ 9999) (hb:0 ≤ b.digits∧b.digits ≤ 9999):cmpF a b=cmpZ (10000 * a.tens+a.digits) (10000 * b.tens+b.digits):=by
 unfold cmpF or2
 rcases cmpZ_cases a.tens b.tens with ⟨h1,h⟩ | ⟨h1,h⟩ | ⟨h1,h⟩ <;> rcases cmpZ_cases a.digits b.digits with ⟨h2,h'⟩ | ⟨h2,h'⟩ | ⟨h2,h'⟩ <;> rcases cmpZ_cases (10000 * a.tens+a.digits) (10000 * b.tens+b.digits) with ⟨h3,h''⟩ | ⟨h3,h''⟩ | ⟨h3,h''⟩ <;> rw [h,h',h''] <;> simp <;> omega
theorem isNaNZ_c (a:Int) (w:World):Calls Tryz.prog 220 #[.int .i64 a] w fun e w'=>e=.returned (.bool false)∧w=w':=by
 go_enter Tryz.func220,Tryz.ntmps220
 go_wp2
 go_ret
 exact ⟨by simp,rfl⟩
theorem compareZ_c (a b:Int) (w:World):Calls Tryz.prog 184 #[.int .i64 a,.int .i64 b] w fun e w'=>e=.returned (.int .i64 (cmpZ a b))∧w=w':=by
 rcases cmpZ_cases a b with ⟨h1,e1⟩ | ⟨h2,e1⟩ | ⟨h3,e1⟩
 ·rw [e1]
  clear e1
  go_enter Tryz.func184,Tryz.ntmps184
  go_wp2_with (go_at_call 220;refine (isNaNZ_c _ _).mono ?_;rintro e w' ⟨rfl,rfl⟩)
  go_ret
  exact ⟨rfl,rfl⟩
 ·rw [e1]
  clear e1
  have h1:¬ a < b:=by omega
  go_enter Tryz.func184,Tryz.ntmps184
  go_wp2_with (go_at_call 220;refine (isNaNZ_c _ _).mono ?_;rintro e w' ⟨rfl,rfl⟩)
  go_ret
  exact ⟨rfl,rfl⟩
 ·rw [e1]
  clear e1
  have h1:¬ a < b:=by omega
  have h2:¬ b < a:=by omega
  go_enter Tryz.func184,Tryz.ntmps184
  go_wp2_with (go_at_call 220;refine (isNaNZ_c _ _).mono ?_;rintro e w' ⟨rfl,rfl⟩)
  go_ret
  exact ⟨rfl,rfl⟩
theorem or2_c (b:Nat) (x y:Int) (w:World) (c0:w.cell? ⟨b,0,none⟩=some (.int .i64 x)) (c1:w.cell? ⟨b,1,none⟩=some (.int .i64 y)) :
  Calls Tryz.prog 183 #[.slice (some ⟨b,0,none⟩) 2 2] w fun e w'=>e=.returned (.int .i64 (or2 x y))∧w=w':=by
 go_enter Tryz.func183,Tryz.ntmps183
 go_wp2_with fail
 go_loop [8] (fun i=>∃ k:Nat,k ≤ 2∧i=.int .i64 k∧Hid ((1 ≤ k→x=0)∧(2 ≤ k→y=0))) (fun i=>2 - (intOf i).toNat)
 case atStart=>exact ⟨0,by omega,rfl,⟨fun h=>by omega,fun h=>by omega⟩⟩
 case round =>
  obtain ⟨k,hk,rfl,H⟩:=hrel
  have h4:k=0 ∨ k=1 ∨ k=2:=by omega
  rcases h4 with rfl | rfl | rfl
  ·by_cases hx:x=0
   ·have hx':(x != 0)=false:=by simp [hx]
    have HX:=Lib.hid hx
    clear hx
    go_wp2
    go_round
    case rel=>exact ⟨1,by omega,by first | rfl | go_num,(show Hid _ from ⟨fun _=>HX.out,fun h=>by omega⟩)⟩
    case measure=>simp [intOf]
   ·have hx':(x != 0)=true:=by simp [hx]
    have HX:=Lib.hid hx
    clear hx
    go_wp2
    go_ret
    exact ⟨ret_int (by unfold or2;rw [if_pos HX.out]),rfl⟩
  ·have H1:=Lib.hid (H.out.1 (by omega))
   by_cases hx:y=0
   ·have hx':(y != 0)=false:=by simp [hx]
    have HX:=Lib.hid hx
    clear hx H
    go_wp2
    go_round
    case rel=>exact ⟨2,by omega,by first | rfl | go_num,(show Hid _ from ⟨fun _=>H1.out,fun _=>HX.out⟩)⟩
    case measure=>simp [intOf]
   ·have hx':(y != 0)=true:=by simp [hx]
    have HX:=Lib.hid hx
    clear hx H
    go_wp2
    go_ret
    exact ⟨ret_int (by unfold or2;rw [if_neg (by rw [H1.out];simp)]),rfl⟩
  ·have H1:=Lib.hid (H.out.1 (by omega))
   have H2:=Lib.hid (H.out.2 (by omega))
   clear H
   go_wp2
   go_ret
   exact ⟨ret_int (by unfold or2;rw [if_neg (by rw [H1.out];simp),H2.out]),rfl⟩
structure TwF (w0:World) (a b:Figure) (v:World):Prop where
 hb:Below w0.heap.size w0 v
 b1:Blk v w0.heap.size 51 #[.int .i64 a.digits,.int .i64 a.tens]
 b2:Blk v (w0.heap.size+1) 51 #[.int .i64 b.digits,.int .i64 b.tens]
theorem TwF.below {w0 v v':World} {a b:Figure} (h:TwF w0 a b v) (hb:Below v.heap.size v v'):TwF w0 a b v':=⟨h.hb.trans (hb.mono h.hb.size),h.b1.below hb h.b1.lt,h.b2.below hb h.b2.lt⟩
theorem TwF.drew {w0 v:World} {a b:Figure} (h:TwF w0 a b v):TwF w0 a b v.drew:=⟨h.hb.drew,h.b1,h.b2⟩
theorem TwF.init {w0:World} {a b:Figure}:TwF w0 a b ((w0.alloc (.cells #[.int .i64 a.digits,.int .i64 a.tens] 51)).alloc (.cells #[.int .i64 b.digits,.int .i64 b.tens] 51)) :=
 ⟨(by repeat first | with_reducible (first | exact Below.refl _ _ | apply below_drewN' | apply Below.drew | refine Below.alloc ?_ ?_ _ | refine Below.setCell ?_ ?_ _) | exact Below.refl _ _ | omega | (simp <;> omega) | (have:=(Below.refl _ _).size;first | omega | (simp <;> omega))),(Blk.new _ _ _).alloc _,Blk.new' _ _ _ (by simp)⟩
theorem compareFigures_c (a b:Figure) (w:World):Calls Tryz.prog 142 #[a.agg,b.agg] w fun e w'=>e=.returned (.int .i64 (cmpF a b))∧Below w.heap.size w w':=by
 have hT0:TwF w a b _:=TwF.init
 unfold cmpF
 obtain ⟨d,t⟩:=a
 obtain ⟨d',t'⟩:=b
 unfold Figure.agg
 simp only at hT0 ⊢
 have HC:=fun (x y:Int) W=>Lib.hid ((compareZ_c x y W).mono fun _ w' h=>(⟨h.1,by rw [← h.2];exact Below.refl _ _⟩:_∧Below W.heap.size W w'))
 have HO:=fun b W c0 c1=>Lib.hid (or2_c b (cmpZ t t') (cmpZ d d') W c0 c1)
 generalize hx:cmpZ t t'=x at *
 generalize hy:cmpZ d d'=y at *
 have HX:=Lib.hid hx
 have HY:=Lib.hid hy
 clear hx hy
 go_enter Tryz.func142,Tryz.ntmps142
 go_wp2_with fail
 generalize (w.alloc (.cells #[.int .i64 d,.int .i64 t] 51)).alloc (.cells #[.int .i64 d',.int .i64 t'] 51)=W at *
 refine wp_region_sink 10 (fun a0 fL bA v=>∃ v5 v6 v7 v8 v9 v10 v11 v12 v13 v14:Value,bA=(((((((((a0.put (some 5) v5).put (some 6) v6).put (some 7) v7).put (some 8) v8).put (some 9) v9).put (some 10) v10).put (some 11) v11).put (some 12) v12).put (some 13) v13).put (some 14) v14∧(TwF w ⟨d,t⟩ ⟨d',t'⟩ v)∧(fL 0=true→v5=.pointer (some ⟨w.heap.size,1,none⟩))∧(fL 1=true→v6=.int .i64 t)∧(fL 2=true→v7=.pointer (some ⟨w.heap.size+1,1,none⟩))∧(fL 3=true→v8=.int .i64 t')∧(fL 4=true→v9=.int .i64 x)∧(fL 5=true→v10=.pointer (some ⟨w.heap.size,0,none⟩))∧(fL 6=true→v11=.int .i64 d)∧(fL 7=true→v12=.pointer (some ⟨w.heap.size+1,0,none⟩))∧(fL 8=true→v13=.int .i64 d')∧(fL 9=true→v14=.int .i64 y)) (by kernel_rfl) (by decide +kernel) ?_ ?_ ?_
 ·exact ⟨undef,undef,undef,undef,undef,undef,undef,undef,undef,undef,by simp only [Act.put,List.setIfInBounds_toArray,List.set_cons_zero,List.set_cons_succ],hT0.drew,nofun,nofun,nofun,nofun,nofun,nofun,nofun,nofun,nofun,nofun⟩
 ·rintro fL bA v ⟨v5,v6,v7,v8,v9,v10,v11,v12,v13,v14,rfl,hS,q0,q1,q2,q3,q4,q5,q6,q7,q8,q9⟩ i hi hf o ho hall
  simp only [Act.put,List.setIfInBounds_toArray,List.set_cons_zero,List.set_cons_succ]
  have hn:i=0 ∨ i=1 ∨ i=2 ∨ i=3 ∨ i=4 ∨ i=5 ∨ i=6 ∨ i=7 ∨ i=8 ∨ i=9:=by omega
  clear hi
  rcases hn with rfl | rfl | rfl | rfl | rfl | rfl | rfl | rfl | rfl | rfl
  ·obtain rfl:=Option.some.inj ho
   clear hall ho
   refine wpOp_step rfl (fun K hK=>?_)
   go_simp
   exact hK _ _ ⟨_,_,_,_,_,_,_,_,_,_,rfl,hS,fun _=>rfl,q1,q2,q3,q4,q5,q6,q7,q8,q9⟩
  ·obtain rfl:=Option.some.inj ho
   obtain rfl:=q0 (hall ⟨0,.data⟩ (by simp) rfl)
   have y0:v.cell? ⟨w.heap.size,1,none⟩=some (.int .i64 t):=hS.b1.cell 1
   clear hall ho
   refine wpOp_step rfl (fun K hK=>?_)
   go_simp
   exact hK _ _ ⟨_,_,_,_,_,_,_,_,_,_,rfl,hS,fun _=>rfl,fun _=>rfl,q2,q3,q4,q5,q6,q7,q8,q9⟩
  ·obtain rfl:=Option.some.inj ho
   clear hall ho
   refine wpOp_step rfl (fun K hK=>?_)
   go_simp
   exact hK _ _ ⟨_,_,_,_,_,_,_,_,_,_,rfl,hS,q0,q1,fun _=>rfl,q3,q4,q5,q6,q7,q8,q9⟩
  ·obtain rfl:=Option.some.inj ho
   obtain rfl:=q2 (hall ⟨2,.data⟩ (by simp) rfl)
   have y0:v.cell? ⟨w.heap.size+1,1,none⟩=some (.int .i64 t'):=hS.b2.cell 1
   clear hall ho
   refine wpOp_step rfl (fun K hK=>?_)
   go_simp
   exact hK _ _ ⟨_,_,_,_,_,_,_,_,_,_,rfl,hS,q0,q1,fun _=>rfl,fun _=>rfl,q4,q5,q6,q7,q8,q9⟩
  ·obtain rfl:=Option.some.inj ho
   obtain rfl:=q1 (hall ⟨1,.data⟩ (by simp) rfl)
   obtain rfl:=q3 (hall ⟨3,.data⟩ (by simp) rfl)
   clear hall ho
   refine wpOp_step rfl (fun K hK=>?_)
   go_simp
   refine Calls.mono ((by have h:=(HC t t' v).out;rw [HX.out] at h;exact h)) ?_;rintro e w1 ⟨rfl,hb1⟩
   go_simp
   exact hK _ _ ⟨_,_,_,_,_,_,_,_,_,_,rfl,hS.below hb1,q0,fun _=>rfl,q2,fun _=>rfl,fun _=>rfl,q5,q6,q7,q8,q9⟩
  ·obtain rfl:=Option.some.inj ho
   clear hall ho
   refine wpOp_step rfl (fun K hK=>?_)
   go_simp
   exact hK _ _ ⟨_,_,_,_,_,_,_,_,_,_,rfl,hS,q0,q1,q2,q3,q4,fun _=>rfl,q6,q7,q8,q9⟩
  ·obtain rfl:=Option.some.inj ho
   obtain rfl:=q5 (hall ⟨5,.data⟩ (by simp) rfl)
   have y0:v.cell? ⟨w.heap.size,0,none⟩=some (.int .i64 d):=hS.b1.cell 0
   clear hall ho
   refine wpOp_step rfl (fun K hK=>?_)
   go_simp
   exact hK _ _ ⟨_,_,_,_,_,_,_,_,_,_,rfl,hS,q0,q1,q2,q3,q4,fun _=>rfl,fun _=>rfl,q7,q8,q9⟩
  ·obtain rfl:=Option.some.inj ho
   clear hall ho
   refine wpOp_step rfl (fun K hK=>?_)
   go_simp
   exact hK _ _ ⟨_,_,_,_,_,_,_,_,_,_,rfl,hS,q0,q1,q2,q3,q4,q5,q6,fun _=>rfl,q8,q9⟩
  ·obtain rfl:=Option.some.inj ho
   obtain rfl:=q7 (hall ⟨7,.data⟩ (by simp) rfl)
   have y0:v.cell? ⟨w.heap.size+1,0,none⟩=some (.int .i64 d'):=hS.b2.cell 0
   clear hall ho
   refine wpOp_step rfl (fun K hK=>?_)
   go_simp
   exact hK _ _ ⟨_,_,_,_,_,_,_,_,_,_,rfl,hS,q0,q1,q2,q3,q4,q5,q6,fun _=>rfl,fun _=>rfl,q9⟩
  ·obtain rfl:=Option.some.inj ho
   obtain rfl:=q6 (hall ⟨6,.data⟩ (by simp) rfl)
   obtain rfl:=q8 (hall ⟨8,.data⟩ (by simp) rfl)
   clear hall ho
   refine wpOp_step rfl (fun K hK=>?_)
   go_simp
   refine Calls.mono ((by have h:=(HC d d' v).out;rw [HY.out] at h;exact h)) ?_;rintro e w1 ⟨rfl,hb1⟩
   go_simp
   exact hK _ _ ⟨_,_,_,_,_,_,_,_,_,_,rfl,hS.below hb1,q0,q1,q2,q3,q4,q5,fun _=>rfl,q7,fun _=>rfl,fun _=>rfl⟩
 ·rintro fL bA v ⟨v5,v6,v7,v8,v9,v10,v11,v12,v13,v14,rfl,hS,q0,q1,q2,q3,q4,q5,q6,q7,q8,q9⟩ hall
  simp only [Act.put,List.setIfInBounds_toArray,List.set_cons_zero,List.set_cons_succ]
  obtain rfl:=q0 (hall 0 (by omega))
  obtain rfl:=q1 (hall 1 (by omega))
  obtain rfl:=q2 (hall 2 (by omega))
  obtain rfl:=q3 (hall 3 (by omega))
  obtain rfl:=q4 (hall 4 (by omega))
  obtain rfl:=q5 (hall 5 (by omega))
  obtain rfl:=q6 (hall 6 (by omega))
  obtain rfl:=q7 (hall 7 (by omega))
  obtain rfl:=q8 (hall 8 (by omega))
  obtain rfl:=q9 (hall 9 (by omega))
  clear hall
  simp only [List.drop_succ_cons,List.drop_zero]
  have hb:=hS.hb
  have hsz:=hb.size
  have N:=Blk.new v 3 #[.int .i64 x,.int .i64 y]
  have HO':=HO v.heap.size _ (N.cell 0) (N.cell 1)
  clear hS hT0 HC HO N
  go_wp2_with fail
  refine Calls.mono HO'.out ?_;rintro e w1 ⟨rfl,rfl⟩
  go_wp2
  go_ret
  exact ⟨rfl,(by repeat first | with_reducible (first | exact hb | apply below_drewN' | apply Below.drew | refine Below.alloc ?_ ?_ _ | refine Below.setCell ?_ ?_ _) | exact hb | omega | (simp <;> omega) | (have:=(hb).size;first | omega | (simp <;> omega)))⟩
theorem l02Compare_c (a b:Figure) (w:World) (ha:figOK a=true) (hb:figOK b=true):Calls Tryz.prog 104 #[a.agg,b.agg] w fun e w'=>e=.returned (.int .i64 (cmpF a b))∧Below w.heap.size w w':=by
 obtain ⟨⟨a1,a2⟩,a3,a4⟩:=fig_bd ha
 obtain ⟨⟨b1,b2⟩,b3,b4⟩:=fig_bd hb
 rw [cmpF_num ⟨by omega,a2⟩ ⟨by omega,b2⟩]
 clear ha hb
 obtain ⟨d,t⟩:=a
 obtain ⟨d',t'⟩:=b
 unfold Figure.agg
 simp only at *
 rcases cmpZ_cases (10000 * t+d) (10000 * t'+d') with ⟨h1,e1⟩ | ⟨h2,e1⟩ | ⟨h3,e1⟩
 ·rw [e1]
  clear e1
  go_enter Tryz.func104,Tryz.ntmps104
  go_wp2_with fail
  go_quiet (fail)
  go_wp2
  go_ret
  exact ⟨rfl,(by repeat first | with_reducible (first | exact Below.refl _ _ | apply below_drewN' | apply Below.drew | refine Below.alloc ?_ ?_ _ | refine Below.setCell ?_ ?_ _) | exact Below.refl _ _ | omega | (simp <;> omega) | (have:=(Below.refl _ _).size;first | omega | (simp <;> omega)))⟩
 ·rw [e1]
  clear e1
  have h1:¬ (10000 * t+d) < (10000 * t'+d'):=by omega
  go_enter Tryz.func104,Tryz.ntmps104
  go_wp2_with fail
  go_quiet (fail)
  go_wp2
  go_ret
  exact ⟨rfl,(by repeat first | with_reducible (first | exact Below.refl _ _ | apply below_drewN' | apply Below.drew | refine Below.alloc ?_ ?_ _ | refine Below.setCell ?_ ?_ _) | exact Below.refl _ _ | omega | (simp <;> omega) | (have:=(Below.refl _ _).size;first | omega | (simp <;> omega)))⟩
 ·rw [e1]
  clear e1
  have h1:¬ (10000 * t+d) < (10000 * t'+d'):=by omega
  have h2:¬ (10000 * t'+d') < (10000 * t+d):=by omega
  clear h3
  go_enter Tryz.func104,Tryz.ntmps104
  go_wp2_with fail
  go_quiet (fail)
  go_wp2
  go_ret
  exact ⟨rfl,(by repeat first | with_reducible (first | exact Below.refl _ _ | apply below_drewN' | apply Below.drew | refine Below.alloc ?_ ?_ _ | refine Below.setCell ?_ ?_ _) | exact Below.refl _ _ | omega | (simp <;> omega) | (have:=(Below.refl _ _).size;first | omega | (simp <;> omega)))⟩
theorem lies_c (f lo hi:Figure) (w:World):Calls Tryz.prog 99 #[f.agg,lo.agg,hi.agg] w fun e w'=>e=.returned (.bool (leF lo f && leF f hi))∧Below w.heap.size w w':=by
 have hC1:=fun W=>compareFigures_c lo f W
 have hC2:=fun W=>compareFigures_c f hi W
 unfold leF
 generalize cmpF lo f=x at *
 generalize cmpF f hi=y at *
 obtain ⟨d,t⟩:=f
 obtain ⟨d1,t1⟩:=lo
 obtain ⟨d2,t2⟩:=hi
 unfold Figure.agg at *
 simp only at *
 have HC1:=fun W=>Lib.hid (hC1 W)
 have HC2:=fun W=>Lib.hid (hC2 W)
 clear hC1 hC2
 have hW:Below w.heap.size w (((w.alloc (.cells #[.int .i64 d,.int .i64 t] 51)).alloc (.cells #[.int .i64 d1,.int .i64 t1] 51)).alloc (.cells #[.int .i64 d2,.int .i64 t2] 51)):=(by repeat first | with_reducible (first | exact Below.refl _ _ | apply below_drewN' | apply Below.drew | refine Below.alloc ?_ ?_ _ | refine Below.setCell ?_ ?_ _) | exact Below.refl _ _ | omega | (simp <;> omega) | (have:=(Below.refl _ _).size;first | omega | (simp <;> omega)))
 have X0:=((Blk.new w 51 #[.int .i64 d,.int .i64 t]).alloc (.cells #[.int .i64 d1,.int .i64 t1] 51)).alloc (.cells #[.int .i64 d2,.int .i64 t2] 51)
 have Y0:=Blk.new' ((w.alloc (.cells #[.int .i64 d,.int .i64 t] 51)).alloc (.cells #[.int .i64 d1,.int .i64 t1] 51)) 51 #[.int .i64 d2,.int .i64 t2] (g:=w.heap.size+1+1) (by simp)
 go_enter Tryz.func99,Tryz.ntmps99
 go_wp2_with fail
 generalize ((w.alloc (.cells #[.int .i64 d,.int .i64 t] 51)).alloc (.cells #[.int .i64 d1,.int .i64 t1] 51)).alloc (.cells #[.int .i64 d2,.int .i64 t2] 51)=W at *
 refine Calls.mono (HC1 _).out ?_;rintro e w1 ⟨rfl,hb1⟩
 have X1:=X0.below hb1 X0.lt
 have Y1:=Y0.below hb1 Y0.lt
 have hW1:=hW.trans (hb1.mono hW.size)
 have x0:w1.cell? ⟨w.heap.size,0,none⟩=some (.int .i64 d):=X1.cell 0
 have x1:w1.cell? ⟨w.heap.size,1,none⟩=some (.int .i64 t):=X1.cell 1
 have y0:w1.cell? ⟨w.heap.size+1+1,0,none⟩=some (.int .i64 d2):=Y1.cell 0
 have y1:w1.cell? ⟨w.heap.size+1+1,1,none⟩=some (.int .i64 t2):=Y1.cell 1
 clear X0 Y0 X1 Y1 hW hb1
 by_cases hx:x ≤ 0
 ·have hd:decide (x ≤ 0)=true:=decide_eq_true hx
  go_wp2_with (go_at_call 142;refine Calls.mono (HC2 _).out ?_;rintro e w2 ⟨rfl,hb2⟩;have hW2:=hW1.trans (hb2.mono hW1.size))
  go_ret
  exact ⟨by rw [hd];rfl,(by repeat first | with_reducible (first | exact hW2 | apply below_drewN' | apply Below.drew | refine Below.alloc ?_ ?_ _ | refine Below.setCell ?_ ?_ _) | exact hW2 | omega | (simp <;> omega) | (have:=(hW2).size;first | omega | (simp <;> omega)))⟩
 ·have hd:decide (x ≤ 0)=false:=decide_eq_false hx
  go_wp2
  go_ret
  exact ⟨by rw [hd];rfl,(by repeat first | with_reducible (first | exact hW1 | apply below_drewN' | apply Below.drew | refine Below.alloc ?_ ?_ _ | refine Below.setCell ?_ ?_ _) | exact hW1 | omega | (simp <;> omega) | (have:=(hW1).size;first | omega | (simp <;> omega)))⟩
end Go.Proofs.YtednjmldjbndhaaGreat
