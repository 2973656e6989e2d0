/- The points of a list of figures on a chart's scale: the program's. Conditions: the chart's and the figures' bounds. -/
import Derived.Test.YtednjmldjbndhaaGreatDoorKMr14
import Derived.Test.YtednjmldjbndhaaGreatDoorKMr8
set_option linter.unusedSimpArgs false
set_option linter.unusedVariables false
set_option maxRecDepth 100000
set_option maxHeartbeats 8000000
namespace Go.Proofs.YtednjmldjbndhaaGreatDoor
open Go.RowKit
theorem info_Point:(Tryz.prog.info? 124).map (fun i=>(i.zero,i.size,i.bytes))=some (some (.agg #[.int .i64 0,.int .i64 0]),2,16):=by kernel_rfl
theorem figOK_bd2 {f:Figure} (h:figOK f=true):(1000 ≤ f.digits∧f.digits ≤ 9999)∧-30 ≤ f.tens∧f.tens ≤ 30:=by
 unfold figOK at h
 rwa [Bool.and_eq_true,inB_true,inB_true] at h
theorem Sl.one2 (W:World) (t:TypeId) (a b:Value) {g:Nat} (hg:W.heap.size=g):Sl (W.alloc (.cells #[a,b] t)) (g+1) 2 (some ⟨g,0,none⟩) [[a,b]]:=by
 subst hg
 exact Sl.of_blk (Blk.new W t #[a,b]) [[a,b]] rfl (by intro x hx;simp only [List.mem_singleton] at hx;subst hx;rfl)
theorem one2_cells (x y:Int):∀ r ∈ [[Value.int .i64 x,.int .i64 y]],∀ u ∈ r,u.oneCell'=true:=by
 intro r hr u hu
 simp only [List.mem_singleton] at hr
 subst hr
 simp only [List.mem_cons,List.not_mem_nil,or_false] at hu
 rcases hu with rfl | rfl <;> rfl
def ptsCode (n:Int) (F:List Figure):Int:=if F.all (fun f=>decide (plCode n f=0))=true then 0 else 3
theorem ptsCode_all {n:Int} {F:List Figure} (h:F.all (fun f=>decide (plCode n f=0))=true):ptsCode n F=0:=if_pos h
theorem ptsCode_no {n:Int} {F:List Figure} {f:Figure} (hf:f ∈ F) (h:plCode n f=3):ptsCode n F=3:=by
 refine if_neg fun h2=>?_
 have:=of_decide_eq_true (List.all_eq_true.1 h2 f hf)
 rw [h] at this
 cases this
theorem take_all_succ {α:Type} {p:α→Bool} {F:List α} {k:Nat} (hk:k < F.length):(F.take (k+1)).all p=((F.take k).all p && p F[k]):=by
 rw [List.take_succ_eq_append_getElem hk,List.all_append]
 simp
structure PtL (w:World) (P:TypeId) (C:TypeId) (cs:Array Value) (k:Nat) (V:Value) (wr:World):Prop where
 hb:Below w.heap.size w wr
 bg:Blk wr w.heap.size C cs
 o:∃ xs:List (List Value),xs.length=k∧Own wr (w.heap.size+1) P 2 V xs
theorem PtL.below {w:World} {P C:TypeId} {cs:Array Value} {k:Nat} {V:Value} {wr w2:World} (h:PtL w P C cs k V wr) (hb:Below wr.heap.size wr w2):PtL w P C cs k V w2 :=
 ⟨h.hb.trans (hb.mono h.hb.size),h.bg.below hb h.bg.lt,let ⟨xs,h1,h2⟩:=h.o;⟨xs,h1,h2.below hb⟩⟩
theorem PtL.alloc {w:World} {P C:TypeId} {cs:Array Value} {k:Nat} {V:Value} {wr:World} (h:PtL w P C cs k V wr) (o:Obj):PtL w P C cs k V (wr.alloc o) :=
 ⟨h.hb.alloc h.hb.size _,h.bg.alloc _,let ⟨xs,h1,h2⟩:=h.o;⟨xs,h1,h2.alloc _⟩⟩
theorem PtL.app {w:World} {P C:TypeId} {cs:Array Value} {k:Nat} {V V':Value} {wr w2:World} {xs:List (List Value)} {y:List Value} (h:PtL w P C cs k V wr) (ho:Own wr (w.heap.size+1) P 2 V xs) (hx:xs.length=k) (hg:wr.grownBy w2 V.ownBlock) (h2:Own w2 (w.heap.size+1) P 2 V' (xs ++ [y])) :
  PtL w P C cs (k+1) V' w2 :=
 ⟨below_app h.hb hg h.hb.size (fun g e=>by have:=ho.ownGe g e;omega),(hg.block _ h.bg.lt (fun e=>by have:=ho.ownGe _ e.symm;omega)).trans h.bg,_,by simp [hx],h2⟩
theorem chartPoints0_c (fd ft:Int) (s:ByteArray) (b off c:Nat) (p0 p1 wd lf rt:Int) (A:Option Addr) (cc:Nat) (F:List Figure) (w:World) (hF:F.length ≤ 100) (hb:b < w.heap.size) (c0:w.cell? ⟨b,off,none⟩=some (.int .i64 p0)) (c1:w.cell? ⟨b,off+1,none⟩=some (.int .i64 p1))
  (hp0:-6 ≤ p0∧p0 ≤ 6) (hp1:-6 ≤ p1∧p1 ≤ 6) (hwd:1000 ≤ wd∧wd ≤ 100000) (hlf:100 ≤ lf∧lf ≤ 20000) (hrt:100 ≤ rt∧rt ≤ 20000) (hok:F.all figOK=true) (hs:Sl w w.heap.size 2 A (F.map Figure.cells)) :
  Calls Tryz.prog 78 #[.agg #[.int .i64 fd,.int .i64 ft,.string s,.slice (some ⟨b,off,none⟩) 2 c,.int .i64 wd,.int .i64 lf,.int .i64 rt],.int .i64 0,.slice A F.length cc] w fun e w'=>(∃ v,e=.returned (.tuple #[v,.int .i64 (ptsCode (lf * p0) F)]))∧Below w.heap.size w w':=by
 have HP:=Lib.hid (fun f hf W h1 h2 h3=>chartPoint0_c fd ft s b off c p0 p1 wd lf rt f W h1 h2 h3 hp0 hp1 hwd hlf hrt hf)
 have hCA:=@ptsCode_all (lf * p0) F
 have hCN:=fun f hf=>@ptsCode_no (lf * p0) F f hf
 generalize ptsCode (lf * p0) F=code at *
 generalize lf * p0=n at *
 unfold Figure.agg at HP
 replace hCA:=Lib.hid hCA
 replace hCN:=Lib.hid hCN
 clear hp0 hp1 hwd hlf hrt
 have L0:PtL w 124 31 #[.int .i64 fd,.int .i64 ft,.string s,.slice (some ⟨b,off,none⟩) 2 c,.int .i64 wd,.int .i64 lf,.int .i64 rt] 0 (.slice (some ⟨w.heap.size+1,0,none⟩) 0 0) ((w.alloc (.cells #[.int .i64 fd,.int .i64 ft,.string s,.slice (some ⟨b,off,none⟩) 2 c,.int .i64 wd,.int .i64 lf,.int .i64 rt] 31)).alloc (.cells #[] 124)) :=
  ⟨(by repeat first | with_reducible (first | exact Below.refl _ _ | apply below_drewN' | apply Below.drew | refine Below.alloc ?_ ?_ _ | refine Below.setCell ?_ ?_ _) | exact Below.refl _ _ | omega | (simp <;> omega) | (have:=(Below.refl _ _).size;first | omega | (simp <;> omega))),(Blk.new _ _ _).alloc _,[],rfl,by
   have:=Own.empty (w:=w.alloc (.cells #[.int .i64 fd,.int .i64 ft,.string s,.slice (some ⟨b,off,none⟩) 2 c,.int .i64 wd,.int .i64 lf,.int .i64 rt] 31)) (base:=w.heap.size+1) (e:=124) (k:=2) (by simp)
   simpa using this⟩
 obtain ⟨i0,hi,hz0,hz1,hzb⟩:=info_parts info_Point
 go_enter Tryz.func78,Tryz.ntmps78
 go_wp2_with fail
 go_loopw [8,16] (fun o i wr=>∃ k:Nat,k ≤ F.length∧i=.int .i64 k∧PtL w 124 31 #[.int .i64 fd,.int .i64 ft,.string s,.slice (some ⟨b,off,none⟩) 2 c,.int .i64 wd,.int .i64 lf,.int .i64 rt] k o wr∧Hid ((F.take k).all (fun f=>decide (plCode n f=0))=true)) (fun _ i _=>F.length - (intOf i).toNat)
 case atStart=>exact ⟨0,Nat.zero_le _,rfl,L0,(show _=true from by simp)⟩
 case round =>
  clear L0
  obtain ⟨k,hk,rfl,hL,hn⟩:=hrel
  have hbs:=hL.hb.size
  by_cases hlt:k < F.length
  ·have hLb:=hL.hb
   obtain ⟨fb,fo,rfl,fbB,xc⟩:=hs.at_ (i:=k) (by simpa using hlt)
   simp only [List.getElem_map] at xc
   have x0:wr.cell? ⟨fb,fo+k * 2,none⟩=some (.int .i64 F[k].digits):=by rw [hLb.cell fbB];exact xc 0 _ rfl
   have x1:wr.cell? ⟨fb,fo+k * 2+1,none⟩=some (.int .i64 F[k].tens):=by rw [hLb.cell fbB];exact xc 1 _ rfl
   clear xc
   have hmem:=List.getElem_mem hlt
   have hfo:=List.all_eq_true.1 hok _ hmem
   have hnx:=Lib.hid (@take_all_succ _ (fun f=>decide (plCode n f=0)) F k hlt)
   have hbd:=figOK_bd2 hfo
   have HC:=HP.out F[k] hbd
   have bg:=hL.bg
   have bgl:=bg.lt
   have bg_0:=bg.c0
   have bg_1:=bg.c1
   have bg_2:=bg.c2
   have bg_3:=bg.c3
   have bg_4:=bg.c4
   have bg_5:=bg.c5
   have bg_6:=bg.c6
   generalize hfk:F[k]=f at *
   clear hfk hbd hfo
   rcases plCode_two n f with hc | hc
   ·rw [hc] at HC
    replace HC:=Lib.hid HC
    replace hc:=Lib.hid hc
    obtain ⟨d,t⟩:=f
    simp only at *
    have hLa:=hL.alloc (.cells #[.int .i64 d,.int .i64 t] 26)
    go_wp2_with fail
    refine Calls.mono (HC.out _ (by first | omega | (simp;omega)) (by rw [(hLb.alloc hbs _).cell hb];exact c0) (by rw [(hLb.alloc hbs _).cell hb];exact c1)) ?_;rintro e w1 ⟨⟨x,y,rfl⟩,hb1⟩
    have hL1:=hLa.below hb1
    obtain ⟨xs,hxl,hO⟩:=hL1.o
    go_wp2_with (at_builtin;refine wpList_append_rows _ rfl _ _ _ rfl (w.heap.size+1) 124 i0 _ 2 16 Tryz.underlying100 hi hz0 hz1 hzb rfl (by omega) _ _ rfl ((hO.alloc _).alloc _) _ _ _ _ [[.int .i64 x,.int .i64 y]] rfl rfl (Sl.one2 _ _ _ _ (by simp)) (one2_cells _ _) (by rw [hxl];unfold maxLen;omega) (by rw [hxl];omega) (by have:=hL1.bg.lt;first | omega | (simp only [];omega) | (simp;omega)) ?_;intro v1 w2 hO2 hg hat;have hL2:=((hL1.alloc _).alloc _).app ((hO.alloc _).alloc _) hxl hg hO2)
    go_roundw
    case rel=>exact ⟨k+1,by omega,by go_num,hL2,(show _=true from by rw [hnx.out,hn.out,hc.out];rfl)⟩
    case measure=>simp [intOf];omega
   ·rw [hc] at HC
    replace HC:=Lib.hid HC
    have hcc:=Lib.hid (hCN.out f hmem hc)
    clear hc
    obtain ⟨d,t⟩:=f
    simp only at *
    go_wp2_with fail
    refine Calls.mono (HC.out _ (by first | omega | (simp;omega)) (by rw [(hLb.alloc hbs _).cell hb];exact c0) (by rw [(hLb.alloc hbs _).cell hb];exact c1)) ?_;rintro e w1 ⟨⟨x,y,rfl⟩,hb1⟩
    have hW1:=(hLb.alloc hbs (.cells #[.int .i64 d,.int .i64 t] 26)).trans (hb1.mono (by first | omega | (simp;omega)))
    go_wp2
    go_ret2
    exact ⟨⟨_,by rw [hcc.out];rfl⟩,(by repeat first | with_reducible (first | exact hW1 | apply below_drewN' | apply Below.drew | refine Below.alloc ?_ ?_ _ | refine Below.setCell ?_ ?_ _) | exact hW1 | omega | (simp <;> omega) | (have:=(hW1).size;first | omega | (simp <;> omega)))⟩
  ·have:k=F.length:=by omega
   subst this
   have hn':=hn.out
   rw [List.take_length] at hn'
   have hcc:=Lib.hid (hCA.out hn')
   clear hn'
   have hLb:=hL.hb
   go_wp2
   go_ret2
   exact ⟨⟨_,by rw [hcc.out];rfl⟩,hLb⟩
theorem chartPoints1_c (fd ft:Int) (s:ByteArray) (b off c:Nat) (p0 p1 wd lf rt:Int) (A:Option Addr) (cc:Nat) (F:List Figure) (w:World) (hF:F.length ≤ 100) (hb:b < w.heap.size) (c0:w.cell? ⟨b,off,none⟩=some (.int .i64 p0)) (c1:w.cell? ⟨b,off+1,none⟩=some (.int .i64 p1))
  (hp0:-6 ≤ p0∧p0 ≤ 6) (hp1:-6 ≤ p1∧p1 ≤ 6) (hwd:1000 ≤ wd∧wd ≤ 100000) (hlf:100 ≤ lf∧lf ≤ 20000) (hrt:100 ≤ rt∧rt ≤ 20000) (hok:F.all figOK=true) (hs:Sl w w.heap.size 2 A (F.map Figure.cells)) :
  Calls Tryz.prog 78 #[.agg #[.int .i64 fd,.int .i64 ft,.string s,.slice (some ⟨b,off,none⟩) 2 c,.int .i64 wd,.int .i64 lf,.int .i64 rt],.int .i64 1,.slice A F.length cc] w fun e w'=>(∃ v,e=.returned (.tuple #[v,.int .i64 (ptsCode (rt * p1) F)]))∧Below w.heap.size w w':=by
 have HP:=Lib.hid (fun f hf W h1 h2 h3=>chartPoint1_c fd ft s b off c p0 p1 wd lf rt f W h1 h2 h3 hp0 hp1 hwd hlf hrt hf)
 have hCA:=@ptsCode_all (rt * p1) F
 have hCN:=fun f hf=>@ptsCode_no (rt * p1) F f hf
 generalize ptsCode (rt * p1) F=code at *
 generalize rt * p1=n at *
 unfold Figure.agg at HP
 replace hCA:=Lib.hid hCA
 replace hCN:=Lib.hid hCN
 clear hp0 hp1 hwd hlf hrt
 have L0:PtL w 124 31 #[.int .i64 fd,.int .i64 ft,.string s,.slice (some ⟨b,off,none⟩) 2 c,.int .i64 wd,.int .i64 lf,.int .i64 rt] 0 (.slice (some ⟨w.heap.size+1,0,none⟩) 0 0) ((w.alloc (.cells #[.int .i64 fd,.int .i64 ft,.string s,.slice (some ⟨b,off,none⟩) 2 c,.int .i64 wd,.int .i64 lf,.int .i64 rt] 31)).alloc (.cells #[] 124)) :=
  ⟨(by repeat first | with_reducible (first | exact Below.refl _ _ | apply below_drewN' | apply Below.drew | refine Below.alloc ?_ ?_ _ | refine Below.setCell ?_ ?_ _) | exact Below.refl _ _ | omega | (simp <;> omega) | (have:=(Below.refl _ _).size;first | omega | (simp <;> omega))),(Blk.new _ _ _).alloc _,[],rfl,by
   have:=Own.empty (w:=w.alloc (.cells #[.int .i64 fd,.int .i64 ft,.string s,.slice (some ⟨b,off,none⟩) 2 c,.int .i64 wd,.int .i64 lf,.int .i64 rt] 31)) (base:=w.heap.size+1) (e:=124) (k:=2) (by simp)
   simpa using this⟩
 obtain ⟨i0,hi,hz0,hz1,hzb⟩:=info_parts info_Point
 go_enter Tryz.func78,Tryz.ntmps78
 go_wp2_with fail
 go_loopw [8,16] (fun o i wr=>∃ k:Nat,k ≤ F.length∧i=.int .i64 k∧PtL w 124 31 #[.int .i64 fd,.int .i64 ft,.string s,.slice (some ⟨b,off,none⟩) 2 c,.int .i64 wd,.int .i64 lf,.int .i64 rt] k o wr∧Hid ((F.take k).all (fun f=>decide (plCode n f=0))=true)) (fun _ i _=>F.length - (intOf i).toNat)
 case atStart=>exact ⟨0,Nat.zero_le _,rfl,L0,(show _=true from by simp)⟩
 case round =>
  clear L0
  obtain ⟨k,hk,rfl,hL,hn⟩:=hrel
  have hbs:=hL.hb.size
  by_cases hlt:k < F.length
  ·have hLb:=hL.hb
   obtain ⟨fb,fo,rfl,fbB,xc⟩:=hs.at_ (i:=k) (by simpa using hlt)
   simp only [List.getElem_map] at xc
   have x0:wr.cell? ⟨fb,fo+k * 2,none⟩=some (.int .i64 F[k].digits):=by rw [hLb.cell fbB];exact xc 0 _ rfl
   have x1:wr.cell? ⟨fb,fo+k * 2+1,none⟩=some (.int .i64 F[k].tens):=by rw [hLb.cell fbB];exact xc 1 _ rfl
   clear xc
   have hmem:=List.getElem_mem hlt
   have hfo:=List.all_eq_true.1 hok _ hmem
   have hnx:=Lib.hid (@take_all_succ _ (fun f=>decide (plCode n f=0)) F k hlt)
   have hbd:=figOK_bd2 hfo
   have HC:=HP.out F[k] hbd
   have bg:=hL.bg
   have bgl:=bg.lt
   have bg_0:=bg.c0
   have bg_1:=bg.c1
   have bg_2:=bg.c2
   have bg_3:=bg.c3
   have bg_4:=bg.c4
   have bg_5:=bg.c5
   have bg_6:=bg.c6
   generalize hfk:F[k]=f at *
   clear hfk hbd hfo
   rcases plCode_two n f with hc | hc
   ·rw [hc] at HC
    replace HC:=Lib.hid HC
    replace hc:=Lib.hid hc
    obtain ⟨d,t⟩:=f
    simp only at *
    have hLa:=hL.alloc (.cells #[.int .i64 d,.int .i64 t] 26)
    go_wp2_with fail
    refine Calls.mono (HC.out _ (by first | omega | (simp;omega)) (by rw [(hLb.alloc hbs _).cell hb];exact c0) (by rw [(hLb.alloc hbs _).cell hb];exact c1)) ?_;rintro e w1 ⟨⟨x,y,rfl⟩,hb1⟩
    have hL1:=hLa.below hb1
    obtain ⟨xs,hxl,hO⟩:=hL1.o
    go_wp2_with (at_builtin;refine wpList_append_rows _ rfl _ _ _ rfl (w.heap.size+1) 124 i0 _ 2 16 Tryz.underlying100 hi hz0 hz1 hzb rfl (by omega) _ _ rfl ((hO.alloc _).alloc _) _ _ _ _ [[.int .i64 x,.int .i64 y]] rfl rfl (Sl.one2 _ _ _ _ (by simp)) (one2_cells _ _) (by rw [hxl];unfold maxLen;omega) (by rw [hxl];omega) (by have:=hL1.bg.lt;first | omega | (simp only [];omega) | (simp;omega)) ?_;intro v1 w2 hO2 hg hat;have hL2:=((hL1.alloc _).alloc _).app ((hO.alloc _).alloc _) hxl hg hO2)
    go_roundw
    case rel=>exact ⟨k+1,by omega,by go_num,hL2,(show _=true from by rw [hnx.out,hn.out,hc.out];rfl)⟩
    case measure=>simp [intOf];omega
   ·rw [hc] at HC
    replace HC:=Lib.hid HC
    have hcc:=Lib.hid (hCN.out f hmem hc)
    clear hc
    obtain ⟨d,t⟩:=f
    simp only at *
    go_wp2_with fail
    refine Calls.mono (HC.out _ (by first | omega | (simp;omega)) (by rw [(hLb.alloc hbs _).cell hb];exact c0) (by rw [(hLb.alloc hbs _).cell hb];exact c1)) ?_;rintro e w1 ⟨⟨x,y,rfl⟩,hb1⟩
    have hW1:=(hLb.alloc hbs (.cells #[.int .i64 d,.int .i64 t] 26)).trans (hb1.mono (by first | omega | (simp;omega)))
    go_wp2
    go_ret2
    exact ⟨⟨_,by rw [hcc.out];rfl⟩,(by repeat first | with_reducible (first | exact hW1 | apply below_drewN' | apply Below.drew | refine Below.alloc ?_ ?_ _ | refine Below.setCell ?_ ?_ _) | exact hW1 | omega | (simp <;> omega) | (have:=(hW1).size;first | omega | (simp <;> omega)))⟩
  ·have:k=F.length:=by omega
   subst this
   have hn':=hn.out
   rw [List.take_length] at hn'
   have hcc:=Lib.hid (hCA.out hn')
   clear hn'
   have hLb:=hL.hb
   go_wp2
   go_ret2
   exact ⟨⟨_,by rw [hcc.out];rfl⟩,hLb⟩
end Go.Proofs.YtednjmldjbndhaaGreatDoor
