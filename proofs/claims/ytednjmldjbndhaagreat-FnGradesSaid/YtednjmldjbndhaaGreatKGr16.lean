/- The span of an interval: the program's. No condition. The logarithm of a chain, the program's. Condition: the chain is valid. The span of a plan's result, and whether an exercise is valid: the program's. Conditions: the lists' lengths. The span of a plan's result, and whether an exercise is valid: the program's. Conditions: the lists' lengths. A move is added to a plan: the reference's. Conditions: the rule has ScaleC on both parts; the plan so far is sound. -/
import Derived.Deep.RegionHeld3
import Derived.Test.YtednjmldjbndhaaGreatKGr10
import Derived.Test.YtednjmldjbndhaaGreatKGr12
import Derived.Test.YtednjmldjbndhaaGreatKGr15
import Derived.Test.YtednjmldjbndhaaGreatKGr3
import Derived.Test.YtednjmldjbndhaaGreatKGr7
set_option linter.unusedSimpArgs false
set_option linter.unusedVariables false
set_option maxRecDepth 100000
set_option maxHeartbeats 8000000
namespace Go.Proofs.YtednjmldjbndhaaGreat
open Go.RowKit
theorem belR_eq {u:Int} (hu:unitsB u=true):belR u=if figOK (belF u) then .tuple #[.agg #[.int .i64 (belF u).digits,.int .i64 (belF u).tens],.bool true] else .tuple #[.agg #[.int .i64 0,.int .i64 0],.bool false]:=by
 have hb:=unitsB_bd hu
 obtain ⟨e1,e2⟩:=belN_D u
 have hd:=numD_bd (belN u - 1)
 unfold belR belF figOK
 simp only
 rw [inB_true.2 hd,← e2,← e1]
 by_cases h:-30 ≤ numT (belN u - 1)
 ·rw [if_pos h,inB_true.2 (⟨h,by omega⟩:-30 ≤ numT (belN u - 1)∧numT (belN u - 1) ≤ 30)]
  rfl
 ·rw [if_neg h,(inB_false.2 (fun h'=>h h'.1):inB (numT (belN u - 1)) (-30) 30=false)]
  rfl
theorem spanOf_c (a b:Int) (w:World) :
  Calls Tryz.prog 161 #[.agg #[.int .i64 a,.int .i64 b]] w fun e w'=>e=.returned (spanR a b)∧Below w.heap.size w w':=by
 have HU:=fun n W=>Lib.hid (isUnits_c n W)
 cases ha:unitsB a with
 | false =>
  have HR:=Lib.hid (spanR_2 (a:=a) (b:=b) (by rw [ha];rfl))
  have HUa:=HU a
  rw [ha] at HUa
  clear HU ha
  go_enter Tryz.func161,Tryz.ntmps161
  go_wp2_with (first | (go_at_call 196;refine (HUa _).out.mono ?_;rintro e w1 ⟨rfl,rfl⟩))
  refine bodyPost_ret (v:=.tuple #[.agg #[.int .i64 0,.int .i64 0],.agg #[.int .i64 0,.int .i64 0],.int .i64 2]) (by simp [results,Tryz.results161,go_sem]) rfl ⟨by rw [HR.out],(by repeat first | with_reducible (first | exact Below.refl _ _ | apply below_drewN' | apply Below.drew | refine Below.alloc ?_ ?_ _ | refine Below.setCell ?_ ?_ _) | exact Below.refl _ _ | omega | (simp <;> omega) | (have:=(Below.refl _ _).size;first | omega | (simp <;> omega)))⟩
 | true =>
  have HUa:=HU a
  rw [ha] at HUa
  cases hb:unitsB b with
  | false =>
   have HR:=Lib.hid (spanR_2 (a:=a) (b:=b) (by rw [ha,hb];rfl))
   have HUb:=HU b
   rw [hb] at HUb
   clear HU ha hb
   go_enter Tryz.func161,Tryz.ntmps161
   go_wp2_with (first | (go_at_call 196;refine (HUa _).out.mono ?_;rintro e w1 ⟨rfl,rfl⟩) | (go_at_call 196;refine (HUb _).out.mono ?_;rintro e w1 ⟨rfl,rfl⟩))
   refine bodyPost_ret (v:=.tuple #[.agg #[.int .i64 0,.int .i64 0],.agg #[.int .i64 0,.int .i64 0],.int .i64 2]) (by simp [results,Tryz.results161,go_sem]) rfl ⟨by rw [HR.out],(by repeat first | with_reducible (first | exact Below.refl _ _ | apply below_drewN' | apply Below.drew | refine Below.alloc ?_ ?_ _ | refine Below.setCell ?_ ?_ _) | exact Below.refl _ _ | omega | (simp <;> omega) | (have:=(Below.refl _ _).size;first | omega | (simp <;> omega)))⟩
  | true =>
   have HUb:=HU b
   rw [hb] at HUb
   have hok:∃ (d1 t1 d2 t2:Int) (ok1 ok2:Bool),(∀ W,Hid (Calls Tryz.prog 197 #[.int .i64 a] W fun e w'=>e=.returned (.tuple #[.agg #[.int .i64 d1,.int .i64 t1],.bool ok1])∧Below W.heap.size W w'))∧(∀ W,Hid (Calls Tryz.prog 198 #[.int .i64 b] W fun e w'=>e=.returned (.tuple #[.agg #[.int .i64 d2,.int .i64 t2],.bool ok2])∧Below W.heap.size W w')) ∧
     Hid (spanR a b=if ok1 && ok2 then .tuple #[.agg #[.int .i64 d1,.int .i64 t1],.agg #[.int .i64 d2,.int .i64 t2],.int .i64 0] else .tuple #[.agg #[.int .i64 0,.int .i64 0],.agg #[.int .i64 0,.int .i64 0],.int .i64 4]):=by
    have e1:=fun W=>figureBelow_c a W ha
    have e2:=fun W=>figureAbove_c b W hb
    rw [belR_eq ha] at e1
    unfold aboR at e2
    cases h1:figOK (belF a) with
    | false =>
     rw [h1] at e1
     refine ⟨0,0,_,_,false,_,e1,e2,?_⟩
     unfold Hid
     rw [spanR_4 (by rw [ha,hb];rfl) (by rw [h1];rfl)]
     rfl
    | true =>
     rw [h1] at e1
     refine ⟨_,_,_,_,true,_,e1,e2,?_⟩
     unfold Hid
     cases h2:figOK (aboF b) with
     | false=>rw [spanR_4 (by rw [ha,hb];rfl) (by rw [h1,h2];rfl)];rfl
     | true=>rw [spanR_0 (by rw [ha,hb];rfl) (by rw [h1,h2];rfl)];rfl
   clear HU ha hb
   obtain ⟨d1,t1,d2,t2,ok1,ok2,H1,H2,HR⟩:=hok
   go_enter Tryz.func161,Tryz.ntmps161
   go_wp2_with (first | (go_at_call 196;refine (HUa _).out.mono ?_;rintro e w1 ⟨rfl,rfl⟩) | (go_at_call 196;refine (HUb _).out.mono ?_;rintro e w1 ⟨rfl,rfl⟩))
   refine Calls.mono (H1 _).out ?_;rintro e w1 ⟨rfl,hb1⟩
   have hB1:Below w.heap.size w w1:=Below.trans ((by repeat first | with_reducible (first | exact Below.refl _ _ | apply below_drewN' | apply Below.drew | refine Below.alloc ?_ ?_ _ | refine Below.setCell ?_ ?_ _) | exact Below.refl _ _ | omega | (simp <;> omega) | (have:=(Below.refl _ _).size;first | omega | (simp <;> omega)))) (hb1.mono (by first | (simp;done) | (simp;omega) | omega))
   have Bx:=(((Blk.new w 186 #[.int .i64 a,.int .i64 b]).alloc (.cells #[.int .i64 0,.int .i64 0] 51)).alloc (.cells #[.int .i64 0,.int .i64 0] 51)).below hb1 (by first | (simp;done) | (simp;omega) | omega)
   have B2:=((Blk.new' (w.alloc (.cells #[.int .i64 a,.int .i64 b] 186)) 51 #[.int .i64 0,.int .i64 0] (g:=w.heap.size+1) (by simp)).alloc (.cells #[.int .i64 0,.int .i64 0] 51)).below hb1 (by first | (simp;done) | (simp;omega) | omega)
   have B3:=(Blk.new' ((w.alloc (.cells #[.int .i64 a,.int .i64 b] 186)).alloc (.cells #[.int .i64 0,.int .i64 0] 51)) 51 #[.int .i64 0,.int .i64 0] (g:=w.heap.size+2) (by simp)).below hb1 (by first | (simp;done) | (simp;omega) | omega)
   have c1:w1.cell? ⟨w.heap.size,1,none⟩=some (.int .i64 b):=Bx.cell 1
   have hs1:=hB1.size
   have z0:=Bx.lt
   clear hb1
   go_wp2_with fail
   have hs5:w1.heap.size < (w1.alloc (.cells #[.int .i64 d1,.int .i64 t1] 51)).heap.size:=by simp
   have B5:=Blk.new w1 51 #[.int .i64 d1,.int .i64 t1]
   have D2:=B2.alloc (.cells #[.int .i64 d1,.int .i64 t1] 51)
   have D3:=B3.alloc (.cells #[.int .i64 d1,.int .i64 t1] 51)
   have hD:Below w.heap.size w (w1.alloc (.cells #[.int .i64 d1,.int .i64 t1] 51)):=hB1.alloc hs1 _
   have n5:w.heap.size+3 ≤ w1.heap.size:=by have:=B3.lt;omega
   clear c1 Bx B2 B3
   generalize w1.alloc (.cells #[.int .i64 d1,.int .i64 t1] 51)=w2 at *
   generalize w1.heap.size=g5 at *
   refine Calls.mono (H2 _).out ?_;rintro e w3 ⟨rfl,hb3⟩
   have hB3:=hD.trans (hb3.mono hD.size)
   have E5:=B5.below hb3 B5.lt
   have C2:=D2.below hb3 D2.lt
   have C3:=D3.below hb3 D3.lt
   have hs3:=hB3.size
   have z2:=C2.lt
   have z3:=C3.lt
   have z5:=E5.lt
   have r0:w3.cell? ⟨w.heap.size+1,0,none⟩=some (.int .i64 0):=C2.cell 0
   have r1:w3.cell? ⟨w.heap.size+1,1,none⟩=some (.int .i64 0):=C2.cell 1
   have r2:w3.cell? ⟨w.heap.size+1+1,0,none⟩=some (.int .i64 0):=C3.cell 0
   have r3:w3.cell? ⟨w.heap.size+1+1,1,none⟩=some (.int .i64 0):=C3.cell 1
   have f0:=C2.frozen 0
   have f1:=C2.frozen 1
   have f2:w3.frozen? ⟨w.heap.size+1+1,0,none⟩=false:=C3.frozen 0
   have f3:w3.frozen? ⟨w.heap.size+1+1,1,none⟩=false:=C3.frozen 1
   clear hb3 B5 D2 D3
   cases ok1 with
   | false =>
    go_wp2
    refine bodyPost_ret (v:=.tuple #[.agg #[.int .i64 0,.int .i64 0],.agg #[.int .i64 0,.int .i64 0],.int .i64 4]) (by simp [results,Tryz.results161,go_sem,r0,r1,r2,r3,z2,z3]) rfl ⟨by rw [HR.out];rfl,(by repeat first | with_reducible (first | exact hB3 | apply below_drewN' | apply Below.drew | refine Below.alloc ?_ ?_ _ | refine Below.setCell ?_ ?_ _) | exact hB3 | omega | (simp <;> omega) | (have:=(hB3).size;first | omega | (simp <;> omega)))⟩
   | true =>
    cases ok2 with
    | false =>
     go_wp2
     refine bodyPost_ret (v:=.tuple #[.agg #[.int .i64 0,.int .i64 0],.agg #[.int .i64 0,.int .i64 0],.int .i64 4]) (by simp [results,Tryz.results161,go_sem,r0,r1,r2,r3,z2,z3]) rfl ⟨by rw [HR.out];rfl,(by repeat first | with_reducible (first | exact hB3 | apply below_drewN' | apply Below.drew | refine Below.alloc ?_ ?_ _ | refine Below.setCell ?_ ?_ _) | exact hB3 | omega | (simp <;> omega) | (have:=(hB3).size;first | omega | (simp <;> omega)))⟩
    | true =>
     go_wp2_with fail
     have E6:=Blk.new w3 51 #[.int .i64 d2,.int .i64 t2]
     have E5:=E5.alloc (.cells #[.int .i64 d2,.int .i64 t2] 51)
     have C2:=C2.alloc (.cells #[.int .i64 d2,.int .i64 t2] 51)
     have C3:=C3.alloc (.cells #[.int .i64 d2,.int .i64 t2] 51)
     have hB4:Below w.heap.size w (w3.alloc (.cells #[.int .i64 d2,.int .i64 t2] 51)):=hB3.alloc hs3 _
     have n6:w.heap.size+3 ≤ w3.heap.size:=by omega
     clear r0 r1 r2 r3 f0 f1 f2 f3
     generalize w3.alloc (.cells #[.int .i64 d2,.int .i64 t2] 51)=w4 at *
     generalize w3.heap.size=g6 at *
     have hs4:=hB4.size
     have y2:=C2.lt
     have y3:=C3.lt
     have r0:w4.cell? ⟨w.heap.size+1,0,none⟩=some (.int .i64 0):=C2.cell 0
     have r1:w4.cell? ⟨w.heap.size+1,1,none⟩=some (.int .i64 0):=C2.cell 1
     have r2:w4.cell? ⟨w.heap.size+1+1,0,none⟩=some (.int .i64 0):=C3.cell 0
     have r3:w4.cell? ⟨w.heap.size+1+1,1,none⟩=some (.int .i64 0):=C3.cell 1
     have f0:=C2.frozen 0
     have f1:=C2.frozen 1
     have f2:w4.frozen? ⟨w.heap.size+1+1,0,none⟩=false:=C3.frozen 0
     have f3:w4.frozen? ⟨w.heap.size+1+1,1,none⟩=false:=C3.frozen 1
     have hI:w4.drew.cell? ⟨g5,0,none⟩=some (.int .i64 d1)∧w4.drew.cell? ⟨g5,1,none⟩=some (.int .i64 t1)∧w4.drew.cell? ⟨g6,0,none⟩=some (.int .i64 d2)∧w4.drew.cell? ⟨g6,1,none⟩=some (.int .i64 t2):=⟨E5.cell 0,E5.cell 1,E6.cell 0,E6.cell 1⟩
     have hset:=fun b (h5:b ≠ g5) (h6:b ≠ g6) v x y=>Lib.hid (four_setD (g5:=g5) (g6:=g6) (d1:=d1) (t1:=t1) (d2:=d2) (t2:=t2) (w:=v) b x y h5 h6)
     have ha1:=hset (w.heap.size+1) (by omega) (by omega)
     have ha2:=hset (w.heap.size+1+1) (by omega) (by omega)
     clear hset
     go_region_held3 (fun w'=>w'.cell? ⟨g5,0,none⟩=some (.int .i64 d1)∧w'.cell? ⟨g5,1,none⟩=some (.int .i64 t1)∧w'.cell? ⟨g6,0,none⟩=some (.int .i64 d2)∧w'.cell? ⟨g6,1,none⟩=some (.int .i64 t2))
      (first | with_reducible exact hI | with_reducible assumption | with_reducible exact (ha1 _ _ _).out (by assumption) | with_reducible exact (ha2 _ _ _).out (by assumption)) (fail)
     go_wp2
     refine bodyPost_ret (v:=.tuple #[.agg #[.int .i64 d1,.int .i64 t1],.agg #[.int .i64 d2,.int .i64 t2],.int .i64 0]) (by simp [results,Tryz.results161,go_sem,r0,r1,r2,r3]) rfl ⟨by rw [HR.out];rfl,(by repeat first | with_reducible (first | exact hB4 | apply below_drewN' | apply Below.drew | refine Below.alloc ?_ ?_ _ | refine Below.setCell ?_ ?_ _) | exact hB4 | omega | (simp <;> omega) | (have:=(hB4).size;first | omega | (simp <;> omega)))⟩
end Go.Proofs.YtednjmldjbndhaaGreat
namespace Go.Proofs.YtednjmldjbndhaaGreat
open Go.RowKit
theorem chainLog_c (A:Option Addr) (c:Nat) (l:List Term) (w:World) (h6:l.length ≤ 6) (hok:l.all termOK=true) (hs:Sl w w.heap.size 3 A (l.map Term.cells)) :
  Calls Tryz.prog 163 #[.slice A l.length c] w fun e w'=>e=.returned (.agg #[.int .i64 (chainTo l l.length).1,.int .i64 (chainTo l l.length).2])∧Below w.heap.size w w':=by
 have Hok:=Lib.hid hok;clear hok
 go_enter Tryz.func163,Tryz.ntmps163
 go_wp2_with fail
 go_loopw [9] (fun i wr=>∃ k:Nat,k ≤ l.length∧i=.int .i64 k∧Below w.heap.size w wr∧Blk wr w.heap.size 186 #[.int .i64 0,.int .i64 0]∧Blk wr (w.heap.size+1) 186 #[.int .i64 (chainTo l k).1,.int .i64 (chainTo l k).2]) (fun i _=>l.length - (intOf i).toNat)
 case atStart=>exact ⟨0,Nat.zero_le _,rfl,(by repeat first | with_reducible (first | exact Below.refl _ _ | apply below_drewN' | apply Below.drew | refine Below.alloc ?_ ?_ _ | refine Below.setCell ?_ ?_ _) | exact Below.refl _ _ | omega | (simp <;> omega) | (have:=(Below.refl _ _).size;first | omega | (simp <;> omega))),(Blk.new w _ _).alloc _,Blk.new' _ _ _ (by simp)⟩
 case round =>
  obtain ⟨k,hk,rfl,hb,Brr,Bg⟩:=hrel
  by_cases hlt:k < l.length
  ·obtain ⟨b,off,rfl,hbB,hc⟩:=hs.at_ (i:=k) (by simpa using hlt)
   simp only [List.getElem_map] at hc
   have c0:wr.cell? ⟨b,off+k * 3,none⟩=some (.int .i64 l[k].digits):=by rw [hb.cell hbB];exact hc 0 _ rfl
   have c1:wr.cell? ⟨b,off+k * 3+1,none⟩=some (.int .i64 l[k].tens):=by rw [hb.cell hbB];exact hc 1 _ rfl
   have c2:wr.cell? ⟨b,off+k * 3+2,none⟩=some (.bool l[k].div):=by rw [hb.cell hbB];exact hc 2 _ rfl
   clear hc
   have hbk:=term_bd (List.all_eq_true.1 Hok.out l[k] (List.getElem_mem _))
   have hfb:=figLo_bd hbk.1 hbk.2
   have hcb:=chainTo_bd Hok.out hk
   have Hnx:=Lib.hid (chainTo_succ l hlt)
   have HF:=fun W=>figureLog_c ⟨l[k].digits,l[k].tens⟩ W hbk.1 hbk.2
   unfold Figure.agg at HF
   have HF:∀ W,Calls Tryz.prog 186 #[.agg #[.int .i64 l[k].digits,.int .i64 l[k].tens]] W fun e w'=>e=.returned (.agg #[.int .i64 (figLo l[k].digits l[k].tens),.int .i64 (figHi l[k].digits l[k].tens)])∧Below W.heap.size W w':=HF
   unfold chainStep at Hnx
   generalize figLo l[k].digits l[k].tens=fl at *
   generalize figHi l[k].digits l[k].tens=fh at *
   generalize chainTo l k=s at *
   obtain ⟨s1,s2⟩:=s
   simp only at Hnx hcb Bg
   have HF:=fun W=>Lib.hid (HF W)
   generalize l[k]=t at *
   obtain ⟨td,tt,tv⟩:=t
   simp only at Hnx c0 c1 c2 HF
   have hzr:=hb.size
   have hzg:=Bg.lt
   have BT:=Blk.new wr 100 #[.int .i64 td,.int .i64 tt,.bool tv]
   have Bo3:=Bg.alloc (.cells #[.int .i64 td,.int .i64 tt,.bool tv] 100)
   have Br3:=Brr.alloc (.cells #[.int .i64 td,.int .i64 tt,.bool tv] 100)
   have hB3:Below w.heap.size w (wr.alloc (.cells #[.int .i64 td,.int .i64 tt,.bool tv] 100)):=(by repeat first | with_reducible (first | exact hb | apply below_drewN' | apply Below.drew | refine Below.alloc ?_ ?_ _ | refine Below.setCell ?_ ?_ _) | exact hb | omega | (simp <;> omega) | (have:=(hb).size;first | omega | (simp <;> omega)))
   cases tv with
   | true =>
    simp only [if_true] at Hnx
    go_wp2_with fail
    generalize hW3:wr.alloc (.cells #[.int .i64 td,.int .i64 tt,.bool true] 100)=W3 at *
    have x0:W3.cell? ⟨wr.heap.size,0,none⟩=some (.int .i64 td):=BT.cell 0
    have x1:W3.cell? ⟨wr.heap.size,1,none⟩=some (.int .i64 tt):=BT.cell 1
    have y0:W3.cell? ⟨w.heap.size+1,0,none⟩=some (.int .i64 s1):=Bo3.cell 0
    have y1:W3.cell? ⟨w.heap.size+1,1,none⟩=some (.int .i64 s2):=Bo3.cell 1
    have Bo4:Blk W3.drew (w.heap.size+1) 186 #[.int .i64 s1,.int .i64 s2]:=Bo3.drewN 1
    have Br4:Blk W3.drew w.heap.size 186 #[.int .i64 0,.int .i64 0]:=Br3.drewN 1
    have hB4:Below w.heap.size w W3.drew:=hB3.drew
    clear c0 c1 c2 hs hW3
    go_region_with (first | (go_at_call 186;refine Calls.mono (HF _) ?_;rintro e w5 ⟨rfl,hb5⟩;have Bo5:=Bo4.below hb5 Bo4.lt;have Br5:=Br4.below hb5 Br4.lt;have z50:w5.cell? ⟨w.heap.size+1,0,none⟩=some (.int .i64 s1):=Bo5.cell 0;have z51:w5.cell? ⟨w.heap.size+1,1,none⟩=some (.int .i64 s2):=Bo5.cell 1;have hB5:=hB4.trans (hb5.mono hB4.size);have hz5:=hB5.size) | (go_at_call 189;refine (difference_c s1 s2 fl fh _ (by omega) (by omega) (by omega) (by omega)).mono ?_;rintro e w6 ⟨rfl,hb6⟩;have Bo6:=Bo5.below hb6 Bo5.lt;have Br6:=Br5.below hb6 Br5.lt;have z60:w6.cell? ⟨w.heap.size+1,0,none⟩=some (.int .i64 s1):=Bo6.cell 0;have z61:w6.cell? ⟨w.heap.size+1,1,none⟩=some (.int .i64 s2):=Bo6.cell 1;have zf60:w6.frozen? ⟨w.heap.size+1,0,none⟩=false:=Bo6.frozen 0;have zf61:w6.frozen? ⟨w.heap.size+1,1,none⟩=false:=Bo6.frozen 1;have hB6:=hB5.trans (hb6.mono hB5.size);have hz6:=Bo6.lt))
    all_goals
     go_wp2
     go_roundw
     case rel=>exact ⟨k+1,by omega,by go_num,(hB6.setCell (p:=⟨w.heap.size+1,0,none⟩) (by show w.heap.size ≤ w.heap.size+1;omega) _).setCell (p:=⟨w.heap.size+1,1,none⟩) (by show w.heap.size ≤ w.heap.size+1;omega) _,(Br6.far (p:=⟨w.heap.size+1,0,none⟩) (by simp) _).far (p:=⟨w.heap.size+1,1,none⟩) (by simp) _,by rw [Hnx.out];exact (Bo6.two0 (u:=.int .i64 (s1 - fh))).two1 (u:=.int .i64 (s2 - fl))⟩
     case measure=>simp [intOf];omega
   | false =>
    simp only [Bool.false_eq_true,if_false] at Hnx
    go_wp2_with fail
    generalize hW3:wr.alloc (.cells #[.int .i64 td,.int .i64 tt,.bool false] 100)=W3 at *
    have x0:W3.cell? ⟨wr.heap.size,0,none⟩=some (.int .i64 td):=BT.cell 0
    have x1:W3.cell? ⟨wr.heap.size,1,none⟩=some (.int .i64 tt):=BT.cell 1
    have y0:W3.cell? ⟨w.heap.size+1,0,none⟩=some (.int .i64 s1):=Bo3.cell 0
    have y1:W3.cell? ⟨w.heap.size+1,1,none⟩=some (.int .i64 s2):=Bo3.cell 1
    have Bo4:Blk W3.drew (w.heap.size+1) 186 #[.int .i64 s1,.int .i64 s2]:=Bo3.drewN 1
    have Br4:Blk W3.drew w.heap.size 186 #[.int .i64 0,.int .i64 0]:=Br3.drewN 1
    have hB4:Below w.heap.size w W3.drew:=hB3.drew
    clear c0 c1 c2 hs hW3
    go_region_with (first | (go_at_call 186;refine Calls.mono (HF _) ?_;rintro e w5 ⟨rfl,hb5⟩;have Bo5:=Bo4.below hb5 Bo4.lt;have Br5:=Br4.below hb5 Br4.lt;have z50:w5.cell? ⟨w.heap.size+1,0,none⟩=some (.int .i64 s1):=Bo5.cell 0;have z51:w5.cell? ⟨w.heap.size+1,1,none⟩=some (.int .i64 s2):=Bo5.cell 1;have hB5:=hB4.trans (hb5.mono hB4.size);have hz5:=hB5.size) | (go_at_call 199;refine (sum_c s1 s2 fl fh _ (by omega) (by omega) (by omega) (by omega)).mono ?_;rintro e w6 ⟨rfl,hb6⟩;have Bo6:=Bo5.below hb6 Bo5.lt;have Br6:=Br5.below hb6 Br5.lt;have z60:w6.cell? ⟨w.heap.size+1,0,none⟩=some (.int .i64 s1):=Bo6.cell 0;have z61:w6.cell? ⟨w.heap.size+1,1,none⟩=some (.int .i64 s2):=Bo6.cell 1;have zf60:w6.frozen? ⟨w.heap.size+1,0,none⟩=false:=Bo6.frozen 0;have zf61:w6.frozen? ⟨w.heap.size+1,1,none⟩=false:=Bo6.frozen 1;have hB6:=hB5.trans (hb6.mono hB5.size);have hz6:=Bo6.lt))
    all_goals
     go_wp2
     go_roundw
     case rel=>exact ⟨k+1,by omega,by go_num,(hB6.setCell (p:=⟨w.heap.size+1,0,none⟩) (by show w.heap.size ≤ w.heap.size+1;omega) _).setCell (p:=⟨w.heap.size+1,1,none⟩) (by show w.heap.size ≤ w.heap.size+1;omega) _,(Br6.far (p:=⟨w.heap.size+1,0,none⟩) (by simp) _).far (p:=⟨w.heap.size+1,1,none⟩) (by simp) _,by rw [Hnx.out];exact (Bo6.two0 (u:=.int .i64 (s1+fl))).two1 (u:=.int .i64 (s2+fh))⟩
     case measure=>simp [intOf];omega
  ·have:k=l.length:=by omega
   subst this
   have z0:wr.cell? ⟨w.heap.size+1,0,none⟩=some (.int .i64 (chainTo l l.length).1):=Bg.cell 0
   have z1:wr.cell? ⟨w.heap.size+1,1,none⟩=some (.int .i64 (chainTo l l.length).2):=Bg.cell 1
   have r0:wr.cell? ⟨w.heap.size,0,none⟩=some (.int .i64 0):=Brr.cell 0
   have r1:wr.cell? ⟨w.heap.size,1,none⟩=some (.int .i64 0):=Brr.cell 1
   have rf0:wr.frozen? ⟨w.heap.size,0,none⟩=false:=Brr.frozen 0
   have rf1:wr.frozen? ⟨w.heap.size,1,none⟩=false:=Brr.frozen 1
   have _rz:=Brr.lt
   clear hs
   go_wp2
   refine bodyPost_ret (v:=.agg #[.int .i64 (chainTo l l.length).1,.int .i64 (chainTo l l.length).2]) (by simp [results,Tryz.results163,go_sem,r0,r1]) rfl ⟨rfl,(by repeat first | with_reducible (first | exact hb | apply below_drewN' | apply Below.drew | refine Below.alloc ?_ ?_ _ | refine Below.setCell ?_ ?_ _) | exact hb | omega | (simp <;> omega) | (have:=(hb).size;first | omega | (simp <;> omega)))⟩
end Go.Proofs.YtednjmldjbndhaaGreat
namespace Go.Proofs.YtednjmldjbndhaaGreat
open Go.RowKit
def unitsPl (L:Int) (l:List Term) (p q r:Int):Int:=((setTo (usualP l).ms (usualP l).ms.length:Nat)+1) * (unitsC L p q r+2)
theorem unitsC_bd {L p q r:Int} (hL:1 ≤ L∧L ≤ 100000) (h1:0 ≤ p∧p ≤ 200) (h2:0 ≤ q∧q ≤ 200) (h3:0 ≤ r∧r ≤ 200):0 ≤ unitsC L p q r∧unitsC L p q r ≤ 838860800:=by
 unfold unitsC totE
 have h:=mul_div_bd (-((2 * p+q+r) * 1048576)) L (by omega)
 have h4:0 ≤ -(-((2 * p+q+r) * 1048576) / L):=by
  have:-((2 * p+q+r) * 1048576) / L ≤ 0:=Int.ediv_nonpos_of_nonpos_of_neg (by omega) (by omega)
  omega
 refine ⟨h4,?_⟩
 have h5:-((2 * p+q+r) * 1048576) / L ≥ -((2 * p+q+r) * 1048576):=by
  have hx:-((2 * p+q+r) * 1048576) * 1 ≥ -((2 * p+q+r) * 1048576) * L:=by
   have:=Int.mul_le_mul_of_nonneg_left (show (1:Int) ≤ L by omega) (show 0 ≤ (2 * p+q+r) * 1048576 by omega)
   rw [Int.neg_mul,Int.neg_mul]
   omega
  rw [Int.mul_one] at hx
  exact (Int.le_ediv_iff_mul_le (by omega)).2 hx
 omega
theorem unitsPl_bd {L p q r:Int} {l:List Term} (hl:chainB l=true) (hL:1 ≤ L∧L ≤ 100000) (h1:0 ≤ p∧p ≤ 200) (h2:0 ≤ q∧q ≤ 200) (h3:0 ≤ r∧r ≤ 200):0 ≤ unitsPl L l p q r∧unitsPl L l p q r ≤ 20000000000:=by
 obtain ⟨c1,c2,c3,_⟩:=chainB_parts hl
 have hu:=unitsC_bd hL h1 h2 h3
 have hs:=setTo_le (usualP l).ms (usualP l).ms.length
 have hn:=(usual_ok c1 c2 c3).2
 unfold unitsPl
 generalize unitsC L p q r=u at *
 generalize setTo (usualP l).ms (usualP l).ms.length=n at *
 have h4:((n:Int)+1) * (u+2) ≤ 20 * (u+2):=Int.mul_le_mul_of_nonneg_right (by omega) (by omega)
 have h5:0 ≤ ((n:Int)+1) * (u+2):=Int.mul_nonneg (by omega) (by omega)
 omega
theorem ruleB_len {L:Int} {l1 l2:List Int} (h:ruleB L l1 l2=true):1 ≤ L∧L ≤ 100000:=by
 simp only [ruleB,Bool.and_eq_true] at h
 exact inB_true.1 h.1.1
theorem bound_parts {L:Int} {l1 l2:List Int} {l:List Term} {p q r:Int} (h:boundCode L l1 l2 l p q r=0):ruleB L l1 l2=true∧chainB l=true∧(0:Int) ∈ l1∧(0:Int) ∈ l2∧errorsB p q r=true:=by
 unfold boundCode planCode at h
 cases h1:errorsB p q r with
 | false=>rw [h1] at h;simp at h
 | true =>
  rw [h1] at h
  cases h2:ruleB L l1 l2 && chainB l with
  | false=>rw [h2] at h;simp at h
  | true =>
   rw [h2] at h
   rw [Bool.and_eq_true] at h2
   by_cases h3:(0:Int) ∈ l1
   ·by_cases h4:(0:Int) ∈ l2
    ·exact ⟨h2.1,h2.2,h3,h4,rfl⟩
    ·simp [h3,h4] at h
   ·simp [h3] at h
def spanLo (L:Int) (l:List Term) (p q r:Int):Int:=(chainTo l l.length).1 - unitsPl L l p q r
def spanHi (L:Int) (l:List Term) (p q r:Int):Int:=(chainTo l l.length).2+unitsPl L l p q r
def exCode (L:Int) (l1 l2:List Int) (l:List Term) (p q r:Int):Int:=if boundCode L l1 l2 l p q r=0 then spanC (spanLo L l p q r) (spanHi L l p q r) else boundCode L l1 l2 l p q r
def exB (L:Int) (l1 l2:List Int) (l:List Term) (p q r:Int):Bool:=exCode L l1 l2 l p q r == 0
def spLoF (a b:Int):Figure:=if spanC a b=0 then belF a else ⟨0,0⟩
def spHiF (a b:Int):Figure:=if spanC a b=0 then aboF b else ⟨0,0⟩
theorem spanR_form (a b:Int):spanR a b=.tuple #[.agg #[.int .i64 (spLoF a b).digits,.int .i64 (spLoF a b).tens],.agg #[.int .i64 (spHiF a b).digits,.int .i64 (spHiF a b).tens],.int .i64 (spanC a b)]:=by
 unfold spanR spLoF spHiF
 by_cases h:spanC a b=0
 ·rw [if_pos h,if_pos h,if_pos h,h]
 ·rw [if_neg h,if_neg h,if_neg h]
def exLoF (L:Int) (l1 l2:List Int) (l:List Term) (p q r:Int):Figure:=if boundCode L l1 l2 l p q r=0 then spLoF (spanLo L l p q r) (spanHi L l p q r) else ⟨0,0⟩
def exHiF (L:Int) (l1 l2:List Int) (l:List Term) (p q r:Int):Figure:=if boundCode L l1 l2 l p q r=0 then spHiF (spanLo L l p q r) (spanHi L l p q r) else ⟨0,0⟩
theorem spread_c (a b u:Int) (w:World) (h:-1099511627776 ≤ a∧a ≤ 1099511627776) (h2:-1099511627776 ≤ b∧b ≤ 1099511627776) (h3:0 ≤ u∧u ≤ 1099511627776) :
  Calls Tryz.prog 162 #[.agg #[.int .i64 a,.int .i64 b],.int .i64 u] w fun e w'=>e=.returned (.agg #[.int .i64 (a - u),.int .i64 (b+u)])∧Below w.heap.size w w':=by
 obtain ⟨p1,p2⟩:=h
 obtain ⟨p3,p4⟩:=h2
 obtain ⟨p5,p6⟩:=h3
 go_enter Tryz.func162,Tryz.ntmps162
 go_wp2
 refine bodyPost_ret (v:=.agg #[.int .i64 (a - u),.int .i64 (b+u)]) (by simp [results,Tryz.results162,go_sem]) rfl ⟨rfl,(by repeat first | with_reducible (first | exact Below.refl _ _ | apply below_drewN' | apply Below.drew | refine Below.alloc ?_ ?_ _ | refine Below.setCell ?_ ?_ _) | exact Below.refl _ _ | omega | (simp <;> omega) | (have:=(Below.refl _ _).size;first | omega | (simp <;> omega)))⟩
theorem held6 {w0 w w1:World} {b1 b2:Nat} {u1 u2 u3 u4:Value} (hb:Below w.heap.size w w1) (h:w.cell? ⟨b1,0,none⟩=some u1∧w.cell? ⟨b2,0,none⟩=some u2∧w.cell? ⟨b2,1,none⟩=some u3∧w.cell? ⟨b2,2,none⟩=some u4∧Below w0.heap.size w0 w∧b1 < w.heap.size∧b2 < w.heap.size) :
  w1.cell? ⟨b1,0,none⟩=some u1∧w1.cell? ⟨b2,0,none⟩=some u2∧w1.cell? ⟨b2,1,none⟩=some u3∧w1.cell? ⟨b2,2,none⟩=some u4∧Below w0.heap.size w0 w1∧b1 < w1.heap.size∧b2 < w1.heap.size :=
 ⟨(hb.cell (p:=⟨b1,0,none⟩) h.2.2.2.2.2.1).trans h.1,(hb.cell (p:=⟨b2,0,none⟩) h.2.2.2.2.2.2).trans h.2.1,(hb.cell (p:=⟨b2,1,none⟩) h.2.2.2.2.2.2).trans h.2.2.1,(hb.cell (p:=⟨b2,2,none⟩) h.2.2.2.2.2.2).trans h.2.2.2.1,h.2.2.2.2.1.trans (hb.mono h.2.2.2.2.1.size),Nat.lt_of_lt_of_le h.2.2.2.2.2.1 hb.size,Nat.lt_of_lt_of_le h.2.2.2.2.2.2 hb.size⟩
theorem planUnits_c (L:Int) (A1:Option Addr) (c1:Nat) (l1:List Int) (A2:Option Addr) (c2:Nat) (l2:List Int) (A3:Option Addr) (c3:Nat) (l:List Term) (p q r:Int) (w:World) (R:RuleIn w A1 l1 A2 l2)
  (hl:chainB l=true) (hc3:l.length ≤ c3) (hs:Sl w w.heap.size 3 A3 (l.map Term.cells)) (hL:1 ≤ L∧L ≤ 100000) (he:errorsB p q r=true) :
  Calls Tryz.prog 164 #[.agg #[.int .i64 L,.slice A1 l1.length c1,.slice A2 l2.length c2],.slice A3 l.length c3,.agg #[.int .i64 p,.int .i64 q,.int .i64 r]] w fun e w'=>e=.returned (.int .i64 (unitsPl L l p q r))∧Below w.heap.size w w':=by
 obtain ⟨k1,k2,k3,_⟩:=chainB_parts hl
 obtain ⟨e1,e2,e3⟩:=errors_bd he
 have hub:=unitsC_bd hL e1 e2 e3
 have hn:=(usual_ok k1 k2 k3).2
 have hsl:=setTo_le (usualP l).ms (usualP l).ms.length
 have hUp:=unitsPl_bd hl hL e1 e2 e3
 unfold unitsPl at hUp ⊢
 have hR:∀ W,Below w.heap.size w W→RuleIn W A1 l1 A2 l2:=fun W hW=>⟨R.h1,R.h2,(R.s1.below hW).more hW.size,(R.s2.below hW).more hW.size,R.m1,R.m2⟩
 have HU:=fun (W:World) (hW:Below w.heap.size w W)=>Lib.hid (usualPlan_c L A1 c1 l1 A2 c2 l2 A3 c3 l W (hR W hW) k1 k2 hc3 k3 ((hs.below hW).more hW.size))
 have HE:=fun W=>Lib.hid (errorUnitsC_c L p q r W hL e1 e2 e3)
 have HC:=fun A c W (hsl:Sl W W.heap.size 4 A ((usualP l).ms.map Move.cells))=>Lib.hid (countSettings_c A c (usualP l).ms W (by omega) hsl)
 have hW:Below w.heap.size w ((w.alloc (.cells #[.int .i64 L,.slice A1 l1.length c1,.slice A2 l2.length c2] 26)).alloc (.cells #[.int .i64 p,.int .i64 q,.int .i64 r] 29)):=(by repeat first | with_reducible (first | exact Below.refl _ _ | apply below_drewN' | apply Below.drew | refine Below.alloc ?_ ?_ _ | refine Below.setCell ?_ ?_ _) | exact Below.refl _ _ | omega | (simp <;> omega) | (have:=(Below.refl _ _).size;first | omega | (simp <;> omega)))
 have B3:Blk ((w.alloc (.cells #[.int .i64 L,.slice A1 l1.length c1,.slice A2 l2.length c2] 26)).alloc (.cells #[.int .i64 p,.int .i64 q,.int .i64 r] 29)) w.heap.size 26 #[.int .i64 L,.slice A1 l1.length c1,.slice A2 l2.length c2]:=(Blk.new _ _ _).alloc _
 have B5:Blk ((w.alloc (.cells #[.int .i64 L,.slice A1 l1.length c1,.slice A2 l2.length c2] 26)).alloc (.cells #[.int .i64 p,.int .i64 q,.int .i64 r] 29)) (w.heap.size+1) 29 #[.int .i64 p,.int .i64 q,.int .i64 r]:=Blk.new' _ _ _ (by simp)
 have hul:(usualP l).ms.length ≤ 19:=hn
 clear hn hl hs R hR he hL e1 e2 e3 k1 k2 k3
 generalize unitsC L p q r=u at *
 generalize setTo (usualP l).ms (usualP l).ms.length=n at *
 have hn19:n ≤ 19:=by omega
 go_enter Tryz.func164,Tryz.ntmps164
 go_wp2_with fail
 generalize ((w.alloc (.cells #[.int .i64 L,.slice A1 l1.length c1,.slice A2 l2.length c2] 26)).alloc (.cells #[.int .i64 p,.int .i64 q,.int .i64 r] 29))=W at *
 refine Calls.mono (HU W hW).out ?_;rintro e w1 ⟨A',c',rfl,hO1,hb1⟩
 have C3:=B3.below hb1 B3.lt
 have C5:=B5.below hb1 B5.lt
 have hW1:=hW.trans (hb1.mono hW.size)
 clear B3 B5 hb1 HU hW
 go_wp2_with fail
 have hba:Below w1.heap.size w1 (w1.alloc (.cells #[.int .i64 (usualP l).sh,.int .i64 (usualP l).cu] 104)):=(Below.refl _ _).alloc (Nat.le_refl _) _
 have D3:=C3.below hba C3.lt
 have D5:=C5.below hba C5.lt
 have hW2:=hW1.trans (hba.mono hW1.size)
 have hSl:=(hO1.sl.below hba).more hba.size
 clear C3 C5 hba hO1 hW1
 generalize w1.alloc (.cells #[.int .i64 (usualP l).sh,.int .i64 (usualP l).cu] 104)=w2 at *
 have hI:w2.drew.cell? ⟨w.heap.size,0,none⟩=some (.int .i64 L)∧w2.drew.cell? ⟨w.heap.size+1,0,none⟩=some (.int .i64 p)∧w2.drew.cell? ⟨w.heap.size+1,1,none⟩=some (.int .i64 q)∧w2.drew.cell? ⟨w.heap.size+1,2,none⟩=some (.int .i64 r)∧Below w.heap.size w w2.drew∧w.heap.size < w2.drew.heap.size∧w.heap.size+1 < w2.drew.heap.size :=
  ⟨D3.cell 0,D5.cell 0,D5.cell 1,D5.cell 2,hW2.drew,D3.lt,D5.lt⟩
 have HSl:Hid (Sl w2.drew w2.drew.heap.size 4 A' ((usualP l).ms.map Move.cells)):=hSl
 have hw1:IntKind.i64.wrap ((n:Int)+1)=n+1:=IntWalk.i64_in _ (by omega)
 have hw2:IntKind.i64.wrap (u+2)=u+2:=IntWalk.i64_in _ (by omega)
 have hw3:IntKind.i64.wrap (((n:Int)+1) * (u+2))=((n:Int)+1) * (u+2):=IntWalk.i64_in _ (by omega)
 have hfin:∀ w':World,(w'.cell? ⟨w.heap.size,0,none⟩=some (.int .i64 L)∧w'.cell? ⟨w.heap.size+1,0,none⟩=some (.int .i64 p)∧w'.cell? ⟨w.heap.size+1,1,none⟩=some (.int .i64 q)∧w'.cell? ⟨w.heap.size+1,2,none⟩=some (.int .i64 r)∧Below w.heap.size w w'∧w.heap.size < w'.heap.size∧w.heap.size+1 < w'.heap.size)→Below w.heap.size w w':=fun _ h=>h.2.2.2.2.1
 clear D3 D5 hSl hW2
 go_region_held3 (fun w'=>w'.cell? ⟨w.heap.size,0,none⟩=some (.int .i64 L)∧w'.cell? ⟨w.heap.size+1,0,none⟩=some (.int .i64 p)∧w'.cell? ⟨w.heap.size+1,1,none⟩=some (.int .i64 q)∧w'.cell? ⟨w.heap.size+1,2,none⟩=some (.int .i64 r)∧Below w.heap.size w w'∧w.heap.size < w'.heap.size∧w.heap.size+1 < w'.heap.size)
  (first | with_reducible exact hI | with_reducible exact held6 (by assumption) (by assumption))
  (first | (go_at_call 200;refine Calls.mono (HC A' c' _ HSl.out).out ?_;rintro e w3 ⟨rfl,hb3⟩) | (go_at_call 201;refine Calls.mono (HE _).out ?_;rintro e w4 ⟨rfl,hb4⟩))
 go_wp2
 go_ret
 exact ⟨rfl,hfin _ (by assumption)⟩
end Go.Proofs.YtednjmldjbndhaaGreat
namespace Go.Proofs.YtednjmldjbndhaaGreat
open Go.RowKit
structure PsS (w0:World) (L:Int) (A1:Option Addr) (n1 c1:Nat) (A2:Option Addr) (n2 c2:Nat) (p q r:Int) (v:World):Prop where
 hb:Below w0.heap.size w0 v
 b3:Blk v w0.heap.size 26 #[.int .i64 L,.slice A1 n1 c1,.slice A2 n2 c2]
 b5:Blk v (w0.heap.size+1) 29 #[.int .i64 p,.int .i64 q,.int .i64 r]
 b6:Blk v (w0.heap.size+2) 51 #[.int .i64 0,.int .i64 0]
 b7:Blk v (w0.heap.size+3) 51 #[.int .i64 0,.int .i64 0]
section
variable {w0 v v' : World} {L : Int} {A1 : Option Addr} {n1 c1 : Nat} {A2 : Option Addr} {n2 c2 : Nat} {p q r : Int}
theorem PsS.below (h:PsS w0 L A1 n1 c1 A2 n2 c2 p q r v) (hb:Below v.heap.size v v'):PsS w0 L A1 n1 c1 A2 n2 c2 p q r v' :=
 ⟨h.hb.trans (hb.mono h.hb.size),h.b3.below hb h.b3.lt,h.b5.below hb h.b5.lt,h.b6.below hb h.b6.lt,h.b7.below hb h.b7.lt⟩
theorem PsS.drew (h:PsS w0 L A1 n1 c1 A2 n2 c2 p q r v):PsS w0 L A1 n1 c1 A2 n2 c2 p q r v.drew:=⟨h.hb.drew,h.b3,h.b5,h.b6,h.b7⟩
theorem PsS.init:PsS w0 L A1 n1 c1 A2 n2 c2 p q r ((((w0.alloc (.cells #[.int .i64 L,.slice A1 n1 c1,.slice A2 n2 c2] 26)).alloc (.cells #[.int .i64 p,.int .i64 q,.int .i64 r] 29)).alloc (.cells #[.int .i64 0,.int .i64 0] 51)).alloc (.cells #[.int .i64 0,.int .i64 0] 51)) :=
 ⟨(by repeat first | with_reducible (first | exact Below.refl _ _ | apply below_drewN' | apply Below.drew | refine Below.alloc ?_ ?_ _ | refine Below.setCell ?_ ?_ _) | exact Below.refl _ _ | omega | (simp <;> omega) | (have:=(Below.refl _ _).size;first | omega | (simp <;> omega))),(((Blk.new _ _ _).alloc _).alloc _).alloc _,((Blk.new' _ _ _ (by simp)).alloc _).alloc _,(Blk.new' _ _ _ (by simp)).alloc _,Blk.new' _ _ _ (by simp)⟩
end
theorem RuleIn.later {w W:World} {A1:Option Addr} {l1:List Int} {A2:Option Addr} {l2:List Int} (R:RuleIn w A1 l1 A2 l2) (hW:Below w.heap.size w W):RuleIn W A1 l1 A2 l2 :=
 ⟨R.h1,R.h2,(R.s1.below hW).more hW.size,(R.s2.below hW).more hW.size,R.m1,R.m2⟩
theorem chain_bd {l:List Term} (hl:chainB l=true):(-268435456 ≤ (chainTo l l.length).1∧(chainTo l l.length).1 ≤ 268435456)∧(-268435456 ≤ (chainTo l l.length).2∧(chainTo l l.length).2 ≤ 268435456):=by
 obtain ⟨_,k2,k3,_⟩:=chainB_parts hl
 have:=chainTo_bd k3 (Nat.le_refl l.length)
 omega
theorem planSpan_c (L:Int) (A1:Option Addr) (c1:Nat) (l1:List Int) (A2:Option Addr) (c2:Nat) (l2:List Int) (A3:Option Addr) (c3:Nat) (l:List Term) (p q r:Int) (w:World) (R:RuleIn w A1 l1 A2 l2)
  (hl:chainB l=true) (hc3:l.length ≤ c3) (hs:Sl w w.heap.size 3 A3 (l.map Term.cells)) (hL:1 ≤ L∧L ≤ 100000) (he:errorsB p q r=true) :
  Calls Tryz.prog 98 #[.agg #[.int .i64 L,.slice A1 l1.length c1,.slice A2 l2.length c2],.slice A3 l.length c3,.agg #[.int .i64 p,.int .i64 q,.int .i64 r]] w fun e w'=>e=.returned (spanR (spanLo L l p q r) (spanHi L l p q r))∧Below w.heap.size w w':=by
 obtain ⟨k1,k2,k3,_⟩:=chainB_parts hl
 obtain ⟨e1,e2,e3⟩:=errors_bd he
 have hUp:=unitsPl_bd hl hL e1 e2 e3
 have hcb:=chain_bd hl
 have HU:=fun (W:World) (hW:Below w.heap.size w W)=>Lib.hid (planUnits_c L A1 c1 l1 A2 c2 l2 A3 c3 l p q r W (R.later hW) hl hc3 ((hs.below hW).more hW.size) hL he)
 have HC:=fun (W:World) (hW:Below w.heap.size w W)=>Lib.hid (chainLog_c A3 c3 l W k2 k3 ((hs.below hW).more hW.size))
 unfold spanLo spanHi
 generalize (chainTo l l.length).1=lo at *
 generalize (chainTo l l.length).2=hi at *
 generalize unitsPl L l p q r=u at *
 have HSp:=fun W=>Lib.hid (spread_c lo hi u W (by omega) (by omega) (by omega))
 have HSo:=fun W=>spanOf_c (lo - u) (hi+u) W
 rw [spanR_form] at HSo
 rw [spanR_form]
 generalize spLoF (lo - u) (hi+u)=F1 at *
 generalize spHiF (lo - u) (hi+u)=F2 at *
 generalize spanC (lo - u) (hi+u)=cc at *
 have HSo:=fun W=>Lib.hid (HSo W)
 obtain ⟨d1,t1⟩:=F1
 obtain ⟨d2,t2⟩:=F2
 simp only at HSo
 have hP0:PsS w L A1 l1.length c1 A2 l2.length c2 p q r _:=PsS.init
 clear hl hcb hUp e1 e2 e3 k1 k2 k3 R hs hL he hc3
 go_enter Tryz.func98,Tryz.ntmps98
 go_wp2_with fail
 generalize ((((w.alloc (.cells #[.int .i64 L,.slice A1 l1.length c1,.slice A2 l2.length c2] 26)).alloc (.cells #[.int .i64 p,.int .i64 q,.int .i64 r] 29)).alloc (.cells #[.int .i64 0,.int .i64 0] 51)).alloc (.cells #[.int .i64 0,.int .i64 0] 51))=W at *
 refine wp_region_sink 11 (fun a0 fL bA v=>∃ v9 v10 v11 v12 v13 v14 v15 v16 v17 v18 v19:Value,bA=((((((((((a0.put (some 9) v9).put (some 10) v10).put (some 11) v11).put (some 12) v12).put (some 13) v13).put (some 14) v14).put (some 15) v15).put (some 16) v16).put (some 17) v17).put (some 18) v18).put (some 19) v19∧PsS w L A1 l1.length c1 A2 l2.length c2 p q r v∧(fL 0=true→v9=.slice A3 l.length c3)∧(fL 1=true→v10=.agg #[.int .i64 lo,.int .i64 hi])∧(fL 2=true→v11=.agg #[.int .i64 L,.slice A1 l1.length c1,.slice A2 l2.length c2])∧(fL 3=true→v12=.slice A3 l.length c3)∧(fL 4=true→v13=.agg #[.int .i64 p,.int .i64 q,.int .i64 r])∧(fL 5=true→v14=.int .i64 u)∧(fL 6=true→v15=.agg #[.int .i64 (lo - u),.int .i64 (hi+u)])∧(fL 7=true→v16=.tuple #[.agg #[.int .i64 d1,.int .i64 t1],.agg #[.int .i64 d2,.int .i64 t2],.int .i64 cc])∧(fL 8=true→v17=.agg #[.int .i64 d1,.int .i64 t1])∧(fL 9=true→v18=.agg #[.int .i64 d2,.int .i64 t2])∧(fL 10=true→v19=.int .i64 cc)) (by kernel_rfl) (by decide +kernel) ?_ ?_ ?_
 ·exact ⟨undef,undef,undef,undef,undef,undef,undef,undef,undef,undef,undef,by simp only [Act.put,List.setIfInBounds_toArray,List.set_cons_zero,List.set_cons_succ],hP0.drew,nofun,nofun,nofun,nofun,nofun,nofun,nofun,nofun,nofun,nofun,nofun⟩
 ·rintro fL bA v ⟨v9,v10,v11,v12,v13,v14,v15,v16,v17,v18,v19,rfl,hS,q0,q1,q2,q3,q4,q5,q6,q7,q8,q9,q10⟩ i hi hf o ho hall
  simp only [Act.put,List.setIfInBounds_toArray,List.set_cons_zero,List.set_cons_succ]
  have hn:i=0 ∨ i=1 ∨ i=2 ∨ i=3 ∨ i=4 ∨ i=5 ∨ i=6 ∨ i=7 ∨ i=8 ∨ i=9 ∨ i=10:=by omega
  clear hi
  rcases hn with rfl | rfl | rfl | rfl | rfl | rfl | rfl | rfl | rfl | rfl | rfl
  ·obtain rfl:=Option.some.inj ho
   clear hall ho
   refine wpOp_step rfl (fun K hK=>?_)
   go_simp
   exact hK _ _ ⟨_,_,_,_,_,_,_,_,_,_,_,rfl,hS,fun _=>rfl,q1,q2,q3,q4,q5,q6,q7,q8,q9,q10⟩
  ·obtain rfl:=Option.some.inj ho
   obtain rfl:=q0 (hall ⟨0,.data⟩ (by simp) rfl)
   clear hall ho
   refine wpOp_step rfl (fun K hK=>?_)
   go_simp
   refine Calls.mono ((HC _ hS.hb).out) ?_;rintro e w1 ⟨rfl,hb1⟩
   go_simp
   exact hK _ _ ⟨_,_,_,_,_,_,_,_,_,_,_,rfl,hS.below hb1,fun _=>rfl,fun _=>rfl,q2,q3,q4,q5,q6,q7,q8,q9,q10⟩
  ·obtain rfl:=Option.some.inj ho
   have y0:v.cell? ⟨w.heap.size,0,none⟩=some (.int .i64 L):=hS.b3.cell 0
   have y1:v.cell? ⟨w.heap.size,1,none⟩=some (.slice A1 l1.length c1):=hS.b3.cell 1
   have y2:v.cell? ⟨w.heap.size,2,none⟩=some (.slice A2 l2.length c2):=hS.b3.cell 2
   clear hall ho
   refine wpOp_step rfl (fun K hK=>?_)
   go_simp
   exact hK _ _ ⟨_,_,_,_,_,_,_,_,_,_,_,rfl,hS,q0,q1,fun _=>rfl,q3,q4,q5,q6,q7,q8,q9,q10⟩
  ·obtain rfl:=Option.some.inj ho
   clear hall ho
   refine wpOp_step rfl (fun K hK=>?_)
   go_simp
   exact hK _ _ ⟨_,_,_,_,_,_,_,_,_,_,_,rfl,hS,q0,q1,q2,fun _=>rfl,q4,q5,q6,q7,q8,q9,q10⟩
  ·obtain rfl:=Option.some.inj ho
   have y0:v.cell? ⟨w.heap.size+1,0,none⟩=some (.int .i64 p):=hS.b5.cell 0
   have y1:v.cell? ⟨w.heap.size+1,1,none⟩=some (.int .i64 q):=hS.b5.cell 1
   have y2:v.cell? ⟨w.heap.size+1,2,none⟩=some (.int .i64 r):=hS.b5.cell 2
   clear hall ho
   refine wpOp_step rfl (fun K hK=>?_)
   go_simp
   exact hK _ _ ⟨_,_,_,_,_,_,_,_,_,_,_,rfl,hS,q0,q1,q2,q3,fun _=>rfl,q5,q6,q7,q8,q9,q10⟩
  ·obtain rfl:=Option.some.inj ho
   obtain rfl:=q2 (hall ⟨2,.data⟩ (by simp) rfl)
   obtain rfl:=q3 (hall ⟨3,.data⟩ (by simp) rfl)
   obtain rfl:=q4 (hall ⟨4,.data⟩ (by simp) rfl)
   clear hall ho
   refine wpOp_step rfl (fun K hK=>?_)
   go_simp
   refine Calls.mono ((HU _ hS.hb).out) ?_;rintro e w1 ⟨rfl,hb1⟩
   go_simp
   exact hK _ _ ⟨_,_,_,_,_,_,_,_,_,_,_,rfl,hS.below hb1,q0,q1,fun _=>rfl,fun _=>rfl,fun _=>rfl,fun _=>rfl,q6,q7,q8,q9,q10⟩
  ·obtain rfl:=Option.some.inj ho
   obtain rfl:=q1 (hall ⟨1,.data⟩ (by simp) rfl)
   obtain rfl:=q5 (hall ⟨5,.data⟩ (by simp) rfl)
   clear hall ho
   refine wpOp_step rfl (fun K hK=>?_)
   go_simp
   refine Calls.mono ((HSp _).out) ?_;rintro e w1 ⟨rfl,hb1⟩
   go_simp
   exact hK _ _ ⟨_,_,_,_,_,_,_,_,_,_,_,rfl,hS.below hb1,q0,fun _=>rfl,q2,q3,q4,fun _=>rfl,fun _=>rfl,q7,q8,q9,q10⟩
  ·obtain rfl:=Option.some.inj ho
   obtain rfl:=q6 (hall ⟨6,.data⟩ (by simp) rfl)
   clear hall ho
   refine wpOp_step rfl (fun K hK=>?_)
   go_simp
   refine Calls.mono ((HSo _).out) ?_;rintro e w1 ⟨rfl,hb1⟩
   go_simp
   exact hK _ _ ⟨_,_,_,_,_,_,_,_,_,_,_,rfl,hS.below hb1,q0,q1,q2,q3,q4,q5,fun _=>rfl,fun _=>rfl,q8,q9,q10⟩
  ·obtain rfl:=Option.some.inj ho
   obtain rfl:=q7 (hall ⟨7,.data⟩ (by simp) rfl)
   clear hall ho
   refine wpOp_step rfl (fun K hK=>?_)
   go_simp
   exact hK _ _ ⟨_,_,_,_,_,_,_,_,_,_,_,rfl,hS,q0,q1,q2,q3,q4,q5,q6,fun _=>rfl,fun _=>rfl,q9,q10⟩
  ·obtain rfl:=Option.some.inj ho
   obtain rfl:=q7 (hall ⟨7,.data⟩ (by simp) rfl)
   clear hall ho
   refine wpOp_step rfl (fun K hK=>?_)
   go_simp
   exact hK _ _ ⟨_,_,_,_,_,_,_,_,_,_,_,rfl,hS,q0,q1,q2,q3,q4,q5,q6,fun _=>rfl,q8,fun _=>rfl,q10⟩
  ·obtain rfl:=Option.some.inj ho
   obtain rfl:=q7 (hall ⟨7,.data⟩ (by simp) rfl)
   clear hall ho
   refine wpOp_step rfl (fun K hK=>?_)
   go_simp
   exact hK _ _ ⟨_,_,_,_,_,_,_,_,_,_,_,rfl,hS,q0,q1,q2,q3,q4,q5,q6,fun _=>rfl,q8,q9,fun _=>rfl⟩
 ·rintro fL bA v ⟨v9,v10,v11,v12,v13,v14,v15,v16,v17,v18,v19,rfl,hS,q0,q1,q2,q3,q4,q5,q6,q7,q8,q9,q10⟩ hall
  simp only [Act.put,List.setIfInBounds_toArray,List.set_cons_zero,List.set_cons_succ]
  obtain rfl:=q0 (hall 0 (by omega))
  obtain rfl:=q1 (hall 1 (by omega))
  obtain rfl:=q2 (hall 2 (by omega))
  obtain rfl:=q3 (hall 3 (by omega))
  obtain rfl:=q4 (hall 4 (by omega))
  obtain rfl:=q5 (hall 5 (by omega))
  obtain rfl:=q6 (hall 6 (by omega))
  obtain rfl:=q7 (hall 7 (by omega))
  obtain rfl:=q8 (hall 8 (by omega))
  obtain rfl:=q9 (hall 9 (by omega))
  obtain rfl:=q10 (hall 10 (by omega))
  clear hall
  simp only [List.drop_succ_cons,List.drop_zero]
  have z0:v.cell? ⟨w.heap.size+1+1,0,none⟩=some (.int .i64 0):=hS.b6.cell 0
  have z1:v.cell? ⟨w.heap.size+1+1,1,none⟩=some (.int .i64 0):=hS.b6.cell 1
  have z2:v.cell? ⟨w.heap.size+1+1+1,0,none⟩=some (.int .i64 0):=hS.b7.cell 0
  have z3:v.cell? ⟨w.heap.size+1+1+1,1,none⟩=some (.int .i64 0):=hS.b7.cell 1
  have f0:v.frozen? ⟨w.heap.size+1+1,0,none⟩=false:=hS.b6.frozen 0
  have f1:v.frozen? ⟨w.heap.size+1+1,1,none⟩=false:=hS.b6.frozen 1
  have f2:v.frozen? ⟨w.heap.size+1+1+1,0,none⟩=false:=hS.b7.frozen 0
  have f3:v.frozen? ⟨w.heap.size+1+1+1,1,none⟩=false:=hS.b7.frozen 1
  have hbv:=hS.hb
  go_wp2
  refine bodyPost_ret (v:=.tuple #[.agg #[.int .i64 d1,.int .i64 t1],.agg #[.int .i64 d2,.int .i64 t2],.int .i64 cc]) (by simp [results,Tryz.results98,go_sem,z0,z1,z2,z3]) rfl ⟨rfl,(by repeat first | with_reducible (first | exact hbv | apply below_drewN' | apply Below.drew | refine Below.alloc ?_ ?_ _ | refine Below.setCell ?_ ?_ _) | exact hbv | omega | (simp <;> omega) | (have:=(hbv).size;first | omega | (simp <;> omega)))⟩
end Go.Proofs.YtednjmldjbndhaaGreat
namespace Go.Proofs.YtednjmldjbndhaaGreat
open Go.RowKit
theorem applyC_c {w0:World} {A1:Option Addr} {l1:List Int} {A2:Option Addr} {l2:List Int} (R:RuleIn w0 A1 l1 A2 l2) (L:Int) (c1 c2:Nat) (sh cu k d t:Int) (hk:0 ≤ k∧k ≤ 6) (hs:(-1048576 ≤ sh∧sh ≤ 1048576)∧0 ≤ cu∧cu ≤ 1048576) (hd:k ≤ 2→1000 ≤ d∧d ≤ 9999)
  (W:World) (hW:Below w0.heap.size w0 W) :
  Hid (Calls Tryz.prog 127 #[.agg #[.int .i64 L,.slice A1 l1.length c1,.slice A2 l2.length c2],.agg #[.int .i64 sh,.int .i64 cu],.agg #[.int .i64 k,.int .i64 0,.int .i64 d,.int .i64 t]] W fun e w' =>
   e=.returned (.tuple #[.agg #[.int .i64 (moveS sh cu k (pointC d)).1,.int .i64 (moveS sh cu k (pointC d)).2],.bool (setB (moveS sh cu k (pointC d)).1 (moveS sh cu k (pointC d)).2)])∧Below W.heap.size W w'):=by
 have e:=moveR_has R.m1 R.m2 sh cu k (pointC d)
 have s1:=(R.s1.below hW).more hW.size
 have s2:=(R.s2.below hW).more hW.size
 have hk':k=0 ∨ k=1 ∨ k=2 ∨ k=3 ∨ k=4 ∨ k=5 ∨ k=6:=by omega
 unfold Hid
 rcases hk' with rfl | rfl | rfl | rfl | rfl | rfl | rfl
 ·have h:=apply0_c L A1 c1 l1 A2 c2 l2 sh cu 0 d t (pointC d) W hs.1 hs.2 (pointC_bd (hd (by omega))) (fun W=>l11Point_c d t W (hd (by omega))) R.h1 s1
  rw [e] at h
  exact h
 ·have h:=apply1_c L A1 c1 l1 A2 c2 l2 sh cu 0 d t (pointC d) W hs.1 hs.2 (pointC_bd (hd (by omega))) (fun W=>l11Point_c d t W (hd (by omega))) R.h2 s2
  rw [e] at h
  exact h
 ·have h:=apply2_c L A1 c1 l1 A2 c2 l2 sh cu 0 d t (pointC d) W hs.1 hs.2 (pointC_bd (hd (by omega))) (fun W=>l11Point_c d t W (hd (by omega))) R.h2 s2
  rw [e] at h
  exact h
 ·have h:=apply3_c L A1 c1 l1 A2 c2 l2 sh cu 0 d t (pointC d) W hs.1 hs.2
  rw [e] at h
  exact h
 ·have h:=apply4_c L A1 c1 l1 A2 c2 l2 sh cu 0 d t (pointC d) W hs.1 hs.2
  rw [e] at h
  exact h
 ·have h:=apply5_c L A1 c1 l1 A2 c2 l2 sh cu 0 d t (pointC d) W hs.1 hs.2
  rw [e] at h
  exact h
 ·have h:=apply6_c L A1 c1 l1 A2 c2 l2 sh cu 0 d t (pointC d) W hs.1 hs.2
  rw [e] at h
  exact h
structure DlS (w1:World) (rows:List (List Value)) (m:List Value) (b24 b27 b29 b30:Bool) (v24 v27 v29 v30:Value) (v:World):Prop where
 hb:Below w1.heap.size w1 v
 q24:b24=true→b27=false→Own v w1.heap.size 75 4 v24 []
 q27:b27=true→b30=false→Own v w1.heap.size 75 4 v27 rows
 q29:b29=true→b30=false→∃ gb,v29=.slice (some ⟨gb,0,none⟩) 1 1∧Blk v gb 75 m.toArray∧(b24=true→b27=false→some gb ≠ v24.ownBlock)
 q30:b30=true→Own v w1.heap.size 75 4 v30 (rows ++ [m])
 dd:(b30=true→b27=true∧b29=true)∧(b27=true→b24=true)
section
variable {w1 v v' : World} {rows : List (List Value)} {m : List Value} {b24 b27 b29 b30 : Bool} {v24 v27 v29 v30 u : Value}
theorem DlS.drew (h:DlS w1 rows m b24 b27 b29 b30 v24 v27 v29 v30 v):DlS w1 rows m b24 b27 b29 b30 v24 v27 v29 v30 v.drew:=⟨h.hb.drew,h.q24,h.q27,h.q29,h.q30,h.dd⟩
theorem DlS.s24 (h:DlS w1 rows m b24 b27 b29 b30 v24 v27 v29 v30 v) (h24:b24=false):DlS w1 rows m true b27 b29 b30 (.slice (some ⟨v.heap.size,0,none⟩) 0 0) v27 v29 v30 (v.alloc (.cells #[] 75)):=by
 have h27:b27=false:=by cases e:b27 with | false=>rfl | true=>have:=h.dd.2 e;rw [h24] at this;cases this
 have h30:b30=false:=by cases e:b30 with | false=>rfl | true=>have:=(h.dd.1 e).1;rw [h27] at this;cases this
 refine ⟨h.hb.alloc h.hb.size _,fun _ _=>Own.empty h.hb.size,fun e=>(by rw [h27] at e;cases e),fun e e'=>?_,fun e=>(by rw [h30] at e;cases e),⟨fun e=>(by rw [h30] at e;cases e),fun _=>rfl⟩⟩
 obtain ⟨gb,r1,r2,_⟩:=h.q29 e e'
 refine ⟨gb,r1,r2.alloc _,fun _ _=>?_⟩
 have:=r2.lt
 simp only [Value.ownBlock,ne_eq,Option.some.injEq]
 omega
theorem DlS.s29 (h:DlS w1 rows m b24 b27 b29 b30 v24 v27 v29 v30 v) (h29:b29=false):DlS w1 rows m b24 b27 true b30 v24 v27 (.slice (some ⟨v.heap.size,0,none⟩) 1 1) v30 (v.alloc (.cells m.toArray 75)):=by
 have h30:b30=false:=by cases e:b30 with | false=>rfl | true=>have:=(h.dd.1 e).2;rw [h29] at this;cases this
 exact ⟨h.hb.alloc h.hb.size _,fun e e'=>(h.q24 e e').alloc _,fun e e'=>(h.q27 e e').alloc _,fun _ _=>⟨_,rfl,Blk.new _ _ _,fun e e'=>own_lt (h.q24 e e') (Nat.le_refl _)⟩,fun e=>(by rw [h30] at e;cases e),⟨fun e=>(by rw [h30] at e;cases e),h.dd.2⟩⟩
theorem DlS.s27 (h:DlS w1 rows m b24 b27 b29 b30 v24 v27 v29 v30 v) (h27:b27=false) (h24:b24=true) (hO:Own v' w1.heap.size 75 4 u ([] ++ rows)) (hg:v.grownBy v' v24.ownBlock):DlS w1 rows m b24 true b29 b30 v24 u v29 v30 v':=by
 have h30:b30=false:=by cases e:b30 with | false=>rfl | true=>have:=(h.dd.1 e).1;rw [h27] at this;cases this
 refine ⟨below_app h.hb hg h.hb.size (h.q24 h24 h27).ownGe,nofun,fun _ _=>hO,fun e e'=>?_,fun e=>(by rw [h30] at e;cases e),⟨fun e=>(by rw [h30] at e;cases e),fun _=>h24⟩⟩
 obtain ⟨gb,r1,r2,r3⟩:=h.q29 e e'
 exact ⟨gb,r1,(hg.block gb r2.lt (r3 h24 h27)).trans r2,nofun⟩
theorem DlS.s30 (h:DlS w1 rows m b24 b27 b29 b30 v24 v27 v29 v30 v) (h30:b30=false) (h27:b27=true) (h29:b29=true) (hO:Own v' w1.heap.size 75 4 u (rows ++ [m])) (hg:v.grownBy v' v27.ownBlock):DlS w1 rows m b24 b27 b29 true v24 v27 v29 u v' :=
 ⟨below_app h.hb hg h.hb.size (h.q27 h27 h30).ownGe,fun _ e=>(by rw [h27] at e;cases e),nofun,nofun,fun _=>hO,⟨fun _=>⟨h27,h29⟩,h.dd.2⟩⟩
theorem DlS.init:DlS w1 rows m false false false false undef undef undef undef w1.drew:=⟨(Below.refl _ _).drew,nofun,nofun,nofun,nofun,⟨nofun,nofun⟩⟩
end
def PlanV (w0:World) (p:PS) (v:Value) (w':World):Prop:=∃ A' c',v=.agg #[.int .i64 p.sh,.int .i64 p.cu,.slice A' p.ms.length c',.bool p.en]∧Own w' w0.heap.size 75 4 (.slice A' p.ms.length c') (p.ms.map Move.cells)
theorem l14Do_c (L:Int) (A1:Option Addr) (c1:Nat) (l1:List Int) (A2:Option Addr) (c2:Nat) (l2:List Int) (p:PS) (A c:_) (k d t:Int) (w:World) (R:RuleIn w A1 l1 A2 l2)
  (hk:0 ≤ k∧k ≤ 6) (hs:(-1048576 ≤ p.sh∧p.sh ≤ 1048576)∧0 ≤ p.cu∧p.cu ≤ 1048576) (hd:k ≤ 2→1000 ≤ d∧d ≤ 9999) (hr:p.ms.length ≤ 1000) (hS:Sl w w.heap.size 4 A (p.ms.map Move.cells)) :
  Calls Tryz.prog 118 #[.agg #[.int .i64 p.sh,.int .i64 p.cu,.slice A p.ms.length c,.bool p.en],.agg #[.int .i64 L,.slice A1 l1.length c1,.slice A2 l2.length c2],.int .i64 k,.agg #[.int .i64 d,.int .i64 t]] w fun e w'=>(∃ v,e=.returned v∧PlanV w (mvP p k d t false) v w')∧Below w.heap.size w w':=by
 obtain ⟨i0,hi0,hz0,hz1,hz2⟩:=info_parts info_Move
 obtain ⟨sh,cu,ms,en⟩:=p
 simp only at hs hr hS ⊢
 have HA:=fun (W:World) (hW:Below w.heap.size w W)=>applyC_c R L c1 c2 sh cu k d t hk hs hd W hW
 have Hres:Hid (mvP ⟨sh,cu,ms,en⟩ k d t false=⟨(moveS sh cu k (pointC d)).1,(moveS sh cu k (pointC d)).2,ms ++ [⟨k,0,d,t⟩],false⟩):=rfl
 have Hres2:Hid ((ms ++ [(⟨k,0,d,t⟩:Move)]).map Move.cells=ms.map Move.cells ++ [[.int .i64 k,.int .i64 0,.int .i64 d,.int .i64 t]]):=by unfold Hid;simp [Move.cells]
 have Hlen:Hid ((ms.map Move.cells).length=ms.length):=List.length_map _
 generalize (moveS sh cu k (pointC d)).1=a at *
 generalize (moveS sh cu k (pointC d)).2=b at *
 generalize setB a b=ok at *
 have HA:=Lib.hid HA
 have Hr:=Lib.hid hr
 have HSl:=Lib.hid hS
 have hW:Below w.heap.size w (((((w.alloc (.cells #[.int .i64 sh,.int .i64 cu,.slice A ms.length c,.bool en] 154)).alloc (.cells #[.int .i64 L,.slice A1 l1.length c1,.slice A2 l2.length c2] 26)).alloc (.cells #[.int .i64 d,.int .i64 t] 51)).alloc (.cells #[.int .i64 0,.int .i64 0,.slice none 0 0,.bool false] 154)).alloc (.cells #[.int .i64 k,.int .i64 0,.int .i64 d,.int .i64 t] 75)):=(by repeat first | with_reducible (first | exact Below.refl _ _ | apply below_drewN' | apply Below.drew | refine Below.alloc ?_ ?_ _ | refine Below.setCell ?_ ?_ _) | exact Below.refl _ _ | omega | (simp <;> omega) | (have:=(Below.refl _ _).size;first | omega | (simp <;> omega)))
 have B4:Blk (((((w.alloc (.cells #[.int .i64 sh,.int .i64 cu,.slice A ms.length c,.bool en] 154)).alloc (.cells #[.int .i64 L,.slice A1 l1.length c1,.slice A2 l2.length c2] 26)).alloc (.cells #[.int .i64 d,.int .i64 t] 51)).alloc (.cells #[.int .i64 0,.int .i64 0,.slice none 0 0,.bool false] 154)).alloc (.cells #[.int .i64 k,.int .i64 0,.int .i64 d,.int .i64 t] 75)) w.heap.size 154 #[.int .i64 sh,.int .i64 cu,.slice A ms.length c,.bool en]:=((((Blk.new _ _ _).alloc _).alloc _).alloc _).alloc _
 have B8:Blk (((((w.alloc (.cells #[.int .i64 sh,.int .i64 cu,.slice A ms.length c,.bool en] 154)).alloc (.cells #[.int .i64 L,.slice A1 l1.length c1,.slice A2 l2.length c2] 26)).alloc (.cells #[.int .i64 d,.int .i64 t] 51)).alloc (.cells #[.int .i64 0,.int .i64 0,.slice none 0 0,.bool false] 154)).alloc (.cells #[.int .i64 k,.int .i64 0,.int .i64 d,.int .i64 t] 75)) (w.heap.size+3) 154 #[.int .i64 0,.int .i64 0,.slice none 0 0,.bool false]:=(Blk.new' _ _ _ (by simp)).alloc _
 have B9:Blk (((((w.alloc (.cells #[.int .i64 sh,.int .i64 cu,.slice A ms.length c,.bool en] 154)).alloc (.cells #[.int .i64 L,.slice A1 l1.length c1,.slice A2 l2.length c2] 26)).alloc (.cells #[.int .i64 d,.int .i64 t] 51)).alloc (.cells #[.int .i64 0,.int .i64 0,.slice none 0 0,.bool false] 154)).alloc (.cells #[.int .i64 k,.int .i64 0,.int .i64 d,.int .i64 t] 75)) (w.heap.size+4) 75 #[.int .i64 k,.int .i64 0,.int .i64 d,.int .i64 t]:=Blk.new' _ _ _ (by simp)
 clear hk hs hd hr hS R
 go_enter Tryz.func118,Tryz.ntmps118
 go_wp2_with fail
 generalize (((((w.alloc (.cells #[.int .i64 sh,.int .i64 cu,.slice A ms.length c,.bool en] 154)).alloc (.cells #[.int .i64 L,.slice A1 l1.length c1,.slice A2 l2.length c2] 26)).alloc (.cells #[.int .i64 d,.int .i64 t] 51)).alloc (.cells #[.int .i64 0,.int .i64 0,.slice none 0 0,.bool false] 154)).alloc (.cells #[.int .i64 k,.int .i64 0,.int .i64 d,.int .i64 t] 75))=W at *
 refine Calls.mono (HA.out W hW).out ?_;rintro e w1 ⟨rfl,hb1⟩
 have hW1:=hW.trans (hb1.mono hW.size)
 have C4:=B4.below hb1 B4.lt
 have C8:=B8.below hb1 B8.lt
 have C9:=B9.below hb1 B9.lt
 clear hW B4 B8 B9 hb1 HA
 go_wp2_with fail
 have hba:Below w1.heap.size w1 (w1.alloc (.cells #[.int .i64 a,.int .i64 b] 104)):=(Below.refl _ _).alloc (Nat.le_refl _) _
 have D4:=C4.below hba C4.lt
 have D8:=C8.below hba C8.lt
 have D9:=C9.below hba C9.lt
 have D10:=Blk.new w1 104 #[.int .i64 a,.int .i64 b]
 have hW2:=hW1.trans (hba.mono hW1.size)
 clear C4 C8 C9 hba hW1
 generalize w1.alloc (.cells #[.int .i64 a,.int .i64 b] 104)=w2 at *
 generalize w1.heap.size=g10 at *
 have HSl2:Hid (Sl w2 w2.heap.size 4 A (ms.map Move.cells)):=(HSl.out.below hW2).more hW2.size
 have hD0:DlS w2 (ms.map Move.cells) [.int .i64 k,.int .i64 0,.int .i64 d,.int .i64 t] false false false false undef undef undef undef w2.drew:=DlS.init
 refine wp_region_sink 8 (fun a0 fL bA v=>∃ v23 v24 v25 v26 v27 v28 v29 v30:Value,bA=(((((((a0.put (some 23) v23).put (some 24) v24).put (some 25) v25).put (some 26) v26).put (some 27) v27).put (some 28) v28).put (some 29) v29).put (some 30) v30∧(DlS w2 (ms.map Move.cells) [.int .i64 k,.int .i64 0,.int .i64 d,.int .i64 t] (fL 1) (fL 4) (fL 6) (fL 7) v24 v27 v29 v30 v)∧(fL 0=true→v23=.agg #[.int .i64 a,.int .i64 b])∧(fL 1=true→True)∧(fL 2=true→v25=.pointer (some ⟨w.heap.size,2,none⟩))∧(fL 3=true→v26=.slice A ms.length c)∧(fL 4=true→True)∧(fL 5=true→v28=.agg #[.int .i64 k,.int .i64 0,.int .i64 d,.int .i64 t])∧(fL 6=true→True)∧(fL 7=true→True)) (by kernel_rfl) (by decide +kernel) ?_ ?_ ?_
 ·exact ⟨undef,undef,undef,undef,undef,undef,undef,undef,by simp only [Act.put,List.setIfInBounds_toArray,List.set_cons_zero,List.set_cons_succ],hD0,nofun,nofun,nofun,nofun,nofun,nofun,nofun,nofun⟩
 ·rintro fL bA v ⟨v23,v24,v25,v26,v27,v28,v29,v30,rfl,hS,q0,q1,q2,q3,q4,q5,q6,q7⟩ i hi hf o ho hall
  simp only [Act.put,List.setIfInBounds_toArray,List.set_cons_zero,List.set_cons_succ]
  have hn:i=0 ∨ i=1 ∨ i=2 ∨ i=3 ∨ i=4 ∨ i=5 ∨ i=6 ∨ i=7:=by omega
  clear hi
  rcases hn with rfl | rfl | rfl | rfl | rfl | rfl | rfl | rfl
  ·obtain rfl:=Option.some.inj ho
   have E:=D10.below hS.hb D10.lt
   have y0:v.cell? ⟨g10,0,none⟩=some (.int .i64 a):=E.cell 0
   have y1:v.cell? ⟨g10,1,none⟩=some (.int .i64 b):=E.cell 1
   clear hall ho
   refine wpOp_step rfl (fun K hK=>?_)
   go_simp
   exact hK _ _ ⟨_,_,_,_,_,_,_,_,rfl,hS,fun _=>rfl,fun _=>trivial,q2,q3,fun _=>trivial,q5,fun _=>trivial,fun _=>trivial⟩
  ·obtain rfl:=Option.some.inj ho
   clear hall ho
   refine wpOp_step rfl (fun K hK=>?_)
   go_simp
   exact hK _ _ ⟨_,_,_,_,_,_,_,_,rfl,hS.s24 hf,q0,fun _=>trivial,q2,q3,fun _=>trivial,q5,fun _=>trivial,fun _=>trivial⟩
  ·obtain rfl:=Option.some.inj ho
   clear hall ho
   refine wpOp_step rfl (fun K hK=>?_)
   go_simp
   exact hK _ _ ⟨_,_,_,_,_,_,_,_,rfl,hS,q0,fun _=>trivial,fun _=>rfl,q3,fun _=>trivial,q5,fun _=>trivial,fun _=>trivial⟩
  ·obtain rfl:=Option.some.inj ho
   obtain rfl:=q2 (hall ⟨2,.data⟩ (by simp) rfl)
   have E:=D4.below hS.hb D4.lt
   have y0:v.cell? ⟨w.heap.size,2,none⟩=some (.slice A ms.length c):=E.cell 2
   clear hall ho
   refine wpOp_step rfl (fun K hK=>?_)
   go_simp
   exact hK _ _ ⟨_,_,_,_,_,_,_,_,rfl,hS,q0,fun _=>trivial,fun _=>rfl,fun _=>rfl,fun _=>trivial,q5,fun _=>trivial,fun _=>trivial⟩
  ·obtain rfl:=Option.some.inj ho
   have e1:fL 1=true:=hall ⟨1,.data⟩ (by simp) rfl
   obtain rfl:=q3 (hall ⟨3,.data⟩ (by simp) rfl)
   clear hall ho
   refine wpOp_step rfl (fun K hK=>?_)
   refine step_append_rows _ rfl _ _ _ rfl w2.heap.size 75 i0 _ 4 32 Tryz.underlying49 hi0 hz0 hz1 hz2 rfl (by omega) _ [] rfl (hS.q24 e1 hf) _ _ _ _ (ms.map Move.cells) rfl Hlen.out (HSl2.out.below hS.hb) Move.one (by have:=Hr.out;unfold maxLen;simp only [List.length_nil];omega) (by have:=Hr.out;simp only [List.length_nil];omega) hS.hb.size ?_
   intro v' w' hO' hg' hat
   exact hK _ _ ⟨_,_,_,_,_,_,_,_,rfl,hS.s27 hf e1 hO' hg',q0,fun _=>trivial,q2,fun _=>rfl,fun _=>trivial,q5,fun _=>trivial,fun _=>trivial⟩
  ·obtain rfl:=Option.some.inj ho
   have E:=D9.below hS.hb D9.lt
   have y0:v.cell? ⟨w.heap.size+1+1+1+1,0,none⟩=some (.int .i64 k):=E.cell 0
   have y1:v.cell? ⟨w.heap.size+1+1+1+1,1,none⟩=some (.int .i64 0):=E.cell 1
   have y2:v.cell? ⟨w.heap.size+1+1+1+1,2,none⟩=some (.int .i64 d):=E.cell 2
   have y3:v.cell? ⟨w.heap.size+1+1+1+1,3,none⟩=some (.int .i64 t):=E.cell 3
   clear hall ho
   refine wpOp_step rfl (fun K hK=>?_)
   go_simp
   exact hK _ _ ⟨_,_,_,_,_,_,_,_,rfl,hS,q0,fun _=>trivial,q2,q3,fun _=>trivial,fun _=>rfl,fun _=>trivial,fun _=>trivial⟩
  ·obtain rfl:=Option.some.inj ho
   obtain rfl:=q5 (hall ⟨5,.data⟩ (by simp) rfl)
   clear hall ho
   refine wpOp_step rfl (fun K hK=>?_)
   go_simp
   exact hK _ _ ⟨_,_,_,_,_,_,_,_,rfl,hS.s29 hf,q0,fun _=>trivial,q2,q3,fun _=>trivial,fun _=>rfl,fun _=>trivial,fun _=>trivial⟩
  ·obtain rfl:=Option.some.inj ho
   have e4:fL 4=true:=hall ⟨4,.data⟩ (by simp) rfl
   have e6:fL 6=true:=hall ⟨6,.data⟩ (by simp) rfl
   clear hall ho
   refine wpOp_step rfl (fun K hK=>?_)
   obtain ⟨gb,rfl,Bb,_⟩:=hS.q29 e6 hf
   refine step_append_rows _ rfl _ _ _ rfl w2.heap.size 75 i0 _ 4 32 Tryz.underlying49 hi0 hz0 hz1 hz2 rfl (by omega) _ (ms.map Move.cells) rfl (hS.q27 e4 hf) _ _ _ _ [[.int .i64 k,.int .i64 0,.int .i64 d,.int .i64 t]] rfl rfl (Sl.of_blk Bb _ rfl (by simp)) (by simp [Value.oneCell']) (by rw [Hlen.out];have:=Hr.out;unfold maxLen;omega) (by rw [Hlen.out];have:=Hr.out;omega) hS.hb.size ?_
   intro v' w' hO' hg' hat
   exact hK _ _ ⟨_,_,_,_,_,_,_,_,rfl,hS.s30 hf e4 e6 hO' hg',q0,fun _=>trivial,q2,q3,fun _=>trivial,q5,fun _=>trivial,fun _=>trivial⟩
 ·rintro fL bA v ⟨v23,v24,v25,v26,v27,v28,v29,v30,rfl,hS,q0,q1,q2,q3,q4,q5,q6,q7⟩ hall
  simp only [Act.put,List.setIfInBounds_toArray,List.set_cons_zero,List.set_cons_succ]
  obtain rfl:=q0 (hall 0 (by omega))
  have e1:fL 1=true:=hall 1 (by omega)
  obtain rfl:=q2 (hall 2 (by omega))
  obtain rfl:=q3 (hall 3 (by omega))
  have e4:fL 4=true:=hall 4 (by omega)
  obtain rfl:=q5 (hall 5 (by omega))
  have e6:fL 6=true:=hall 6 (by omega)
  have e7:fL 7=true:=hall 7 (by omega)
  clear hall
  simp only [List.drop_succ_cons,List.drop_zero]
  have hO:=hS.q30 e7
  rw [← Hres2.out] at hO
  obtain ⟨A',c',rfl,hc'⟩:=hO.form
  have hll:((ms ++ [(⟨k,0,d,t⟩:Move)]).map Move.cells).length=(ms ++ [(⟨k,0,d,t⟩:Move)]).length:=List.length_map _
  have hvb:=hS.hb
  have E8:=D8.below hvb D8.lt
  have hW3:=hW2.trans (hvb.mono hW2.size)
  have hbase:w.heap.size ≤ w2.heap.size:=hW2.size
  have l8:w.heap.size+3 < v.heap.size:=E8.lt
  clear hS D4 D8 D9 D10 HSl2 HSl hD0 Hr hvb
  have hO:=hO.mono hbase
  have hRes:=Hres.out
  generalize ms ++ [(⟨k,0,d,t⟩:Move)]=mm at *
  have HO:=Lib.hid hO
  have Hll:=Lib.hid hll
  rw [hll] at HO
  have HRes:=Lib.hid hRes
  generalize hnn:(mm.map Move.cells).length=nn at *
  have Hnn:=Lib.hid hnn
  clear hO hll hRes hnn Hres Hres2
  have z0:v.cell? ⟨w.heap.size+1+1+1,0,none⟩=some (.int .i64 0):=E8.cell 0
  have z1:v.cell? ⟨w.heap.size+1+1+1,1,none⟩=some (.int .i64 0):=E8.cell 1
  have z2:v.cell? ⟨w.heap.size+1+1+1,2,none⟩=some (.slice none 0 0):=E8.cell 2
  have z3:v.cell? ⟨w.heap.size+1+1+1,3,none⟩=some (.bool false):=E8.cell 3
  have f0:v.frozen? ⟨w.heap.size+1+1+1,0,none⟩=false:=E8.frozen 0
  have f1:v.frozen? ⟨w.heap.size+1+1+1,1,none⟩=false:=E8.frozen 1
  have f2:v.frozen? ⟨w.heap.size+1+1+1,2,none⟩=false:=E8.frozen 2
  have f3:v.frozen? ⟨w.heap.size+1+1+1,3,none⟩=false:=E8.frozen 3
  have HE8:=Lib.hid E8
  clear E8
  go_wp2
  have hn2:nn=mm.length:=Hll.out
  subst hn2
  have hO4:=HO.out.kept (w':=(((v.setCell ⟨w.heap.size+1+1+1,0,none⟩ (.int .i64 a)).setCell ⟨w.heap.size+1+1+1,1,none⟩ (.int .i64 b)).setCell ⟨w.heap.size+1+1+1,2,none⟩ (.slice A' mm.length c')).setCell ⟨w.heap.size+1+1+1,3,none⟩ (.bool false)) (grownBy_stores [_,_,_,_] 0 (World.grownBy.refl _ _)) (.inr (Ne.symm (own_ne_blk HO.out HE8.out (by decide))))
  refine bodyPost_ret (v:=.agg #[.int .i64 a,.int .i64 b,.slice A' mm.length c',.bool false]) (by simp [results,Tryz.results118,go_sem,z0,z1,z2,z3]) rfl ⟨⟨_,rfl,?_⟩,(by repeat first | with_reducible (first | exact hW3 | apply below_drewN' | apply Below.drew | refine Below.alloc ?_ ?_ _ | refine Below.setCell ?_ ?_ _) | exact hW3 | omega | (simp <;> omega) | (have:=(hW3).size;first | omega | (simp <;> omega)))⟩
  rw [HRes.out]
  exact ⟨A',c',rfl,hO4⟩
end Go.Proofs.YtednjmldjbndhaaGreat
