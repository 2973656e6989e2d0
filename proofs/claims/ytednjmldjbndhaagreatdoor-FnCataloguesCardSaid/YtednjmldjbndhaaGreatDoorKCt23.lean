/- Formulas, charts and releases in new memory: the program's copies, and the reference's of a formula. Conditions: the lengths. -/
import Derived.Test.YtednjmldjbndhaaGreatDoorKCt18
set_option linter.unusedSimpArgs false
set_option linter.unusedVariables false
set_option maxRecDepth 100000
set_option maxHeartbeats 8000000
namespace Go.Proofs.YtednjmldjbndhaaGreatDoor
open Go.RowKit
def formC (fd ft:Int) (s:ByteArray) (A:Option Addr) (n c:Nat):List Value:=[.int .i64 fd,.int .i64 ft,.string s,.slice A n c]
def chartC (fd ft:Int) (s:ByteArray) (A:Option Addr) (n c:Nat) (wd lf rt:Int):List Value:=formC fd ft s A n c ++ [.int .i64 wd,.int .i64 lf,.int .i64 rt]
def Rl.tail (r:Rl):List Value:=[.int .i64 r.lud,.int .i64 r.lut,.int .i64 r.hud,.int .i64 r.hut,.int .i64 r.lvd,.int .i64 r.lvt,.int .i64 r.hvd,.int .i64 r.hvt,.int .i64 r.ey,.int .i64 r.bo]
theorem Rl.split (r:Rl) (A:Option Addr) (c:Nat):r.cells A c=chartC r.fd r.ft r.nm A r.l.length c r.wd r.lf r.rt ++ r.tail:=rfl
theorem formC_one (fd ft:Int) (s:ByteArray) (A:Option Addr) (n c:Nat):∀ v ∈ formC fd ft s A n c,v.oneCell'=true:=by
 unfold formC
 simp only [List.mem_cons,List.not_mem_nil,or_false]
 rintro v (h | h | h | h) <;> subst h <;> rfl
theorem chartC_one (fd ft:Int) (s:ByteArray) (A:Option Addr) (n c:Nat) (wd lf rt:Int):∀ v ∈ chartC fd ft s A n c wd lf rt,v.oneCell'=true:=by
 unfold chartC
 intro v hv
 rcases List.mem_append.1 hv with h | h
 ·exact formC_one _ _ _ _ _ _ v h
 ·simp only [List.mem_cons,List.not_mem_nil,or_false] at h
  rcases h with h | h | h <;> subst h <;> rfl
theorem aggFo (W:World):(isAgg 29).run Tryz.prog W=.ok true W:=by simp [isAgg,go_sem]
theorem szFoC (W:World):(sizeOf 29).run Tryz.prog W=.ok 4 W:=by simp [go_sem]
theorem aggCh (W:World):(isAgg 31).run Tryz.prog W=.ok true W:=by simp [isAgg,go_sem]
theorem szChC (W:World):(sizeOf 31).run Tryz.prog W=.ok 7 W:=by simp [go_sem]
theorem aggRe (W:World):(isAgg 33).run Tryz.prog W=.ok true W:=by simp [isAgg,go_sem]
theorem szReC (W:World):(sizeOf 33).run Tryz.prog W=.ok 17 W:=by simp [go_sem]
theorem ownFormula_c (fd ft:Int) (s:ByteArray) (A:Option Addr) (c:Nat) (l:List Int) (w:World) (hl:l.length ≤ 1048576) (hs:Sl w w.heap.size 1 A (l.map ic)) :
  Calls Tryz.prog 103 #[.agg (formC fd ft s A l.length c).toArray] w fun x w'=>∃ B d,x=.returned (.agg (formC fd ft s B l.length d).toArray)∧Own w' w.heap.size 2 1 (.slice B l.length d) (l.map ic)∧Below w.heap.size w w':=by
 have HC:=Lib.hid (fun W (hW:Below w.heap.size w W)=>cloneInt_c A c l W (by omega) ((hs.below hW).more hW.size))
 have hW:Below w.heap.size w ((w.alloc (.cells #[.int .i64 fd,.int .i64 ft,.string s,.slice A l.length c] 29)).alloc (.cells #[.int .i64 0,.int .i64 0,.string ⟨#[]⟩,.slice none 0 0] 29)):=(by repeat first | with_reducible (first | exact Below.refl _ _ | apply below_drewN' | apply Below.drew | refine Below.alloc ?_ ?_ _ | refine Below.setCell ?_ ?_ _) | exact Below.refl _ _ | omega | (simp <;> omega) | (have:=(Below.refl _ _).size;first | omega | (simp <;> omega)))
 have B0:=(Blk.new w 29 #[.int .i64 fd,.int .i64 ft,.string s,.slice A l.length c]).alloc (.cells #[.int .i64 0,.int .i64 0,.string ⟨#[]⟩,.slice none 0 0] 29)
 have Z0:=Blk.new' (w.alloc (.cells #[.int .i64 fd,.int .i64 ft,.string s,.slice A l.length c] 29)) 29 #[.int .i64 0,.int .i64 0,.string ⟨#[]⟩,.slice none 0 0] (g:=w.heap.size+1) (by simp)
 unfold formC
 clear hs
 go_enter Tryz.func103,Tryz.ntmps103
 go_wp2_with fail
 generalize ((w.alloc (.cells #[.int .i64 fd,.int .i64 ft,.string s,.slice A l.length c] 29)).alloc (.cells #[.int .i64 0,.int .i64 0,.string ⟨#[]⟩,.slice none 0 0] 29))=W at *
 have hWs:=Z0.lt
 refine Calls.mono (HC.out W hW) ?_;rintro x w1 ⟨B,d,rfl,O,hb1⟩
 replace B0:=B0.below hb1 B0.lt
 replace Z0:=Z0.below hb1 Z0.lt
 replace hW:=hW.trans (hb1.mono hW.size)
 clear hb1
 clear HC
 have hge:=O.ownGe
 have y3:w1.cell? ⟨w.heap.size,3,none⟩=some (.slice A l.length c):=B0.cell 3
 have f3:=B0.frozen 3
 have B1:Blk (w1.setCell ⟨w.heap.size,3,none⟩ (.slice B l.length d)) w.heap.size 29 [Value.int .i64 fd,.int .i64 ft,.string s,.slice B l.length d].toArray:=B0.set_ 3 _
 have Z1:Blk (w1.setCell ⟨w.heap.size,3,none⟩ (.slice B l.length d)) (w.heap.size+1) 29 ([Value.int .i64 0,.int .i64 0,.string ⟨#[]⟩,.slice none 0 0]:List Value).toArray:=Z0.far (p:=⟨w.heap.size,3,none⟩) (by simp) _
 have O1:Own (w1.setCell ⟨w.heap.size,3,none⟩ (.slice B l.length d)) W.heap.size 2 1 (.slice B l.length d) (l.map ic):=own_far O (by first | omega | (simp;omega))
 have hW1:Below w.heap.size w (w1.setCell ⟨w.heap.size,3,none⟩ (.slice B l.length d)):=(by repeat first | with_reducible (first | exact hW | apply below_drewN' | apply Below.drew | refine Below.alloc ?_ ?_ _ | refine Below.setCell ?_ ?_ _) | exact hW | omega | (simp <;> omega) | (have:=(hW).size;first | omega | (simp <;> omega)))
 have hr1:=B1.range
 clear B0 Z0 O hW
 go_wp2_with (first | (refine wpList_load_mid rfl 29 _ rfl (w.heap.size) 0 rfl ([Value.int .i64 fd,.int .i64 ft,.string s,.slice B l.length d]) _ hr1 Tryz.underlying29 rfl (by kernel_rfl) ?_) | (refine wpList_store_part rfl 29 _ _ rfl (w.heap.size+1) 0 [Value.int .i64 fd,.int .i64 ft,.string s,.slice B l.length d] rfl rfl Z1 (by simp) (by kernel_rfl) (formC_one fd ft s B l.length d) ?_;intro w4 hg4 D4;refine Hid.out ?_))
 refine Lib.hid ?_
 have D5:Blk w4 (w.heap.size+1) 29 [Value.int .i64 fd,.int .i64 ft,.string s,.slice B l.length d].toArray:=D4
 have O4:=O1.kept hg4 (.inr (fun h=>by have:=hge _ h;omega))
 have hW4:Below w.heap.size w w4:=hW1.grown hg4 hW1.size (fun g hh=>by simp only [Option.some.injEq] at hh;omega)
 have hs2:w.heap.size ≤ W.heap.size:=by omega
 clear D4 Z1 B1 O1 hW1 hr1 y3 f3
 go_wp2_with fail
 refine bodyPost_ret (res_cells (k:=2) (vs:=[Value.int .i64 fd,.int .i64 ft,.string s,.slice B l.length d]) Tryz.results103 rfl (aggFo w4) (szFoC w4) D5) rfl ⟨B,d,rfl,O4.mono hs2,hW4⟩
theorem ownChart_c (fd ft:Int) (s:ByteArray) (A:Option Addr) (c:Nat) (l:List Int) (wd lf rt:Int) (w:World) (hl:l.length ≤ 1048576) (hs:Sl w w.heap.size 1 A (l.map ic)) :
  Calls Tryz.prog 69 #[.agg (chartC fd ft s A l.length c wd lf rt).toArray] w fun x w'=>∃ B d,x=.returned (.agg (chartC fd ft s B l.length d wd lf rt).toArray)∧Own w' w.heap.size 2 1 (.slice B l.length d) (l.map ic)∧Below w.heap.size w w':=by
 have HC:=Lib.hid (fun W (hW:Below w.heap.size w W)=>ownFormula_c fd ft s A c l W hl ((hs.below hW).more hW.size))
 have hsp:Hid (∀ X Y,chartC fd ft s X l.length Y wd lf rt=formC fd ft s X l.length Y ++ [Value.int .i64 wd,.int .i64 lf,.int .i64 rt]):=Lib.hid (fun X Y=>rfl)
 have hone:=Lib.hid (fun X Y=>chartC_one fd ft s X l.length Y wd lf rt)
 have hpone:=Lib.hid (fun X Y=>formC_one fd ft s X l.length Y)
 have hlen:Hid (∀ X Y,(chartC fd ft s X l.length Y wd lf rt).length=7):=Lib.hid (fun X Y=>rfl)
 have hplen:Hid (∀ X Y,(formC fd ft s X l.length Y).length=4):=Lib.hid (fun X Y=>rfl)
 have hW:Below w.heap.size w ((w.alloc (.cells (chartC fd ft s A l.length c wd lf rt).toArray 31)).alloc (.cells ([Value.int .i64 0,.int .i64 0,.string ⟨#[]⟩,.slice none 0 0,.int .i64 0,.int .i64 0,.int .i64 0]).toArray 31)):=(by repeat first | with_reducible (first | exact Below.refl _ _ | apply below_drewN' | apply Below.drew | refine Below.alloc ?_ ?_ _ | refine Below.setCell ?_ ?_ _) | exact Below.refl _ _ | omega | (simp <;> omega) | (have:=(Below.refl _ _).size;first | omega | (simp <;> omega)))
 have B0:=(Blk.new w 31 (chartC fd ft s A l.length c wd lf rt).toArray).alloc (.cells ([Value.int .i64 0,.int .i64 0,.string ⟨#[]⟩,.slice none 0 0,.int .i64 0,.int .i64 0,.int .i64 0]).toArray 31)
 have Z0:=Blk.new' (w.alloc (.cells (chartC fd ft s A l.length c wd lf rt).toArray 31)) 31 ([Value.int .i64 0,.int .i64 0,.string ⟨#[]⟩,.slice none 0 0,.int .i64 0,.int .i64 0,.int .i64 0]).toArray (g:=w.heap.size+1) (by simp)
 have x2:((w.alloc (.cells (chartC fd ft s A l.length c wd lf rt).toArray 31)).alloc (.cells ([Value.int .i64 0,.int .i64 0,.string ⟨#[]⟩,.slice none 0 0,.int .i64 0,.int .i64 0,.int .i64 0]).toArray 31)).rangeAt w.heap.size 0 (formC fd ft s A l.length c):=Blk.part (xs:=[]) (ys:=[Value.int .i64 wd,.int .i64 lf,.int .i64 rt]) (by rw [List.nil_append,← hsp.out];exact B0) rfl
 have hpl:=hplen.out A c
 clear hs
 have hca:=Lib.hid (hsp.out A c)
 generalize hcs:chartC fd ft s A l.length c wd lf rt=ca at *
 generalize hps:formC fd ft s A l.length c=pa at *
 clear hcs hps
 have htl:([Value.int .i64 wd,.int .i64 lf,.int .i64 rt]:List Value).length+4=7:=rfl
 go_enter Tryz.func69,Tryz.ntmps69
 go_wp2_with (first | (refine wpList_load_mid rfl 29 _ rfl w.heap.size 0 rfl pa _ x2 Tryz.underlying29 rfl (by rw [hpl];kernel_rfl) ?_) | fail)
 generalize ((w.alloc (.cells ca.toArray 31)).alloc (.cells ([Value.int .i64 0,.int .i64 0,.string ⟨#[]⟩,.slice none 0 0,.int .i64 0,.int .i64 0,.int .i64 0]).toArray 31))=W at *
 clear x2
 have hWs:=Z0.lt
 refine Calls.mono (HC.out W hW) ?_;rintro x w1 ⟨B,d,rfl,O,hb1⟩
 replace B0:=B0.below hb1 B0.lt
 replace Z0:=Z0.below hb1 Z0.lt
 replace hW:=hW.trans (hb1.mono hW.size)
 clear hb1
 clear HC
 obtain rfl:=hca.out
 have hge:=O.ownGe
 have hpb:=hplen.out B d
 have hec:=Lib.hid (hsp.out B d)
 have hpo:=hpone.out B d
 have heo:=hone.out B d
 have hel:=hlen.out B d
 generalize hcs:chartC fd ft s B l.length d wd lf rt=ec at *
 generalize hps:formC fd ft s B l.length d=pb at *
 clear hps hpone hone hplen
 go_wp2_with (refine wpList_store_part rfl 29 _ _ rfl w.heap.size 0 pb rfl rfl B0 (by rw [List.length_append,hpl,hpb];omega) (by rw [hpb];kernel_rfl) hpo ?_;intro w2 hg2 D2;refine Hid.out ?_)
 refine Lib.hid ?_
 have B1:Blk w2 w.heap.size 31 ec.toArray:=by
  have h:=fill_mid pb pa [] [Value.int .i64 wd,.int .i64 lf,.int .i64 rt] (by rw [hpl,hpb])
  simp only [List.nil_append,List.length_nil] at h
  rw [hec.out,← h]
  exact D2
 have Z1:Blk w2 (w.heap.size+1) 31 ([Value.int .i64 0,.int .i64 0,.string ⟨#[]⟩,.slice none 0 0,.int .i64 0,.int .i64 0,.int .i64 0]).toArray:=(hg2.block _ Z0.lt (by simp)).trans Z0
 have O1:=O.kept hg2 (.inr (fun h=>by have:=hge _ h;omega))
 have hW1:Below w.heap.size w w2:=hW.grown hg2 hW.size (fun g hh=>by simp only [Option.some.injEq] at hh;omega)
 have hr1:=B1.range
 replace hcs:=Lib.hid hcs
 clear B0 Z0 O hW D2 hg2 hec
 go_wp2_with (first | (refine wpList_load_mid rfl 31 _ rfl w.heap.size 0 rfl ec _ hr1 Tryz.underlying31 rfl (by rw [hel];kernel_rfl) ?_) | (refine wpList_store_part rfl 31 _ _ rfl (w.heap.size+1) 0 ec rfl rfl Z1 (by rw [hel];simp) (by rw [hel];kernel_rfl) heo ?_;intro w4 hg4 D4;refine Hid.out ?_))
 refine Lib.hid ?_
 have D5:Blk w4 (w.heap.size+1) 31 ec.toArray:=by
  have h:=fill_mid ec [Value.int .i64 0,.int .i64 0,.string ⟨#[]⟩,.slice none 0 0,.int .i64 0,.int .i64 0,.int .i64 0] [] [] (by rw [hel];rfl)
  simp only [List.nil_append,List.append_nil,List.length_nil] at h
  rw [← h]
  exact D4
 have O4:=O1.kept hg4 (.inr (fun h=>by have:=hge _ h;omega))
 have hW4:Below w.heap.size w w4:=hW1.grown hg4 hW1.size (fun g hh=>by simp only [Option.some.injEq] at hh;omega)
 have hs2:w.heap.size ≤ W.heap.size:=by omega
 clear D4 Z1 B1 O1 hW1 hr1
 go_wp2_with fail
 refine bodyPost_ret (res_cells (k:=2) (vs:=ec) Tryz.results69 rfl (aggCh w4) (by rw [hel];exact szChC w4) D5) rfl ⟨B,d,by rw [hcs.out],O4.mono hs2,hW4⟩
theorem ownRelease_c (r:Rl) (A:Option Addr) (c:Nat) (w:World) (hl:r.l.length ≤ 1048576) (hs:Sl w w.heap.size 1 A (r.l.map ic)) :
  Calls Tryz.prog 41 #[.agg (r.cells A c).toArray] w fun x w'=>∃ B d,x=.returned (.agg (r.cells B d).toArray)∧Own w' w.heap.size 2 1 (.slice B r.l.length d) (r.l.map ic)∧Below w.heap.size w w':=by
 have HC:=Lib.hid (fun W (hW:Below w.heap.size w W)=>ownChart_c r.fd r.ft r.nm A c r.l r.wd r.lf r.rt W hl ((hs.below hW).more hW.size))
 have hsp:Hid (∀ X Y,r.cells X Y=chartC r.fd r.ft r.nm X r.l.length Y r.wd r.lf r.rt ++ r.tail):=Lib.hid (fun X Y=>Rl.split r X Y)
 have hone:=Lib.hid (fun X Y=>r.one X Y)
 have hpone:=Lib.hid (fun X Y=>chartC_one r.fd r.ft r.nm X r.l.length Y r.wd r.lf r.rt)
 have hlen:Hid (∀ X Y,(r.cells X Y).length=17):=Lib.hid (fun X Y=>rfl)
 have hplen:Hid (∀ X Y,(chartC r.fd r.ft r.nm X r.l.length Y r.wd r.lf r.rt).length=7):=Lib.hid (fun X Y=>rfl)
 have hW:Below w.heap.size w ((w.alloc (.cells (r.cells A c).toArray 33)).alloc (.cells ([Value.int .i64 0,.int .i64 0,.string ⟨#[]⟩,.slice none 0 0,.int .i64 0,.int .i64 0,.int .i64 0,.int .i64 0,.int .i64 0,.int .i64 0,.int .i64 0,.int .i64 0,.int .i64 0,.int .i64 0,.int .i64 0,.int .i64 0,.int .i64 0]).toArray 33)):=(by repeat first | with_reducible (first | exact Below.refl _ _ | apply below_drewN' | apply Below.drew | refine Below.alloc ?_ ?_ _ | refine Below.setCell ?_ ?_ _) | exact Below.refl _ _ | omega | (simp <;> omega) | (have:=(Below.refl _ _).size;first | omega | (simp <;> omega)))
 have B0:=(Blk.new w 33 (r.cells A c).toArray).alloc (.cells ([Value.int .i64 0,.int .i64 0,.string ⟨#[]⟩,.slice none 0 0,.int .i64 0,.int .i64 0,.int .i64 0,.int .i64 0,.int .i64 0,.int .i64 0,.int .i64 0,.int .i64 0,.int .i64 0,.int .i64 0,.int .i64 0,.int .i64 0,.int .i64 0]).toArray 33)
 have Z0:=Blk.new' (w.alloc (.cells (r.cells A c).toArray 33)) 33 ([Value.int .i64 0,.int .i64 0,.string ⟨#[]⟩,.slice none 0 0,.int .i64 0,.int .i64 0,.int .i64 0,.int .i64 0,.int .i64 0,.int .i64 0,.int .i64 0,.int .i64 0,.int .i64 0,.int .i64 0,.int .i64 0,.int .i64 0,.int .i64 0]).toArray (g:=w.heap.size+1) (by simp)
 have x2:((w.alloc (.cells (r.cells A c).toArray 33)).alloc (.cells ([Value.int .i64 0,.int .i64 0,.string ⟨#[]⟩,.slice none 0 0,.int .i64 0,.int .i64 0,.int .i64 0,.int .i64 0,.int .i64 0,.int .i64 0,.int .i64 0,.int .i64 0,.int .i64 0,.int .i64 0,.int .i64 0,.int .i64 0,.int .i64 0]).toArray 33)).rangeAt w.heap.size 0 (chartC r.fd r.ft r.nm A r.l.length c r.wd r.lf r.rt):=Blk.part (xs:=[]) (ys:=r.tail) (by rw [List.nil_append,← hsp.out];exact B0) rfl
 have hpl:=hplen.out A c
 clear hs
 have hca:=Lib.hid (hsp.out A c)
 generalize hcs:r.cells A c=ca at *
 generalize hps:chartC r.fd r.ft r.nm A r.l.length c r.wd r.lf r.rt=pa at *
 clear hcs hps
 have htl:(r.tail:List Value).length+7=17:=rfl
 go_enter Tryz.func41,Tryz.ntmps41
 go_wp2_with (first | (refine wpList_load_mid rfl 31 _ rfl w.heap.size 0 rfl pa _ x2 Tryz.underlying31 rfl (by rw [hpl];kernel_rfl) ?_) | fail)
 generalize ((w.alloc (.cells ca.toArray 33)).alloc (.cells ([Value.int .i64 0,.int .i64 0,.string ⟨#[]⟩,.slice none 0 0,.int .i64 0,.int .i64 0,.int .i64 0,.int .i64 0,.int .i64 0,.int .i64 0,.int .i64 0,.int .i64 0,.int .i64 0,.int .i64 0,.int .i64 0,.int .i64 0,.int .i64 0]).toArray 33))=W at *
 clear x2
 have hWs:=Z0.lt
 refine Calls.mono (HC.out W hW) ?_;rintro x w1 ⟨B,d,rfl,O,hb1⟩
 replace B0:=B0.below hb1 B0.lt
 replace Z0:=Z0.below hb1 Z0.lt
 replace hW:=hW.trans (hb1.mono hW.size)
 clear hb1
 clear HC
 obtain rfl:=hca.out
 have hge:=O.ownGe
 have hpb:=hplen.out B d
 have hec:=Lib.hid (hsp.out B d)
 have hpo:=hpone.out B d
 have heo:=hone.out B d
 have hel:=hlen.out B d
 generalize hcs:r.cells B d=ec at *
 generalize hps:chartC r.fd r.ft r.nm B r.l.length d r.wd r.lf r.rt=pb at *
 clear hps hpone hone hplen
 go_wp2_with (refine wpList_store_part rfl 31 _ _ rfl w.heap.size 0 pb rfl rfl B0 (by rw [List.length_append,hpl,hpb];omega) (by rw [hpb];kernel_rfl) hpo ?_;intro w2 hg2 D2;refine Hid.out ?_)
 refine Lib.hid ?_
 have B1:Blk w2 w.heap.size 33 ec.toArray:=by
  have h:=fill_mid pb pa [] r.tail (by rw [hpl,hpb])
  simp only [List.nil_append,List.length_nil] at h
  rw [hec.out,← h]
  exact D2
 have Z1:Blk w2 (w.heap.size+1) 33 ([Value.int .i64 0,.int .i64 0,.string ⟨#[]⟩,.slice none 0 0,.int .i64 0,.int .i64 0,.int .i64 0,.int .i64 0,.int .i64 0,.int .i64 0,.int .i64 0,.int .i64 0,.int .i64 0,.int .i64 0,.int .i64 0,.int .i64 0,.int .i64 0]).toArray:=(hg2.block _ Z0.lt (by simp)).trans Z0
 have O1:=O.kept hg2 (.inr (fun h=>by have:=hge _ h;omega))
 have hW1:Below w.heap.size w w2:=hW.grown hg2 hW.size (fun g hh=>by simp only [Option.some.injEq] at hh;omega)
 have hr1:=B1.range
 replace hcs:=Lib.hid hcs
 clear B0 Z0 O hW D2 hg2 hec
 go_wp2_with (first | (refine wpList_load_mid rfl 33 _ rfl w.heap.size 0 rfl ec _ hr1 Tryz.underlying33 rfl (by rw [hel];kernel_rfl) ?_) | (refine wpList_store_part rfl 33 _ _ rfl (w.heap.size+1) 0 ec rfl rfl Z1 (by rw [hel];simp) (by rw [hel];kernel_rfl) heo ?_;intro w4 hg4 D4;refine Hid.out ?_))
 refine Lib.hid ?_
 have D5:Blk w4 (w.heap.size+1) 33 ec.toArray:=by
  have h:=fill_mid ec [Value.int .i64 0,.int .i64 0,.string ⟨#[]⟩,.slice none 0 0,.int .i64 0,.int .i64 0,.int .i64 0,.int .i64 0,.int .i64 0,.int .i64 0,.int .i64 0,.int .i64 0,.int .i64 0,.int .i64 0,.int .i64 0,.int .i64 0,.int .i64 0] [] [] (by rw [hel];rfl)
  simp only [List.nil_append,List.append_nil,List.length_nil] at h
  rw [← h]
  exact D4
 have O4:=O1.kept hg4 (.inr (fun h=>by have:=hge _ h;omega))
 have hW4:Below w.heap.size w w4:=hW1.grown hg4 hW1.size (fun g hh=>by simp only [Option.some.injEq] at hh;omega)
 have hs2:w.heap.size ≤ W.heap.size:=by omega
 clear D4 Z1 B1 O1 hW1 hr1
 go_wp2_with fail
 refine bodyPost_ret (res_cells (k:=2) (vs:=ec) Tryz.results41 rfl (aggRe w4) (by rw [hel];exact szReC w4) D5) rfl ⟨B,d,by rw [hcs.out],O4.mono hs2,hW4⟩
end Go.Proofs.YtednjmldjbndhaaGreatDoor
