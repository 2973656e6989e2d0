/- The mark of a release: the program's and the reference's. Conditions: the lengths. -/
import Derived.Test.YtednjmldjbndhaaGreatDoorKMr17
import Derived.Test.YtednjmldjbndhaaGreatDoorKMr18
set_option linter.unusedSimpArgs false
set_option linter.unusedVariables false
set_option maxRecDepth 100000
set_option maxHeartbeats 8000000
namespace Go.Proofs.YtednjmldjbndhaaGreatDoor
open Go.RowKit
def fnums (F:List Figure):List Int:=F.flatMap fun f=>[f.digits,f.tens]
theorem fnums_next {F:List Figure} {k:Nat} (h:k < F.length):fnums (F.take (k+1))=fnums (F.take k) ++ [F[k].digits,F[k].tens]:=by
 unfold fnums
 rw [List.take_succ_eq_append_getElem h,List.flatMap_append]
 simp
theorem fnums_len (F:List Figure):(fnums F).length=2 * F.length:=by
 unfold fnums
 induction F with
 | nil=>rfl
 | cons a r ih=>simp only [List.flatMap_cons,List.length_append,ih,List.length_cons,List.length_nil];omega
def relNums (fd ft:Int) (l:List Int) (wd lf rt:Int) (lu hu lv hv:Figure) (ey bo:Int):List Int:=fnums [⟨fd,ft⟩,lu,hu,lv,hv] ++ l ++ [wd,lf,rt,ey,bo]
def markFold (l:List Int):Int:=l.foldl (fun m n=>(131 * m+n) % 99991) 7
theorem markFold_next {l:List Int} {k:Nat} (h:k < l.length):markFold (l.take (k+1))=(131 * markFold (l.take k)+l[k]) % 99991:=by
 unfold markFold
 rw [List.take_succ_eq_append_getElem h,List.foldl_append]
 rfl
theorem markFold_bd (l:List Int):0 ≤ markFold l∧markFold l < 99991:=by
 unfold markFold
 rcases List.eq_nil_or_concat l with rfl | ⟨r,x,rfl⟩
 ·simp
 ·rw [List.concat_eq_append,List.foldl_append]
  exact ⟨Int.emod_nonneg _ (by omega),Int.emod_lt_of_pos _ (by omega)⟩
def relMark (r:Bool) (ns:List Int):Int:=if r=true then markFold ns else 0
def relCode (r:Bool):Int:=if r=true then 0 else 1
theorem rel_parts {fd ft:Int} {s:ByteArray} {l:List Int} {wd lf rt:Int} {lu hu lv hv:Figure} {ey bo:Int} (h:relB fd ft s l wd lf rt lu hu lv hv ey bo=true) :
  chartB fd ft s l wd lf rt=true∧(figOK lu=true∧figOK hu=true∧figOK lv=true∧figOK hv=true)∧(0 ≤ ey∧ey ≤ 200)∧(0 ≤ bo∧bo ≤ 1048576):=by
 unfold relB at h
 simp only [Bool.and_eq_true] at h
 obtain ⟨⟨⟨⟨⟨h1,⟨⟨h2,h3⟩,h4⟩,h5⟩,h6,h7⟩,_⟩,_⟩,_⟩:=h
 exact ⟨h1,⟨h2,h3,h4,h5⟩,inB_true.mp h6,inB_true.mp h7⟩
theorem relNums_bd {fd ft:Int} {s:ByteArray} {l:List Int} {wd lf rt:Int} {lu hu lv hv:Figure} {ey bo:Int} (h:relB fd ft s l wd lf rt lu hu lv hv ey bo=true) :
  ∀ n ∈ relNums fd ft l wd lf rt lu hu lv hv ey bo,-1048576 ≤ n∧n ≤ 1048576:=by
 obtain ⟨h1,⟨h2,h3,h4,h5⟩,h6,h7⟩:=rel_parts h
 obtain ⟨hF,_,hwd,hlf,hrt,p0,p1,rfl,hp0,hp1⟩:=chart_parts h1
 obtain ⟨h8,_⟩:=form_parts hF
 have a1:=figOK_bd2 h2
 have a2:=figOK_bd2 h3
 have a3:=figOK_bd2 h4
 have a4:=figOK_bd2 h5
 have a5:=figOK_bd2 h8
 simp only at a5
 unfold relNums fnums
 simp only [List.flatMap_cons,List.flatMap_nil,List.append_nil,List.cons_append,List.nil_append,List.mem_cons,List.not_mem_nil,or_false]
 rintro n hn
 rcases hn with h | h | h | h | h | h | h | h | h | h | h | h | h | h | h | h | h
 all_goals
  subst h
  omega
structure MkL (w:World) (C:TypeId) (cs:Array Value) (G:Nat) (T:TypeId) (gs:Array Value) (K:Nat) (T2:TypeId) (ks:Array Value) (e:TypeId) (xs:List (List Value)) (V:Value) (wr:World):Prop where
 hb:Below w.heap.size w wr
 bg:Blk wr w.heap.size C cs
 fg:Blk wr G T gs
 kg:Blk wr K T2 ks
 ne:V.ownBlock ≠ some G
 ne2:V.ownBlock ≠ some K
 o:Own wr (w.heap.size+1) e 1 V xs
section
variable {w : World} {C : TypeId} {cs : Array Value} {G : Nat} {T : TypeId} {gs : Array Value} {K : Nat} {T2 : TypeId} {ks : Array Value} {e : TypeId} {xs ys : List (List Value)} {V V' : Value} {wr w2 : World}
theorem MkL.below (h:MkL w C cs G T gs K T2 ks e xs V wr) (hb:Below wr.heap.size wr w2):MkL w C cs G T gs K T2 ks e xs V w2 :=
 ⟨h.hb.trans (hb.mono h.hb.size),h.bg.below hb h.bg.lt,h.fg.below hb h.fg.lt,h.kg.below hb h.kg.lt,h.ne,h.ne2,h.o.below hb⟩
theorem MkL.alloc (h:MkL w C cs G T gs K T2 ks e xs V wr) (ob:Obj):MkL w C cs G T gs K T2 ks e xs V (wr.alloc ob):=h.below ((Below.refl _ _).alloc (Nat.le_refl _) ob)
theorem MkL.app (h:MkL w C cs G T gs K T2 ks e xs V wr) (hg:wr.grownBy w2 V.ownBlock) (h2:Own w2 (w.heap.size+1) e 1 V' (xs ++ ys)) (hat:V'.ownBlock=V.ownBlock ∨ V'.ownBlock=some wr.heap.size):MkL w C cs G T gs K T2 ks e (xs ++ ys) V' w2 :=
 ⟨below_app h.hb hg h.hb.size (fun g hh=>by have:=h.o.ownGe g hh;omega),(hg.block _ h.bg.lt (fun hh=>by have:=h.o.ownGe _ hh.symm;omega)).trans h.bg,(hg.block _ h.fg.lt (fun hh=>h.ne hh.symm)).trans h.fg,(hg.block _ h.kg.lt (fun hh=>h.ne2 hh.symm)).trans h.kg,by
  rcases hat with hh | hh
  ·rw [hh];exact h.ne
  ·rw [hh];have:=h.fg.lt;intro h3;simp only [Option.some.injEq] at h3;omega,by
  rcases hat with hh | hh
  ·rw [hh];exact h.ne2
  ·rw [hh];have:=h.kg.lt;intro h3;simp only [Option.some.injEq] at h3;omega,h2⟩
end
structure BsS (V:World) (T:TypeId) (cs:Array Value) (n:Nat) (b:Bool) (x:Value) (v:World):Prop where
 hb:Below V.heap.size V v
 sl:b=true→∃ g,x=.slice (some ⟨g,0,none⟩) n n∧V.heap.size ≤ g∧Blk v g T cs
theorem BsS.init {V:World} {T:TypeId} {cs:Array Value} {n:Nat} {x:Value}:BsS V T cs n false x V.drew:=⟨(Below.refl _ _).drew,nofun⟩
theorem BsS.new {V:World} {T:TypeId} {cs:Array Value} {n:Nat} {b:Bool} {x:Value} {v:World} (h:BsS V T cs n b x v):BsS V T cs n true (.slice (some ⟨v.heap.size,0,none⟩) n n) (v.alloc (.cells cs T)) :=
 ⟨h.hb.alloc h.hb.size _,fun _=>⟨_,rfl,h.hb.size,Blk.new _ _ _⟩⟩
theorem Sl.blkInts {w:World} {g:Nat} {t:TypeId} {cs:Array Value} (h:Blk w g t cs) (l:List Int) (hc:cs=(l.map (Value.int .i64)).toArray):Sl w (g+1) 1 (some ⟨g,0,none⟩) (l.map ic):=by
 subst hc
 refine Sl.of_blk h _ ?_ (by intro x hx;obtain ⟨y,_,rfl⟩:=List.mem_map.1 hx;rfl)
 clear h
 induction l with
 | nil=>rfl
 | cons a r ih=>simp only [List.map_cons,List.flatten_cons,ic,List.cons_append,List.nil_append];exact congrArg _ ih
theorem Sl.ints (W:World) (t:TypeId) (l:List Int) {cs:Array Value} (hc:cs=(l.map (Value.int .i64)).toArray) {g:Nat} (hg:W.heap.size=g):Sl (W.alloc (.cells cs t)) (g+1) 1 (some ⟨g,0,none⟩) (l.map ic):=by
 subst hg
 exact Sl.blkInts (Blk.new W t _) l hc
theorem blk_figs {w:World} {g:Nat} {t:TypeId} {cs:Array Value} (h:Blk w g t cs) (F:List Figure) (hx:cs.toList=(F.map Figure.cells).flatten) {k:Nat} (hk:k < F.length) :
  w.cell? ⟨g,k * 2,none⟩=some (.int .i64 F[k].digits)∧w.cell? ⟨g,k * 2+1,none⟩=some (.int .i64 F[k].tens):=by
 have hs:=Sl.of_blk (k:=2) h (F.map Figure.cells) hx (by intro x hx;obtain ⟨f,_,rfl⟩:=List.mem_map.1 hx;rfl)
 obtain ⟨b,off,e,_,hc⟩:=hs.at_ (i:=k) (by simpa using hk)
 obtain ⟨rfl,rfl⟩:g=b∧0=off:=by simpa using e
 simp only [List.getElem_map,Nat.zero_add] at hc
 exact ⟨hc 0 _ rfl,hc 1 _ rfl⟩
theorem implMarkOf_c (fd ft:Int) (s:ByteArray) (A:Option Addr) (c:Nat) (l:List Int) (wd lf rt:Int) (lu hu lv hv:Figure) (ey bo:Int) (w:World) (hsz:s.size ≤ 1048576) (hl:l.length ≤ 1048576) (hs:Sl w w.heap.size 1 A (l.map ic)) :
  Calls Tryz.prog 26 #[.agg #[.int .i64 fd,.int .i64 ft,.string s,.slice A l.length c,.int .i64 wd,.int .i64 lf,.int .i64 rt,.int .i64 lu.digits,.int .i64 lu.tens,.int .i64 hu.digits,.int .i64 hu.tens,.int .i64 lv.digits,.int .i64 lv.tens,.int .i64 hv.digits,.int .i64 hv.tens,.int .i64 ey,.int .i64 bo]] w fun e w'=>e=.returned (.tuple #[.int .i64 (relMark (relB fd ft s l wd lf rt lu hu lv hv ey bo) (relNums fd ft l wd lf rt lu hu lv hv ey bo)),.int .i64 (relCode (relB fd ft s l wd lf rt lu hu lv hv ey bo))])∧Below w.heap.size w w':=by
 have HI:=fun W (hW:Below w.heap.size w W)=>implIsRelease_c fd ft s A c l wd lf rt lu hu lv hv ey bo W hsz hl ((hs.below hW).more hW.size)
 have hB:=@relNums_bd fd ft s l wd lf rt lu hu lv hv ey bo
 have hP:=@rel_parts fd ft s l wd lf rt lu hu lv hv ey bo
 have hW:Below w.heap.size w (w.alloc (.cells #[.int .i64 fd,.int .i64 ft,.string s,.slice A l.length c,.int .i64 wd,.int .i64 lf,.int .i64 rt,.int .i64 lu.digits,.int .i64 lu.tens,.int .i64 hu.digits,.int .i64 hu.tens,.int .i64 lv.digits,.int .i64 lv.tens,.int .i64 hv.digits,.int .i64 hv.tens,.int .i64 ey,.int .i64 bo] 33)):=(by repeat first | with_reducible (first | exact Below.refl _ _ | apply below_drewN' | apply Below.drew | refine Below.alloc ?_ ?_ _ | refine Below.setCell ?_ ?_ _) | exact Below.refl _ _ | omega | (simp <;> omega) | (have:=(Below.refl _ _).size;first | omega | (simp <;> omega)))
 have B0:=Blk.new w 33 #[.int .i64 fd,.int .i64 ft,.string s,.slice A l.length c,.int .i64 wd,.int .i64 lf,.int .i64 rt,.int .i64 lu.digits,.int .i64 lu.tens,.int .i64 hu.digits,.int .i64 hu.tens,.int .i64 lv.digits,.int .i64 lv.tens,.int .i64 hv.digits,.int .i64 hv.tens,.int .i64 ey,.int .i64 bo]
 cases hr:relB fd ft s l wd lf rt lu hu lv hv ey bo with
 | false =>
  rw [hr] at HI
  replace HI:=Lib.hid HI
  clear hB hP hr hs
  have hr0:=Lib.hid (Blk.range (cs:=[.int .i64 fd,.int .i64 ft,.string s,.slice A l.length c,.int .i64 wd,.int .i64 lf,.int .i64 rt,.int .i64 lu.digits,.int .i64 lu.tens,.int .i64 hu.digits,.int .i64 hu.tens,.int .i64 lv.digits,.int .i64 lv.tens,.int .i64 hv.digits,.int .i64 hv.tens,.int .i64 ey,.int .i64 bo]) B0)
  go_enter Tryz.func26,Tryz.ntmps26
  go_wp2_with (refine wpList_load_mid rfl 33 _ rfl (w.heap.size) 0 rfl [.int .i64 fd,.int .i64 ft,.string s,.slice A l.length c,.int .i64 wd,.int .i64 lf,.int .i64 rt,.int .i64 lu.digits,.int .i64 lu.tens,.int .i64 hu.digits,.int .i64 hu.tens,.int .i64 lv.digits,.int .i64 lv.tens,.int .i64 hv.digits,.int .i64 hv.tens,.int .i64 ey,.int .i64 bo] _ hr0.out Tryz.underlying33 rfl (by kernel_rfl) ?_)
  generalize w.alloc (.cells #[.int .i64 fd,.int .i64 ft,.string s,.slice A l.length c,.int .i64 wd,.int .i64 lf,.int .i64 rt,.int .i64 lu.digits,.int .i64 lu.tens,.int .i64 hu.digits,.int .i64 hu.tens,.int .i64 lv.digits,.int .i64 lv.tens,.int .i64 hv.digits,.int .i64 hv.tens,.int .i64 ey,.int .i64 bo] 33)=W at *
  refine Calls.mono (HI.out W hW) ?_;rintro e w1 ⟨rfl,hb1⟩
  replace B0:=B0.below hb1 B0.lt
  replace hW:=hW.trans (hb1.mono hW.size)
  clear hb1
  go_wp2
  go_ret2
  exact ⟨rfl,(by repeat first | with_reducible (first | exact hW | apply below_drewN' | apply Below.drew | refine Below.alloc ?_ ?_ _ | refine Below.setCell ?_ ?_ _) | exact hW | omega | (simp <;> omega) | (have:=(hW).size;first | omega | (simp <;> omega)))⟩
 | true =>
  rw [hr] at HI
  replace HI:=Lib.hid HI
  have hN:=hB hr
  obtain ⟨hch,_⟩:=hP hr
  obtain ⟨_,_,_,_,_,p0,p1,hl2,_⟩:=chart_parts hch
  clear hB hP hr hch
  have hl3:l.length=2:=by rw [hl2];rfl
  have hl4:=Lib.hid hl3
  clear hl2 hl3 hl
  show Calls _ _ _ _ fun e w'=>e=.returned (.tuple #[.int .i64 (markFold (relNums fd ft l wd lf rt lu hu lv hv ey bo)),.int .i64 0])∧Below w.heap.size w w'
  have hNe:Hid (relNums fd ft l wd lf rt lu hu lv hv ey bo=fnums [⟨fd,ft⟩,lu,hu,lv,hv] ++ l ++ [wd,lf,rt,ey,bo]):=Lib.hid (by rfl)
  generalize relNums fd ft l wd lf rt lu hu lv hv ey bo=N at *
  have hNl:N.length=17:=by rw [hNe.out];simp [fnums,hl4.out]
  have hNl2:=Lib.hid hNl
  replace hN:=Lib.hid hN
  clear hNl
  obtain ⟨lud,lut⟩:=lu
  obtain ⟨hud,hut⟩:=hu
  obtain ⟨lvd,lvt⟩:=lv
  obtain ⟨hvd,hvt⟩:=hv
  simp only at *
  have hFs:Hid (∀ (wr:World) (g k:Nat) (hk:k < [(⟨fd,ft⟩:Figure),⟨lud,lut⟩,⟨hud,hut⟩,⟨lvd,lvt⟩,⟨hvd,hvt⟩].length),Blk wr g 26 #[.int .i64 fd,.int .i64 ft,.int .i64 lud,.int .i64 lut,.int .i64 hud,.int .i64 hut,.int .i64 lvd,.int .i64 lvt,.int .i64 hvd,.int .i64 hvt]→wr.cell? ⟨g,k * 2,none⟩=some (.int .i64 ([(⟨fd,ft⟩:Figure),⟨lud,lut⟩,⟨hud,hut⟩,⟨lvd,lvt⟩,⟨hvd,hvt⟩][k]).digits)∧wr.cell? ⟨g,k * 2+1,none⟩=some (.int .i64 ([(⟨fd,ft⟩:Figure),⟨lud,lut⟩,⟨hud,hut⟩,⟨lvd,lvt⟩,⟨hvd,hvt⟩][k]).tens)):=Lib.hid (fun wr g k hk hB=>blk_figs hB _ rfl hk)
  have hF5:Hid ([(⟨fd,ft⟩:Figure),⟨lud,lut⟩,⟨hud,hut⟩,⟨lvd,lvt⟩,⟨hvd,hvt⟩].length=5):=Lib.hid (by rfl)
  obtain ⟨i0,hi,hz0,hz1,hz2⟩:=info_parts info_Int64
  have hr0:=Lib.hid (Blk.range (cs:=[.int .i64 fd,.int .i64 ft,.string s,.slice A l.length c,.int .i64 wd,.int .i64 lf,.int .i64 rt,.int .i64 lud,.int .i64 lut,.int .i64 hud,.int .i64 hut,.int .i64 lvd,.int .i64 lvt,.int .i64 hvd,.int .i64 hvt,.int .i64 ey,.int .i64 bo]) B0)
  go_enter Tryz.func26,Tryz.ntmps26
  go_wp2_with (refine wpList_load_mid rfl 33 _ rfl (w.heap.size) 0 rfl [.int .i64 fd,.int .i64 ft,.string s,.slice A l.length c,.int .i64 wd,.int .i64 lf,.int .i64 rt,.int .i64 lud,.int .i64 lut,.int .i64 hud,.int .i64 hut,.int .i64 lvd,.int .i64 lvt,.int .i64 hvd,.int .i64 hvt,.int .i64 ey,.int .i64 bo] _ hr0.out Tryz.underlying33 rfl (by kernel_rfl) ?_)
  clear hr0
  generalize w.alloc (.cells #[.int .i64 fd,.int .i64 ft,.string s,.slice A l.length c,.int .i64 wd,.int .i64 lf,.int .i64 rt,.int .i64 lud,.int .i64 lut,.int .i64 hud,.int .i64 hut,.int .i64 lvd,.int .i64 lvt,.int .i64 hvd,.int .i64 hvt,.int .i64 ey,.int .i64 bo] 33)=W at *
  refine Calls.mono (HI.out W hW) ?_;rintro e w1 ⟨rfl,hb1⟩
  replace B0:=B0.below hb1 B0.lt
  replace hW:=hW.trans (hb1.mono hW.size)
  clear hb1
  clear HI
  have B0_0:=B0.c0
  have B0_1:=B0.c1
  have B0_2:=B0.c2
  have B0_3:=B0.c3
  have B0_4:=B0.c4
  have B0_5:=B0.c5
  have B0_6:=B0.c6
  have B0_7:=B0.c7
  have B0_8:=B0.c8
  have B0_9:=B0.c9
  have B0_10:=B0.c10
  have B0_11:=B0.c11
  have B0_12:=B0.c12
  have B0_13:=B0.c13
  have B0_14:=B0.c14
  have B0_15:=B0.c15
  have B0_16:=B0.c16
  have hbs:=hW.size
  have hlt:=B0.lt
  have L0:MkL w 33 #[.int .i64 fd,.int .i64 ft,.string s,.slice A l.length c,.int .i64 wd,.int .i64 lf,.int .i64 rt,.int .i64 lud,.int .i64 lut,.int .i64 hud,.int .i64 hut,.int .i64 lvd,.int .i64 lvt,.int .i64 hvd,.int .i64 hvt,.int .i64 ey,.int .i64 bo] (w1.heap.size+1) 26 #[.int .i64 fd,.int .i64 ft,.int .i64 lud,.int .i64 lut,.int .i64 hud,.int .i64 hut,.int .i64 lvd,.int .i64 lvt,.int .i64 hvd,.int .i64 hvt] (w1.heap.size+1) 26 #[.int .i64 fd,.int .i64 ft,.int .i64 lud,.int .i64 lut,.int .i64 hud,.int .i64 hut,.int .i64 lvd,.int .i64 lvt,.int .i64 hvd,.int .i64 hvt] 2 [] (.slice (some ⟨w1.heap.size,0,none⟩) 0 0) ((w1.alloc (.cells #[] 2)).alloc (.cells #[.int .i64 fd,.int .i64 ft,.int .i64 lud,.int .i64 lut,.int .i64 hud,.int .i64 hut,.int .i64 lvd,.int .i64 lvt,.int .i64 hvd,.int .i64 hvt] 26)) :=
   ⟨(by repeat first | with_reducible (first | exact hW | apply below_drewN' | apply Below.drew | refine Below.alloc ?_ ?_ _ | refine Below.setCell ?_ ?_ _) | exact hW | omega | (simp <;> omega) | (have:=(hW).size;first | omega | (simp <;> omega))),(B0.alloc _).alloc _,Blk.new' _ _ _ (by simp),Blk.new' _ _ _ (by simp),by simp [Value.ownBlock],by simp [Value.ownBlock],(Own.empty (w:=w1) (base:=w.heap.size+1) (e:=2) (k:=1) (by omega)).alloc _⟩
  go_wp2_with fail
  generalize [(⟨fd,ft⟩:Figure),⟨lud,lut⟩,⟨hud,hut⟩,⟨lvd,lvt⟩,⟨hvd,hvt⟩]=F at *
  generalize hgs:(#[.int .i64 fd,.int .i64 ft,.int .i64 lud,.int .i64 lut,.int .i64 hud,.int .i64 hut,.int .i64 lvd,.int .i64 lvt,.int .i64 hvd,.int .i64 hvt]:Array Value)=gs at *
  clear hgs
  replace hbs:=Lib.hid hbs
  replace hlt:=Lib.hid hlt
  go_loopw [4,28] (fun o i wr=>∃ k:Nat,k ≤ 5∧i=.int .i64 k∧MkL w 33 #[.int .i64 fd,.int .i64 ft,.string s,.slice A l.length c,.int .i64 wd,.int .i64 lf,.int .i64 rt,.int .i64 lud,.int .i64 lut,.int .i64 hud,.int .i64 hut,.int .i64 lvd,.int .i64 lvt,.int .i64 hvd,.int .i64 hvt,.int .i64 ey,.int .i64 bo] (w1.heap.size+1) 26 gs (w1.heap.size+1) 26 gs 2 ((fnums (F.take k)).map ic) o wr) (fun _ i _=>5 - (intOf i).toNat)
  case atStart=>exact ⟨0,Nat.zero_le _,rfl,L0⟩
  case round =>
   clear L0
   obtain ⟨k,hk,rfl,hL⟩:=hrel
   by_cases hlt5:k < 5
   ·have hltF:k < F.length:=by rw [hF5.out];exact hlt5
    obtain ⟨x0,x1⟩:=hFs.out wr _ k hltF hL.fg
    have hnx:=Lib.hid (fnums_next hltF)
    generalize F[k]=f at *
    have hsz1:=hL.fg.lt
    have hln:=fnums_len (F.take k)
    have hlk:=List.length_take_le k F
    have hO:=hL.o
    replace hln:=Lib.hid hln
    obtain ⟨d,t⟩:=f
    simp only at *
    go_wp2_with (at_builtin;refine wpList_append_rows _ rfl _ _ _ rfl (w.heap.size+1) 2 i0 _ 1 8 Tryz.underlying27 hi hz0 hz1 hz2 rfl (by omega) _ _ rfl ((hL.o.alloc _).alloc _) _ _ _ _ ([d,t].map ic) rfl rfl (Sl.ints _ _ [d,t] rfl (by simp)) (ic_one (x:=[d,t])) (by simp;have:=hln.out;unfold maxLen;omega) (by simp;have:=hln.out;omega) (by have:=hL.hb.size;have:=hL.bg.lt;first | omega | (simp only [];omega) | (simp;omega)) ?_;intro v1 w2 hO2 hg hat;have hL2:=((hL.alloc _).alloc _).app hg hO2 hat)
    go_roundw
    case rel=>exact ⟨k+1,by omega,by go_num,by rw [hnx.out,List.map_append];exact hL2⟩
    case measure=>simp [intOf];omega
   ·have:k=5:=by omega
    subst this
    rw [← hF5.out,List.take_length] at hL
    clear hFs
    have hs1:=hs.below hL.hb
    have y3:wr.cell? ⟨w.heap.size,3,none⟩=some (.slice A l.length c):=hL.bg.cell 3
    go_wp2_with (at_builtin;refine wpList_append_rows _ rfl _ _ _ rfl (w.heap.size+1) 2 i0 _ 1 8 Tryz.underlying27 hi hz0 hz1 hz2 rfl (by omega) _ _ rfl hL.o _ A l.length c (l.map ic) rfl (by simp) hs1 ic_one (by simp [maxLen,fnums_len,hF5.out,hl4.out]) (by simp [fnums_len,hF5.out,hl4.out]) (by have:=hL.hb.size;have:=hL.bg.lt;first | omega | (simp only [];omega) | (simp;omega)) ?_;intro v1 w2 hO2 hg hat;have hL2:=hL.app hg hO2 hat;refine Hid.out ?_)
    refine Lib.hid ?_
    clear y3 hs1
    have D0:=hL2.bg
    have y4:w2.cell? ⟨w.heap.size,4,none⟩=some (.int .i64 wd):=D0.cell 4
    have y5:w2.cell? ⟨w.heap.size,5,none⟩=some (.int .i64 lf):=D0.cell 5
    have y6:w2.cell? ⟨w.heap.size,6,none⟩=some (.int .i64 rt):=D0.cell 6
    have y15:w2.cell? ⟨w.heap.size,15,none⟩=some (.int .i64 ey):=D0.cell 15
    have y16:w2.cell? ⟨w.heap.size,16,none⟩=some (.int .i64 bo):=D0.cell 16
    go_wp2_with (at_builtin;refine wpList_append_rows _ rfl _ _ _ rfl (w.heap.size+1) 2 i0 _ 1 8 Tryz.underlying27 hi hz0 hz1 hz2 rfl (by omega) _ _ rfl (hL2.o.alloc _) _ _ _ _ ([wd,lf,rt,ey,bo].map ic) rfl rfl (Sl.ints _ _ [wd,lf,rt,ey,bo] rfl rfl) ic_one (by simp [maxLen,fnums_len,hF5.out,hl4.out]) (by simp [fnums_len,hF5.out,hl4.out]) (by have:=hL2.hb.size;have:=hL2.bg.lt;first | omega | (simp only [];omega) | (simp;omega)) ?_;intro v2 w3 hO3 hg3 hat3;have hL3:=(hL2.alloc _).app hg3 hO3 hat3;refine Hid.out ?_)
    refine Lib.hid ?_
    have hW3:=hL3.hb
    have hO:=hL3.o
    rw [← List.map_append,← List.map_append,← hNe.out] at hO
    clear y4 y5 y6 y15 y16 D0 hL2 hL3 hO3 hO2 hL hNe hF5
    obtain ⟨A9,c9,hv,_⟩:=hO.form
    rw [List.length_map,hNl2.out] at hv
    subst hv
    have hS:=hO.sl
    have hM0:Hid (Value.int .i64 7=.int .i64 (markFold (N.take 0))):=Lib.hid rfl
    clear hO
    go_wp2_with fail
    go_loop [7,64] (fun m i=>∃ k:Nat,k ≤ 17∧i=.int .i64 k∧m=.int .i64 (markFold (N.take k))) (fun _ i=>17 - (intOf i).toNat)
    case atStart=>exact ⟨0,Nat.zero_le _,rfl,hM0.out⟩
    case round =>
     obtain ⟨k,hk,rfl,rfl⟩:=hrel
     by_cases hlt17:k < 17
     ·have hltN:k < N.length:=by rw [hNl2.out];exact hlt17
      obtain ⟨b9,o9,rfl,hb9,x0⟩:=hS.int hltN
      have hnx:=Lib.hid (markFold_next hltN)
      have hnb:=hN.out N[k] (List.getElem_mem hltN)
      have hmb:=markFold_bd (N.take k)
      generalize markFold (N.take k)=m at *
      generalize N[k]=n at *
      have hw1:IntKind.i64.wrap (m * 131)=m * 131:=IntWalk.i64_in _ (by omega)
      have hw2:IntKind.i64.wrap (m * 131+n)=m * 131+n:=IntWalk.i64_in _ (by omega)
      go_wp2_with (go_at_call 59;refine (modulo_c _ _ _ (by omega) (by omega)).mono ?_;rintro e w' ⟨rfl,rfl⟩)
      go_round
      case rel=>exact ⟨k+1,by omega,by go_num,by rw [hnx.out,Int.mul_comm 131 m]⟩
      case measure=>simp [intOf];omega
     ·have:k=17:=by omega
      subst this
      have hT:Hid (markFold (N.take 17)=markFold N):=Lib.hid (by rw [← hNl2.out,List.take_length])
      go_wp2
      go_ret2
      exact ⟨by rw [← hT.out];rfl,(by repeat first | with_reducible (first | exact hW3 | apply below_drewN' | apply Below.drew | refine Below.alloc ?_ ?_ _ | refine Below.setCell ?_ ?_ _) | exact hW3 | omega | (simp <;> omega) | (have:=(hW3).size;first | omega | (simp <;> omega)))⟩
theorem specMarkOf_c (fd ft:Int) (s:ByteArray) (A:Option Addr) (c:Nat) (l:List Int) (wd lf rt:Int) (lu hu lv hv:Figure) (ey bo:Int) (w:World) (hsz:s.size ≤ 1048576) (hl:l.length ≤ 1048576) (hs:Sl w w.heap.size 1 A (l.map ic)) :
  Calls Tryz.prog 27 #[.agg #[.int .i64 fd,.int .i64 ft,.string s,.slice A l.length c,.int .i64 wd,.int .i64 lf,.int .i64 rt,.int .i64 lu.digits,.int .i64 lu.tens,.int .i64 hu.digits,.int .i64 hu.tens,.int .i64 lv.digits,.int .i64 lv.tens,.int .i64 hv.digits,.int .i64 hv.tens,.int .i64 ey,.int .i64 bo]] w fun e w'=>e=.returned (.tuple #[.int .i64 (relMark (relB fd ft s l wd lf rt lu hu lv hv ey bo) (relNums fd ft l wd lf rt lu hu lv hv ey bo)),.int .i64 (relCode (relB fd ft s l wd lf rt lu hu lv hv ey bo))])∧Below w.heap.size w w':=by
 have HI:=fun W (hW:Below w.heap.size w W)=>specIsRelease_c fd ft s A c l wd lf rt lu hu lv hv ey bo W hsz hl ((hs.below hW).more hW.size)
 have hB:=@relNums_bd fd ft s l wd lf rt lu hu lv hv ey bo
 have hP:=@rel_parts fd ft s l wd lf rt lu hu lv hv ey bo
 have hW:Below w.heap.size w (w.alloc (.cells #[.int .i64 fd,.int .i64 ft,.string s,.slice A l.length c,.int .i64 wd,.int .i64 lf,.int .i64 rt,.int .i64 lu.digits,.int .i64 lu.tens,.int .i64 hu.digits,.int .i64 hu.tens,.int .i64 lv.digits,.int .i64 lv.tens,.int .i64 hv.digits,.int .i64 hv.tens,.int .i64 ey,.int .i64 bo] 33)):=(by repeat first | with_reducible (first | exact Below.refl _ _ | apply below_drewN' | apply Below.drew | refine Below.alloc ?_ ?_ _ | refine Below.setCell ?_ ?_ _) | exact Below.refl _ _ | omega | (simp <;> omega) | (have:=(Below.refl _ _).size;first | omega | (simp <;> omega)))
 have B0:=Blk.new w 33 #[.int .i64 fd,.int .i64 ft,.string s,.slice A l.length c,.int .i64 wd,.int .i64 lf,.int .i64 rt,.int .i64 lu.digits,.int .i64 lu.tens,.int .i64 hu.digits,.int .i64 hu.tens,.int .i64 lv.digits,.int .i64 lv.tens,.int .i64 hv.digits,.int .i64 hv.tens,.int .i64 ey,.int .i64 bo]
 cases hr:relB fd ft s l wd lf rt lu hu lv hv ey bo with
 | false =>
  rw [hr] at HI
  replace HI:=Lib.hid HI
  clear hB hP hr hs
  have hr0:=Lib.hid (Blk.range (cs:=[.int .i64 fd,.int .i64 ft,.string s,.slice A l.length c,.int .i64 wd,.int .i64 lf,.int .i64 rt,.int .i64 lu.digits,.int .i64 lu.tens,.int .i64 hu.digits,.int .i64 hu.tens,.int .i64 lv.digits,.int .i64 lv.tens,.int .i64 hv.digits,.int .i64 hv.tens,.int .i64 ey,.int .i64 bo]) B0)
  go_enter Tryz.func27,Tryz.ntmps27
  go_wp2_with (refine wpList_load_mid rfl 33 _ rfl (w.heap.size) 0 rfl [.int .i64 fd,.int .i64 ft,.string s,.slice A l.length c,.int .i64 wd,.int .i64 lf,.int .i64 rt,.int .i64 lu.digits,.int .i64 lu.tens,.int .i64 hu.digits,.int .i64 hu.tens,.int .i64 lv.digits,.int .i64 lv.tens,.int .i64 hv.digits,.int .i64 hv.tens,.int .i64 ey,.int .i64 bo] _ hr0.out Tryz.underlying33 rfl (by kernel_rfl) ?_)
  generalize w.alloc (.cells #[.int .i64 fd,.int .i64 ft,.string s,.slice A l.length c,.int .i64 wd,.int .i64 lf,.int .i64 rt,.int .i64 lu.digits,.int .i64 lu.tens,.int .i64 hu.digits,.int .i64 hu.tens,.int .i64 lv.digits,.int .i64 lv.tens,.int .i64 hv.digits,.int .i64 hv.tens,.int .i64 ey,.int .i64 bo] 33)=W at *
  refine Calls.mono (HI.out W hW) ?_;rintro e w1 ⟨rfl,hb1⟩
  replace B0:=B0.below hb1 B0.lt
  replace hW:=hW.trans (hb1.mono hW.size)
  clear hb1
  go_wp2
  go_ret2
  exact ⟨rfl,(by repeat first | with_reducible (first | exact hW | apply below_drewN' | apply Below.drew | refine Below.alloc ?_ ?_ _ | refine Below.setCell ?_ ?_ _) | exact hW | omega | (simp <;> omega) | (have:=(hW).size;first | omega | (simp <;> omega)))⟩
 | true =>
  rw [hr] at HI
  replace HI:=Lib.hid HI
  have hN:=hB hr
  obtain ⟨hch,_⟩:=hP hr
  obtain ⟨_,_,_,_,_,p0,p1,hl2,_⟩:=chart_parts hch
  clear hB hP hr hch
  subst hl2
  obtain ⟨b,off,rfl,hb,hx⟩:=hs.at_ (i:=0) (by simp)
  obtain ⟨b1,off1,h1,_,hx1⟩:=hs.at_ (i:=1) (by simp)
  obtain ⟨rfl,rfl⟩:b=b1∧off=off1:=by simpa using h1
  have d0:w.cell? ⟨b,off,none⟩=some (.int .i64 p0):=by simpa using hx 0 _ rfl
  have d1:w.cell? ⟨b,off+1,none⟩=some (.int .i64 p1):=by simpa using hx1 0 _ rfl
  clear hx hx1 h1 hl hs
  show Calls _ _ _ _ fun e w'=>e=.returned (.tuple #[.int .i64 (markFold (relNums fd ft [p0,p1] wd lf rt lu hu lv hv ey bo)),.int .i64 0])∧Below w.heap.size w w'
  have hNe:Hid (relNums fd ft [p0,p1] wd lf rt lu hu lv hv ey bo=fnums [⟨fd,ft⟩,lu,hu,lv,hv] ++ [p0,p1] ++ [wd,lf,rt,ey,bo]):=Lib.hid (by rfl)
  generalize relNums fd ft [p0,p1] wd lf rt lu hu lv hv ey bo=N at *
  have hNl:N.length=17:=by rw [hNe.out];simp [fnums]
  have hNl2:=Lib.hid hNl
  replace hN:=Lib.hid hN
  clear hNl
  obtain ⟨lud,lut⟩:=lu
  obtain ⟨hud,hut⟩:=hu
  obtain ⟨lvd,lvt⟩:=lv
  obtain ⟨hvd,hvt⟩:=hv
  simp only at *
  simp only [List.length_cons,List.length_nil,Nat.zero_add] at *
  have hFs:Hid (∀ (wr:World) (g k:Nat) (hk:k < [(⟨fd,ft⟩:Figure),⟨lud,lut⟩,⟨hud,hut⟩,⟨lvd,lvt⟩,⟨hvd,hvt⟩].length),Blk wr g 26 #[.int .i64 fd,.int .i64 ft,.int .i64 lud,.int .i64 lut,.int .i64 hud,.int .i64 hut,.int .i64 lvd,.int .i64 lvt,.int .i64 hvd,.int .i64 hvt]→wr.cell? ⟨g,k * 2,none⟩=some (.int .i64 ([(⟨fd,ft⟩:Figure),⟨lud,lut⟩,⟨hud,hut⟩,⟨lvd,lvt⟩,⟨hvd,hvt⟩][k]).digits)∧wr.cell? ⟨g,k * 2+1,none⟩=some (.int .i64 ([(⟨fd,ft⟩:Figure),⟨lud,lut⟩,⟨hud,hut⟩,⟨lvd,lvt⟩,⟨hvd,hvt⟩][k]).tens)):=Lib.hid (fun wr g k hk hB=>blk_figs hB _ rfl hk)
  have hF5:Hid ([(⟨fd,ft⟩:Figure),⟨lud,lut⟩,⟨hud,hut⟩,⟨lvd,lvt⟩,⟨hvd,hvt⟩].length=5):=Lib.hid (by rfl)
  obtain ⟨i0,hi,hz0,hz1,hz2⟩:=info_parts info_Int64
  have hr0:=Lib.hid (Blk.range (cs:=[.int .i64 fd,.int .i64 ft,.string s,.slice (some ⟨b,off,none⟩) 2 c,.int .i64 wd,.int .i64 lf,.int .i64 rt,.int .i64 lud,.int .i64 lut,.int .i64 hud,.int .i64 hut,.int .i64 lvd,.int .i64 lvt,.int .i64 hvd,.int .i64 hvt,.int .i64 ey,.int .i64 bo]) B0)
  go_enter Tryz.func27,Tryz.ntmps27
  go_wp2_with (refine wpList_load_mid rfl 33 _ rfl (w.heap.size) 0 rfl [.int .i64 fd,.int .i64 ft,.string s,.slice (some ⟨b,off,none⟩) 2 c,.int .i64 wd,.int .i64 lf,.int .i64 rt,.int .i64 lud,.int .i64 lut,.int .i64 hud,.int .i64 hut,.int .i64 lvd,.int .i64 lvt,.int .i64 hvd,.int .i64 hvt,.int .i64 ey,.int .i64 bo] _ hr0.out Tryz.underlying33 rfl (by kernel_rfl) ?_)
  clear hr0
  generalize w.alloc (.cells #[.int .i64 fd,.int .i64 ft,.string s,.slice (some ⟨b,off,none⟩) 2 c,.int .i64 wd,.int .i64 lf,.int .i64 rt,.int .i64 lud,.int .i64 lut,.int .i64 hud,.int .i64 hut,.int .i64 lvd,.int .i64 lvt,.int .i64 hvd,.int .i64 hvt,.int .i64 ey,.int .i64 bo] 33)=W at *
  refine Calls.mono (HI.out W hW) ?_;rintro e w1 ⟨rfl,hb1⟩
  replace B0:=B0.below hb1 B0.lt
  replace hW:=hW.trans (hb1.mono hW.size)
  clear hb1
  clear HI
  have B0_0:=B0.c0
  have B0_1:=B0.c1
  have B0_2:=B0.c2
  have B0_3:=B0.c3
  have B0_4:=B0.c4
  have B0_5:=B0.c5
  have B0_6:=B0.c6
  have B0_7:=B0.c7
  have B0_8:=B0.c8
  have B0_9:=B0.c9
  have B0_10:=B0.c10
  have B0_11:=B0.c11
  have B0_12:=B0.c12
  have B0_13:=B0.c13
  have B0_14:=B0.c14
  have B0_15:=B0.c15
  have B0_16:=B0.c16
  have hbs:=hW.size
  have hlt:=B0.lt
  have L0:MkL w 33 #[.int .i64 fd,.int .i64 ft,.string s,.slice (some ⟨b,off,none⟩) 2 c,.int .i64 wd,.int .i64 lf,.int .i64 rt,.int .i64 lud,.int .i64 lut,.int .i64 hud,.int .i64 hut,.int .i64 lvd,.int .i64 lvt,.int .i64 hvd,.int .i64 hvt,.int .i64 ey,.int .i64 bo] (w1.heap.size+1+1) 26 #[.int .i64 fd,.int .i64 ft,.int .i64 lud,.int .i64 lut,.int .i64 hud,.int .i64 hut,.int .i64 lvd,.int .i64 lvt,.int .i64 hvd,.int .i64 hvt] w1.heap.size 31 #[.int .i64 fd,.int .i64 ft,.string s,.slice (some ⟨b,off,none⟩) 2 c,.int .i64 wd,.int .i64 lf,.int .i64 rt] 2 [] (.slice (some ⟨w1.heap.size+1,0,none⟩) 0 0) (((w1.alloc (.cells #[.int .i64 fd,.int .i64 ft,.string s,.slice (some ⟨b,off,none⟩) 2 c,.int .i64 wd,.int .i64 lf,.int .i64 rt] 31)).alloc (.cells #[] 2)).alloc (.cells #[.int .i64 fd,.int .i64 ft,.int .i64 lud,.int .i64 lut,.int .i64 hud,.int .i64 hut,.int .i64 lvd,.int .i64 lvt,.int .i64 hvd,.int .i64 hvt] 26)) :=
   ⟨(by repeat first | with_reducible (first | exact hW | apply below_drewN' | apply Below.drew | refine Below.alloc ?_ ?_ _ | refine Below.setCell ?_ ?_ _) | exact hW | omega | (simp <;> omega) | (have:=(hW).size;first | omega | (simp <;> omega))),((B0.alloc _).alloc _).alloc _,Blk.new' _ _ _ (by simp),((Blk.new _ _ _).alloc _).alloc _,by simp [Value.ownBlock],by simp [Value.ownBlock],by
    have:=Own.empty (w:=w1.alloc (.cells #[.int .i64 fd,.int .i64 ft,.string s,.slice (some ⟨b,off,none⟩) 2 c,.int .i64 wd,.int .i64 lf,.int .i64 rt] 31)) (base:=w.heap.size+1) (e:=2) (k:=1) (by simp;omega)
    simpa using this.alloc _⟩
  go_wp2_with fail
  generalize [(⟨fd,ft⟩:Figure),⟨lud,lut⟩,⟨hud,hut⟩,⟨lvd,lvt⟩,⟨hvd,hvt⟩]=F at *
  replace hbs:=Lib.hid hbs
  replace hlt:=Lib.hid hlt
  have g15:∀ v,Blk v w.heap.size 33 #[.int .i64 fd,.int .i64 ft,.string s,.slice (some ⟨b,off,none⟩) 2 c,.int .i64 wd,.int .i64 lf,.int .i64 rt,.int .i64 lud,.int .i64 lut,.int .i64 hud,.int .i64 hut,.int .i64 lvd,.int .i64 lvt,.int .i64 hvd,.int .i64 hvt,.int .i64 ey,.int .i64 bo]→v.cell? ⟨w.heap.size,15,none⟩=some (.int .i64 ey):=fun v h=>h.cell 15
  have g16:∀ v,Blk v w.heap.size 33 #[.int .i64 fd,.int .i64 ft,.string s,.slice (some ⟨b,off,none⟩) 2 c,.int .i64 wd,.int .i64 lf,.int .i64 rt,.int .i64 lud,.int .i64 lut,.int .i64 hud,.int .i64 hut,.int .i64 lvd,.int .i64 lvt,.int .i64 hvd,.int .i64 hvt,.int .i64 ey,.int .i64 bo]→v.cell? ⟨w.heap.size,16,none⟩=some (.int .i64 bo):=fun v h=>h.cell 16
  have k3:∀ v,Blk v w1.heap.size 31 #[.int .i64 fd,.int .i64 ft,.string s,.slice (some ⟨b,off,none⟩) 2 c,.int .i64 wd,.int .i64 lf,.int .i64 rt]→v.cell? ⟨w1.heap.size,3,none⟩=some (.slice (some ⟨b,off,none⟩) 2 c):=fun v h=>h.cell 3
  have k4:∀ v,Blk v w1.heap.size 31 #[.int .i64 fd,.int .i64 ft,.string s,.slice (some ⟨b,off,none⟩) 2 c,.int .i64 wd,.int .i64 lf,.int .i64 rt]→v.cell? ⟨w1.heap.size,4,none⟩=some (.int .i64 wd):=fun v h=>h.cell 4
  have k5:∀ v,Blk v w1.heap.size 31 #[.int .i64 fd,.int .i64 ft,.string s,.slice (some ⟨b,off,none⟩) 2 c,.int .i64 wd,.int .i64 lf,.int .i64 rt]→v.cell? ⟨w1.heap.size,5,none⟩=some (.int .i64 lf):=fun v h=>h.cell 5
  have k6:∀ v,Blk v w1.heap.size 31 #[.int .i64 fd,.int .i64 ft,.string s,.slice (some ⟨b,off,none⟩) 2 c,.int .i64 wd,.int .i64 lf,.int .i64 rt]→v.cell? ⟨w1.heap.size,6,none⟩=some (.int .i64 rt):=fun v h=>h.cell 6
  clear B0_0 B0_1 B0_2 B0_3 B0_4 B0_5 B0_6 B0_7 B0_8 B0_9 B0_10 B0_11 B0_12 B0_13 B0_14 B0_15 B0_16
  generalize hgs:(#[.int .i64 fd,.int .i64 ft,.string s,.slice (some ⟨b,off,none⟩) 2 c,.int .i64 wd,.int .i64 lf,.int .i64 rt,.int .i64 lud,.int .i64 lut,.int .i64 hud,.int .i64 hut,.int .i64 lvd,.int .i64 lvt,.int .i64 hvd,.int .i64 hvt,.int .i64 ey,.int .i64 bo]:Array Value)=cs at *
  clear hgs
  generalize hgs:(#[.int .i64 fd,.int .i64 ft,.string s,.slice (some ⟨b,off,none⟩) 2 c,.int .i64 wd,.int .i64 lf,.int .i64 rt]:Array Value)=ks at *
  clear hgs
  replace g15:=Lib.hid g15
  replace g16:=Lib.hid g16
  replace k3:=Lib.hid k3
  replace k4:=Lib.hid k4
  replace k5:=Lib.hid k5
  replace k6:=Lib.hid k6
  generalize hgs:(#[.int .i64 fd,.int .i64 ft,.int .i64 lud,.int .i64 lut,.int .i64 hud,.int .i64 hut,.int .i64 lvd,.int .i64 lvt,.int .i64 hvd,.int .i64 hvt]:Array Value)=gs at *
  clear hgs
  go_loopw [5,7] (fun o i wr=>∃ k:Nat,k ≤ 5∧i=.int .i64 k∧MkL w 33 cs (w1.heap.size+1+1) 26 gs w1.heap.size 31 ks 2 ((fnums (F.take k)).map ic) o wr) (fun _ i _=>5 - (intOf i).toNat)
  case atStart=>exact ⟨0,Nat.zero_le _,rfl,L0⟩
  case round =>
   clear L0
   obtain ⟨k,hk,rfl,hL⟩:=hrel
   by_cases hlt5:k < 5
   ·have hltF:k < F.length:=by rw [hF5.out];exact hlt5
    obtain ⟨x0,x1⟩:=hFs.out wr _ k hltF hL.fg
    have hnx:=Lib.hid (fnums_next hltF)
    generalize F[k]=f at *
    have hsz1:=hL.fg.lt
    have hdk:((k:Int) < 5):=by omega
    have hln:=fnums_len (F.take k)
    have hlk:=List.length_take_le k F
    replace hln:=Lib.hid hln
    obtain ⟨d,t⟩:=f
    simp only at *
    go_wp2_with fail
    refine wp_region_sink 12 (fun a0 fL bA v=>∃ v34 v35 v36 v37 v38 v39 v40 v41 v42 v43 v44 v45:Value,bA=(((((((((((a0.put (some 34) v34).put (some 35) v35).put (some 36) v36).put (some 37) v37).put (some 38) v38).put (some 39) v39).put (some 40) v40).put (some 41) v41).put (some 42) v42).put (some 43) v43).put (some 44) v44).put (some 45) v45∧(BsS wr 2 #[.int .i64 d,.int .i64 t] 2 (fL 11) v45 v)∧(fL 0=true→v34=u5)∧(fL 1=true→v35=.slice (some ⟨w1.heap.size+1+1,0,none⟩) 5 5)∧(fL 2=true→v36=.int .i64 k)∧(fL 3=true→v37=.pointer (some ⟨w1.heap.size+1+1,k * 2,none⟩))∧(fL 4=true→v38=.pointer (some ⟨w1.heap.size+1+1,k * 2,none⟩))∧(fL 5=true→v39=.int .i64 d)∧(fL 6=true→v40=.slice (some ⟨w1.heap.size+1+1,0,none⟩) 5 5)∧(fL 7=true→v41=.int .i64 k)∧(fL 8=true→v42=.pointer (some ⟨w1.heap.size+1+1,k * 2,none⟩))∧(fL 9=true→v43=.pointer (some ⟨w1.heap.size+1+1,k * 2+1,none⟩))∧(fL 10=true→v44=.int .i64 t)∧(fL 11=true→True)) (by kernel_rfl) (by decide +kernel) ?_ ?_ ?_
    ·exact ⟨_,_,_,_,_,_,_,_,_,_,_,_,put_more (put_more (put_more (put_more (put_more (put_more (put_more (put_more (put_more (put_more (put_more (put_more (rfl) 34) 35) 36) 37) 38) 39) 40) 41) 42) 43) 44) 45,BsS.init,nofun,nofun,nofun,nofun,nofun,nofun,nofun,nofun,nofun,nofun,nofun,nofun⟩
    ·rintro fL bA v ⟨v34,v35,v36,v37,v38,v39,v40,v41,v42,v43,v44,v45,rfl,hS,q0,q1,q2,q3,q4,q5,q6,q7,q8,q9,q10,q11⟩ i hi hf o ho hall
     simp only [Act.put,List.setIfInBounds_toArray,List.set_cons_zero,List.set_cons_succ]
     have hn:i=0 ∨ i=1 ∨ i=2 ∨ i=3 ∨ i=4 ∨ i=5 ∨ i=6 ∨ i=7 ∨ i=8 ∨ i=9 ∨ i=10 ∨ i=11:=by omega
     clear hi
     rcases hn with rfl | rfl | rfl | rfl | rfl | rfl | rfl | rfl | rfl | rfl | rfl | rfl
     ·obtain rfl:=Option.some.inj ho
      clear hall ho
      refine wpOp_step rfl (fun K hK=>?_)
      go_simp
      exact hK _ _ ⟨_,_,_,_,_,_,_,_,_,_,_,_,rfl,hS,fun _=>rfl,q1,q2,q3,q4,q5,q6,q7,q8,q9,q10,fun _=>trivial⟩
     ·obtain rfl:=Option.some.inj ho
      clear hall ho
      refine wpOp_step rfl (fun K hK=>?_)
      go_simp
      exact hK _ _ ⟨_,_,_,_,_,_,_,_,_,_,_,_,rfl,hS,q0,fun _=>rfl,q2,q3,q4,q5,q6,q7,q8,q9,q10,fun _=>trivial⟩
     ·obtain rfl:=Option.some.inj ho
      clear hall ho
      refine wpOp_step rfl (fun K hK=>?_)
      go_simp
      exact hK _ _ ⟨_,_,_,_,_,_,_,_,_,_,_,_,rfl,hS,q0,q1,fun _=>rfl,q3,q4,q5,q6,q7,q8,q9,q10,fun _=>trivial⟩
     ·obtain rfl:=Option.some.inj ho
      obtain rfl:=q1 (hall ⟨1,.data⟩ (by simp) rfl)
      obtain rfl:=q2 (hall ⟨2,.data⟩ (by simp) rfl)
      clear hall ho
      refine wpOp_step rfl (fun K hK=>?_)
      go_simp
      exact hK _ _ ⟨_,_,_,_,_,_,_,_,_,_,_,_,rfl,hS,q0,fun _=>rfl,fun _=>rfl,fun _=>rfl,q4,q5,q6,q7,q8,q9,q10,fun _=>trivial⟩
     ·obtain rfl:=Option.some.inj ho
      obtain rfl:=q3 (hall ⟨3,.data⟩ (by simp) rfl)
      clear hall ho
      refine wpOp_step rfl (fun K hK=>?_)
      go_simp
      exact hK _ _ ⟨_,_,_,_,_,_,_,_,_,_,_,_,rfl,hS,q0,q1,q2,fun _=>rfl,fun _=>rfl,q5,q6,q7,q8,q9,q10,fun _=>trivial⟩
     ·obtain rfl:=Option.some.inj ho
      obtain rfl:=q4 (hall ⟨4,.data⟩ (by simp) rfl)
      have z0:=(hS.hb.cell (p:=⟨w1.heap.size+1+1,k * 2,none⟩) hsz1).trans x0
      clear hall ho
      refine wpOp_step rfl (fun K hK=>?_)
      go_simp
      exact hK _ _ ⟨_,_,_,_,_,_,_,_,_,_,_,_,rfl,hS,q0,q1,q2,q3,fun _=>rfl,fun _=>rfl,q6,q7,q8,q9,q10,fun _=>trivial⟩
     ·obtain rfl:=Option.some.inj ho
      clear hall ho
      refine wpOp_step rfl (fun K hK=>?_)
      go_simp
      exact hK _ _ ⟨_,_,_,_,_,_,_,_,_,_,_,_,rfl,hS,q0,q1,q2,q3,q4,q5,fun _=>rfl,q7,q8,q9,q10,fun _=>trivial⟩
     ·obtain rfl:=Option.some.inj ho
      clear hall ho
      refine wpOp_step rfl (fun K hK=>?_)
      go_simp
      exact hK _ _ ⟨_,_,_,_,_,_,_,_,_,_,_,_,rfl,hS,q0,q1,q2,q3,q4,q5,q6,fun _=>rfl,q8,q9,q10,fun _=>trivial⟩
     ·obtain rfl:=Option.some.inj ho
      obtain rfl:=q6 (hall ⟨6,.data⟩ (by simp) rfl)
      obtain rfl:=q7 (hall ⟨7,.data⟩ (by simp) rfl)
      clear hall ho
      refine wpOp_step rfl (fun K hK=>?_)
      go_simp
      exact hK _ _ ⟨_,_,_,_,_,_,_,_,_,_,_,_,rfl,hS,q0,q1,q2,q3,q4,q5,fun _=>rfl,fun _=>rfl,fun _=>rfl,q9,q10,fun _=>trivial⟩
     ·obtain rfl:=Option.some.inj ho
      obtain rfl:=q8 (hall ⟨8,.data⟩ (by simp) rfl)
      clear hall ho
      refine wpOp_step rfl (fun K hK=>?_)
      go_simp
      exact hK _ _ ⟨_,_,_,_,_,_,_,_,_,_,_,_,rfl,hS,q0,q1,q2,q3,q4,q5,q6,q7,fun _=>rfl,fun _=>rfl,q10,fun _=>trivial⟩
     ·obtain rfl:=Option.some.inj ho
      obtain rfl:=q9 (hall ⟨9,.data⟩ (by simp) rfl)
      have z1:=(hS.hb.cell (p:=⟨w1.heap.size+1+1,k * 2+1,none⟩) hsz1).trans x1
      clear hall ho
      refine wpOp_step rfl (fun K hK=>?_)
      go_simp
      exact hK _ _ ⟨_,_,_,_,_,_,_,_,_,_,_,_,rfl,hS,q0,q1,q2,q3,q4,q5,q6,q7,q8,fun _=>rfl,fun _=>rfl,fun _=>trivial⟩
     ·obtain rfl:=Option.some.inj ho
      obtain rfl:=q5 (hall ⟨5,.data⟩ (by simp) rfl)
      obtain rfl:=q10 (hall ⟨10,.data⟩ (by simp) rfl)
      clear hall ho
      refine wpOp_step rfl (fun K hK=>?_)
      go_simp
      exact hK _ _ ⟨_,_,_,_,_,_,_,_,_,_,_,_,rfl,hS.new,q0,q1,q2,q3,q4,fun _=>rfl,q6,q7,q8,q9,fun _=>rfl,fun _=>trivial⟩
    ·rintro fL bA v ⟨v34,v35,v36,v37,v38,v39,v40,v41,v42,v43,v44,v45,rfl,hS,q0,q1,q2,q3,q4,q5,q6,q7,q8,q9,q10,q11⟩ hall
     simp only [Act.put,List.setIfInBounds_toArray,List.set_cons_zero,List.set_cons_succ]
     obtain rfl:=q0 (hall 0 (by omega))
     obtain rfl:=q1 (hall 1 (by omega))
     obtain rfl:=q2 (hall 2 (by omega))
     obtain rfl:=q3 (hall 3 (by omega))
     obtain rfl:=q4 (hall 4 (by omega))
     obtain rfl:=q5 (hall 5 (by omega))
     obtain rfl:=q6 (hall 6 (by omega))
     obtain rfl:=q7 (hall 7 (by omega))
     obtain rfl:=q8 (hall 8 (by omega))
     obtain rfl:=q9 (hall 9 (by omega))
     obtain rfl:=q10 (hall 10 (by omega))
     have e11:fL 11=true:=hall 11 (by omega)
     clear hall
     simp only [List.drop_succ_cons,List.drop_zero]
     obtain ⟨g,rfl,hg,BB⟩:=hS.sl e11
     have hL1:=hL.below hS.hb
     have hrow:=Sl.blkInts BB [d,t] rfl
     go_wp2_with (at_builtin;refine wpList_append_rows _ rfl _ _ _ rfl (w.heap.size+1) 2 i0 _ 1 8 Tryz.underlying27 hi hz0 hz1 hz2 rfl (by omega) _ _ rfl hL1.o _ _ _ _ ([d,t].map ic) rfl rfl hrow (ic_one (x:=[d,t])) (by simp;have:=hln.out;unfold maxLen;omega) (by simp;have:=hln.out;omega) (by have:=hL1.hb.size;have:=hL1.bg.lt;first | omega | (simp only [];omega) | (simp;omega)) ?_;intro v1 w2 hO2 hg2 hat;have hL2:=hL1.app hg2 hO2 hat)
     go_roundw
     case rel=>exact ⟨k+1,by omega,by go_num,by rw [hnx.out,List.map_append];exact hL2⟩
     case measure=>simp [intOf];omega
   ·have:k=5:=by omega
    subst this
    rw [← hF5.out,List.take_length] at hL
    clear hFs
    have hlR:=hL.bg.lt
    have hlK:=hL.kg.lt
    have hbw:=hL.hb
    go_wp2_with fail
    refine wp_region_sink 22 (fun a0 fL bA v=>∃ v47 v48 v49 v50 v51 v52 v53 v54 v55 v56 v57 v58 v59 v60 v61 v62 v63 v64 v65 v66 v67 v68:Value,bA=(((((((((((((((((((((a0.put (some 47) v47).put (some 48) v48).put (some 49) v49).put (some 50) v50).put (some 51) v51).put (some 52) v52).put (some 53) v53).put (some 54) v54).put (some 55) v55).put (some 56) v56).put (some 57) v57).put (some 58) v58).put (some 59) v59).put (some 60) v60).put (some 61) v61).put (some 62) v62).put (some 63) v63).put (some 64) v64).put (some 65) v65).put (some 66) v66).put (some 67) v67).put (some 68) v68∧(BsS wr 2 #[.int .i64 p0,.int .i64 p1,.int .i64 wd,.int .i64 lf,.int .i64 rt,.int .i64 ey,.int .i64 bo] 7 (fL 21) v68 v)∧(fL 0=true→v47=u5)∧(fL 1=true→v48=.pointer (some ⟨w1.heap.size,0,none⟩))∧(fL 2=true→v49=.pointer (some ⟨w1.heap.size,3,none⟩))∧(fL 3=true→v50=.slice (some ⟨b,off,none⟩) 2 c)∧(fL 4=true→v51=.pointer (some ⟨b,off,none⟩))∧(fL 5=true→v52=.int .i64 p0)∧(fL 6=true→v53=.pointer (some ⟨w1.heap.size,0,none⟩))∧(fL 7=true→v54=.pointer (some ⟨w1.heap.size,3,none⟩))∧(fL 8=true→v55=.slice (some ⟨b,off,none⟩) 2 c)∧(fL 9=true→v56=.pointer (some ⟨b,off+1,none⟩))∧(fL 10=true→v57=.int .i64 p1)∧(fL 11=true→v58=.pointer (some ⟨w1.heap.size,4,none⟩))∧(fL 12=true→v59=.int .i64 wd)∧(fL 13=true→v60=.pointer (some ⟨w1.heap.size,5,none⟩))∧(fL 14=true→v61=.int .i64 lf)∧(fL 15=true→v62=.pointer (some ⟨w1.heap.size,6,none⟩))∧(fL 16=true→v63=.int .i64 rt)∧(fL 17=true→v64=.pointer (some ⟨w.heap.size,15,none⟩))∧(fL 18=true→v65=.int .i64 ey)∧(fL 19=true→v66=.pointer (some ⟨w.heap.size,16,none⟩))∧(fL 20=true→v67=.int .i64 bo)∧(fL 21=true→True)) (by kernel_rfl) (by decide +kernel) ?_ ?_ ?_
    ·exact ⟨_,_,_,_,_,_,_,_,_,_,_,_,_,_,_,_,_,_,_,_,_,_,put_more (put_more (put_more (put_more (put_more (put_more (put_more (put_more (put_more (put_more (put_more (put_more (put_more (put_more (put_more (put_more (put_more (put_more (put_more (put_more (put_more (put_more (rfl) 47) 48) 49) 50) 51) 52) 53) 54) 55) 56) 57) 58) 59) 60) 61) 62) 63) 64) 65) 66) 67) 68,BsS.init,nofun,nofun,nofun,nofun,nofun,nofun,nofun,nofun,nofun,nofun,nofun,nofun,nofun,nofun,nofun,nofun,nofun,nofun,nofun,nofun,nofun,nofun⟩
    ·rintro fL bA v ⟨v47,v48,v49,v50,v51,v52,v53,v54,v55,v56,v57,v58,v59,v60,v61,v62,v63,v64,v65,v66,v67,v68,rfl,hS,q0,q1,q2,q3,q4,q5,q6,q7,q8,q9,q10,q11,q12,q13,q14,q15,q16,q17,q18,q19,q20,q21⟩ i hi hf o ho hall
     simp only [Act.put,List.setIfInBounds_toArray,List.set_cons_zero,List.set_cons_succ]
     have hn:i=0 ∨ i=1 ∨ i=2 ∨ i=3 ∨ i=4 ∨ i=5 ∨ i=6 ∨ i=7 ∨ i=8 ∨ i=9 ∨ i=10 ∨ i=11 ∨ i=12 ∨ i=13 ∨ i=14 ∨ i=15 ∨ i=16 ∨ i=17 ∨ i=18 ∨ i=19 ∨ i=20 ∨ i=21:=by omega
     clear hi
     rcases hn with rfl | rfl | rfl | rfl | rfl | rfl | rfl | rfl | rfl | rfl | rfl | rfl | rfl | rfl | rfl | rfl | rfl | rfl | rfl | rfl | rfl | rfl
     ·obtain rfl:=Option.some.inj ho
      clear hall ho
      refine wpOp_step rfl (fun K hK=>?_)
      go_simp
      exact hK _ _ ⟨_,_,_,_,_,_,_,_,_,_,_,_,_,_,_,_,_,_,_,_,_,_,rfl,hS,fun _=>rfl,q1,q2,q3,q4,q5,q6,q7,q8,q9,q10,q11,q12,q13,q14,q15,q16,q17,q18,q19,q20,fun _=>trivial⟩
     ·obtain rfl:=Option.some.inj ho
      clear hall ho
      refine wpOp_step rfl (fun K hK=>?_)
      go_simp
      exact hK _ _ ⟨_,_,_,_,_,_,_,_,_,_,_,_,_,_,_,_,_,_,_,_,_,_,rfl,hS,q0,fun _=>rfl,q2,q3,q4,q5,q6,q7,q8,q9,q10,q11,q12,q13,q14,q15,q16,q17,q18,q19,q20,fun _=>trivial⟩
     ·obtain rfl:=Option.some.inj ho
      obtain rfl:=q1 (hall ⟨1,.data⟩ (by simp) rfl)
      clear hall ho
      refine wpOp_step rfl (fun K hK=>?_)
      go_simp
      exact hK _ _ ⟨_,_,_,_,_,_,_,_,_,_,_,_,_,_,_,_,_,_,_,_,_,_,rfl,hS,q0,fun _=>rfl,fun _=>rfl,q3,q4,q5,q6,q7,q8,q9,q10,q11,q12,q13,q14,q15,q16,q17,q18,q19,q20,fun _=>trivial⟩
     ·obtain rfl:=Option.some.inj ho
      obtain rfl:=q2 (hall ⟨2,.data⟩ (by simp) rfl)
      have z0:v.cell? ⟨w1.heap.size,3,none⟩=some (.slice (some ⟨b,off,none⟩) 2 c):=k3.out _ (hL.kg.below hS.hb hlK)
      clear hall ho
      refine wpOp_step rfl (fun K hK=>?_)
      go_simp
      exact hK _ _ ⟨_,_,_,_,_,_,_,_,_,_,_,_,_,_,_,_,_,_,_,_,_,_,rfl,hS,q0,q1,fun _=>rfl,fun _=>rfl,q4,q5,q6,q7,q8,q9,q10,q11,q12,q13,q14,q15,q16,q17,q18,q19,q20,fun _=>trivial⟩
     ·obtain rfl:=Option.some.inj ho
      obtain rfl:=q3 (hall ⟨3,.data⟩ (by simp) rfl)
      clear hall ho
      refine wpOp_step rfl (fun K hK=>?_)
      go_simp
      exact hK _ _ ⟨_,_,_,_,_,_,_,_,_,_,_,_,_,_,_,_,_,_,_,_,_,_,rfl,hS,q0,q1,q2,fun _=>rfl,fun _=>rfl,q5,q6,q7,q8,q9,q10,q11,q12,q13,q14,q15,q16,q17,q18,q19,q20,fun _=>trivial⟩
     ·obtain rfl:=Option.some.inj ho
      obtain rfl:=q4 (hall ⟨4,.data⟩ (by simp) rfl)
      have z0:=((hbw.trans (hS.hb.mono hbw.size)).cell (p:=⟨b,off,none⟩) hb).trans d0
      clear hall ho
      refine wpOp_step rfl (fun K hK=>?_)
      go_simp
      exact hK _ _ ⟨_,_,_,_,_,_,_,_,_,_,_,_,_,_,_,_,_,_,_,_,_,_,rfl,hS,q0,q1,q2,q3,fun _=>rfl,fun _=>rfl,q6,q7,q8,q9,q10,q11,q12,q13,q14,q15,q16,q17,q18,q19,q20,fun _=>trivial⟩
     ·obtain rfl:=Option.some.inj ho
      clear hall ho
      refine wpOp_step rfl (fun K hK=>?_)
      go_simp
      exact hK _ _ ⟨_,_,_,_,_,_,_,_,_,_,_,_,_,_,_,_,_,_,_,_,_,_,rfl,hS,q0,q1,q2,q3,q4,q5,fun _=>rfl,q7,q8,q9,q10,q11,q12,q13,q14,q15,q16,q17,q18,q19,q20,fun _=>trivial⟩
     ·obtain rfl:=Option.some.inj ho
      obtain rfl:=q6 (hall ⟨6,.data⟩ (by simp) rfl)
      clear hall ho
      refine wpOp_step rfl (fun K hK=>?_)
      go_simp
      exact hK _ _ ⟨_,_,_,_,_,_,_,_,_,_,_,_,_,_,_,_,_,_,_,_,_,_,rfl,hS,q0,q1,q2,q3,q4,q5,fun _=>rfl,fun _=>rfl,q8,q9,q10,q11,q12,q13,q14,q15,q16,q17,q18,q19,q20,fun _=>trivial⟩
     ·obtain rfl:=Option.some.inj ho
      obtain rfl:=q7 (hall ⟨7,.data⟩ (by simp) rfl)
      have z0:v.cell? ⟨w1.heap.size,3,none⟩=some (.slice (some ⟨b,off,none⟩) 2 c):=k3.out _ (hL.kg.below hS.hb hlK)
      clear hall ho
      refine wpOp_step rfl (fun K hK=>?_)
      go_simp
      exact hK _ _ ⟨_,_,_,_,_,_,_,_,_,_,_,_,_,_,_,_,_,_,_,_,_,_,rfl,hS,q0,q1,q2,q3,q4,q5,q6,fun _=>rfl,fun _=>rfl,q9,q10,q11,q12,q13,q14,q15,q16,q17,q18,q19,q20,fun _=>trivial⟩
     ·obtain rfl:=Option.some.inj ho
      obtain rfl:=q8 (hall ⟨8,.data⟩ (by simp) rfl)
      clear hall ho
      refine wpOp_step rfl (fun K hK=>?_)
      go_simp
      exact hK _ _ ⟨_,_,_,_,_,_,_,_,_,_,_,_,_,_,_,_,_,_,_,_,_,_,rfl,hS,q0,q1,q2,q3,q4,q5,q6,q7,fun _=>rfl,fun _=>rfl,q10,q11,q12,q13,q14,q15,q16,q17,q18,q19,q20,fun _=>trivial⟩
     ·obtain rfl:=Option.some.inj ho
      obtain rfl:=q9 (hall ⟨9,.data⟩ (by simp) rfl)
      have z0:=((hbw.trans (hS.hb.mono hbw.size)).cell (p:=⟨b,off+1,none⟩) hb).trans d1
      clear hall ho
      refine wpOp_step rfl (fun K hK=>?_)
      go_simp
      exact hK _ _ ⟨_,_,_,_,_,_,_,_,_,_,_,_,_,_,_,_,_,_,_,_,_,_,rfl,hS,q0,q1,q2,q3,q4,q5,q6,q7,q8,fun _=>rfl,fun _=>rfl,q11,q12,q13,q14,q15,q16,q17,q18,q19,q20,fun _=>trivial⟩
     ·obtain rfl:=Option.some.inj ho
      clear hall ho
      refine wpOp_step rfl (fun K hK=>?_)
      go_simp
      exact hK _ _ ⟨_,_,_,_,_,_,_,_,_,_,_,_,_,_,_,_,_,_,_,_,_,_,rfl,hS,q0,q1,q2,q3,q4,q5,q6,q7,q8,q9,q10,fun _=>rfl,q12,q13,q14,q15,q16,q17,q18,q19,q20,fun _=>trivial⟩
     ·obtain rfl:=Option.some.inj ho
      obtain rfl:=q11 (hall ⟨11,.data⟩ (by simp) rfl)
      have z0:v.cell? ⟨w1.heap.size,4,none⟩=some (.int .i64 wd):=k4.out _ (hL.kg.below hS.hb hlK)
      clear hall ho
      refine wpOp_step rfl (fun K hK=>?_)
      go_simp
      exact hK _ _ ⟨_,_,_,_,_,_,_,_,_,_,_,_,_,_,_,_,_,_,_,_,_,_,rfl,hS,q0,q1,q2,q3,q4,q5,q6,q7,q8,q9,q10,fun _=>rfl,fun _=>rfl,q13,q14,q15,q16,q17,q18,q19,q20,fun _=>trivial⟩
     ·obtain rfl:=Option.some.inj ho
      clear hall ho
      refine wpOp_step rfl (fun K hK=>?_)
      go_simp
      exact hK _ _ ⟨_,_,_,_,_,_,_,_,_,_,_,_,_,_,_,_,_,_,_,_,_,_,rfl,hS,q0,q1,q2,q3,q4,q5,q6,q7,q8,q9,q10,q11,q12,fun _=>rfl,q14,q15,q16,q17,q18,q19,q20,fun _=>trivial⟩
     ·obtain rfl:=Option.some.inj ho
      obtain rfl:=q13 (hall ⟨13,.data⟩ (by simp) rfl)
      have z0:v.cell? ⟨w1.heap.size,5,none⟩=some (.int .i64 lf):=k5.out _ (hL.kg.below hS.hb hlK)
      clear hall ho
      refine wpOp_step rfl (fun K hK=>?_)
      go_simp
      exact hK _ _ ⟨_,_,_,_,_,_,_,_,_,_,_,_,_,_,_,_,_,_,_,_,_,_,rfl,hS,q0,q1,q2,q3,q4,q5,q6,q7,q8,q9,q10,q11,q12,fun _=>rfl,fun _=>rfl,q15,q16,q17,q18,q19,q20,fun _=>trivial⟩
     ·obtain rfl:=Option.some.inj ho
      clear hall ho
      refine wpOp_step rfl (fun K hK=>?_)
      go_simp
      exact hK _ _ ⟨_,_,_,_,_,_,_,_,_,_,_,_,_,_,_,_,_,_,_,_,_,_,rfl,hS,q0,q1,q2,q3,q4,q5,q6,q7,q8,q9,q10,q11,q12,q13,q14,fun _=>rfl,q16,q17,q18,q19,q20,fun _=>trivial⟩
     ·obtain rfl:=Option.some.inj ho
      obtain rfl:=q15 (hall ⟨15,.data⟩ (by simp) rfl)
      have z0:v.cell? ⟨w1.heap.size,6,none⟩=some (.int .i64 rt):=k6.out _ (hL.kg.below hS.hb hlK)
      clear hall ho
      refine wpOp_step rfl (fun K hK=>?_)
      go_simp
      exact hK _ _ ⟨_,_,_,_,_,_,_,_,_,_,_,_,_,_,_,_,_,_,_,_,_,_,rfl,hS,q0,q1,q2,q3,q4,q5,q6,q7,q8,q9,q10,q11,q12,q13,q14,fun _=>rfl,fun _=>rfl,q17,q18,q19,q20,fun _=>trivial⟩
     ·obtain rfl:=Option.some.inj ho
      clear hall ho
      refine wpOp_step rfl (fun K hK=>?_)
      go_simp
      exact hK _ _ ⟨_,_,_,_,_,_,_,_,_,_,_,_,_,_,_,_,_,_,_,_,_,_,rfl,hS,q0,q1,q2,q3,q4,q5,q6,q7,q8,q9,q10,q11,q12,q13,q14,q15,q16,fun _=>rfl,q18,q19,q20,fun _=>trivial⟩
     ·obtain rfl:=Option.some.inj ho
      obtain rfl:=q17 (hall ⟨17,.data⟩ (by simp) rfl)
      have z0:v.cell? ⟨w.heap.size,15,none⟩=some (.int .i64 ey):=g15.out _ (hL.bg.below hS.hb hlR)
      clear hall ho
      refine wpOp_step rfl (fun K hK=>?_)
      go_simp
      exact hK _ _ ⟨_,_,_,_,_,_,_,_,_,_,_,_,_,_,_,_,_,_,_,_,_,_,rfl,hS,q0,q1,q2,q3,q4,q5,q6,q7,q8,q9,q10,q11,q12,q13,q14,q15,q16,fun _=>rfl,fun _=>rfl,q19,q20,fun _=>trivial⟩
     ·obtain rfl:=Option.some.inj ho
      clear hall ho
      refine wpOp_step rfl (fun K hK=>?_)
      go_simp
      exact hK _ _ ⟨_,_,_,_,_,_,_,_,_,_,_,_,_,_,_,_,_,_,_,_,_,_,rfl,hS,q0,q1,q2,q3,q4,q5,q6,q7,q8,q9,q10,q11,q12,q13,q14,q15,q16,q17,q18,fun _=>rfl,q20,fun _=>trivial⟩
     ·obtain rfl:=Option.some.inj ho
      obtain rfl:=q19 (hall ⟨19,.data⟩ (by simp) rfl)
      have z0:v.cell? ⟨w.heap.size,16,none⟩=some (.int .i64 bo):=g16.out _ (hL.bg.below hS.hb hlR)
      clear hall ho
      refine wpOp_step rfl (fun K hK=>?_)
      go_simp
      exact hK _ _ ⟨_,_,_,_,_,_,_,_,_,_,_,_,_,_,_,_,_,_,_,_,_,_,rfl,hS,q0,q1,q2,q3,q4,q5,q6,q7,q8,q9,q10,q11,q12,q13,q14,q15,q16,q17,q18,fun _=>rfl,fun _=>rfl,fun _=>trivial⟩
     ·obtain rfl:=Option.some.inj ho
      obtain rfl:=q5 (hall ⟨5,.data⟩ (by simp) rfl)
      obtain rfl:=q10 (hall ⟨10,.data⟩ (by simp) rfl)
      obtain rfl:=q12 (hall ⟨12,.data⟩ (by simp) rfl)
      obtain rfl:=q14 (hall ⟨14,.data⟩ (by simp) rfl)
      obtain rfl:=q16 (hall ⟨16,.data⟩ (by simp) rfl)
      obtain rfl:=q18 (hall ⟨18,.data⟩ (by simp) rfl)
      obtain rfl:=q20 (hall ⟨20,.data⟩ (by simp) rfl)
      clear hall ho
      refine wpOp_step rfl (fun K hK=>?_)
      go_simp
      exact hK _ _ ⟨_,_,_,_,_,_,_,_,_,_,_,_,_,_,_,_,_,_,_,_,_,_,rfl,hS.new,q0,q1,q2,q3,q4,fun _=>rfl,q6,q7,q8,q9,fun _=>rfl,q11,fun _=>rfl,q13,fun _=>rfl,q15,fun _=>rfl,q17,fun _=>rfl,q19,fun _=>rfl,fun _=>trivial⟩
    ·rintro fL bA v ⟨v47,v48,v49,v50,v51,v52,v53,v54,v55,v56,v57,v58,v59,v60,v61,v62,v63,v64,v65,v66,v67,v68,rfl,hS,q0,q1,q2,q3,q4,q5,q6,q7,q8,q9,q10,q11,q12,q13,q14,q15,q16,q17,q18,q19,q20,q21⟩ hall
     simp only [Act.put,List.setIfInBounds_toArray,List.set_cons_zero,List.set_cons_succ]
     obtain rfl:=q0 (hall 0 (by omega))
     obtain rfl:=q1 (hall 1 (by omega))
     obtain rfl:=q2 (hall 2 (by omega))
     obtain rfl:=q3 (hall 3 (by omega))
     obtain rfl:=q4 (hall 4 (by omega))
     obtain rfl:=q5 (hall 5 (by omega))
     obtain rfl:=q6 (hall 6 (by omega))
     obtain rfl:=q7 (hall 7 (by omega))
     obtain rfl:=q8 (hall 8 (by omega))
     obtain rfl:=q9 (hall 9 (by omega))
     obtain rfl:=q10 (hall 10 (by omega))
     obtain rfl:=q11 (hall 11 (by omega))
     obtain rfl:=q12 (hall 12 (by omega))
     obtain rfl:=q13 (hall 13 (by omega))
     obtain rfl:=q14 (hall 14 (by omega))
     obtain rfl:=q15 (hall 15 (by omega))
     obtain rfl:=q16 (hall 16 (by omega))
     obtain rfl:=q17 (hall 17 (by omega))
     obtain rfl:=q18 (hall 18 (by omega))
     obtain rfl:=q19 (hall 19 (by omega))
     obtain rfl:=q20 (hall 20 (by omega))
     have e21:fL 21=true:=hall 21 (by omega)
     clear hall
     simp only [List.drop_succ_cons,List.drop_zero]
     obtain ⟨g,rfl,hg,BB⟩:=hS.sl e21
     have hL1:=hL.below hS.hb
     have hrow:=Sl.blkInts BB [p0,p1,wd,lf,rt,ey,bo] rfl
     go_wp2_with (at_builtin;refine wpList_append_rows _ rfl _ _ _ rfl (w.heap.size+1) 2 i0 _ 1 8 Tryz.underlying27 hi hz0 hz1 hz2 rfl (by omega) _ _ rfl hL1.o _ _ _ _ ([p0,p1,wd,lf,rt,ey,bo].map ic) rfl rfl hrow ic_one (by simp [maxLen,fnums_len,hF5.out]) (by simp [fnums_len,hF5.out]) (by have:=hL1.hb.size;have:=hL1.bg.lt;first | omega | (simp only [];omega) | (simp;omega)) ?_;intro v2 w3 hO3 hg3 hat3;have hL3:=hL1.app hg3 hO3 hat3;refine Hid.out ?_)
     refine Lib.hid ?_
     have hW3:=hL3.hb
     have hO:=hL3.o
     have hNq:Hid (N=fnums F ++ [p0,p1,wd,lf,rt,ey,bo]):=Lib.hid (by rw [hNe.out];simp)
     rw [← List.map_append,← hNq.out] at hO
     clear hL3 hO3 hL1 hL hNe hNq hF5 hS BB hrow
     obtain ⟨A9,c9,hv,_⟩:=hO.form
     rw [List.length_map,hNl2.out] at hv
     subst hv
     have hS:=hO.sl
     have hM0:Hid (Value.int .i64 7=.int .i64 (markFold (N.take 0))):=Lib.hid rfl
     clear hO
     go_wp2_with fail
     go_loop [8,9] (fun m i=>∃ k:Nat,k ≤ 17∧i=.int .i64 k∧m=.int .i64 (markFold (N.take k))) (fun _ i=>17 - (intOf i).toNat)
     case atStart=>exact ⟨0,Nat.zero_le _,rfl,hM0.out⟩
     case round =>
      obtain ⟨k,hk,rfl,rfl⟩:=hrel
      by_cases hlt17:k < 17
      ·have hltN:k < N.length:=by rw [hNl2.out];exact hlt17
       obtain ⟨b9,o9,rfl,hb9,x0⟩:=hS.int hltN
       have hnx:=Lib.hid (markFold_next hltN)
       have hnb:=hN.out N[k] (List.getElem_mem hltN)
       have hmb:=markFold_bd (N.take k)
       generalize markFold (N.take k)=m at *
       generalize N[k]=n at *
       have hw1:IntKind.i64.wrap (131 * m)=131 * m:=IntWalk.i64_in _ (by omega)
       have hw2:IntKind.i64.wrap (131 * m+n)=131 * m+n:=IntWalk.i64_in _ (by omega)
       go_wp2_with (go_at_call 60;refine (l01Mod_c _ _ _ (by omega) (by omega)).mono ?_;rintro e w' ⟨rfl,rfl⟩)
       go_round
       case rel=>exact ⟨k+1,by omega,by go_num,by rw [hnx.out]⟩
       case measure=>simp [intOf];omega
      ·have:k=17:=by omega
       subst this
       have hT:Hid (markFold (N.take 17)=markFold N):=Lib.hid (by rw [← hNl2.out,List.take_length])
       go_wp2
       go_ret2
       exact ⟨by rw [← hT.out];rfl,(by repeat first | with_reducible (first | exact hW3 | apply below_drewN' | apply Below.drew | refine Below.alloc ?_ ?_ _ | refine Below.setCell ?_ ?_ _) | exact hW3 | omega | (simp <;> omega) | (have:=(hW3).size;first | omega | (simp <;> omega)))⟩
end Go.Proofs.YtednjmldjbndhaaGreatDoor
