/- The changes between two releases: the program's and the reference's. Conditions: the lengths. -/
import Derived.Test.YtednjmldjbndhaaGreatDoorKMr20
import Derived.Test.YtednjmldjbndhaaGreatDoorKMr24
import Derived.Test.YtednjmldjbndhaaGreatDoorKMr25
set_option linter.unusedSimpArgs false
set_option linter.unusedVariables false
set_option maxRecDepth 100000
set_option maxHeartbeats 8000000
namespace Go.Proofs.YtednjmldjbndhaaGreatDoor
open Go.RowKit
theorem neFig2 (a b c d:Int) (w:World):Sem.run Tryz.prog (binOp .neq 26 (.agg #[.int .i64 a,.int .i64 b]) (.agg #[.int .i64 c,.int .i64 d])) w=.ok (.bool (!(decide (a=c) && decide (b=d)))) w:=by
 have hS:Tryz.prog.underlying 26=some (.struct (Tryz.prog.fieldsOf 26)):=by kernel_rfl
 have hp:Tryz.prog.stoodInHeld 26=false:=by kernel_rfl
 have u3:=Tryz.underlying2
 have a3:=Tryz.isAgg2
 have z3:=Tryz.sizeOf2
 by_cases h1:a=c <;> by_cases h2:b=d
 all_goals
  rw [run_neq_struct,show (10000:Nat)=9999+1 from rfl,run_equalIn_agg w 9999 26 _ _ hS hp]
  simp only [Program.fieldsOf,Tryz.underlying26]
  go_simp
def alike (a b:Rl):List Bool:=[sameFB a.fd a.ft a.nm a.l b.fd b.ft b.nm b.l,a.wd == b.wd,a.lf == b.lf && a.rt == b.rt,(decide (a.lud=b.lud) && decide (a.lut=b.lut)) && (decide (a.hud=b.hud) && decide (a.hut=b.hut)),(decide (a.lvd=b.lvd) && decide (a.lvt=b.lvt)) && (decide (a.hvd=b.hvd) && decide (a.hvt=b.hvt)),a.ey == b.ey,a.bo == b.bo]
def idxN (D:List Bool):Nat→List Int
 | 0=>[]
 | k+1=>if D.getD k true=false then idxN D k ++ [(k:Int)] else idxN D k
theorem idxN_len (D:List Bool):∀ k,(idxN D k).length ≤ k
 | 0=>Nat.le_refl _
 | k+1=>by
  have:=idxN_len D k
  unfold idxN
  split
  ·simp;omega
  ·omega
theorem BsS.below {V:World} {T:TypeId} {cs:Array Value} {n:Nat} {b:Bool} {x:Value} {v v':World} (h:BsS V T cs n b x v) (hb:Below v.heap.size v v'):BsS V T cs n b x v' :=
 ⟨h.hb.trans (hb.mono h.hb.size),fun e=>let ⟨g,h1,h2,h3⟩:=h.sl e;⟨g,h1,h2,h3.below hb h3.lt⟩⟩
theorem bools_not {w:World} {g:Nat} {t:TypeId} {cs:Array Value} (h:Blk w g t cs) (D:List Bool) (hx:cs=(D.map fun b=>Value.bool (!b)).toArray) {k:Nat} (hk:k < D.length):w.cell? ⟨g,k,none⟩=some (.bool (!(D.getD k true))):=by
 rw [h.cell,hx]
 simp [List.getD,List.getElem?_eq_getElem hk]
def chgRes (a b:Rl):List Int:=if (a.b && b.b)=true then idxN (alike a b) 7 else []
def chgCode (a b:Rl):Int:=if (a.b && b.b)=true then 0 else 1
theorem chgRes_len (a b:Rl):(chgRes a b).length ≤ 7:=by
 unfold chgRes
 split
 ·exact idxN_len _ _
 ·simp
structure CgL (w:World) (G:Nat) (T:TypeId) (gs:Array Value) (e:TypeId) (xs:List (List Value)) (V:Value) (wr:World):Prop where
 hb:Below w.heap.size w wr
 fg:Blk wr G T gs
 ne:V.ownBlock ≠ some G
 o:Own wr w.heap.size e 1 V xs
section
variable {w : World} {G : Nat} {T : TypeId} {gs : Array Value} {e : TypeId} {xs ys : List (List Value)} {V V' : Value} {wr w2 : World}
theorem CgL.below (h:CgL w G T gs e xs V wr) (hb:Below wr.heap.size wr w2):CgL w G T gs e xs V w2 :=
 ⟨h.hb.trans (hb.mono h.hb.size),h.fg.below hb h.fg.lt,h.ne,h.o.below hb⟩
theorem CgL.alloc (h:CgL w G T gs e xs V wr) (ob:Obj):CgL w G T gs e xs V (wr.alloc ob):=h.below ((Below.refl _ _).alloc (Nat.le_refl _) ob)
theorem CgL.app (h:CgL w G T gs e xs V wr) (hg:wr.grownBy w2 V.ownBlock) (h2:Own w2 w.heap.size e 1 V' (xs ++ ys)) (hat:V'.ownBlock=V.ownBlock ∨ V'.ownBlock=some wr.heap.size):CgL w G T gs e (xs ++ ys) V' w2 :=
 ⟨below_app h.hb hg h.hb.size (fun g hh=>h.o.ownGe g hh),(hg.block _ h.fg.lt (fun hh=>h.ne hh.symm)).trans h.fg,by
  rcases hat with hh | hh
  ·rw [hh];exact h.ne
  ·rw [hh];have:=h.fg.lt;intro h3;simp only [Option.some.injEq] at h3;omega,h2⟩
end
theorem bools_at {w:World} {g:Nat} {t:TypeId} {cs:Array Value} (h:Blk w g t cs) (D:List Bool) (hx:cs=(D.map Value.bool).toArray) {k:Nat} (hk:k < D.length):w.cell? ⟨g,k,none⟩=some (.bool (D.getD k true)):=by
 rw [h.cell,hx]
 simp [List.getD,List.getElem?_eq_getElem hk]
theorem implChg_c (a b:Rl) (A:Option Addr) (c:Nat) (A':Option Addr) (c':Nat) (w:World) (E:RlIn w A c a) (E':RlIn w A' c' b) :
  Calls Tryz.prog 23 #[.agg (a.cells A c).toArray,.agg (b.cells A' c').toArray] w (PostRows 2 1 (chgRes a b).length ((chgRes a b).map ic) (chgCode a b) w):=by
 have HA:=Lib.hid (fun W (hW:Below w.heap.size w W)=>implIsRl_c a A c W (E.later hW))
 have HB:=Lib.hid (fun W (hW:Below w.heap.size w W)=>implIsRl_c b A' c' W (E'.later hW))
 have HF:=Lib.hid (fun W (hW:Below w.heap.size w W)=>sameFormula_c a.fd a.ft a.nm A c a.l b.fd b.ft b.nm A' c' b.l W E.h E'.h (E.later hW).s (E'.later hW).s)
 have hW:Below w.heap.size w ((w.alloc (.cells (a.cells A c).toArray 33)).alloc (.cells (b.cells A' c').toArray 33)):=(by repeat first | with_reducible (first | exact Below.refl _ _ | apply below_drewN' | apply Below.drew | refine Below.alloc ?_ ?_ _ | refine Below.setCell ?_ ?_ _) | exact Below.refl _ _ | omega | (simp <;> omega) | (have:=(Below.refl _ _).size;first | omega | (simp <;> omega)))
 have X:=(Blk.new w 33 (a.cells A c).toArray).alloc (.cells (b.cells A' c').toArray 33)
 have Y:=Blk.new' (w.alloc (.cells (a.cells A c).toArray 33)) 33 (b.cells A' c').toArray (g:=w.heap.size+1) (by simp)
 have hX:=X.range
 have hY:∀ W,Blk W (w.heap.size+1) 33 (b.cells A' c').toArray→W.rangeAt (w.heap.size+1) 0 (b.cells A' c'):=fun W h=>h.range
 have hcx:∀ W,Blk W (w.heap.size) 33 (a.cells A c).toArray→W.cell? ⟨w.heap.size,0,none⟩=some (.int .i64 a.fd)∧W.cell? ⟨w.heap.size,1,none⟩=some (.int .i64 a.ft)∧W.cell? ⟨w.heap.size,2,none⟩=some (.string a.nm)∧W.cell? ⟨w.heap.size,3,none⟩=some (.slice A a.l.length c)∧W.cell? ⟨w.heap.size,4,none⟩=some (.int .i64 a.wd)∧W.cell? ⟨w.heap.size,5,none⟩=some (.int .i64 a.lf)∧W.cell? ⟨w.heap.size,6,none⟩=some (.int .i64 a.rt)∧W.cell? ⟨w.heap.size,7,none⟩=some (.int .i64 a.lud)∧W.cell? ⟨w.heap.size,8,none⟩=some (.int .i64 a.lut)∧W.cell? ⟨w.heap.size,9,none⟩=some (.int .i64 a.hud)∧W.cell? ⟨w.heap.size,10,none⟩=some (.int .i64 a.hut)∧W.cell? ⟨w.heap.size,11,none⟩=some (.int .i64 a.lvd)∧W.cell? ⟨w.heap.size,12,none⟩=some (.int .i64 a.lvt)∧W.cell? ⟨w.heap.size,13,none⟩=some (.int .i64 a.hvd)∧W.cell? ⟨w.heap.size,14,none⟩=some (.int .i64 a.hvt)∧W.cell? ⟨w.heap.size,15,none⟩=some (.int .i64 a.ey)∧W.cell? ⟨w.heap.size,16,none⟩=some (.int .i64 a.bo):=fun W h=>⟨h.cell 0,h.cell 1,h.cell 2,h.cell 3,h.cell 4,h.cell 5,h.cell 6,h.cell 7,h.cell 8,h.cell 9,h.cell 10,h.cell 11,h.cell 12,h.cell 13,h.cell 14,h.cell 15,h.cell 16⟩
 have hcy:∀ W,Blk W (w.heap.size+1) 33 (b.cells A' c').toArray→W.cell? ⟨w.heap.size+1,0,none⟩=some (.int .i64 b.fd)∧W.cell? ⟨w.heap.size+1,1,none⟩=some (.int .i64 b.ft)∧W.cell? ⟨w.heap.size+1,2,none⟩=some (.string b.nm)∧W.cell? ⟨w.heap.size+1,3,none⟩=some (.slice A' b.l.length c')∧W.cell? ⟨w.heap.size+1,4,none⟩=some (.int .i64 b.wd)∧W.cell? ⟨w.heap.size+1,5,none⟩=some (.int .i64 b.lf)∧W.cell? ⟨w.heap.size+1,6,none⟩=some (.int .i64 b.rt)∧W.cell? ⟨w.heap.size+1,7,none⟩=some (.int .i64 b.lud)∧W.cell? ⟨w.heap.size+1,8,none⟩=some (.int .i64 b.lut)∧W.cell? ⟨w.heap.size+1,9,none⟩=some (.int .i64 b.hud)∧W.cell? ⟨w.heap.size+1,10,none⟩=some (.int .i64 b.hut)∧W.cell? ⟨w.heap.size+1,11,none⟩=some (.int .i64 b.lvd)∧W.cell? ⟨w.heap.size+1,12,none⟩=some (.int .i64 b.lvt)∧W.cell? ⟨w.heap.size+1,13,none⟩=some (.int .i64 b.hvd)∧W.cell? ⟨w.heap.size+1,14,none⟩=some (.int .i64 b.hvt)∧W.cell? ⟨w.heap.size+1,15,none⟩=some (.int .i64 b.ey)∧W.cell? ⟨w.heap.size+1,16,none⟩=some (.int .i64 b.bo):=fun W h=>⟨h.cell 0,h.cell 1,h.cell 2,h.cell 3,h.cell 4,h.cell 5,h.cell 6,h.cell 7,h.cell 8,h.cell 9,h.cell 10,h.cell 11,h.cell 12,h.cell 13,h.cell 14,h.cell 15,h.cell 16⟩
 have hD:Hid (alike a b=alike a b):=rfl
 replace hY:=Lib.hid hY
 replace hcx:=Lib.hid hcx
 replace hcy:=Lib.hid hcy
 have hR0:Hid ((a.b && b.b)=false→chgRes a b=[]∧chgCode a b=1):=Lib.hid (fun h=>by unfold chgRes chgCode;rw [h];exact ⟨rfl,rfl⟩)
 have hR1:Hid ((a.b && b.b)=true→chgRes a b=idxN (alike a b) 7∧chgCode a b=0):=Lib.hid (fun h=>by unfold chgRes chgCode;rw [h];exact ⟨rfl,rfl⟩)
 generalize chgRes a b=R at *
 generalize chgCode a b=cd at *
 have hAl:Hid (alike a b=[sameFB a.fd a.ft a.nm a.l b.fd b.ft b.nm b.l,a.wd == b.wd,a.lf == b.lf && a.rt == b.rt,(decide (a.lud=b.lud) && decide (a.lut=b.lut)) && (decide (a.hud=b.hud) && decide (a.hut=b.hut)),(decide (a.lvd=b.lvd) && decide (a.lvt=b.lvt)) && (decide (a.hvd=b.hvd) && decide (a.hvt=b.hvt)),a.ey == b.ey,a.bo == b.bo]):=rfl
 generalize alike a b=D at *
 generalize sameFB a.fd a.ft a.nm a.l b.fd b.ft b.nm b.l=m0 at *
 clear E E'
 generalize hla:a.cells A c=ca at *
 generalize hlb:b.cells A' c'=cb at *
 clear hla hlb
 cases hab:a.b with
 | false =>
  rw [hab] at HA hR0
  obtain ⟨hr,hcd⟩:=hR0.out (by rfl)
  subst hr hcd
  clear hR0 hR1 hcx hcy hAl HB HF
  go_enter Tryz.func23,Tryz.ntmps23
  go_wp2_with (refine wpList_load_mid rfl 33 _ rfl (w.heap.size) 0 rfl (ca) _ hX Tryz.underlying33 rfl (by kernel_rfl) ?_)
  generalize (w.alloc (.cells ca.toArray 33)).alloc (.cells cb.toArray 33)=W at *
  refine Calls.mono (HA.out W hW) ?_;rintro e w1 ⟨rfl,hb1⟩
  replace X:=X.below hb1 X.lt
  replace hW:=hW.trans (hb1.mono hW.size)
  clear hb1
  go_wp2
  go_ret2
  exact ⟨none,0,rfl,Own.nil_,hW⟩
 | true =>
  rw [hab] at HA hR0 hR1
  cases hbb:b.b with
  | false =>
   rw [hbb] at HB hR0
   obtain ⟨hr,hcd⟩:=hR0.out (by rfl)
   subst hr hcd
   clear hR0 hR1 hcx hcy hAl HF
   go_enter Tryz.func23,Tryz.ntmps23
   go_wp2_with (refine wpList_load_mid rfl 33 _ rfl (w.heap.size) 0 rfl (ca) _ hX Tryz.underlying33 rfl (by kernel_rfl) ?_)
   generalize (w.alloc (.cells ca.toArray 33)).alloc (.cells cb.toArray 33)=W at *
   refine Calls.mono (HA.out W hW) ?_;rintro e w1 ⟨rfl,hb1⟩
   replace X:=X.below hb1 X.lt
   replace Y:=Y.below hb1 Y.lt
   replace hW:=hW.trans (hb1.mono hW.size)
   clear hb1
   have hy:=hY.out _ Y
   go_wp2_with (refine wpList_plain rfl fun K hK=>?_;refine Hid.out ?_)
   refine Lib.hid ?_
   go_simp
   refine hK _ _ ?_
   refine wpList_plain rfl fun K hK=>?_
   go_simp
   refine hK _ _ ?_
   refine wpList_load_g ?hw 33 (.tmp 3) rfl (w.heap.size+1) 0 rfl cb _ hy Tryz.underlying33 rfl (by kernel_rfl) ?_
   case hw=>rfl
   go_wp2_with fail
   refine Calls.mono (HB.out w1 hW) ?_;rintro e w2 ⟨rfl,hb2⟩
   replace X:=X.below hb2 X.lt
   replace hW:=hW.trans (hb2.mono hW.size)
   clear hb2
   go_wp2
   go_ret2
   exact ⟨none,0,rfl,Own.nil_,hW⟩
  | true =>
   rw [hbb] at HB hR1
   obtain ⟨hr,hcd⟩:=hR1.out (by rfl)
   subst hr hcd
   clear hR0 hR1
   go_enter Tryz.func23,Tryz.ntmps23
   go_wp2_with (refine wpList_load_mid rfl 33 _ rfl (w.heap.size) 0 rfl (ca) _ hX Tryz.underlying33 rfl (by kernel_rfl) ?_)
   generalize (w.alloc (.cells ca.toArray 33)).alloc (.cells cb.toArray 33)=W at *
   refine Calls.mono (HA.out W hW) ?_;rintro e w1 ⟨rfl,hb1⟩
   replace X:=X.below hb1 X.lt
   replace Y:=Y.below hb1 Y.lt
   replace hW:=hW.trans (hb1.mono hW.size)
   clear hb1
   have hy:=hY.out _ Y
   go_wp2_with (refine wpList_plain rfl fun K hK=>?_;refine Hid.out ?_)
   refine Lib.hid ?_
   go_simp
   refine hK _ _ ?_
   refine wpList_plain rfl fun K hK=>?_
   go_simp
   refine hK _ _ ?_
   refine wpList_load_g ?hw 33 (.tmp 3) rfl (w.heap.size+1) 0 rfl cb _ hy Tryz.underlying33 rfl (by kernel_rfl) ?_
   case hw=>rfl
   go_wp2_with fail
   refine Calls.mono (HB.out w1 hW) ?_;rintro e w2 ⟨rfl,hb2⟩
   replace X:=X.below hb2 X.lt
   replace Y:=Y.below hb2 Y.lt
   replace hW:=hW.trans (hb2.mono hW.size)
   clear hb2
   clear hX hy HA HB
   obtain ⟨x0,x1,x2,x3,x4,x5,x6,x7,x8,x9,x10,x11,x12,x13,x14,x15,x16⟩:=hcx.out _ X
   obtain ⟨y0,y1,y2,y3,y4,y5,y6,y7,y8,y9,y10,y11,y12,y13,y14,y15,y16⟩:=hcy.out _ Y
   clear hcx hcy
   have n0:(a.wd != b.wd)=!(a.wd == b.wd):=rfl
   have n1:(a.lf != b.lf)=!(a.lf == b.lf):=rfl
   have n2:(a.rt != b.rt)=!(a.rt == b.rt):=rfl
   have n3:(a.ey != b.ey)=!(a.ey == b.ey):=rfl
   have n4:(a.bo != b.bo)=!(a.bo == b.bo):=rfl
   have g0:=neFig2 a.lud a.lut b.lud b.lut
   have g1:=neFig2 a.hud a.hut b.hud b.hut
   have g2:=neFig2 a.lvd a.lvt b.lvd b.lvt
   have g3:=neFig2 a.hvd a.hvt b.hvd b.hvt
   generalize hm0:(a.wd == b.wd)=m1 at *
   generalize hm1:(a.lf == b.lf)=m2 at *
   generalize hm2:(a.rt == b.rt)=m3 at *
   generalize hm3:(a.ey == b.ey)=m4 at *
   generalize hm4:(a.bo == b.bo)=m5 at *
   generalize (decide (a.lud=b.lud) && decide (a.lut=b.lut))=f0 at *
   generalize (decide (a.hud=b.hud) && decide (a.hut=b.hut))=f1 at *
   generalize (decide (a.lvd=b.lvd) && decide (a.lvt=b.lvt))=f2 at *
   generalize (decide (a.hvd=b.hvd) && decide (a.hvt=b.hvt))=f3 at *
   clear hm0 hm1 hm2 hm3 hm4
   obtain ⟨i0,hi,hz0,hz1,hz2⟩:=info_parts info_Int64
   have hlD:D.length=7:=by rw [hAl.out];rfl
   replace hlD:=Lib.hid hlD
   have hXl:=X.lt
   have hYl:=Y.lt
   go_wp2_with fail
   refine region_fr 66 (fun f l x=>match l with | a0_ :: a1_ :: a2_ :: a3_ :: a4_ :: a5_ :: a6_ :: a7_ :: a8_ :: a9_ :: a10_ :: a11_ :: a12_ :: a13_ :: a14_ :: a15_ :: a16_ :: a17_ :: a18_ :: a19_ :: a20_ :: a21_ :: a22_ :: a23_ :: a24_ :: a25_ :: a26_ :: a27_ :: a28_ :: a29_ :: a30_ :: a31_ :: a32_ :: a33_ :: a34_ :: a35_ :: a36_ :: a37_ :: a38_ :: a39_ :: a40_ :: a41_ :: a42_ :: a43_ :: a44_ :: a45_ :: a46_ :: a47_ :: a48_ :: a49_ :: a50_ :: a51_ :: a52_ :: a53_ :: a54_ :: a55_ :: a56_ :: a57_ :: a58_ :: a59_ :: a60_ :: a61_ :: a62_ :: a63_ :: a64_ :: a65_ :: a66_ :: a67_ :: a68_ :: a69_ :: a70_ :: a71_ :: a72_ :: a73_ :: a74_ :: a75_ :: a76_ :: a77_ :: a78_ :: a79_ :: a80_ :: a81_ :: a82_ :: a83_ :: a84_ :: a85_ :: a86_ :: a87_ :: a88_ :: a89_ :: a90_ :: a91_ :: a92_ :: a93_ :: a94_ :: a95_ :: a96_ :: a97_ :: a98_ :: []=>[a0_,a1_,a2_,a3_,a4_,a5_,a6_,a7_,a8_,a9_,a10_,a11_,a12_,a13_,a14_,a15_,a16_,a17_,bif f 0 then .pointer (some ⟨w.heap.size,0,none⟩) else a18_,bif f 1 then .pointer (some ⟨w.heap.size,0,none⟩) else a19_,bif f 2 then .agg #[.int .i64 a.fd,.int .i64 a.ft,.string a.nm,.slice A a.l.length c] else a20_,bif f 3 then .pointer (some ⟨w.heap.size+1,0,none⟩) else a21_,bif f 4 then .pointer (some ⟨w.heap.size+1,0,none⟩) else a22_,bif f 5 then .agg #[.int .i64 b.fd,.int .i64 b.ft,.string b.nm,.slice A' b.l.length c'] else a23_,bif f 6 then .bool m0 else a24_,bif f 7 then .bool (!m0) else a25_,bif f 8 then .pointer (some ⟨w.heap.size,0,none⟩) else a26_,bif f 9 then .pointer (some ⟨w.heap.size,4,none⟩) else a27_,bif f 10 then .int .i64 a.wd else a28_,bif f 11 then .pointer (some ⟨w.heap.size+1,0,none⟩) else a29_,bif f 12 then .pointer (some ⟨w.heap.size+1,4,none⟩) else a30_,bif f 13 then .int .i64 b.wd else a31_,bif f 14 then .bool (!m1) else a32_,bif f 15 then .pointer (some ⟨w.heap.size,0,none⟩) else a33_,bif f 16 then .pointer (some ⟨w.heap.size,5,none⟩) else a34_,bif f 17 then .int .i64 a.lf else a35_,bif f 18 then .pointer (some ⟨w.heap.size+1,0,none⟩) else a36_,bif f 19 then .pointer (some ⟨w.heap.size+1,5,none⟩) else a37_,bif f 20 then .int .i64 b.lf else a38_,bif f 21 then .bool (!m2) else a39_,bif f 22 then .bool (!m2) else a40_,bif f 23 then bif m2 then .pointer (some ⟨w.heap.size,0,none⟩) else undef else a41_,bif f 24 then bif m2 then .pointer (some ⟨w.heap.size,6,none⟩) else undef else a42_,bif f 25 then bif m2 then .int .i64 a.rt else undef else a43_,bif f 26 then bif m2 then .pointer (some ⟨w.heap.size+1,0,none⟩) else undef else a44_,bif f 27 then bif m2 then .pointer (some ⟨w.heap.size+1,6,none⟩) else undef else a45_,bif f 28 then bif m2 then .int .i64 b.rt else undef else a46_,bif f 29 then bif m2 then .bool (!m3) else undef else a47_,bif f 30 then .bool (!m2 || !m3) else a48_,bif f 31 then .pointer (some ⟨w.heap.size,7,none⟩) else a49_,bif f 32 then .agg #[.int .i64 a.lud,.int .i64 a.lut] else a50_,bif f 33 then .pointer (some ⟨w.heap.size+1,7,none⟩) else a51_,bif f 34 then .agg #[.int .i64 b.lud,.int .i64 b.lut] else a52_,bif f 35 then .bool (!f0) else a53_,bif f 36 then .bool (!f0) else a54_,bif f 37 then bif f0 then .pointer (some ⟨w.heap.size,9,none⟩) else undef else a55_,bif f 38 then bif f0 then .agg #[.int .i64 a.hud,.int .i64 a.hut] else undef else a56_,bif f 39 then bif f0 then .pointer (some ⟨w.heap.size+1,9,none⟩) else undef else a57_,bif f 40 then bif f0 then .agg #[.int .i64 b.hud,.int .i64 b.hut] else undef else a58_,bif f 41 then bif f0 then .bool (!f1) else undef else a59_,bif f 42 then .bool (!f0 || !f1) else a60_,bif f 43 then .pointer (some ⟨w.heap.size,11,none⟩) else a61_,bif f 44 then .agg #[.int .i64 a.lvd,.int .i64 a.lvt] else a62_,bif f 45 then .pointer (some ⟨w.heap.size+1,11,none⟩) else a63_,bif f 46 then .agg #[.int .i64 b.lvd,.int .i64 b.lvt] else a64_,bif f 47 then .bool (!f2) else a65_,bif f 48 then .bool (!f2) else a66_,bif f 49 then bif f2 then .pointer (some ⟨w.heap.size,13,none⟩) else undef else a67_,bif f 50 then bif f2 then .agg #[.int .i64 a.hvd,.int .i64 a.hvt] else undef else a68_,bif f 51 then bif f2 then .pointer (some ⟨w.heap.size+1,13,none⟩) else undef else a69_,bif f 52 then bif f2 then .agg #[.int .i64 b.hvd,.int .i64 b.hvt] else undef else a70_,bif f 53 then bif f2 then .bool (!f3) else undef else a71_,bif f 54 then .bool (!f2 || !f3) else a72_,bif f 55 then .pointer (some ⟨w.heap.size,15,none⟩) else a73_,bif f 56 then .int .i64 a.ey else a74_,bif f 57 then .pointer (some ⟨w.heap.size+1,15,none⟩) else a75_,bif f 58 then .int .i64 b.ey else a76_,bif f 59 then .bool (!m4) else a77_,bif f 60 then .pointer (some ⟨w.heap.size,16,none⟩) else a78_,bif f 61 then .int .i64 a.bo else a79_,bif f 62 then .pointer (some ⟨w.heap.size+1,16,none⟩) else a80_,bif f 63 then .int .i64 b.bo else a81_,bif f 64 then .bool (!m5) else a82_,bif f 65 then x else a83_,a84_,a85_,a86_,a87_,a88_,a89_,a90_,a91_,a92_,a93_,a94_,a95_,a96_,a97_,a98_] | l=>l) (fun fL x v=>BsS w2 4 #[.bool (!m0),.bool (!m1),.bool (!m2 || !m3),.bool (!f0 || !f1),.bool (!f2 || !f3),.bool (!m4),.bool (!m5)] 7 (fL 65) x v) (by kernel_rfl) (by decide +kernel) undef rfl (BsS.init) ?_ ?_
   all_goals dsimp only
   ·rintro fL x v hS i hi hf o ho hall
    have hn:i=0 ∨ i=1 ∨ i=2 ∨ i=3 ∨ i=4 ∨ i=5 ∨ i=6 ∨ i=7 ∨ i=8 ∨ i=9 ∨ i=10 ∨ i=11 ∨ i=12 ∨ i=13 ∨ i=14 ∨ i=15 ∨ i=16 ∨ i=17 ∨ i=18 ∨ i=19 ∨ i=20 ∨ i=21 ∨ i=22 ∨ i=23 ∨ i=24 ∨ i=25 ∨ i=26 ∨ i=27 ∨ i=28 ∨ i=29 ∨ i=30 ∨ i=31 ∨ i=32 ∨ i=33 ∨ i=34 ∨ i=35 ∨ i=36 ∨ i=37 ∨ i=38 ∨ i=39 ∨ i=40 ∨ i=41 ∨ i=42 ∨ i=43 ∨ i=44 ∨ i=45 ∨ i=46 ∨ i=47 ∨ i=48 ∨ i=49 ∨ i=50 ∨ i=51 ∨ i=52 ∨ i=53 ∨ i=54 ∨ i=55 ∨ i=56 ∨ i=57 ∨ i=58 ∨ i=59 ∨ i=60 ∨ i=61 ∨ i=62 ∨ i=63 ∨ i=64 ∨ i=65:=by omega
    clear hi
    rcases hn with rfl | rfl | rfl | rfl | rfl | rfl | rfl | rfl | rfl | rfl | rfl | rfl | rfl | rfl | rfl | rfl | rfl | rfl | rfl | rfl | rfl | rfl | rfl | rfl | rfl | rfl | rfl | rfl | rfl | rfl | rfl | rfl | rfl | rfl | rfl | rfl | rfl | rfl | rfl | rfl | rfl | rfl | rfl | rfl | rfl | rfl | rfl | rfl | rfl | rfl | rfl | rfl | rfl | rfl | rfl | rfl | rfl | rfl | rfl | rfl | rfl | rfl | rfl | rfl | rfl | rfl
    ·obtain rfl:=Option.some.inj ho
     clear hall ho
     simp only [hf,cond_true,cond_false]
     refine wpOp_step rfl (fun K hK=>?_)
     go_simp
     exact hK _ _ ⟨x,(by simp only [upd,hf,Nat.reduceBEq,Bool.false_or,Bool.true_or,Bool.not_true,Bool.not_false,Bool.true_and,Bool.false_and,Bool.cond_self,cond_true,cond_false];try rfl),hS⟩
    ·obtain rfl:=Option.some.inj ho
     have e0:fL 0=true:=hall ⟨0,.data⟩ (by simp) rfl
     clear hall ho
     simp only [e0,hf,cond_true,cond_false]
     refine wpOp_step rfl (fun K hK=>?_)
     go_simp
     exact hK _ _ ⟨x,(by simp only [upd,e0,hf,Nat.reduceBEq,Bool.false_or,Bool.true_or,Bool.not_true,Bool.not_false,Bool.true_and,Bool.false_and,Bool.cond_self,cond_true,cond_false];try rfl),hS⟩
    ·obtain rfl:=Option.some.inj ho
     have e1:fL 1=true:=hall ⟨1,.data⟩ (by simp) rfl
     clear hall ho
     have z0:v.cell? ⟨w.heap.size,0,none⟩=some (.int .i64 a.fd):=(hS.hb.cell (p:=⟨w.heap.size,0,none⟩) hXl).trans x0
     have z1:v.cell? ⟨w.heap.size,1,none⟩=some (.int .i64 a.ft):=(hS.hb.cell (p:=⟨w.heap.size,1,none⟩) hXl).trans x1
     have z2:v.cell? ⟨w.heap.size,2,none⟩=some (.string a.nm):=(hS.hb.cell (p:=⟨w.heap.size,2,none⟩) hXl).trans x2
     have z3:v.cell? ⟨w.heap.size,3,none⟩=some (.slice A a.l.length c):=(hS.hb.cell (p:=⟨w.heap.size,3,none⟩) hXl).trans x3
     simp only [e1,hf,cond_true,cond_false]
     refine wpOp_step rfl (fun K hK=>?_)
     go_simp
     exact hK _ _ ⟨x,(by simp only [upd,e1,hf,Nat.reduceBEq,Bool.false_or,Bool.true_or,Bool.not_true,Bool.not_false,Bool.true_and,Bool.false_and,Bool.cond_self,cond_true,cond_false];try rfl),hS⟩
    ·obtain rfl:=Option.some.inj ho
     clear hall ho
     simp only [hf,cond_true,cond_false]
     refine wpOp_step rfl (fun K hK=>?_)
     go_simp
     exact hK _ _ ⟨x,(by simp only [upd,hf,Nat.reduceBEq,Bool.false_or,Bool.true_or,Bool.not_true,Bool.not_false,Bool.true_and,Bool.false_and,Bool.cond_self,cond_true,cond_false];try rfl),hS⟩
    ·obtain rfl:=Option.some.inj ho
     have e3:fL 3=true:=hall ⟨3,.data⟩ (by simp) rfl
     clear hall ho
     simp only [e3,hf,cond_true,cond_false]
     refine wpOp_step rfl (fun K hK=>?_)
     go_simp
     exact hK _ _ ⟨x,(by simp only [upd,e3,hf,Nat.reduceBEq,Bool.false_or,Bool.true_or,Bool.not_true,Bool.not_false,Bool.true_and,Bool.false_and,Bool.cond_self,cond_true,cond_false];try rfl),hS⟩
    ·obtain rfl:=Option.some.inj ho
     have e4:fL 4=true:=hall ⟨4,.data⟩ (by simp) rfl
     clear hall ho
     have z0:v.cell? ⟨w.heap.size+1,0,none⟩=some (.int .i64 b.fd):=(hS.hb.cell (p:=⟨w.heap.size+1,0,none⟩) hYl).trans y0
     have z1:v.cell? ⟨w.heap.size+1,1,none⟩=some (.int .i64 b.ft):=(hS.hb.cell (p:=⟨w.heap.size+1,1,none⟩) hYl).trans y1
     have z2:v.cell? ⟨w.heap.size+1,2,none⟩=some (.string b.nm):=(hS.hb.cell (p:=⟨w.heap.size+1,2,none⟩) hYl).trans y2
     have z3:v.cell? ⟨w.heap.size+1,3,none⟩=some (.slice A' b.l.length c'):=(hS.hb.cell (p:=⟨w.heap.size+1,3,none⟩) hYl).trans y3
     simp only [e4,hf,cond_true,cond_false]
     refine wpOp_step rfl (fun K hK=>?_)
     go_simp
     exact hK _ _ ⟨x,(by simp only [upd,e4,hf,Nat.reduceBEq,Bool.false_or,Bool.true_or,Bool.not_true,Bool.not_false,Bool.true_and,Bool.false_and,Bool.cond_self,cond_true,cond_false];try rfl),hS⟩
    ·obtain rfl:=Option.some.inj ho
     have e2:fL 2=true:=hall ⟨2,.data⟩ (by simp) rfl
     have e5:fL 5=true:=hall ⟨5,.data⟩ (by simp) rfl
     clear hall ho
     simp only [e2,e5,hf,cond_true,cond_false]
     refine wpOp_step rfl (fun K hK=>?_)
     go_simp
     refine Calls.mono ((HF.out v (hW.trans (hS.hb.mono hW.size)))) ?_;rintro e w1 ⟨rfl,hb1⟩
     go_simp
     exact hK _ _ ⟨x,(by simp only [upd,e2,e5,hf,Nat.reduceBEq,Bool.false_or,Bool.true_or,Bool.not_true,Bool.not_false,Bool.true_and,Bool.false_and,Bool.cond_self,cond_true,cond_false];try rfl),hS.below hb1⟩
    ·obtain rfl:=Option.some.inj ho
     have e6:fL 6=true:=hall ⟨6,.data⟩ (by simp) rfl
     clear hall ho
     simp only [e6,hf,cond_true,cond_false]
     refine wpOp_step rfl (fun K hK=>?_)
     go_simp
     exact hK _ _ ⟨x,(by simp only [upd,e6,hf,Nat.reduceBEq,Bool.false_or,Bool.true_or,Bool.not_true,Bool.not_false,Bool.true_and,Bool.false_and,Bool.cond_self,cond_true,cond_false];try rfl),hS⟩
    ·obtain rfl:=Option.some.inj ho
     clear hall ho
     simp only [hf,cond_true,cond_false]
     refine wpOp_step rfl (fun K hK=>?_)
     go_simp
     exact hK _ _ ⟨x,(by simp only [upd,hf,Nat.reduceBEq,Bool.false_or,Bool.true_or,Bool.not_true,Bool.not_false,Bool.true_and,Bool.false_and,Bool.cond_self,cond_true,cond_false];try rfl),hS⟩
    ·obtain rfl:=Option.some.inj ho
     have e8:fL 8=true:=hall ⟨8,.data⟩ (by simp) rfl
     clear hall ho
     simp only [e8,hf,cond_true,cond_false]
     refine wpOp_step rfl (fun K hK=>?_)
     go_simp
     exact hK _ _ ⟨x,(by simp only [upd,e8,hf,Nat.reduceBEq,Bool.false_or,Bool.true_or,Bool.not_true,Bool.not_false,Bool.true_and,Bool.false_and,Bool.cond_self,cond_true,cond_false];try rfl),hS⟩
    ·obtain rfl:=Option.some.inj ho
     have e9:fL 9=true:=hall ⟨9,.data⟩ (by simp) rfl
     clear hall ho
     have z4:v.cell? ⟨w.heap.size,4,none⟩=some (.int .i64 a.wd):=(hS.hb.cell (p:=⟨w.heap.size,4,none⟩) hXl).trans x4
     simp only [e9,hf,cond_true,cond_false]
     refine wpOp_step rfl (fun K hK=>?_)
     go_simp
     exact hK _ _ ⟨x,(by simp only [upd,e9,hf,Nat.reduceBEq,Bool.false_or,Bool.true_or,Bool.not_true,Bool.not_false,Bool.true_and,Bool.false_and,Bool.cond_self,cond_true,cond_false];try rfl),hS⟩
    ·obtain rfl:=Option.some.inj ho
     clear hall ho
     simp only [hf,cond_true,cond_false]
     refine wpOp_step rfl (fun K hK=>?_)
     go_simp
     exact hK _ _ ⟨x,(by simp only [upd,hf,Nat.reduceBEq,Bool.false_or,Bool.true_or,Bool.not_true,Bool.not_false,Bool.true_and,Bool.false_and,Bool.cond_self,cond_true,cond_false];try rfl),hS⟩
    ·obtain rfl:=Option.some.inj ho
     have e11:fL 11=true:=hall ⟨11,.data⟩ (by simp) rfl
     clear hall ho
     simp only [e11,hf,cond_true,cond_false]
     refine wpOp_step rfl (fun K hK=>?_)
     go_simp
     exact hK _ _ ⟨x,(by simp only [upd,e11,hf,Nat.reduceBEq,Bool.false_or,Bool.true_or,Bool.not_true,Bool.not_false,Bool.true_and,Bool.false_and,Bool.cond_self,cond_true,cond_false];try rfl),hS⟩
    ·obtain rfl:=Option.some.inj ho
     have e12:fL 12=true:=hall ⟨12,.data⟩ (by simp) rfl
     clear hall ho
     have z4:v.cell? ⟨w.heap.size+1,4,none⟩=some (.int .i64 b.wd):=(hS.hb.cell (p:=⟨w.heap.size+1,4,none⟩) hYl).trans y4
     simp only [e12,hf,cond_true,cond_false]
     refine wpOp_step rfl (fun K hK=>?_)
     go_simp
     exact hK _ _ ⟨x,(by simp only [upd,e12,hf,Nat.reduceBEq,Bool.false_or,Bool.true_or,Bool.not_true,Bool.not_false,Bool.true_and,Bool.false_and,Bool.cond_self,cond_true,cond_false];try rfl),hS⟩
    ·obtain rfl:=Option.some.inj ho
     have e10:fL 10=true:=hall ⟨10,.data⟩ (by simp) rfl
     have e13:fL 13=true:=hall ⟨13,.data⟩ (by simp) rfl
     clear hall ho
     simp only [e10,e13,hf,cond_true,cond_false]
     refine wpOp_step rfl (fun K hK=>?_)
     go_simp
     exact hK _ _ ⟨x,(by simp only [upd,e10,e13,hf,Nat.reduceBEq,Bool.false_or,Bool.true_or,Bool.not_true,Bool.not_false,Bool.true_and,Bool.false_and,Bool.cond_self,cond_true,cond_false];try rfl),hS⟩
    ·obtain rfl:=Option.some.inj ho
     clear hall ho
     simp only [hf,cond_true,cond_false]
     refine wpOp_step rfl (fun K hK=>?_)
     go_simp
     exact hK _ _ ⟨x,(by simp only [upd,hf,Nat.reduceBEq,Bool.false_or,Bool.true_or,Bool.not_true,Bool.not_false,Bool.true_and,Bool.false_and,Bool.cond_self,cond_true,cond_false];try rfl),hS⟩
    ·obtain rfl:=Option.some.inj ho
     have e15:fL 15=true:=hall ⟨15,.data⟩ (by simp) rfl
     clear hall ho
     simp only [e15,hf,cond_true,cond_false]
     refine wpOp_step rfl (fun K hK=>?_)
     go_simp
     exact hK _ _ ⟨x,(by simp only [upd,e15,hf,Nat.reduceBEq,Bool.false_or,Bool.true_or,Bool.not_true,Bool.not_false,Bool.true_and,Bool.false_and,Bool.cond_self,cond_true,cond_false];try rfl),hS⟩
    ·obtain rfl:=Option.some.inj ho
     have e16:fL 16=true:=hall ⟨16,.data⟩ (by simp) rfl
     clear hall ho
     have z5:v.cell? ⟨w.heap.size,5,none⟩=some (.int .i64 a.lf):=(hS.hb.cell (p:=⟨w.heap.size,5,none⟩) hXl).trans x5
     simp only [e16,hf,cond_true,cond_false]
     refine wpOp_step rfl (fun K hK=>?_)
     go_simp
     exact hK _ _ ⟨x,(by simp only [upd,e16,hf,Nat.reduceBEq,Bool.false_or,Bool.true_or,Bool.not_true,Bool.not_false,Bool.true_and,Bool.false_and,Bool.cond_self,cond_true,cond_false];try rfl),hS⟩
    ·obtain rfl:=Option.some.inj ho
     clear hall ho
     simp only [hf,cond_true,cond_false]
     refine wpOp_step rfl (fun K hK=>?_)
     go_simp
     exact hK _ _ ⟨x,(by simp only [upd,hf,Nat.reduceBEq,Bool.false_or,Bool.true_or,Bool.not_true,Bool.not_false,Bool.true_and,Bool.false_and,Bool.cond_self,cond_true,cond_false];try rfl),hS⟩
    ·obtain rfl:=Option.some.inj ho
     have e18:fL 18=true:=hall ⟨18,.data⟩ (by simp) rfl
     clear hall ho
     simp only [e18,hf,cond_true,cond_false]
     refine wpOp_step rfl (fun K hK=>?_)
     go_simp
     exact hK _ _ ⟨x,(by simp only [upd,e18,hf,Nat.reduceBEq,Bool.false_or,Bool.true_or,Bool.not_true,Bool.not_false,Bool.true_and,Bool.false_and,Bool.cond_self,cond_true,cond_false];try rfl),hS⟩
    ·obtain rfl:=Option.some.inj ho
     have e19:fL 19=true:=hall ⟨19,.data⟩ (by simp) rfl
     clear hall ho
     have z5:v.cell? ⟨w.heap.size+1,5,none⟩=some (.int .i64 b.lf):=(hS.hb.cell (p:=⟨w.heap.size+1,5,none⟩) hYl).trans y5
     simp only [e19,hf,cond_true,cond_false]
     refine wpOp_step rfl (fun K hK=>?_)
     go_simp
     exact hK _ _ ⟨x,(by simp only [upd,e19,hf,Nat.reduceBEq,Bool.false_or,Bool.true_or,Bool.not_true,Bool.not_false,Bool.true_and,Bool.false_and,Bool.cond_self,cond_true,cond_false];try rfl),hS⟩
    ·obtain rfl:=Option.some.inj ho
     have e17:fL 17=true:=hall ⟨17,.data⟩ (by simp) rfl
     have e20:fL 20=true:=hall ⟨20,.data⟩ (by simp) rfl
     clear hall ho
     simp only [e17,e20,hf,cond_true,cond_false]
     refine wpOp_step rfl (fun K hK=>?_)
     go_simp
     exact hK _ _ ⟨x,(by simp only [upd,e17,e20,hf,Nat.reduceBEq,Bool.false_or,Bool.true_or,Bool.not_true,Bool.not_false,Bool.true_and,Bool.false_and,Bool.cond_self,cond_true,cond_false];try rfl),hS⟩
    ·obtain rfl:=Option.some.inj ho
     have e21:fL 21=true:=hall ⟨21,.data⟩ (by simp) rfl
     clear hall ho
     simp only [e21,hf,cond_true,cond_false]
     refine wpOp_step rfl (fun K hK=>?_)
     go_simp
     exact hK _ _ ⟨x,(by simp only [upd,e21,hf,Nat.reduceBEq,Bool.false_or,Bool.true_or,Bool.not_true,Bool.not_false,Bool.true_and,Bool.false_and,Bool.cond_self,cond_true,cond_false];try rfl),hS⟩
    ·obtain rfl:=Option.some.inj ho
     have e22:fL 22=true:=hall ⟨22,.guard⟩ (by simp) rfl
     clear hall ho
     cases m2
     all_goals
      simp only [e22,hf,cond_true,cond_false]
      refine wpOp_step rfl (fun K hK=>?_)
      go_simp
      exact hK _ _ ⟨x,(by simp only [upd,e22,hf,Nat.reduceBEq,Bool.false_or,Bool.true_or,Bool.not_true,Bool.not_false,Bool.true_and,Bool.false_and,Bool.cond_self,cond_true,cond_false];try rfl),hS⟩
    ·obtain rfl:=Option.some.inj ho
     have e23:fL 23=true:=hall ⟨23,.data⟩ (by simp) rfl
     have e22:fL 22=true:=hall ⟨22,.guard⟩ (by simp) rfl
     clear hall ho
     cases m2
     all_goals
      simp only [e23,e22,hf,cond_true,cond_false]
      refine wpOp_step rfl (fun K hK=>?_)
      go_simp
      exact hK _ _ ⟨x,(by simp only [upd,e23,e22,hf,Nat.reduceBEq,Bool.false_or,Bool.true_or,Bool.not_true,Bool.not_false,Bool.true_and,Bool.false_and,Bool.cond_self,cond_true,cond_false];try rfl),hS⟩
    ·obtain rfl:=Option.some.inj ho
     have e24:fL 24=true:=hall ⟨24,.data⟩ (by simp) rfl
     have e22:fL 22=true:=hall ⟨22,.guard⟩ (by simp) rfl
     clear hall ho
     cases m2
     all_goals
      have z6:v.cell? ⟨w.heap.size,6,none⟩=some (.int .i64 a.rt):=(hS.hb.cell (p:=⟨w.heap.size,6,none⟩) hXl).trans x6
      simp only [e24,e22,hf,cond_true,cond_false]
      refine wpOp_step rfl (fun K hK=>?_)
      go_simp
      exact hK _ _ ⟨x,(by simp only [upd,e24,e22,hf,Nat.reduceBEq,Bool.false_or,Bool.true_or,Bool.not_true,Bool.not_false,Bool.true_and,Bool.false_and,Bool.cond_self,cond_true,cond_false];try rfl),hS⟩
    ·obtain rfl:=Option.some.inj ho
     have e22:fL 22=true:=hall ⟨22,.guard⟩ (by simp) rfl
     clear hall ho
     cases m2
     all_goals
      simp only [e22,hf,cond_true,cond_false]
      refine wpOp_step rfl (fun K hK=>?_)
      go_simp
      exact hK _ _ ⟨x,(by simp only [upd,e22,hf,Nat.reduceBEq,Bool.false_or,Bool.true_or,Bool.not_true,Bool.not_false,Bool.true_and,Bool.false_and,Bool.cond_self,cond_true,cond_false];try rfl),hS⟩
    ·obtain rfl:=Option.some.inj ho
     have e26:fL 26=true:=hall ⟨26,.data⟩ (by simp) rfl
     have e22:fL 22=true:=hall ⟨22,.guard⟩ (by simp) rfl
     clear hall ho
     cases m2
     all_goals
      simp only [e26,e22,hf,cond_true,cond_false]
      refine wpOp_step rfl (fun K hK=>?_)
      go_simp
      exact hK _ _ ⟨x,(by simp only [upd,e26,e22,hf,Nat.reduceBEq,Bool.false_or,Bool.true_or,Bool.not_true,Bool.not_false,Bool.true_and,Bool.false_and,Bool.cond_self,cond_true,cond_false];try rfl),hS⟩
    ·obtain rfl:=Option.some.inj ho
     have e27:fL 27=true:=hall ⟨27,.data⟩ (by simp) rfl
     have e22:fL 22=true:=hall ⟨22,.guard⟩ (by simp) rfl
     clear hall ho
     cases m2
     all_goals
      have z6:v.cell? ⟨w.heap.size+1,6,none⟩=some (.int .i64 b.rt):=(hS.hb.cell (p:=⟨w.heap.size+1,6,none⟩) hYl).trans y6
      simp only [e27,e22,hf,cond_true,cond_false]
      refine wpOp_step rfl (fun K hK=>?_)
      go_simp
      exact hK _ _ ⟨x,(by simp only [upd,e27,e22,hf,Nat.reduceBEq,Bool.false_or,Bool.true_or,Bool.not_true,Bool.not_false,Bool.true_and,Bool.false_and,Bool.cond_self,cond_true,cond_false];try rfl),hS⟩
    ·obtain rfl:=Option.some.inj ho
     have e25:fL 25=true:=hall ⟨25,.data⟩ (by simp) rfl
     have e28:fL 28=true:=hall ⟨28,.data⟩ (by simp) rfl
     have e22:fL 22=true:=hall ⟨22,.guard⟩ (by simp) rfl
     clear hall ho
     cases m2
     all_goals
      simp only [e25,e28,e22,hf,cond_true,cond_false]
      refine wpOp_step rfl (fun K hK=>?_)
      go_simp
      exact hK _ _ ⟨x,(by simp only [upd,e25,e28,e22,hf,Nat.reduceBEq,Bool.false_or,Bool.true_or,Bool.not_true,Bool.not_false,Bool.true_and,Bool.false_and,Bool.cond_self,cond_true,cond_false];try rfl),hS⟩
    ·obtain rfl:=Option.some.inj ho
     have e22:fL 22=true:=hall ⟨22,.data⟩ (by simp) rfl
     have e29:fL 29=true:=hall ⟨29,.data⟩ (by simp) rfl
     clear hall ho
     cases m2
     all_goals
      simp only [e22,e29,hf,cond_true,cond_false]
      refine wpOp_step rfl (fun K hK=>?_)
      go_simp
      exact hK _ _ ⟨x,(by simp only [upd,e22,e29,hf,Nat.reduceBEq,Bool.false_or,Bool.true_or,Bool.not_true,Bool.not_false,Bool.true_and,Bool.false_and,Bool.cond_self,cond_true,cond_false];try rfl),hS⟩
    ·obtain rfl:=Option.some.inj ho
     clear hall ho
     simp only [hf,cond_true,cond_false]
     refine wpOp_step rfl (fun K hK=>?_)
     go_simp
     exact hK _ _ ⟨x,(by simp only [upd,hf,Nat.reduceBEq,Bool.false_or,Bool.true_or,Bool.not_true,Bool.not_false,Bool.true_and,Bool.false_and,Bool.cond_self,cond_true,cond_false];try rfl),hS⟩
    ·obtain rfl:=Option.some.inj ho
     have e31:fL 31=true:=hall ⟨31,.data⟩ (by simp) rfl
     clear hall ho
     have z7:v.cell? ⟨w.heap.size,7,none⟩=some (.int .i64 a.lud):=(hS.hb.cell (p:=⟨w.heap.size,7,none⟩) hXl).trans x7
     have z8:v.cell? ⟨w.heap.size,8,none⟩=some (.int .i64 a.lut):=(hS.hb.cell (p:=⟨w.heap.size,8,none⟩) hXl).trans x8
     simp only [e31,hf,cond_true,cond_false]
     refine wpOp_step rfl (fun K hK=>?_)
     go_simp
     exact hK _ _ ⟨x,(by simp only [upd,e31,hf,Nat.reduceBEq,Bool.false_or,Bool.true_or,Bool.not_true,Bool.not_false,Bool.true_and,Bool.false_and,Bool.cond_self,cond_true,cond_false];try rfl),hS⟩
    ·obtain rfl:=Option.some.inj ho
     clear hall ho
     simp only [hf,cond_true,cond_false]
     refine wpOp_step rfl (fun K hK=>?_)
     go_simp
     exact hK _ _ ⟨x,(by simp only [upd,hf,Nat.reduceBEq,Bool.false_or,Bool.true_or,Bool.not_true,Bool.not_false,Bool.true_and,Bool.false_and,Bool.cond_self,cond_true,cond_false];try rfl),hS⟩
    ·obtain rfl:=Option.some.inj ho
     have e33:fL 33=true:=hall ⟨33,.data⟩ (by simp) rfl
     clear hall ho
     have z7:v.cell? ⟨w.heap.size+1,7,none⟩=some (.int .i64 b.lud):=(hS.hb.cell (p:=⟨w.heap.size+1,7,none⟩) hYl).trans y7
     have z8:v.cell? ⟨w.heap.size+1,8,none⟩=some (.int .i64 b.lut):=(hS.hb.cell (p:=⟨w.heap.size+1,8,none⟩) hYl).trans y8
     simp only [e33,hf,cond_true,cond_false]
     refine wpOp_step rfl (fun K hK=>?_)
     go_simp
     exact hK _ _ ⟨x,(by simp only [upd,e33,hf,Nat.reduceBEq,Bool.false_or,Bool.true_or,Bool.not_true,Bool.not_false,Bool.true_and,Bool.false_and,Bool.cond_self,cond_true,cond_false];try rfl),hS⟩
    ·obtain rfl:=Option.some.inj ho
     have e32:fL 32=true:=hall ⟨32,.data⟩ (by simp) rfl
     have e34:fL 34=true:=hall ⟨34,.data⟩ (by simp) rfl
     clear hall ho
     simp only [e32,e34,hf,cond_true,cond_false]
     refine wpOp_step rfl (fun K hK=>?_)
     go_simp
     exact hK _ _ ⟨x,(by simp only [upd,e32,e34,hf,Nat.reduceBEq,Bool.false_or,Bool.true_or,Bool.not_true,Bool.not_false,Bool.true_and,Bool.false_and,Bool.cond_self,cond_true,cond_false];try rfl),hS⟩
    ·obtain rfl:=Option.some.inj ho
     have e35:fL 35=true:=hall ⟨35,.data⟩ (by simp) rfl
     clear hall ho
     simp only [e35,hf,cond_true,cond_false]
     refine wpOp_step rfl (fun K hK=>?_)
     go_simp
     exact hK _ _ ⟨x,(by simp only [upd,e35,hf,Nat.reduceBEq,Bool.false_or,Bool.true_or,Bool.not_true,Bool.not_false,Bool.true_and,Bool.false_and,Bool.cond_self,cond_true,cond_false];try rfl),hS⟩
    ·obtain rfl:=Option.some.inj ho
     have e36:fL 36=true:=hall ⟨36,.guard⟩ (by simp) rfl
     clear hall ho
     cases f0
     all_goals
      simp only [e36,hf,cond_true,cond_false]
      refine wpOp_step rfl (fun K hK=>?_)
      go_simp
      exact hK _ _ ⟨x,(by simp only [upd,e36,hf,Nat.reduceBEq,Bool.false_or,Bool.true_or,Bool.not_true,Bool.not_false,Bool.true_and,Bool.false_and,Bool.cond_self,cond_true,cond_false];try rfl),hS⟩
    ·obtain rfl:=Option.some.inj ho
     have e37:fL 37=true:=hall ⟨37,.data⟩ (by simp) rfl
     have e36:fL 36=true:=hall ⟨36,.guard⟩ (by simp) rfl
     clear hall ho
     cases f0
     all_goals
      have z9:v.cell? ⟨w.heap.size,9,none⟩=some (.int .i64 a.hud):=(hS.hb.cell (p:=⟨w.heap.size,9,none⟩) hXl).trans x9
      have z10:v.cell? ⟨w.heap.size,10,none⟩=some (.int .i64 a.hut):=(hS.hb.cell (p:=⟨w.heap.size,10,none⟩) hXl).trans x10
      simp only [e37,e36,hf,cond_true,cond_false]
      refine wpOp_step rfl (fun K hK=>?_)
      go_simp
      exact hK _ _ ⟨x,(by simp only [upd,e37,e36,hf,Nat.reduceBEq,Bool.false_or,Bool.true_or,Bool.not_true,Bool.not_false,Bool.true_and,Bool.false_and,Bool.cond_self,cond_true,cond_false];try rfl),hS⟩
    ·obtain rfl:=Option.some.inj ho
     have e36:fL 36=true:=hall ⟨36,.guard⟩ (by simp) rfl
     clear hall ho
     cases f0
     all_goals
      simp only [e36,hf,cond_true,cond_false]
      refine wpOp_step rfl (fun K hK=>?_)
      go_simp
      exact hK _ _ ⟨x,(by simp only [upd,e36,hf,Nat.reduceBEq,Bool.false_or,Bool.true_or,Bool.not_true,Bool.not_false,Bool.true_and,Bool.false_and,Bool.cond_self,cond_true,cond_false];try rfl),hS⟩
    ·obtain rfl:=Option.some.inj ho
     have e39:fL 39=true:=hall ⟨39,.data⟩ (by simp) rfl
     have e36:fL 36=true:=hall ⟨36,.guard⟩ (by simp) rfl
     clear hall ho
     cases f0
     all_goals
      have z9:v.cell? ⟨w.heap.size+1,9,none⟩=some (.int .i64 b.hud):=(hS.hb.cell (p:=⟨w.heap.size+1,9,none⟩) hYl).trans y9
      have z10:v.cell? ⟨w.heap.size+1,10,none⟩=some (.int .i64 b.hut):=(hS.hb.cell (p:=⟨w.heap.size+1,10,none⟩) hYl).trans y10
      simp only [e39,e36,hf,cond_true,cond_false]
      refine wpOp_step rfl (fun K hK=>?_)
      go_simp
      exact hK _ _ ⟨x,(by simp only [upd,e39,e36,hf,Nat.reduceBEq,Bool.false_or,Bool.true_or,Bool.not_true,Bool.not_false,Bool.true_and,Bool.false_and,Bool.cond_self,cond_true,cond_false];try rfl),hS⟩
    ·obtain rfl:=Option.some.inj ho
     have e38:fL 38=true:=hall ⟨38,.data⟩ (by simp) rfl
     have e40:fL 40=true:=hall ⟨40,.data⟩ (by simp) rfl
     have e36:fL 36=true:=hall ⟨36,.guard⟩ (by simp) rfl
     clear hall ho
     cases f0
     all_goals
      simp only [e38,e40,e36,hf,cond_true,cond_false]
      refine wpOp_step rfl (fun K hK=>?_)
      go_simp
      exact hK _ _ ⟨x,(by simp only [upd,e38,e40,e36,hf,Nat.reduceBEq,Bool.false_or,Bool.true_or,Bool.not_true,Bool.not_false,Bool.true_and,Bool.false_and,Bool.cond_self,cond_true,cond_false];try rfl),hS⟩
    ·obtain rfl:=Option.some.inj ho
     have e36:fL 36=true:=hall ⟨36,.data⟩ (by simp) rfl
     have e41:fL 41=true:=hall ⟨41,.data⟩ (by simp) rfl
     clear hall ho
     cases f0
     all_goals
      simp only [e36,e41,hf,cond_true,cond_false]
      refine wpOp_step rfl (fun K hK=>?_)
      go_simp
      exact hK _ _ ⟨x,(by simp only [upd,e36,e41,hf,Nat.reduceBEq,Bool.false_or,Bool.true_or,Bool.not_true,Bool.not_false,Bool.true_and,Bool.false_and,Bool.cond_self,cond_true,cond_false];try rfl),hS⟩
    ·obtain rfl:=Option.some.inj ho
     clear hall ho
     simp only [hf,cond_true,cond_false]
     refine wpOp_step rfl (fun K hK=>?_)
     go_simp
     exact hK _ _ ⟨x,(by simp only [upd,hf,Nat.reduceBEq,Bool.false_or,Bool.true_or,Bool.not_true,Bool.not_false,Bool.true_and,Bool.false_and,Bool.cond_self,cond_true,cond_false];try rfl),hS⟩
    ·obtain rfl:=Option.some.inj ho
     have e43:fL 43=true:=hall ⟨43,.data⟩ (by simp) rfl
     clear hall ho
     have z11:v.cell? ⟨w.heap.size,11,none⟩=some (.int .i64 a.lvd):=(hS.hb.cell (p:=⟨w.heap.size,11,none⟩) hXl).trans x11
     have z12:v.cell? ⟨w.heap.size,12,none⟩=some (.int .i64 a.lvt):=(hS.hb.cell (p:=⟨w.heap.size,12,none⟩) hXl).trans x12
     simp only [e43,hf,cond_true,cond_false]
     refine wpOp_step rfl (fun K hK=>?_)
     go_simp
     exact hK _ _ ⟨x,(by simp only [upd,e43,hf,Nat.reduceBEq,Bool.false_or,Bool.true_or,Bool.not_true,Bool.not_false,Bool.true_and,Bool.false_and,Bool.cond_self,cond_true,cond_false];try rfl),hS⟩
    ·obtain rfl:=Option.some.inj ho
     clear hall ho
     simp only [hf,cond_true,cond_false]
     refine wpOp_step rfl (fun K hK=>?_)
     go_simp
     exact hK _ _ ⟨x,(by simp only [upd,hf,Nat.reduceBEq,Bool.false_or,Bool.true_or,Bool.not_true,Bool.not_false,Bool.true_and,Bool.false_and,Bool.cond_self,cond_true,cond_false];try rfl),hS⟩
    ·obtain rfl:=Option.some.inj ho
     have e45:fL 45=true:=hall ⟨45,.data⟩ (by simp) rfl
     clear hall ho
     have z11:v.cell? ⟨w.heap.size+1,11,none⟩=some (.int .i64 b.lvd):=(hS.hb.cell (p:=⟨w.heap.size+1,11,none⟩) hYl).trans y11
     have z12:v.cell? ⟨w.heap.size+1,12,none⟩=some (.int .i64 b.lvt):=(hS.hb.cell (p:=⟨w.heap.size+1,12,none⟩) hYl).trans y12
     simp only [e45,hf,cond_true,cond_false]
     refine wpOp_step rfl (fun K hK=>?_)
     go_simp
     exact hK _ _ ⟨x,(by simp only [upd,e45,hf,Nat.reduceBEq,Bool.false_or,Bool.true_or,Bool.not_true,Bool.not_false,Bool.true_and,Bool.false_and,Bool.cond_self,cond_true,cond_false];try rfl),hS⟩
    ·obtain rfl:=Option.some.inj ho
     have e44:fL 44=true:=hall ⟨44,.data⟩ (by simp) rfl
     have e46:fL 46=true:=hall ⟨46,.data⟩ (by simp) rfl
     clear hall ho
     simp only [e44,e46,hf,cond_true,cond_false]
     refine wpOp_step rfl (fun K hK=>?_)
     go_simp
     exact hK _ _ ⟨x,(by simp only [upd,e44,e46,hf,Nat.reduceBEq,Bool.false_or,Bool.true_or,Bool.not_true,Bool.not_false,Bool.true_and,Bool.false_and,Bool.cond_self,cond_true,cond_false];try rfl),hS⟩
    ·obtain rfl:=Option.some.inj ho
     have e47:fL 47=true:=hall ⟨47,.data⟩ (by simp) rfl
     clear hall ho
     simp only [e47,hf,cond_true,cond_false]
     refine wpOp_step rfl (fun K hK=>?_)
     go_simp
     exact hK _ _ ⟨x,(by simp only [upd,e47,hf,Nat.reduceBEq,Bool.false_or,Bool.true_or,Bool.not_true,Bool.not_false,Bool.true_and,Bool.false_and,Bool.cond_self,cond_true,cond_false];try rfl),hS⟩
    ·obtain rfl:=Option.some.inj ho
     have e48:fL 48=true:=hall ⟨48,.guard⟩ (by simp) rfl
     clear hall ho
     cases f2
     all_goals
      simp only [e48,hf,cond_true,cond_false]
      refine wpOp_step rfl (fun K hK=>?_)
      go_simp
      exact hK _ _ ⟨x,(by simp only [upd,e48,hf,Nat.reduceBEq,Bool.false_or,Bool.true_or,Bool.not_true,Bool.not_false,Bool.true_and,Bool.false_and,Bool.cond_self,cond_true,cond_false];try rfl),hS⟩
    ·obtain rfl:=Option.some.inj ho
     have e49:fL 49=true:=hall ⟨49,.data⟩ (by simp) rfl
     have e48:fL 48=true:=hall ⟨48,.guard⟩ (by simp) rfl
     clear hall ho
     cases f2
     all_goals
      have z13:v.cell? ⟨w.heap.size,13,none⟩=some (.int .i64 a.hvd):=(hS.hb.cell (p:=⟨w.heap.size,13,none⟩) hXl).trans x13
      have z14:v.cell? ⟨w.heap.size,14,none⟩=some (.int .i64 a.hvt):=(hS.hb.cell (p:=⟨w.heap.size,14,none⟩) hXl).trans x14
      simp only [e49,e48,hf,cond_true,cond_false]
      refine wpOp_step rfl (fun K hK=>?_)
      go_simp
      exact hK _ _ ⟨x,(by simp only [upd,e49,e48,hf,Nat.reduceBEq,Bool.false_or,Bool.true_or,Bool.not_true,Bool.not_false,Bool.true_and,Bool.false_and,Bool.cond_self,cond_true,cond_false];try rfl),hS⟩
    ·obtain rfl:=Option.some.inj ho
     have e48:fL 48=true:=hall ⟨48,.guard⟩ (by simp) rfl
     clear hall ho
     cases f2
     all_goals
      simp only [e48,hf,cond_true,cond_false]
      refine wpOp_step rfl (fun K hK=>?_)
      go_simp
      exact hK _ _ ⟨x,(by simp only [upd,e48,hf,Nat.reduceBEq,Bool.false_or,Bool.true_or,Bool.not_true,Bool.not_false,Bool.true_and,Bool.false_and,Bool.cond_self,cond_true,cond_false];try rfl),hS⟩
    ·obtain rfl:=Option.some.inj ho
     have e51:fL 51=true:=hall ⟨51,.data⟩ (by simp) rfl
     have e48:fL 48=true:=hall ⟨48,.guard⟩ (by simp) rfl
     clear hall ho
     cases f2
     all_goals
      have z13:v.cell? ⟨w.heap.size+1,13,none⟩=some (.int .i64 b.hvd):=(hS.hb.cell (p:=⟨w.heap.size+1,13,none⟩) hYl).trans y13
      have z14:v.cell? ⟨w.heap.size+1,14,none⟩=some (.int .i64 b.hvt):=(hS.hb.cell (p:=⟨w.heap.size+1,14,none⟩) hYl).trans y14
      simp only [e51,e48,hf,cond_true,cond_false]
      refine wpOp_step rfl (fun K hK=>?_)
      go_simp
      exact hK _ _ ⟨x,(by simp only [upd,e51,e48,hf,Nat.reduceBEq,Bool.false_or,Bool.true_or,Bool.not_true,Bool.not_false,Bool.true_and,Bool.false_and,Bool.cond_self,cond_true,cond_false];try rfl),hS⟩
    ·obtain rfl:=Option.some.inj ho
     have e50:fL 50=true:=hall ⟨50,.data⟩ (by simp) rfl
     have e52:fL 52=true:=hall ⟨52,.data⟩ (by simp) rfl
     have e48:fL 48=true:=hall ⟨48,.guard⟩ (by simp) rfl
     clear hall ho
     cases f2
     all_goals
      simp only [e50,e52,e48,hf,cond_true,cond_false]
      refine wpOp_step rfl (fun K hK=>?_)
      go_simp
      exact hK _ _ ⟨x,(by simp only [upd,e50,e52,e48,hf,Nat.reduceBEq,Bool.false_or,Bool.true_or,Bool.not_true,Bool.not_false,Bool.true_and,Bool.false_and,Bool.cond_self,cond_true,cond_false];try rfl),hS⟩
    ·obtain rfl:=Option.some.inj ho
     have e48:fL 48=true:=hall ⟨48,.data⟩ (by simp) rfl
     have e53:fL 53=true:=hall ⟨53,.data⟩ (by simp) rfl
     clear hall ho
     cases f2
     all_goals
      simp only [e48,e53,hf,cond_true,cond_false]
      refine wpOp_step rfl (fun K hK=>?_)
      go_simp
      exact hK _ _ ⟨x,(by simp only [upd,e48,e53,hf,Nat.reduceBEq,Bool.false_or,Bool.true_or,Bool.not_true,Bool.not_false,Bool.true_and,Bool.false_and,Bool.cond_self,cond_true,cond_false];try rfl),hS⟩
    ·obtain rfl:=Option.some.inj ho
     clear hall ho
     simp only [hf,cond_true,cond_false]
     refine wpOp_step rfl (fun K hK=>?_)
     go_simp
     exact hK _ _ ⟨x,(by simp only [upd,hf,Nat.reduceBEq,Bool.false_or,Bool.true_or,Bool.not_true,Bool.not_false,Bool.true_and,Bool.false_and,Bool.cond_self,cond_true,cond_false];try rfl),hS⟩
    ·obtain rfl:=Option.some.inj ho
     have e55:fL 55=true:=hall ⟨55,.data⟩ (by simp) rfl
     clear hall ho
     have z15:v.cell? ⟨w.heap.size,15,none⟩=some (.int .i64 a.ey):=(hS.hb.cell (p:=⟨w.heap.size,15,none⟩) hXl).trans x15
     simp only [e55,hf,cond_true,cond_false]
     refine wpOp_step rfl (fun K hK=>?_)
     go_simp
     exact hK _ _ ⟨x,(by simp only [upd,e55,hf,Nat.reduceBEq,Bool.false_or,Bool.true_or,Bool.not_true,Bool.not_false,Bool.true_and,Bool.false_and,Bool.cond_self,cond_true,cond_false];try rfl),hS⟩
    ·obtain rfl:=Option.some.inj ho
     clear hall ho
     simp only [hf,cond_true,cond_false]
     refine wpOp_step rfl (fun K hK=>?_)
     go_simp
     exact hK _ _ ⟨x,(by simp only [upd,hf,Nat.reduceBEq,Bool.false_or,Bool.true_or,Bool.not_true,Bool.not_false,Bool.true_and,Bool.false_and,Bool.cond_self,cond_true,cond_false];try rfl),hS⟩
    ·obtain rfl:=Option.some.inj ho
     have e57:fL 57=true:=hall ⟨57,.data⟩ (by simp) rfl
     clear hall ho
     have z15:v.cell? ⟨w.heap.size+1,15,none⟩=some (.int .i64 b.ey):=(hS.hb.cell (p:=⟨w.heap.size+1,15,none⟩) hYl).trans y15
     simp only [e57,hf,cond_true,cond_false]
     refine wpOp_step rfl (fun K hK=>?_)
     go_simp
     exact hK _ _ ⟨x,(by simp only [upd,e57,hf,Nat.reduceBEq,Bool.false_or,Bool.true_or,Bool.not_true,Bool.not_false,Bool.true_and,Bool.false_and,Bool.cond_self,cond_true,cond_false];try rfl),hS⟩
    ·obtain rfl:=Option.some.inj ho
     have e56:fL 56=true:=hall ⟨56,.data⟩ (by simp) rfl
     have e58:fL 58=true:=hall ⟨58,.data⟩ (by simp) rfl
     clear hall ho
     simp only [e56,e58,hf,cond_true,cond_false]
     refine wpOp_step rfl (fun K hK=>?_)
     go_simp
     exact hK _ _ ⟨x,(by simp only [upd,e56,e58,hf,Nat.reduceBEq,Bool.false_or,Bool.true_or,Bool.not_true,Bool.not_false,Bool.true_and,Bool.false_and,Bool.cond_self,cond_true,cond_false];try rfl),hS⟩
    ·obtain rfl:=Option.some.inj ho
     clear hall ho
     simp only [hf,cond_true,cond_false]
     refine wpOp_step rfl (fun K hK=>?_)
     go_simp
     exact hK _ _ ⟨x,(by simp only [upd,hf,Nat.reduceBEq,Bool.false_or,Bool.true_or,Bool.not_true,Bool.not_false,Bool.true_and,Bool.false_and,Bool.cond_self,cond_true,cond_false];try rfl),hS⟩
    ·obtain rfl:=Option.some.inj ho
     have e60:fL 60=true:=hall ⟨60,.data⟩ (by simp) rfl
     clear hall ho
     have z16:v.cell? ⟨w.heap.size,16,none⟩=some (.int .i64 a.bo):=(hS.hb.cell (p:=⟨w.heap.size,16,none⟩) hXl).trans x16
     simp only [e60,hf,cond_true,cond_false]
     refine wpOp_step rfl (fun K hK=>?_)
     go_simp
     exact hK _ _ ⟨x,(by simp only [upd,e60,hf,Nat.reduceBEq,Bool.false_or,Bool.true_or,Bool.not_true,Bool.not_false,Bool.true_and,Bool.false_and,Bool.cond_self,cond_true,cond_false];try rfl),hS⟩
    ·obtain rfl:=Option.some.inj ho
     clear hall ho
     simp only [hf,cond_true,cond_false]
     refine wpOp_step rfl (fun K hK=>?_)
     go_simp
     exact hK _ _ ⟨x,(by simp only [upd,hf,Nat.reduceBEq,Bool.false_or,Bool.true_or,Bool.not_true,Bool.not_false,Bool.true_and,Bool.false_and,Bool.cond_self,cond_true,cond_false];try rfl),hS⟩
    ·obtain rfl:=Option.some.inj ho
     have e62:fL 62=true:=hall ⟨62,.data⟩ (by simp) rfl
     clear hall ho
     have z16:v.cell? ⟨w.heap.size+1,16,none⟩=some (.int .i64 b.bo):=(hS.hb.cell (p:=⟨w.heap.size+1,16,none⟩) hYl).trans y16
     simp only [e62,hf,cond_true,cond_false]
     refine wpOp_step rfl (fun K hK=>?_)
     go_simp
     exact hK _ _ ⟨x,(by simp only [upd,e62,hf,Nat.reduceBEq,Bool.false_or,Bool.true_or,Bool.not_true,Bool.not_false,Bool.true_and,Bool.false_and,Bool.cond_self,cond_true,cond_false];try rfl),hS⟩
    ·obtain rfl:=Option.some.inj ho
     have e61:fL 61=true:=hall ⟨61,.data⟩ (by simp) rfl
     have e63:fL 63=true:=hall ⟨63,.data⟩ (by simp) rfl
     clear hall ho
     simp only [e61,e63,hf,cond_true,cond_false]
     refine wpOp_step rfl (fun K hK=>?_)
     go_simp
     exact hK _ _ ⟨x,(by simp only [upd,e61,e63,hf,Nat.reduceBEq,Bool.false_or,Bool.true_or,Bool.not_true,Bool.not_false,Bool.true_and,Bool.false_and,Bool.cond_self,cond_true,cond_false];try rfl),hS⟩
    ·obtain rfl:=Option.some.inj ho
     have e7:fL 7=true:=hall ⟨7,.data⟩ (by simp) rfl
     have e14:fL 14=true:=hall ⟨14,.data⟩ (by simp) rfl
     have e30:fL 30=true:=hall ⟨30,.data⟩ (by simp) rfl
     have e42:fL 42=true:=hall ⟨42,.data⟩ (by simp) rfl
     have e54:fL 54=true:=hall ⟨54,.data⟩ (by simp) rfl
     have e59:fL 59=true:=hall ⟨59,.data⟩ (by simp) rfl
     have e64:fL 64=true:=hall ⟨64,.data⟩ (by simp) rfl
     clear hall ho
     simp only [e7,e14,e30,e42,e54,e59,e64,hf,cond_true,cond_false]
     refine wpOp_step rfl (fun K hK=>?_)
     go_simp
     exact hK _ _ ⟨_,(by simp only [upd,e7,e14,e30,e42,e54,e59,e64,hf,Nat.reduceBEq,Bool.false_or,Bool.true_or,Bool.not_true,Bool.not_false,Bool.true_and,Bool.false_and,Bool.cond_self,cond_true,cond_false];try rfl),hS.new⟩
   ·rintro fL x v hS hall
    have e0:fL 0=true:=hall 0 (by omega)
    have e1:fL 1=true:=hall 1 (by omega)
    have e2:fL 2=true:=hall 2 (by omega)
    have e3:fL 3=true:=hall 3 (by omega)
    have e4:fL 4=true:=hall 4 (by omega)
    have e5:fL 5=true:=hall 5 (by omega)
    have e6:fL 6=true:=hall 6 (by omega)
    have e7:fL 7=true:=hall 7 (by omega)
    have e8:fL 8=true:=hall 8 (by omega)
    have e9:fL 9=true:=hall 9 (by omega)
    have e10:fL 10=true:=hall 10 (by omega)
    have e11:fL 11=true:=hall 11 (by omega)
    have e12:fL 12=true:=hall 12 (by omega)
    have e13:fL 13=true:=hall 13 (by omega)
    have e14:fL 14=true:=hall 14 (by omega)
    have e15:fL 15=true:=hall 15 (by omega)
    have e16:fL 16=true:=hall 16 (by omega)
    have e17:fL 17=true:=hall 17 (by omega)
    have e18:fL 18=true:=hall 18 (by omega)
    have e19:fL 19=true:=hall 19 (by omega)
    have e20:fL 20=true:=hall 20 (by omega)
    have e21:fL 21=true:=hall 21 (by omega)
    have e22:fL 22=true:=hall 22 (by omega)
    have e23:fL 23=true:=hall 23 (by omega)
    have e24:fL 24=true:=hall 24 (by omega)
    have e25:fL 25=true:=hall 25 (by omega)
    have e26:fL 26=true:=hall 26 (by omega)
    have e27:fL 27=true:=hall 27 (by omega)
    have e28:fL 28=true:=hall 28 (by omega)
    have e29:fL 29=true:=hall 29 (by omega)
    have e30:fL 30=true:=hall 30 (by omega)
    have e31:fL 31=true:=hall 31 (by omega)
    have e32:fL 32=true:=hall 32 (by omega)
    have e33:fL 33=true:=hall 33 (by omega)
    have e34:fL 34=true:=hall 34 (by omega)
    have e35:fL 35=true:=hall 35 (by omega)
    have e36:fL 36=true:=hall 36 (by omega)
    have e37:fL 37=true:=hall 37 (by omega)
    have e38:fL 38=true:=hall 38 (by omega)
    have e39:fL 39=true:=hall 39 (by omega)
    have e40:fL 40=true:=hall 40 (by omega)
    have e41:fL 41=true:=hall 41 (by omega)
    have e42:fL 42=true:=hall 42 (by omega)
    have e43:fL 43=true:=hall 43 (by omega)
    have e44:fL 44=true:=hall 44 (by omega)
    have e45:fL 45=true:=hall 45 (by omega)
    have e46:fL 46=true:=hall 46 (by omega)
    have e47:fL 47=true:=hall 47 (by omega)
    have e48:fL 48=true:=hall 48 (by omega)
    have e49:fL 49=true:=hall 49 (by omega)
    have e50:fL 50=true:=hall 50 (by omega)
    have e51:fL 51=true:=hall 51 (by omega)
    have e52:fL 52=true:=hall 52 (by omega)
    have e53:fL 53=true:=hall 53 (by omega)
    have e54:fL 54=true:=hall 54 (by omega)
    have e55:fL 55=true:=hall 55 (by omega)
    have e56:fL 56=true:=hall 56 (by omega)
    have e57:fL 57=true:=hall 57 (by omega)
    have e58:fL 58=true:=hall 58 (by omega)
    have e59:fL 59=true:=hall 59 (by omega)
    have e60:fL 60=true:=hall 60 (by omega)
    have e61:fL 61=true:=hall 61 (by omega)
    have e62:fL 62=true:=hall 62 (by omega)
    have e63:fL 63=true:=hall 63 (by omega)
    have e64:fL 64=true:=hall 64 (by omega)
    have e65:fL 65=true:=hall 65 (by omega)
    simp only [e0,e1,e2,e3,e4,e5,e6,e7,e8,e9,e10,e11,e12,e13,e14,e15,e16,e17,e18,e19,e20,e21,e22,e23,e24,e25,e26,e27,e28,e29,e30,e31,e32,e33,e34,e35,e36,e37,e38,e39,e40,e41,e42,e43,e44,e45,e46,e47,e48,e49,e50,e51,e52,e53,e54,e55,e56,e57,e58,e59,e60,e61,e62,e63,e64,e65,cond_true,List.drop_succ_cons,List.drop_zero]
    clear hall
    obtain ⟨g,rfl,hg,BB⟩:=hS.sl e65
    replace hW:=hW.trans (hS.hb.mono hW.size)
    clear hS x0 y0 x1 y1 x2 y2 x3 y3 x4 y4 x5 y5 x6 y6 x7 y7 x8 y8 x9 y9 x10 y10 x11 y11 x12 y12 x13 y13 x14 y14 x15 y15 x16 y16 X Y HF hXl hYl hg
    have hgs:Hid (∀ wr,Blk wr g 4 #[.bool (!m0),.bool (!m1),.bool (!m2 || !m3),.bool (!f0 || !f1),.bool (!f2 || !f3),.bool (!m4),.bool (!m5)]→∀ k,k < 7→wr.cell? ⟨g,k,none⟩=some (.bool (!(D.getD k true)))):=Lib.hid (fun wr hB k hk=>bools_not hB D (by rw [hAl.out];first | rfl | simp [Bool.not_and]) (by rw [hlD.out];exact hk))
    have hgl:=BB.lt
    have hws:=hW.size
    have L0:CgL w g 4 #[.bool (!m0),.bool (!m1),.bool (!m2 || !m3),.bool (!f0 || !f1),.bool (!f2 || !f3),.bool (!m4),.bool (!m5)] 2 [] (.slice (some ⟨v.heap.size,0,none⟩) 0 0) (v.alloc (.cells #[] 2)) :=
     ⟨(by repeat first | with_reducible (first | exact hW | apply below_drewN' | apply Below.drew | refine Below.alloc ?_ ?_ _ | refine Below.setCell ?_ ?_ _) | exact hW | omega | (simp <;> omega) | (have:=(hW).size;first | omega | (simp <;> omega))),BB.alloc _,by simp [Value.ownBlock];omega,Own.empty (w:=v) (base:=w.heap.size) (e:=2) (k:=1) hws⟩
    clear BB hW hAl
    generalize hcs:(#[.bool (!m0),.bool (!m1),.bool (!m2 || !m3),.bool (!f0 || !f1),.bool (!f2 || !f3),.bool (!m4),.bool (!m5)]:Array Value)=gs at L0 hgs
    clear hcs
    go_wp2_with fail
    go_loopw [7,87] (fun o i wr=>∃ k:Nat,k ≤ 7∧i=.int .i64 k∧CgL w g 4 gs 2 ((idxN D k).map ic) o wr) (fun _ i _=>7 - (intOf i).toNat)
    case atStart=>exact ⟨0,Nat.zero_le _,rfl,L0⟩
    case round =>
     clear L0
     obtain ⟨k,hk,rfl,hL⟩:=hrel
     by_cases hlt:k < 7
     ·have y0:=hgs.out wr hL.fg k hlt
      have hln:=idxN_len D k
      have hsz:=hL.hb.size
      cases hx:D.getD k true with
      | false =>
       rw [hx] at y0
       have hnx:Hid (idxN D (k+1)=idxN D k ++ [(k:Int)]):=Lib.hid (by show (if D.getD k true=false then _ else _)=_;rw [if_pos hx])
       clear hx
       replace hln:=Lib.hid hln
       try simp only [Bool.not_false] at y0
       go_wp2_with (at_builtin;refine wpList_append_rows _ rfl _ _ _ rfl w.heap.size 2 i0 _ 1 8 Tryz.underlying27 hi hz0 hz1 hz2 rfl (by omega) _ _ rfl (hL.o.alloc _) _ _ _ _ ([(k:Int)].map ic) rfl rfl (Sl.ints _ _ [(k:Int)] rfl rfl) (ic_one (x:=[(k:Int)])) (by simp;have:=hln.out;unfold maxLen;omega) (by simp;have:=hln.out;omega) (by first | omega | (simp only [];omega) | (simp;omega)) ?_;intro v1 w2 hO2 hg2 hat;have hL2:=(hL.alloc _).app hg2 hO2 hat)
       go_roundw
       case rel=>exact ⟨k+1,by omega,by go_num,by rw [hnx.out,List.map_append];exact hL2⟩
       case measure=>simp [intOf];omega
      | true =>
       rw [hx] at y0
       have hnx:Hid (idxN D (k+1)=idxN D k):=Lib.hid (by show (if D.getD k true=false then _ else _)=_;rw [if_neg (by rw [hx];simp)])
       clear hx
       try simp only [Bool.not_true] at y0
       go_wp2
       go_roundw
       case rel=>exact ⟨k+1,by omega,by go_num,by rw [hnx.out];exact hL⟩
       case measure=>simp [intOf];omega
     ·have:k=7:=by omega
      subst this
      have hO:=hL.o
      have hbw:=hL.hb
      clear hL
      obtain ⟨A9,c9,hv,_⟩:=hO.form
      rw [List.length_map] at hv
      subst hv
      go_wp2
      go_ret2
      exact ⟨A9,c9,rfl,hO,hbw⟩
theorem specChg_c (a b:Rl) (A:Option Addr) (c:Nat) (A':Option Addr) (c':Nat) (w:World) (E:RlIn w A c a) (E':RlIn w A' c' b) :
  Calls Tryz.prog 24 #[.agg (a.cells A c).toArray,.agg (b.cells A' c').toArray] w (PostRows 2 1 (chgRes a b).length ((chgRes a b).map ic) (chgCode a b) w):=by
 have HA:=Lib.hid (fun W (hW:Below w.heap.size w W)=>specIsRl_c a A c W (E.later hW))
 have HB:=Lib.hid (fun W (hW:Below w.heap.size w W)=>specIsRl_c b A' c' W (E'.later hW))
 have HF:=Lib.hid (fun W (hW:Below w.heap.size w W)=>l21Same_c a.fd a.ft a.nm A c a.l b.fd b.ft b.nm A' c' b.l W E.h E'.h (E.later hW).s (E'.later hW).s)
 have hW:Below w.heap.size w ((w.alloc (.cells (a.cells A c).toArray 33)).alloc (.cells (b.cells A' c').toArray 33)):=(by repeat first | with_reducible (first | exact Below.refl _ _ | apply below_drewN' | apply Below.drew | refine Below.alloc ?_ ?_ _ | refine Below.setCell ?_ ?_ _) | exact Below.refl _ _ | omega | (simp <;> omega) | (have:=(Below.refl _ _).size;first | omega | (simp <;> omega)))
 have X:=(Blk.new w 33 (a.cells A c).toArray).alloc (.cells (b.cells A' c').toArray 33)
 have Y:=Blk.new' (w.alloc (.cells (a.cells A c).toArray 33)) 33 (b.cells A' c').toArray (g:=w.heap.size+1) (by simp)
 have hX:=X.range
 have hY:∀ W,Blk W (w.heap.size+1) 33 (b.cells A' c').toArray→W.rangeAt (w.heap.size+1) 0 (b.cells A' c'):=fun W h=>h.range
 have hcx:∀ W,Blk W (w.heap.size) 33 (a.cells A c).toArray→W.cell? ⟨w.heap.size,0,none⟩=some (.int .i64 a.fd)∧W.cell? ⟨w.heap.size,1,none⟩=some (.int .i64 a.ft)∧W.cell? ⟨w.heap.size,2,none⟩=some (.string a.nm)∧W.cell? ⟨w.heap.size,3,none⟩=some (.slice A a.l.length c)∧W.cell? ⟨w.heap.size,4,none⟩=some (.int .i64 a.wd)∧W.cell? ⟨w.heap.size,5,none⟩=some (.int .i64 a.lf)∧W.cell? ⟨w.heap.size,6,none⟩=some (.int .i64 a.rt)∧W.cell? ⟨w.heap.size,7,none⟩=some (.int .i64 a.lud)∧W.cell? ⟨w.heap.size,8,none⟩=some (.int .i64 a.lut)∧W.cell? ⟨w.heap.size,9,none⟩=some (.int .i64 a.hud)∧W.cell? ⟨w.heap.size,10,none⟩=some (.int .i64 a.hut)∧W.cell? ⟨w.heap.size,11,none⟩=some (.int .i64 a.lvd)∧W.cell? ⟨w.heap.size,12,none⟩=some (.int .i64 a.lvt)∧W.cell? ⟨w.heap.size,13,none⟩=some (.int .i64 a.hvd)∧W.cell? ⟨w.heap.size,14,none⟩=some (.int .i64 a.hvt)∧W.cell? ⟨w.heap.size,15,none⟩=some (.int .i64 a.ey)∧W.cell? ⟨w.heap.size,16,none⟩=some (.int .i64 a.bo):=fun W h=>⟨h.cell 0,h.cell 1,h.cell 2,h.cell 3,h.cell 4,h.cell 5,h.cell 6,h.cell 7,h.cell 8,h.cell 9,h.cell 10,h.cell 11,h.cell 12,h.cell 13,h.cell 14,h.cell 15,h.cell 16⟩
 have hcy:∀ W,Blk W (w.heap.size+1) 33 (b.cells A' c').toArray→W.cell? ⟨w.heap.size+1,0,none⟩=some (.int .i64 b.fd)∧W.cell? ⟨w.heap.size+1,1,none⟩=some (.int .i64 b.ft)∧W.cell? ⟨w.heap.size+1,2,none⟩=some (.string b.nm)∧W.cell? ⟨w.heap.size+1,3,none⟩=some (.slice A' b.l.length c')∧W.cell? ⟨w.heap.size+1,4,none⟩=some (.int .i64 b.wd)∧W.cell? ⟨w.heap.size+1,5,none⟩=some (.int .i64 b.lf)∧W.cell? ⟨w.heap.size+1,6,none⟩=some (.int .i64 b.rt)∧W.cell? ⟨w.heap.size+1,7,none⟩=some (.int .i64 b.lud)∧W.cell? ⟨w.heap.size+1,8,none⟩=some (.int .i64 b.lut)∧W.cell? ⟨w.heap.size+1,9,none⟩=some (.int .i64 b.hud)∧W.cell? ⟨w.heap.size+1,10,none⟩=some (.int .i64 b.hut)∧W.cell? ⟨w.heap.size+1,11,none⟩=some (.int .i64 b.lvd)∧W.cell? ⟨w.heap.size+1,12,none⟩=some (.int .i64 b.lvt)∧W.cell? ⟨w.heap.size+1,13,none⟩=some (.int .i64 b.hvd)∧W.cell? ⟨w.heap.size+1,14,none⟩=some (.int .i64 b.hvt)∧W.cell? ⟨w.heap.size+1,15,none⟩=some (.int .i64 b.ey)∧W.cell? ⟨w.heap.size+1,16,none⟩=some (.int .i64 b.bo):=fun W h=>⟨h.cell 0,h.cell 1,h.cell 2,h.cell 3,h.cell 4,h.cell 5,h.cell 6,h.cell 7,h.cell 8,h.cell 9,h.cell 10,h.cell 11,h.cell 12,h.cell 13,h.cell 14,h.cell 15,h.cell 16⟩
 have hD:Hid (alike a b=alike a b):=rfl
 replace hY:=Lib.hid hY
 replace hcx:=Lib.hid hcx
 replace hcy:=Lib.hid hcy
 have hR0:Hid ((a.b && b.b)=false→chgRes a b=[]∧chgCode a b=1):=Lib.hid (fun h=>by unfold chgRes chgCode;rw [h];exact ⟨rfl,rfl⟩)
 have hR1:Hid ((a.b && b.b)=true→chgRes a b=idxN (alike a b) 7∧chgCode a b=0):=Lib.hid (fun h=>by unfold chgRes chgCode;rw [h];exact ⟨rfl,rfl⟩)
 generalize chgRes a b=R at *
 generalize chgCode a b=cd at *
 have hAl:Hid (alike a b=[sameFB a.fd a.ft a.nm a.l b.fd b.ft b.nm b.l,a.wd == b.wd,a.lf == b.lf && a.rt == b.rt,(decide (a.lud=b.lud) && decide (a.lut=b.lut)) && (decide (a.hud=b.hud) && decide (a.hut=b.hut)),(decide (a.lvd=b.lvd) && decide (a.lvt=b.lvt)) && (decide (a.hvd=b.hvd) && decide (a.hvt=b.hvt)),a.ey == b.ey,a.bo == b.bo]):=rfl
 generalize alike a b=D at *
 generalize sameFB a.fd a.ft a.nm a.l b.fd b.ft b.nm b.l=m0 at *
 clear E E'
 generalize hla:a.cells A c=ca at *
 generalize hlb:b.cells A' c'=cb at *
 clear hla hlb
 cases hab:a.b with
 | false =>
  rw [hab] at HA hR0
  obtain ⟨hr,hcd⟩:=hR0.out (by rfl)
  subst hr hcd
  clear hR0 hR1 hcx hcy hAl HB HF
  go_enter Tryz.func24,Tryz.ntmps24
  go_wp2_with (refine wpList_load_mid rfl 33 _ rfl (w.heap.size) 0 rfl (ca) _ hX Tryz.underlying33 rfl (by kernel_rfl) ?_)
  generalize (w.alloc (.cells ca.toArray 33)).alloc (.cells cb.toArray 33)=W at *
  refine Calls.mono (HA.out W hW) ?_;rintro e w1 ⟨rfl,hb1⟩
  replace X:=X.below hb1 X.lt
  replace hW:=hW.trans (hb1.mono hW.size)
  clear hb1
  go_wp2
  go_ret2
  exact ⟨none,0,rfl,Own.nil_,hW⟩
 | true =>
  rw [hab] at HA hR0 hR1
  cases hbb:b.b with
  | false =>
   rw [hbb] at HB hR0
   obtain ⟨hr,hcd⟩:=hR0.out (by rfl)
   subst hr hcd
   clear hR0 hR1 hcx hcy hAl HF
   go_enter Tryz.func24,Tryz.ntmps24
   go_wp2_with (refine wpList_load_mid rfl 33 _ rfl (w.heap.size) 0 rfl (ca) _ hX Tryz.underlying33 rfl (by kernel_rfl) ?_)
   generalize (w.alloc (.cells ca.toArray 33)).alloc (.cells cb.toArray 33)=W at *
   refine Calls.mono (HA.out W hW) ?_;rintro e w1 ⟨rfl,hb1⟩
   replace X:=X.below hb1 X.lt
   replace Y:=Y.below hb1 Y.lt
   replace hW:=hW.trans (hb1.mono hW.size)
   clear hb1
   have hy:=hY.out _ Y
   go_wp2_with (refine wpList_plain rfl fun K hK=>?_;refine Hid.out ?_)
   refine Lib.hid ?_
   go_simp
   refine hK _ _ ?_
   refine wpList_plain rfl fun K hK=>?_
   go_simp
   refine hK _ _ ?_
   refine wpList_load_g ?hw 33 (.tmp 3) rfl (w.heap.size+1) 0 rfl cb _ hy Tryz.underlying33 rfl (by kernel_rfl) ?_
   case hw=>rfl
   go_wp2_with fail
   refine Calls.mono (HB.out w1 hW) ?_;rintro e w2 ⟨rfl,hb2⟩
   replace X:=X.below hb2 X.lt
   replace hW:=hW.trans (hb2.mono hW.size)
   clear hb2
   go_wp2
   go_ret2
   exact ⟨none,0,rfl,Own.nil_,hW⟩
  | true =>
   rw [hbb] at HB hR1
   obtain ⟨hr,hcd⟩:=hR1.out (by rfl)
   subst hr hcd
   clear hR0 hR1
   go_enter Tryz.func24,Tryz.ntmps24
   go_wp2_with (refine wpList_load_mid rfl 33 _ rfl (w.heap.size) 0 rfl (ca) _ hX Tryz.underlying33 rfl (by kernel_rfl) ?_)
   generalize (w.alloc (.cells ca.toArray 33)).alloc (.cells cb.toArray 33)=W at *
   refine Calls.mono (HA.out W hW) ?_;rintro e w1 ⟨rfl,hb1⟩
   replace X:=X.below hb1 X.lt
   replace Y:=Y.below hb1 Y.lt
   replace hW:=hW.trans (hb1.mono hW.size)
   clear hb1
   have hy:=hY.out _ Y
   go_wp2_with (refine wpList_plain rfl fun K hK=>?_;refine Hid.out ?_)
   refine Lib.hid ?_
   go_simp
   refine hK _ _ ?_
   refine wpList_plain rfl fun K hK=>?_
   go_simp
   refine hK _ _ ?_
   refine wpList_load_g ?hw 33 (.tmp 3) rfl (w.heap.size+1) 0 rfl cb _ hy Tryz.underlying33 rfl (by kernel_rfl) ?_
   case hw=>rfl
   go_wp2_with fail
   refine Calls.mono (HB.out w1 hW) ?_;rintro e w2 ⟨rfl,hb2⟩
   replace X:=X.below hb2 X.lt
   replace Y:=Y.below hb2 Y.lt
   replace hW:=hW.trans (hb2.mono hW.size)
   clear hb2
   clear hX hy HA HB
   obtain ⟨x0,x1,x2,x3,x4,x5,x6,x7,x8,x9,x10,x11,x12,x13,x14,x15,x16⟩:=hcx.out _ X
   obtain ⟨y0,y1,y2,y3,y4,y5,y6,y7,y8,y9,y10,y11,y12,y13,y14,y15,y16⟩:=hcy.out _ Y
   clear hcx hcy
   have n0:(a.wd == b.wd)=(a.wd == b.wd):=rfl
   have n1:(a.lf == b.lf)=(a.lf == b.lf):=rfl
   have n2:(a.rt == b.rt)=(a.rt == b.rt):=rfl
   have n3:(a.ey == b.ey)=(a.ey == b.ey):=rfl
   have n4:(a.bo == b.bo)=(a.bo == b.bo):=rfl
   have g0:=eqFig2 a.lud a.lut b.lud b.lut
   have g1:=eqFig2 a.hud a.hut b.hud b.hut
   have g2:=eqFig2 a.lvd a.lvt b.lvd b.lvt
   have g3:=eqFig2 a.hvd a.hvt b.hvd b.hvt
   generalize hm0:(a.wd == b.wd)=m1 at *
   generalize hm1:(a.lf == b.lf)=m2 at *
   generalize hm2:(a.rt == b.rt)=m3 at *
   generalize hm3:(a.ey == b.ey)=m4 at *
   generalize hm4:(a.bo == b.bo)=m5 at *
   generalize (decide (a.lud=b.lud) && decide (a.lut=b.lut))=f0 at *
   generalize (decide (a.hud=b.hud) && decide (a.hut=b.hut))=f1 at *
   generalize (decide (a.lvd=b.lvd) && decide (a.lvt=b.lvt))=f2 at *
   generalize (decide (a.hvd=b.hvd) && decide (a.hvt=b.hvt))=f3 at *
   clear n0 n1 n2 n3 n4
   obtain ⟨i0,hi,hz0,hz1,hz2⟩:=info_parts info_Int64
   have hlD:D.length=7:=by rw [hAl.out];rfl
   replace hlD:=Lib.hid hlD
   have hXl:=X.lt
   have hYl:=Y.lt
   go_wp2_with fail
   refine region_fr 65 (fun f l x=>match l with | a0_ :: a1_ :: a2_ :: a3_ :: a4_ :: a5_ :: a6_ :: a7_ :: a8_ :: a9_ :: a10_ :: a11_ :: a12_ :: a13_ :: a14_ :: a15_ :: a16_ :: a17_ :: a18_ :: a19_ :: a20_ :: a21_ :: a22_ :: a23_ :: a24_ :: a25_ :: a26_ :: a27_ :: a28_ :: a29_ :: a30_ :: a31_ :: a32_ :: a33_ :: a34_ :: a35_ :: a36_ :: a37_ :: a38_ :: a39_ :: a40_ :: a41_ :: a42_ :: a43_ :: a44_ :: a45_ :: a46_ :: a47_ :: a48_ :: a49_ :: a50_ :: a51_ :: a52_ :: a53_ :: a54_ :: a55_ :: a56_ :: a57_ :: a58_ :: a59_ :: a60_ :: a61_ :: a62_ :: a63_ :: a64_ :: a65_ :: a66_ :: a67_ :: a68_ :: a69_ :: a70_ :: a71_ :: a72_ :: a73_ :: a74_ :: a75_ :: a76_ :: a77_ :: a78_ :: a79_ :: a80_ :: a81_ :: a82_ :: a83_ :: a84_ :: a85_ :: a86_ :: a87_ :: a88_ :: a89_ :: a90_ :: a91_ :: a92_ :: a93_ :: a94_ :: a95_ :: a96_ :: a97_ :: a98_ :: []=>[a0_,a1_,a2_,a3_,a4_,a5_,a6_,a7_,a8_,a9_,a10_,a11_,a12_,a13_,a14_,a15_,a16_,bif f 0 then .pointer (some ⟨w.heap.size,0,none⟩) else a17_,bif f 1 then .pointer (some ⟨w.heap.size,0,none⟩) else a18_,bif f 2 then .agg #[.int .i64 a.fd,.int .i64 a.ft,.string a.nm,.slice A a.l.length c] else a19_,bif f 3 then .pointer (some ⟨w.heap.size+1,0,none⟩) else a20_,bif f 4 then .pointer (some ⟨w.heap.size+1,0,none⟩) else a21_,bif f 5 then .agg #[.int .i64 b.fd,.int .i64 b.ft,.string b.nm,.slice A' b.l.length c'] else a22_,bif f 6 then .bool m0 else a23_,bif f 7 then .pointer (some ⟨w.heap.size,0,none⟩) else a24_,bif f 8 then .pointer (some ⟨w.heap.size,4,none⟩) else a25_,bif f 9 then .int .i64 a.wd else a26_,bif f 10 then .pointer (some ⟨w.heap.size+1,0,none⟩) else a27_,bif f 11 then .pointer (some ⟨w.heap.size+1,4,none⟩) else a28_,bif f 12 then .int .i64 b.wd else a29_,bif f 13 then .bool m1 else a30_,bif f 14 then .pointer (some ⟨w.heap.size,0,none⟩) else a31_,bif f 15 then .pointer (some ⟨w.heap.size,5,none⟩) else a32_,bif f 16 then .int .i64 a.lf else a33_,bif f 17 then .pointer (some ⟨w.heap.size+1,0,none⟩) else a34_,bif f 18 then .pointer (some ⟨w.heap.size+1,5,none⟩) else a35_,bif f 19 then .int .i64 b.lf else a36_,bif f 20 then .bool m2 else a37_,bif f 21 then .bool m2 else a38_,bif f 22 then bif m2 then .pointer (some ⟨w.heap.size,0,none⟩) else undef else a39_,bif f 23 then bif m2 then .pointer (some ⟨w.heap.size,6,none⟩) else undef else a40_,bif f 24 then bif m2 then .int .i64 a.rt else undef else a41_,bif f 25 then bif m2 then .pointer (some ⟨w.heap.size+1,0,none⟩) else undef else a42_,bif f 26 then bif m2 then .pointer (some ⟨w.heap.size+1,6,none⟩) else undef else a43_,bif f 27 then bif m2 then .int .i64 b.rt else undef else a44_,bif f 28 then bif m2 then .bool m3 else undef else a45_,bif f 29 then .bool (m2 && m3) else a46_,bif f 30 then .pointer (some ⟨w.heap.size,7,none⟩) else a47_,bif f 31 then .agg #[.int .i64 a.lud,.int .i64 a.lut] else a48_,bif f 32 then .pointer (some ⟨w.heap.size+1,7,none⟩) else a49_,bif f 33 then .agg #[.int .i64 b.lud,.int .i64 b.lut] else a50_,bif f 34 then .bool f0 else a51_,bif f 35 then .bool f0 else a52_,bif f 36 then bif f0 then .pointer (some ⟨w.heap.size,9,none⟩) else undef else a53_,bif f 37 then bif f0 then .agg #[.int .i64 a.hud,.int .i64 a.hut] else undef else a54_,bif f 38 then bif f0 then .pointer (some ⟨w.heap.size+1,9,none⟩) else undef else a55_,bif f 39 then bif f0 then .agg #[.int .i64 b.hud,.int .i64 b.hut] else undef else a56_,bif f 40 then bif f0 then .bool f1 else undef else a57_,bif f 41 then .bool (f0 && f1) else a58_,bif f 42 then .pointer (some ⟨w.heap.size,11,none⟩) else a59_,bif f 43 then .agg #[.int .i64 a.lvd,.int .i64 a.lvt] else a60_,bif f 44 then .pointer (some ⟨w.heap.size+1,11,none⟩) else a61_,bif f 45 then .agg #[.int .i64 b.lvd,.int .i64 b.lvt] else a62_,bif f 46 then .bool f2 else a63_,bif f 47 then .bool f2 else a64_,bif f 48 then bif f2 then .pointer (some ⟨w.heap.size,13,none⟩) else undef else a65_,bif f 49 then bif f2 then .agg #[.int .i64 a.hvd,.int .i64 a.hvt] else undef else a66_,bif f 50 then bif f2 then .pointer (some ⟨w.heap.size+1,13,none⟩) else undef else a67_,bif f 51 then bif f2 then .agg #[.int .i64 b.hvd,.int .i64 b.hvt] else undef else a68_,bif f 52 then bif f2 then .bool f3 else undef else a69_,bif f 53 then .bool (f2 && f3) else a70_,bif f 54 then .pointer (some ⟨w.heap.size,15,none⟩) else a71_,bif f 55 then .int .i64 a.ey else a72_,bif f 56 then .pointer (some ⟨w.heap.size+1,15,none⟩) else a73_,bif f 57 then .int .i64 b.ey else a74_,bif f 58 then .bool m4 else a75_,bif f 59 then .pointer (some ⟨w.heap.size,16,none⟩) else a76_,bif f 60 then .int .i64 a.bo else a77_,bif f 61 then .pointer (some ⟨w.heap.size+1,16,none⟩) else a78_,bif f 62 then .int .i64 b.bo else a79_,bif f 63 then .bool m5 else a80_,bif f 64 then x else a81_,a82_,a83_,a84_,a85_,a86_,a87_,a88_,a89_,a90_,a91_,a92_,a93_,a94_,a95_,a96_,a97_,a98_] | l=>l) (fun fL x v=>BsS w2 4 #[.bool m0,.bool m1,.bool (m2 && m3),.bool (f0 && f1),.bool (f2 && f3),.bool m4,.bool m5] 7 (fL 64) x v) (by kernel_rfl) (by decide +kernel) undef rfl (BsS.init) ?_ ?_
   all_goals dsimp only
   ·rintro fL x v hS i hi hf o ho hall
    have hn:i=0 ∨ i=1 ∨ i=2 ∨ i=3 ∨ i=4 ∨ i=5 ∨ i=6 ∨ i=7 ∨ i=8 ∨ i=9 ∨ i=10 ∨ i=11 ∨ i=12 ∨ i=13 ∨ i=14 ∨ i=15 ∨ i=16 ∨ i=17 ∨ i=18 ∨ i=19 ∨ i=20 ∨ i=21 ∨ i=22 ∨ i=23 ∨ i=24 ∨ i=25 ∨ i=26 ∨ i=27 ∨ i=28 ∨ i=29 ∨ i=30 ∨ i=31 ∨ i=32 ∨ i=33 ∨ i=34 ∨ i=35 ∨ i=36 ∨ i=37 ∨ i=38 ∨ i=39 ∨ i=40 ∨ i=41 ∨ i=42 ∨ i=43 ∨ i=44 ∨ i=45 ∨ i=46 ∨ i=47 ∨ i=48 ∨ i=49 ∨ i=50 ∨ i=51 ∨ i=52 ∨ i=53 ∨ i=54 ∨ i=55 ∨ i=56 ∨ i=57 ∨ i=58 ∨ i=59 ∨ i=60 ∨ i=61 ∨ i=62 ∨ i=63 ∨ i=64:=by omega
    clear hi
    rcases hn with rfl | rfl | rfl | rfl | rfl | rfl | rfl | rfl | rfl | rfl | rfl | rfl | rfl | rfl | rfl | rfl | rfl | rfl | rfl | rfl | rfl | rfl | rfl | rfl | rfl | rfl | rfl | rfl | rfl | rfl | rfl | rfl | rfl | rfl | rfl | rfl | rfl | rfl | rfl | rfl | rfl | rfl | rfl | rfl | rfl | rfl | rfl | rfl | rfl | rfl | rfl | rfl | rfl | rfl | rfl | rfl | rfl | rfl | rfl | rfl | rfl | rfl | rfl | rfl | rfl
    ·obtain rfl:=Option.some.inj ho
     clear hall ho
     simp only [hf,cond_true,cond_false]
     refine wpOp_step rfl (fun K hK=>?_)
     go_simp
     exact hK _ _ ⟨x,(by simp only [upd,hf,Nat.reduceBEq,Bool.false_or,Bool.true_or,Bool.not_true,Bool.not_false,Bool.true_and,Bool.false_and,Bool.cond_self,cond_true,cond_false];try rfl),hS⟩
    ·obtain rfl:=Option.some.inj ho
     have e0:fL 0=true:=hall ⟨0,.data⟩ (by simp) rfl
     clear hall ho
     simp only [e0,hf,cond_true,cond_false]
     refine wpOp_step rfl (fun K hK=>?_)
     go_simp
     exact hK _ _ ⟨x,(by simp only [upd,e0,hf,Nat.reduceBEq,Bool.false_or,Bool.true_or,Bool.not_true,Bool.not_false,Bool.true_and,Bool.false_and,Bool.cond_self,cond_true,cond_false];try rfl),hS⟩
    ·obtain rfl:=Option.some.inj ho
     have e1:fL 1=true:=hall ⟨1,.data⟩ (by simp) rfl
     clear hall ho
     have z0:v.cell? ⟨w.heap.size,0,none⟩=some (.int .i64 a.fd):=(hS.hb.cell (p:=⟨w.heap.size,0,none⟩) hXl).trans x0
     have z1:v.cell? ⟨w.heap.size,1,none⟩=some (.int .i64 a.ft):=(hS.hb.cell (p:=⟨w.heap.size,1,none⟩) hXl).trans x1
     have z2:v.cell? ⟨w.heap.size,2,none⟩=some (.string a.nm):=(hS.hb.cell (p:=⟨w.heap.size,2,none⟩) hXl).trans x2
     have z3:v.cell? ⟨w.heap.size,3,none⟩=some (.slice A a.l.length c):=(hS.hb.cell (p:=⟨w.heap.size,3,none⟩) hXl).trans x3
     simp only [e1,hf,cond_true,cond_false]
     refine wpOp_step rfl (fun K hK=>?_)
     go_simp
     exact hK _ _ ⟨x,(by simp only [upd,e1,hf,Nat.reduceBEq,Bool.false_or,Bool.true_or,Bool.not_true,Bool.not_false,Bool.true_and,Bool.false_and,Bool.cond_self,cond_true,cond_false];try rfl),hS⟩
    ·obtain rfl:=Option.some.inj ho
     clear hall ho
     simp only [hf,cond_true,cond_false]
     refine wpOp_step rfl (fun K hK=>?_)
     go_simp
     exact hK _ _ ⟨x,(by simp only [upd,hf,Nat.reduceBEq,Bool.false_or,Bool.true_or,Bool.not_true,Bool.not_false,Bool.true_and,Bool.false_and,Bool.cond_self,cond_true,cond_false];try rfl),hS⟩
    ·obtain rfl:=Option.some.inj ho
     have e3:fL 3=true:=hall ⟨3,.data⟩ (by simp) rfl
     clear hall ho
     simp only [e3,hf,cond_true,cond_false]
     refine wpOp_step rfl (fun K hK=>?_)
     go_simp
     exact hK _ _ ⟨x,(by simp only [upd,e3,hf,Nat.reduceBEq,Bool.false_or,Bool.true_or,Bool.not_true,Bool.not_false,Bool.true_and,Bool.false_and,Bool.cond_self,cond_true,cond_false];try rfl),hS⟩
    ·obtain rfl:=Option.some.inj ho
     have e4:fL 4=true:=hall ⟨4,.data⟩ (by simp) rfl
     clear hall ho
     have z0:v.cell? ⟨w.heap.size+1,0,none⟩=some (.int .i64 b.fd):=(hS.hb.cell (p:=⟨w.heap.size+1,0,none⟩) hYl).trans y0
     have z1:v.cell? ⟨w.heap.size+1,1,none⟩=some (.int .i64 b.ft):=(hS.hb.cell (p:=⟨w.heap.size+1,1,none⟩) hYl).trans y1
     have z2:v.cell? ⟨w.heap.size+1,2,none⟩=some (.string b.nm):=(hS.hb.cell (p:=⟨w.heap.size+1,2,none⟩) hYl).trans y2
     have z3:v.cell? ⟨w.heap.size+1,3,none⟩=some (.slice A' b.l.length c'):=(hS.hb.cell (p:=⟨w.heap.size+1,3,none⟩) hYl).trans y3
     simp only [e4,hf,cond_true,cond_false]
     refine wpOp_step rfl (fun K hK=>?_)
     go_simp
     exact hK _ _ ⟨x,(by simp only [upd,e4,hf,Nat.reduceBEq,Bool.false_or,Bool.true_or,Bool.not_true,Bool.not_false,Bool.true_and,Bool.false_and,Bool.cond_self,cond_true,cond_false];try rfl),hS⟩
    ·obtain rfl:=Option.some.inj ho
     have e2:fL 2=true:=hall ⟨2,.data⟩ (by simp) rfl
     have e5:fL 5=true:=hall ⟨5,.data⟩ (by simp) rfl
     clear hall ho
     simp only [e2,e5,hf,cond_true,cond_false]
     refine wpOp_step rfl (fun K hK=>?_)
     go_simp
     refine Calls.mono ((HF.out v (hW.trans (hS.hb.mono hW.size)))) ?_;rintro e w1 ⟨rfl,hb1⟩
     go_simp
     exact hK _ _ ⟨x,(by simp only [upd,e2,e5,hf,Nat.reduceBEq,Bool.false_or,Bool.true_or,Bool.not_true,Bool.not_false,Bool.true_and,Bool.false_and,Bool.cond_self,cond_true,cond_false];try rfl),hS.below hb1⟩
    ·obtain rfl:=Option.some.inj ho
     clear hall ho
     simp only [hf,cond_true,cond_false]
     refine wpOp_step rfl (fun K hK=>?_)
     go_simp
     exact hK _ _ ⟨x,(by simp only [upd,hf,Nat.reduceBEq,Bool.false_or,Bool.true_or,Bool.not_true,Bool.not_false,Bool.true_and,Bool.false_and,Bool.cond_self,cond_true,cond_false];try rfl),hS⟩
    ·obtain rfl:=Option.some.inj ho
     have e7:fL 7=true:=hall ⟨7,.data⟩ (by simp) rfl
     clear hall ho
     simp only [e7,hf,cond_true,cond_false]
     refine wpOp_step rfl (fun K hK=>?_)
     go_simp
     exact hK _ _ ⟨x,(by simp only [upd,e7,hf,Nat.reduceBEq,Bool.false_or,Bool.true_or,Bool.not_true,Bool.not_false,Bool.true_and,Bool.false_and,Bool.cond_self,cond_true,cond_false];try rfl),hS⟩
    ·obtain rfl:=Option.some.inj ho
     have e8:fL 8=true:=hall ⟨8,.data⟩ (by simp) rfl
     clear hall ho
     have z4:v.cell? ⟨w.heap.size,4,none⟩=some (.int .i64 a.wd):=(hS.hb.cell (p:=⟨w.heap.size,4,none⟩) hXl).trans x4
     simp only [e8,hf,cond_true,cond_false]
     refine wpOp_step rfl (fun K hK=>?_)
     go_simp
     exact hK _ _ ⟨x,(by simp only [upd,e8,hf,Nat.reduceBEq,Bool.false_or,Bool.true_or,Bool.not_true,Bool.not_false,Bool.true_and,Bool.false_and,Bool.cond_self,cond_true,cond_false];try rfl),hS⟩
    ·obtain rfl:=Option.some.inj ho
     clear hall ho
     simp only [hf,cond_true,cond_false]
     refine wpOp_step rfl (fun K hK=>?_)
     go_simp
     exact hK _ _ ⟨x,(by simp only [upd,hf,Nat.reduceBEq,Bool.false_or,Bool.true_or,Bool.not_true,Bool.not_false,Bool.true_and,Bool.false_and,Bool.cond_self,cond_true,cond_false];try rfl),hS⟩
    ·obtain rfl:=Option.some.inj ho
     have e10:fL 10=true:=hall ⟨10,.data⟩ (by simp) rfl
     clear hall ho
     simp only [e10,hf,cond_true,cond_false]
     refine wpOp_step rfl (fun K hK=>?_)
     go_simp
     exact hK _ _ ⟨x,(by simp only [upd,e10,hf,Nat.reduceBEq,Bool.false_or,Bool.true_or,Bool.not_true,Bool.not_false,Bool.true_and,Bool.false_and,Bool.cond_self,cond_true,cond_false];try rfl),hS⟩
    ·obtain rfl:=Option.some.inj ho
     have e11:fL 11=true:=hall ⟨11,.data⟩ (by simp) rfl
     clear hall ho
     have z4:v.cell? ⟨w.heap.size+1,4,none⟩=some (.int .i64 b.wd):=(hS.hb.cell (p:=⟨w.heap.size+1,4,none⟩) hYl).trans y4
     simp only [e11,hf,cond_true,cond_false]
     refine wpOp_step rfl (fun K hK=>?_)
     go_simp
     exact hK _ _ ⟨x,(by simp only [upd,e11,hf,Nat.reduceBEq,Bool.false_or,Bool.true_or,Bool.not_true,Bool.not_false,Bool.true_and,Bool.false_and,Bool.cond_self,cond_true,cond_false];try rfl),hS⟩
    ·obtain rfl:=Option.some.inj ho
     have e9:fL 9=true:=hall ⟨9,.data⟩ (by simp) rfl
     have e12:fL 12=true:=hall ⟨12,.data⟩ (by simp) rfl
     clear hall ho
     simp only [e9,e12,hf,cond_true,cond_false]
     refine wpOp_step rfl (fun K hK=>?_)
     go_simp
     exact hK _ _ ⟨x,(by simp only [upd,e9,e12,hf,Nat.reduceBEq,Bool.false_or,Bool.true_or,Bool.not_true,Bool.not_false,Bool.true_and,Bool.false_and,Bool.cond_self,cond_true,cond_false];try rfl),hS⟩
    ·obtain rfl:=Option.some.inj ho
     clear hall ho
     simp only [hf,cond_true,cond_false]
     refine wpOp_step rfl (fun K hK=>?_)
     go_simp
     exact hK _ _ ⟨x,(by simp only [upd,hf,Nat.reduceBEq,Bool.false_or,Bool.true_or,Bool.not_true,Bool.not_false,Bool.true_and,Bool.false_and,Bool.cond_self,cond_true,cond_false];try rfl),hS⟩
    ·obtain rfl:=Option.some.inj ho
     have e14:fL 14=true:=hall ⟨14,.data⟩ (by simp) rfl
     clear hall ho
     simp only [e14,hf,cond_true,cond_false]
     refine wpOp_step rfl (fun K hK=>?_)
     go_simp
     exact hK _ _ ⟨x,(by simp only [upd,e14,hf,Nat.reduceBEq,Bool.false_or,Bool.true_or,Bool.not_true,Bool.not_false,Bool.true_and,Bool.false_and,Bool.cond_self,cond_true,cond_false];try rfl),hS⟩
    ·obtain rfl:=Option.some.inj ho
     have e15:fL 15=true:=hall ⟨15,.data⟩ (by simp) rfl
     clear hall ho
     have z5:v.cell? ⟨w.heap.size,5,none⟩=some (.int .i64 a.lf):=(hS.hb.cell (p:=⟨w.heap.size,5,none⟩) hXl).trans x5
     simp only [e15,hf,cond_true,cond_false]
     refine wpOp_step rfl (fun K hK=>?_)
     go_simp
     exact hK _ _ ⟨x,(by simp only [upd,e15,hf,Nat.reduceBEq,Bool.false_or,Bool.true_or,Bool.not_true,Bool.not_false,Bool.true_and,Bool.false_and,Bool.cond_self,cond_true,cond_false];try rfl),hS⟩
    ·obtain rfl:=Option.some.inj ho
     clear hall ho
     simp only [hf,cond_true,cond_false]
     refine wpOp_step rfl (fun K hK=>?_)
     go_simp
     exact hK _ _ ⟨x,(by simp only [upd,hf,Nat.reduceBEq,Bool.false_or,Bool.true_or,Bool.not_true,Bool.not_false,Bool.true_and,Bool.false_and,Bool.cond_self,cond_true,cond_false];try rfl),hS⟩
    ·obtain rfl:=Option.some.inj ho
     have e17:fL 17=true:=hall ⟨17,.data⟩ (by simp) rfl
     clear hall ho
     simp only [e17,hf,cond_true,cond_false]
     refine wpOp_step rfl (fun K hK=>?_)
     go_simp
     exact hK _ _ ⟨x,(by simp only [upd,e17,hf,Nat.reduceBEq,Bool.false_or,Bool.true_or,Bool.not_true,Bool.not_false,Bool.true_and,Bool.false_and,Bool.cond_self,cond_true,cond_false];try rfl),hS⟩
    ·obtain rfl:=Option.some.inj ho
     have e18:fL 18=true:=hall ⟨18,.data⟩ (by simp) rfl
     clear hall ho
     have z5:v.cell? ⟨w.heap.size+1,5,none⟩=some (.int .i64 b.lf):=(hS.hb.cell (p:=⟨w.heap.size+1,5,none⟩) hYl).trans y5
     simp only [e18,hf,cond_true,cond_false]
     refine wpOp_step rfl (fun K hK=>?_)
     go_simp
     exact hK _ _ ⟨x,(by simp only [upd,e18,hf,Nat.reduceBEq,Bool.false_or,Bool.true_or,Bool.not_true,Bool.not_false,Bool.true_and,Bool.false_and,Bool.cond_self,cond_true,cond_false];try rfl),hS⟩
    ·obtain rfl:=Option.some.inj ho
     have e16:fL 16=true:=hall ⟨16,.data⟩ (by simp) rfl
     have e19:fL 19=true:=hall ⟨19,.data⟩ (by simp) rfl
     clear hall ho
     simp only [e16,e19,hf,cond_true,cond_false]
     refine wpOp_step rfl (fun K hK=>?_)
     go_simp
     exact hK _ _ ⟨x,(by simp only [upd,e16,e19,hf,Nat.reduceBEq,Bool.false_or,Bool.true_or,Bool.not_true,Bool.not_false,Bool.true_and,Bool.false_and,Bool.cond_self,cond_true,cond_false];try rfl),hS⟩
    ·obtain rfl:=Option.some.inj ho
     have e20:fL 20=true:=hall ⟨20,.data⟩ (by simp) rfl
     clear hall ho
     simp only [e20,hf,cond_true,cond_false]
     refine wpOp_step rfl (fun K hK=>?_)
     go_simp
     exact hK _ _ ⟨x,(by simp only [upd,e20,hf,Nat.reduceBEq,Bool.false_or,Bool.true_or,Bool.not_true,Bool.not_false,Bool.true_and,Bool.false_and,Bool.cond_self,cond_true,cond_false];try rfl),hS⟩
    ·obtain rfl:=Option.some.inj ho
     have e21:fL 21=true:=hall ⟨21,.guard⟩ (by simp) rfl
     clear hall ho
     cases m2
     all_goals
      simp only [e21,hf,cond_true,cond_false]
      refine wpOp_step rfl (fun K hK=>?_)
      go_simp
      exact hK _ _ ⟨x,(by simp only [upd,e21,hf,Nat.reduceBEq,Bool.false_or,Bool.true_or,Bool.not_true,Bool.not_false,Bool.true_and,Bool.false_and,Bool.cond_self,cond_true,cond_false];try rfl),hS⟩
    ·obtain rfl:=Option.some.inj ho
     have e22:fL 22=true:=hall ⟨22,.data⟩ (by simp) rfl
     have e21:fL 21=true:=hall ⟨21,.guard⟩ (by simp) rfl
     clear hall ho
     cases m2
     all_goals
      simp only [e22,e21,hf,cond_true,cond_false]
      refine wpOp_step rfl (fun K hK=>?_)
      go_simp
      exact hK _ _ ⟨x,(by simp only [upd,e22,e21,hf,Nat.reduceBEq,Bool.false_or,Bool.true_or,Bool.not_true,Bool.not_false,Bool.true_and,Bool.false_and,Bool.cond_self,cond_true,cond_false];try rfl),hS⟩
    ·obtain rfl:=Option.some.inj ho
     have e23:fL 23=true:=hall ⟨23,.data⟩ (by simp) rfl
     have e21:fL 21=true:=hall ⟨21,.guard⟩ (by simp) rfl
     clear hall ho
     cases m2
     all_goals
      have z6:v.cell? ⟨w.heap.size,6,none⟩=some (.int .i64 a.rt):=(hS.hb.cell (p:=⟨w.heap.size,6,none⟩) hXl).trans x6
      simp only [e23,e21,hf,cond_true,cond_false]
      refine wpOp_step rfl (fun K hK=>?_)
      go_simp
      exact hK _ _ ⟨x,(by simp only [upd,e23,e21,hf,Nat.reduceBEq,Bool.false_or,Bool.true_or,Bool.not_true,Bool.not_false,Bool.true_and,Bool.false_and,Bool.cond_self,cond_true,cond_false];try rfl),hS⟩
    ·obtain rfl:=Option.some.inj ho
     have e21:fL 21=true:=hall ⟨21,.guard⟩ (by simp) rfl
     clear hall ho
     cases m2
     all_goals
      simp only [e21,hf,cond_true,cond_false]
      refine wpOp_step rfl (fun K hK=>?_)
      go_simp
      exact hK _ _ ⟨x,(by simp only [upd,e21,hf,Nat.reduceBEq,Bool.false_or,Bool.true_or,Bool.not_true,Bool.not_false,Bool.true_and,Bool.false_and,Bool.cond_self,cond_true,cond_false];try rfl),hS⟩
    ·obtain rfl:=Option.some.inj ho
     have e25:fL 25=true:=hall ⟨25,.data⟩ (by simp) rfl
     have e21:fL 21=true:=hall ⟨21,.guard⟩ (by simp) rfl
     clear hall ho
     cases m2
     all_goals
      simp only [e25,e21,hf,cond_true,cond_false]
      refine wpOp_step rfl (fun K hK=>?_)
      go_simp
      exact hK _ _ ⟨x,(by simp only [upd,e25,e21,hf,Nat.reduceBEq,Bool.false_or,Bool.true_or,Bool.not_true,Bool.not_false,Bool.true_and,Bool.false_and,Bool.cond_self,cond_true,cond_false];try rfl),hS⟩
    ·obtain rfl:=Option.some.inj ho
     have e26:fL 26=true:=hall ⟨26,.data⟩ (by simp) rfl
     have e21:fL 21=true:=hall ⟨21,.guard⟩ (by simp) rfl
     clear hall ho
     cases m2
     all_goals
      have z6:v.cell? ⟨w.heap.size+1,6,none⟩=some (.int .i64 b.rt):=(hS.hb.cell (p:=⟨w.heap.size+1,6,none⟩) hYl).trans y6
      simp only [e26,e21,hf,cond_true,cond_false]
      refine wpOp_step rfl (fun K hK=>?_)
      go_simp
      exact hK _ _ ⟨x,(by simp only [upd,e26,e21,hf,Nat.reduceBEq,Bool.false_or,Bool.true_or,Bool.not_true,Bool.not_false,Bool.true_and,Bool.false_and,Bool.cond_self,cond_true,cond_false];try rfl),hS⟩
    ·obtain rfl:=Option.some.inj ho
     have e24:fL 24=true:=hall ⟨24,.data⟩ (by simp) rfl
     have e27:fL 27=true:=hall ⟨27,.data⟩ (by simp) rfl
     have e21:fL 21=true:=hall ⟨21,.guard⟩ (by simp) rfl
     clear hall ho
     cases m2
     all_goals
      simp only [e24,e27,e21,hf,cond_true,cond_false]
      refine wpOp_step rfl (fun K hK=>?_)
      go_simp
      exact hK _ _ ⟨x,(by simp only [upd,e24,e27,e21,hf,Nat.reduceBEq,Bool.false_or,Bool.true_or,Bool.not_true,Bool.not_false,Bool.true_and,Bool.false_and,Bool.cond_self,cond_true,cond_false];try rfl),hS⟩
    ·obtain rfl:=Option.some.inj ho
     have e21:fL 21=true:=hall ⟨21,.data⟩ (by simp) rfl
     have e28:fL 28=true:=hall ⟨28,.data⟩ (by simp) rfl
     clear hall ho
     cases m2
     all_goals
      simp only [e21,e28,hf,cond_true,cond_false]
      refine wpOp_step rfl (fun K hK=>?_)
      go_simp
      exact hK _ _ ⟨x,(by simp only [upd,e21,e28,hf,Nat.reduceBEq,Bool.false_or,Bool.true_or,Bool.not_true,Bool.not_false,Bool.true_and,Bool.false_and,Bool.cond_self,cond_true,cond_false];try rfl),hS⟩
    ·obtain rfl:=Option.some.inj ho
     clear hall ho
     simp only [hf,cond_true,cond_false]
     refine wpOp_step rfl (fun K hK=>?_)
     go_simp
     exact hK _ _ ⟨x,(by simp only [upd,hf,Nat.reduceBEq,Bool.false_or,Bool.true_or,Bool.not_true,Bool.not_false,Bool.true_and,Bool.false_and,Bool.cond_self,cond_true,cond_false];try rfl),hS⟩
    ·obtain rfl:=Option.some.inj ho
     have e30:fL 30=true:=hall ⟨30,.data⟩ (by simp) rfl
     clear hall ho
     have z7:v.cell? ⟨w.heap.size,7,none⟩=some (.int .i64 a.lud):=(hS.hb.cell (p:=⟨w.heap.size,7,none⟩) hXl).trans x7
     have z8:v.cell? ⟨w.heap.size,8,none⟩=some (.int .i64 a.lut):=(hS.hb.cell (p:=⟨w.heap.size,8,none⟩) hXl).trans x8
     simp only [e30,hf,cond_true,cond_false]
     refine wpOp_step rfl (fun K hK=>?_)
     go_simp
     exact hK _ _ ⟨x,(by simp only [upd,e30,hf,Nat.reduceBEq,Bool.false_or,Bool.true_or,Bool.not_true,Bool.not_false,Bool.true_and,Bool.false_and,Bool.cond_self,cond_true,cond_false];try rfl),hS⟩
    ·obtain rfl:=Option.some.inj ho
     clear hall ho
     simp only [hf,cond_true,cond_false]
     refine wpOp_step rfl (fun K hK=>?_)
     go_simp
     exact hK _ _ ⟨x,(by simp only [upd,hf,Nat.reduceBEq,Bool.false_or,Bool.true_or,Bool.not_true,Bool.not_false,Bool.true_and,Bool.false_and,Bool.cond_self,cond_true,cond_false];try rfl),hS⟩
    ·obtain rfl:=Option.some.inj ho
     have e32:fL 32=true:=hall ⟨32,.data⟩ (by simp) rfl
     clear hall ho
     have z7:v.cell? ⟨w.heap.size+1,7,none⟩=some (.int .i64 b.lud):=(hS.hb.cell (p:=⟨w.heap.size+1,7,none⟩) hYl).trans y7
     have z8:v.cell? ⟨w.heap.size+1,8,none⟩=some (.int .i64 b.lut):=(hS.hb.cell (p:=⟨w.heap.size+1,8,none⟩) hYl).trans y8
     simp only [e32,hf,cond_true,cond_false]
     refine wpOp_step rfl (fun K hK=>?_)
     go_simp
     exact hK _ _ ⟨x,(by simp only [upd,e32,hf,Nat.reduceBEq,Bool.false_or,Bool.true_or,Bool.not_true,Bool.not_false,Bool.true_and,Bool.false_and,Bool.cond_self,cond_true,cond_false];try rfl),hS⟩
    ·obtain rfl:=Option.some.inj ho
     have e31:fL 31=true:=hall ⟨31,.data⟩ (by simp) rfl
     have e33:fL 33=true:=hall ⟨33,.data⟩ (by simp) rfl
     clear hall ho
     simp only [e31,e33,hf,cond_true,cond_false]
     refine wpOp_step rfl (fun K hK=>?_)
     go_simp
     exact hK _ _ ⟨x,(by simp only [upd,e31,e33,hf,Nat.reduceBEq,Bool.false_or,Bool.true_or,Bool.not_true,Bool.not_false,Bool.true_and,Bool.false_and,Bool.cond_self,cond_true,cond_false];try rfl),hS⟩
    ·obtain rfl:=Option.some.inj ho
     have e34:fL 34=true:=hall ⟨34,.data⟩ (by simp) rfl
     clear hall ho
     simp only [e34,hf,cond_true,cond_false]
     refine wpOp_step rfl (fun K hK=>?_)
     go_simp
     exact hK _ _ ⟨x,(by simp only [upd,e34,hf,Nat.reduceBEq,Bool.false_or,Bool.true_or,Bool.not_true,Bool.not_false,Bool.true_and,Bool.false_and,Bool.cond_self,cond_true,cond_false];try rfl),hS⟩
    ·obtain rfl:=Option.some.inj ho
     have e35:fL 35=true:=hall ⟨35,.guard⟩ (by simp) rfl
     clear hall ho
     cases f0
     all_goals
      simp only [e35,hf,cond_true,cond_false]
      refine wpOp_step rfl (fun K hK=>?_)
      go_simp
      exact hK _ _ ⟨x,(by simp only [upd,e35,hf,Nat.reduceBEq,Bool.false_or,Bool.true_or,Bool.not_true,Bool.not_false,Bool.true_and,Bool.false_and,Bool.cond_self,cond_true,cond_false];try rfl),hS⟩
    ·obtain rfl:=Option.some.inj ho
     have e36:fL 36=true:=hall ⟨36,.data⟩ (by simp) rfl
     have e35:fL 35=true:=hall ⟨35,.guard⟩ (by simp) rfl
     clear hall ho
     cases f0
     all_goals
      have z9:v.cell? ⟨w.heap.size,9,none⟩=some (.int .i64 a.hud):=(hS.hb.cell (p:=⟨w.heap.size,9,none⟩) hXl).trans x9
      have z10:v.cell? ⟨w.heap.size,10,none⟩=some (.int .i64 a.hut):=(hS.hb.cell (p:=⟨w.heap.size,10,none⟩) hXl).trans x10
      simp only [e36,e35,hf,cond_true,cond_false]
      refine wpOp_step rfl (fun K hK=>?_)
      go_simp
      exact hK _ _ ⟨x,(by simp only [upd,e36,e35,hf,Nat.reduceBEq,Bool.false_or,Bool.true_or,Bool.not_true,Bool.not_false,Bool.true_and,Bool.false_and,Bool.cond_self,cond_true,cond_false];try rfl),hS⟩
    ·obtain rfl:=Option.some.inj ho
     have e35:fL 35=true:=hall ⟨35,.guard⟩ (by simp) rfl
     clear hall ho
     cases f0
     all_goals
      simp only [e35,hf,cond_true,cond_false]
      refine wpOp_step rfl (fun K hK=>?_)
      go_simp
      exact hK _ _ ⟨x,(by simp only [upd,e35,hf,Nat.reduceBEq,Bool.false_or,Bool.true_or,Bool.not_true,Bool.not_false,Bool.true_and,Bool.false_and,Bool.cond_self,cond_true,cond_false];try rfl),hS⟩
    ·obtain rfl:=Option.some.inj ho
     have e38:fL 38=true:=hall ⟨38,.data⟩ (by simp) rfl
     have e35:fL 35=true:=hall ⟨35,.guard⟩ (by simp) rfl
     clear hall ho
     cases f0
     all_goals
      have z9:v.cell? ⟨w.heap.size+1,9,none⟩=some (.int .i64 b.hud):=(hS.hb.cell (p:=⟨w.heap.size+1,9,none⟩) hYl).trans y9
      have z10:v.cell? ⟨w.heap.size+1,10,none⟩=some (.int .i64 b.hut):=(hS.hb.cell (p:=⟨w.heap.size+1,10,none⟩) hYl).trans y10
      simp only [e38,e35,hf,cond_true,cond_false]
      refine wpOp_step rfl (fun K hK=>?_)
      go_simp
      exact hK _ _ ⟨x,(by simp only [upd,e38,e35,hf,Nat.reduceBEq,Bool.false_or,Bool.true_or,Bool.not_true,Bool.not_false,Bool.true_and,Bool.false_and,Bool.cond_self,cond_true,cond_false];try rfl),hS⟩
    ·obtain rfl:=Option.some.inj ho
     have e37:fL 37=true:=hall ⟨37,.data⟩ (by simp) rfl
     have e39:fL 39=true:=hall ⟨39,.data⟩ (by simp) rfl
     have e35:fL 35=true:=hall ⟨35,.guard⟩ (by simp) rfl
     clear hall ho
     cases f0
     all_goals
      simp only [e37,e39,e35,hf,cond_true,cond_false]
      refine wpOp_step rfl (fun K hK=>?_)
      go_simp
      exact hK _ _ ⟨x,(by simp only [upd,e37,e39,e35,hf,Nat.reduceBEq,Bool.false_or,Bool.true_or,Bool.not_true,Bool.not_false,Bool.true_and,Bool.false_and,Bool.cond_self,cond_true,cond_false];try rfl),hS⟩
    ·obtain rfl:=Option.some.inj ho
     have e35:fL 35=true:=hall ⟨35,.data⟩ (by simp) rfl
     have e40:fL 40=true:=hall ⟨40,.data⟩ (by simp) rfl
     clear hall ho
     cases f0
     all_goals
      simp only [e35,e40,hf,cond_true,cond_false]
      refine wpOp_step rfl (fun K hK=>?_)
      go_simp
      exact hK _ _ ⟨x,(by simp only [upd,e35,e40,hf,Nat.reduceBEq,Bool.false_or,Bool.true_or,Bool.not_true,Bool.not_false,Bool.true_and,Bool.false_and,Bool.cond_self,cond_true,cond_false];try rfl),hS⟩
    ·obtain rfl:=Option.some.inj ho
     clear hall ho
     simp only [hf,cond_true,cond_false]
     refine wpOp_step rfl (fun K hK=>?_)
     go_simp
     exact hK _ _ ⟨x,(by simp only [upd,hf,Nat.reduceBEq,Bool.false_or,Bool.true_or,Bool.not_true,Bool.not_false,Bool.true_and,Bool.false_and,Bool.cond_self,cond_true,cond_false];try rfl),hS⟩
    ·obtain rfl:=Option.some.inj ho
     have e42:fL 42=true:=hall ⟨42,.data⟩ (by simp) rfl
     clear hall ho
     have z11:v.cell? ⟨w.heap.size,11,none⟩=some (.int .i64 a.lvd):=(hS.hb.cell (p:=⟨w.heap.size,11,none⟩) hXl).trans x11
     have z12:v.cell? ⟨w.heap.size,12,none⟩=some (.int .i64 a.lvt):=(hS.hb.cell (p:=⟨w.heap.size,12,none⟩) hXl).trans x12
     simp only [e42,hf,cond_true,cond_false]
     refine wpOp_step rfl (fun K hK=>?_)
     go_simp
     exact hK _ _ ⟨x,(by simp only [upd,e42,hf,Nat.reduceBEq,Bool.false_or,Bool.true_or,Bool.not_true,Bool.not_false,Bool.true_and,Bool.false_and,Bool.cond_self,cond_true,cond_false];try rfl),hS⟩
    ·obtain rfl:=Option.some.inj ho
     clear hall ho
     simp only [hf,cond_true,cond_false]
     refine wpOp_step rfl (fun K hK=>?_)
     go_simp
     exact hK _ _ ⟨x,(by simp only [upd,hf,Nat.reduceBEq,Bool.false_or,Bool.true_or,Bool.not_true,Bool.not_false,Bool.true_and,Bool.false_and,Bool.cond_self,cond_true,cond_false];try rfl),hS⟩
    ·obtain rfl:=Option.some.inj ho
     have e44:fL 44=true:=hall ⟨44,.data⟩ (by simp) rfl
     clear hall ho
     have z11:v.cell? ⟨w.heap.size+1,11,none⟩=some (.int .i64 b.lvd):=(hS.hb.cell (p:=⟨w.heap.size+1,11,none⟩) hYl).trans y11
     have z12:v.cell? ⟨w.heap.size+1,12,none⟩=some (.int .i64 b.lvt):=(hS.hb.cell (p:=⟨w.heap.size+1,12,none⟩) hYl).trans y12
     simp only [e44,hf,cond_true,cond_false]
     refine wpOp_step rfl (fun K hK=>?_)
     go_simp
     exact hK _ _ ⟨x,(by simp only [upd,e44,hf,Nat.reduceBEq,Bool.false_or,Bool.true_or,Bool.not_true,Bool.not_false,Bool.true_and,Bool.false_and,Bool.cond_self,cond_true,cond_false];try rfl),hS⟩
    ·obtain rfl:=Option.some.inj ho
     have e43:fL 43=true:=hall ⟨43,.data⟩ (by simp) rfl
     have e45:fL 45=true:=hall ⟨45,.data⟩ (by simp) rfl
     clear hall ho
     simp only [e43,e45,hf,cond_true,cond_false]
     refine wpOp_step rfl (fun K hK=>?_)
     go_simp
     exact hK _ _ ⟨x,(by simp only [upd,e43,e45,hf,Nat.reduceBEq,Bool.false_or,Bool.true_or,Bool.not_true,Bool.not_false,Bool.true_and,Bool.false_and,Bool.cond_self,cond_true,cond_false];try rfl),hS⟩
    ·obtain rfl:=Option.some.inj ho
     have e46:fL 46=true:=hall ⟨46,.data⟩ (by simp) rfl
     clear hall ho
     simp only [e46,hf,cond_true,cond_false]
     refine wpOp_step rfl (fun K hK=>?_)
     go_simp
     exact hK _ _ ⟨x,(by simp only [upd,e46,hf,Nat.reduceBEq,Bool.false_or,Bool.true_or,Bool.not_true,Bool.not_false,Bool.true_and,Bool.false_and,Bool.cond_self,cond_true,cond_false];try rfl),hS⟩
    ·obtain rfl:=Option.some.inj ho
     have e47:fL 47=true:=hall ⟨47,.guard⟩ (by simp) rfl
     clear hall ho
     cases f2
     all_goals
      simp only [e47,hf,cond_true,cond_false]
      refine wpOp_step rfl (fun K hK=>?_)
      go_simp
      exact hK _ _ ⟨x,(by simp only [upd,e47,hf,Nat.reduceBEq,Bool.false_or,Bool.true_or,Bool.not_true,Bool.not_false,Bool.true_and,Bool.false_and,Bool.cond_self,cond_true,cond_false];try rfl),hS⟩
    ·obtain rfl:=Option.some.inj ho
     have e48:fL 48=true:=hall ⟨48,.data⟩ (by simp) rfl
     have e47:fL 47=true:=hall ⟨47,.guard⟩ (by simp) rfl
     clear hall ho
     cases f2
     all_goals
      have z13:v.cell? ⟨w.heap.size,13,none⟩=some (.int .i64 a.hvd):=(hS.hb.cell (p:=⟨w.heap.size,13,none⟩) hXl).trans x13
      have z14:v.cell? ⟨w.heap.size,14,none⟩=some (.int .i64 a.hvt):=(hS.hb.cell (p:=⟨w.heap.size,14,none⟩) hXl).trans x14
      simp only [e48,e47,hf,cond_true,cond_false]
      refine wpOp_step rfl (fun K hK=>?_)
      go_simp
      exact hK _ _ ⟨x,(by simp only [upd,e48,e47,hf,Nat.reduceBEq,Bool.false_or,Bool.true_or,Bool.not_true,Bool.not_false,Bool.true_and,Bool.false_and,Bool.cond_self,cond_true,cond_false];try rfl),hS⟩
    ·obtain rfl:=Option.some.inj ho
     have e47:fL 47=true:=hall ⟨47,.guard⟩ (by simp) rfl
     clear hall ho
     cases f2
     all_goals
      simp only [e47,hf,cond_true,cond_false]
      refine wpOp_step rfl (fun K hK=>?_)
      go_simp
      exact hK _ _ ⟨x,(by simp only [upd,e47,hf,Nat.reduceBEq,Bool.false_or,Bool.true_or,Bool.not_true,Bool.not_false,Bool.true_and,Bool.false_and,Bool.cond_self,cond_true,cond_false];try rfl),hS⟩
    ·obtain rfl:=Option.some.inj ho
     have e50:fL 50=true:=hall ⟨50,.data⟩ (by simp) rfl
     have e47:fL 47=true:=hall ⟨47,.guard⟩ (by simp) rfl
     clear hall ho
     cases f2
     all_goals
      have z13:v.cell? ⟨w.heap.size+1,13,none⟩=some (.int .i64 b.hvd):=(hS.hb.cell (p:=⟨w.heap.size+1,13,none⟩) hYl).trans y13
      have z14:v.cell? ⟨w.heap.size+1,14,none⟩=some (.int .i64 b.hvt):=(hS.hb.cell (p:=⟨w.heap.size+1,14,none⟩) hYl).trans y14
      simp only [e50,e47,hf,cond_true,cond_false]
      refine wpOp_step rfl (fun K hK=>?_)
      go_simp
      exact hK _ _ ⟨x,(by simp only [upd,e50,e47,hf,Nat.reduceBEq,Bool.false_or,Bool.true_or,Bool.not_true,Bool.not_false,Bool.true_and,Bool.false_and,Bool.cond_self,cond_true,cond_false];try rfl),hS⟩
    ·obtain rfl:=Option.some.inj ho
     have e49:fL 49=true:=hall ⟨49,.data⟩ (by simp) rfl
     have e51:fL 51=true:=hall ⟨51,.data⟩ (by simp) rfl
     have e47:fL 47=true:=hall ⟨47,.guard⟩ (by simp) rfl
     clear hall ho
     cases f2
     all_goals
      simp only [e49,e51,e47,hf,cond_true,cond_false]
      refine wpOp_step rfl (fun K hK=>?_)
      go_simp
      exact hK _ _ ⟨x,(by simp only [upd,e49,e51,e47,hf,Nat.reduceBEq,Bool.false_or,Bool.true_or,Bool.not_true,Bool.not_false,Bool.true_and,Bool.false_and,Bool.cond_self,cond_true,cond_false];try rfl),hS⟩
    ·obtain rfl:=Option.some.inj ho
     have e47:fL 47=true:=hall ⟨47,.data⟩ (by simp) rfl
     have e52:fL 52=true:=hall ⟨52,.data⟩ (by simp) rfl
     clear hall ho
     cases f2
     all_goals
      simp only [e47,e52,hf,cond_true,cond_false]
      refine wpOp_step rfl (fun K hK=>?_)
      go_simp
      exact hK _ _ ⟨x,(by simp only [upd,e47,e52,hf,Nat.reduceBEq,Bool.false_or,Bool.true_or,Bool.not_true,Bool.not_false,Bool.true_and,Bool.false_and,Bool.cond_self,cond_true,cond_false];try rfl),hS⟩
    ·obtain rfl:=Option.some.inj ho
     clear hall ho
     simp only [hf,cond_true,cond_false]
     refine wpOp_step rfl (fun K hK=>?_)
     go_simp
     exact hK _ _ ⟨x,(by simp only [upd,hf,Nat.reduceBEq,Bool.false_or,Bool.true_or,Bool.not_true,Bool.not_false,Bool.true_and,Bool.false_and,Bool.cond_self,cond_true,cond_false];try rfl),hS⟩
    ·obtain rfl:=Option.some.inj ho
     have e54:fL 54=true:=hall ⟨54,.data⟩ (by simp) rfl
     clear hall ho
     have z15:v.cell? ⟨w.heap.size,15,none⟩=some (.int .i64 a.ey):=(hS.hb.cell (p:=⟨w.heap.size,15,none⟩) hXl).trans x15
     simp only [e54,hf,cond_true,cond_false]
     refine wpOp_step rfl (fun K hK=>?_)
     go_simp
     exact hK _ _ ⟨x,(by simp only [upd,e54,hf,Nat.reduceBEq,Bool.false_or,Bool.true_or,Bool.not_true,Bool.not_false,Bool.true_and,Bool.false_and,Bool.cond_self,cond_true,cond_false];try rfl),hS⟩
    ·obtain rfl:=Option.some.inj ho
     clear hall ho
     simp only [hf,cond_true,cond_false]
     refine wpOp_step rfl (fun K hK=>?_)
     go_simp
     exact hK _ _ ⟨x,(by simp only [upd,hf,Nat.reduceBEq,Bool.false_or,Bool.true_or,Bool.not_true,Bool.not_false,Bool.true_and,Bool.false_and,Bool.cond_self,cond_true,cond_false];try rfl),hS⟩
    ·obtain rfl:=Option.some.inj ho
     have e56:fL 56=true:=hall ⟨56,.data⟩ (by simp) rfl
     clear hall ho
     have z15:v.cell? ⟨w.heap.size+1,15,none⟩=some (.int .i64 b.ey):=(hS.hb.cell (p:=⟨w.heap.size+1,15,none⟩) hYl).trans y15
     simp only [e56,hf,cond_true,cond_false]
     refine wpOp_step rfl (fun K hK=>?_)
     go_simp
     exact hK _ _ ⟨x,(by simp only [upd,e56,hf,Nat.reduceBEq,Bool.false_or,Bool.true_or,Bool.not_true,Bool.not_false,Bool.true_and,Bool.false_and,Bool.cond_self,cond_true,cond_false];try rfl),hS⟩
    ·obtain rfl:=Option.some.inj ho
     have e55:fL 55=true:=hall ⟨55,.data⟩ (by simp) rfl
     have e57:fL 57=true:=hall ⟨57,.data⟩ (by simp) rfl
     clear hall ho
     simp only [e55,e57,hf,cond_true,cond_false]
     refine wpOp_step rfl (fun K hK=>?_)
     go_simp
     exact hK _ _ ⟨x,(by simp only [upd,e55,e57,hf,Nat.reduceBEq,Bool.false_or,Bool.true_or,Bool.not_true,Bool.not_false,Bool.true_and,Bool.false_and,Bool.cond_self,cond_true,cond_false];try rfl),hS⟩
    ·obtain rfl:=Option.some.inj ho
     clear hall ho
     simp only [hf,cond_true,cond_false]
     refine wpOp_step rfl (fun K hK=>?_)
     go_simp
     exact hK _ _ ⟨x,(by simp only [upd,hf,Nat.reduceBEq,Bool.false_or,Bool.true_or,Bool.not_true,Bool.not_false,Bool.true_and,Bool.false_and,Bool.cond_self,cond_true,cond_false];try rfl),hS⟩
    ·obtain rfl:=Option.some.inj ho
     have e59:fL 59=true:=hall ⟨59,.data⟩ (by simp) rfl
     clear hall ho
     have z16:v.cell? ⟨w.heap.size,16,none⟩=some (.int .i64 a.bo):=(hS.hb.cell (p:=⟨w.heap.size,16,none⟩) hXl).trans x16
     simp only [e59,hf,cond_true,cond_false]
     refine wpOp_step rfl (fun K hK=>?_)
     go_simp
     exact hK _ _ ⟨x,(by simp only [upd,e59,hf,Nat.reduceBEq,Bool.false_or,Bool.true_or,Bool.not_true,Bool.not_false,Bool.true_and,Bool.false_and,Bool.cond_self,cond_true,cond_false];try rfl),hS⟩
    ·obtain rfl:=Option.some.inj ho
     clear hall ho
     simp only [hf,cond_true,cond_false]
     refine wpOp_step rfl (fun K hK=>?_)
     go_simp
     exact hK _ _ ⟨x,(by simp only [upd,hf,Nat.reduceBEq,Bool.false_or,Bool.true_or,Bool.not_true,Bool.not_false,Bool.true_and,Bool.false_and,Bool.cond_self,cond_true,cond_false];try rfl),hS⟩
    ·obtain rfl:=Option.some.inj ho
     have e61:fL 61=true:=hall ⟨61,.data⟩ (by simp) rfl
     clear hall ho
     have z16:v.cell? ⟨w.heap.size+1,16,none⟩=some (.int .i64 b.bo):=(hS.hb.cell (p:=⟨w.heap.size+1,16,none⟩) hYl).trans y16
     simp only [e61,hf,cond_true,cond_false]
     refine wpOp_step rfl (fun K hK=>?_)
     go_simp
     exact hK _ _ ⟨x,(by simp only [upd,e61,hf,Nat.reduceBEq,Bool.false_or,Bool.true_or,Bool.not_true,Bool.not_false,Bool.true_and,Bool.false_and,Bool.cond_self,cond_true,cond_false];try rfl),hS⟩
    ·obtain rfl:=Option.some.inj ho
     have e60:fL 60=true:=hall ⟨60,.data⟩ (by simp) rfl
     have e62:fL 62=true:=hall ⟨62,.data⟩ (by simp) rfl
     clear hall ho
     simp only [e60,e62,hf,cond_true,cond_false]
     refine wpOp_step rfl (fun K hK=>?_)
     go_simp
     exact hK _ _ ⟨x,(by simp only [upd,e60,e62,hf,Nat.reduceBEq,Bool.false_or,Bool.true_or,Bool.not_true,Bool.not_false,Bool.true_and,Bool.false_and,Bool.cond_self,cond_true,cond_false];try rfl),hS⟩
    ·obtain rfl:=Option.some.inj ho
     have e6:fL 6=true:=hall ⟨6,.data⟩ (by simp) rfl
     have e13:fL 13=true:=hall ⟨13,.data⟩ (by simp) rfl
     have e29:fL 29=true:=hall ⟨29,.data⟩ (by simp) rfl
     have e41:fL 41=true:=hall ⟨41,.data⟩ (by simp) rfl
     have e53:fL 53=true:=hall ⟨53,.data⟩ (by simp) rfl
     have e58:fL 58=true:=hall ⟨58,.data⟩ (by simp) rfl
     have e63:fL 63=true:=hall ⟨63,.data⟩ (by simp) rfl
     clear hall ho
     simp only [e6,e13,e29,e41,e53,e58,e63,hf,cond_true,cond_false]
     refine wpOp_step rfl (fun K hK=>?_)
     go_simp
     exact hK _ _ ⟨_,(by simp only [upd,e6,e13,e29,e41,e53,e58,e63,hf,Nat.reduceBEq,Bool.false_or,Bool.true_or,Bool.not_true,Bool.not_false,Bool.true_and,Bool.false_and,Bool.cond_self,cond_true,cond_false];try rfl),hS.new⟩
   ·rintro fL x v hS hall
    have e0:fL 0=true:=hall 0 (by omega)
    have e1:fL 1=true:=hall 1 (by omega)
    have e2:fL 2=true:=hall 2 (by omega)
    have e3:fL 3=true:=hall 3 (by omega)
    have e4:fL 4=true:=hall 4 (by omega)
    have e5:fL 5=true:=hall 5 (by omega)
    have e6:fL 6=true:=hall 6 (by omega)
    have e7:fL 7=true:=hall 7 (by omega)
    have e8:fL 8=true:=hall 8 (by omega)
    have e9:fL 9=true:=hall 9 (by omega)
    have e10:fL 10=true:=hall 10 (by omega)
    have e11:fL 11=true:=hall 11 (by omega)
    have e12:fL 12=true:=hall 12 (by omega)
    have e13:fL 13=true:=hall 13 (by omega)
    have e14:fL 14=true:=hall 14 (by omega)
    have e15:fL 15=true:=hall 15 (by omega)
    have e16:fL 16=true:=hall 16 (by omega)
    have e17:fL 17=true:=hall 17 (by omega)
    have e18:fL 18=true:=hall 18 (by omega)
    have e19:fL 19=true:=hall 19 (by omega)
    have e20:fL 20=true:=hall 20 (by omega)
    have e21:fL 21=true:=hall 21 (by omega)
    have e22:fL 22=true:=hall 22 (by omega)
    have e23:fL 23=true:=hall 23 (by omega)
    have e24:fL 24=true:=hall 24 (by omega)
    have e25:fL 25=true:=hall 25 (by omega)
    have e26:fL 26=true:=hall 26 (by omega)
    have e27:fL 27=true:=hall 27 (by omega)
    have e28:fL 28=true:=hall 28 (by omega)
    have e29:fL 29=true:=hall 29 (by omega)
    have e30:fL 30=true:=hall 30 (by omega)
    have e31:fL 31=true:=hall 31 (by omega)
    have e32:fL 32=true:=hall 32 (by omega)
    have e33:fL 33=true:=hall 33 (by omega)
    have e34:fL 34=true:=hall 34 (by omega)
    have e35:fL 35=true:=hall 35 (by omega)
    have e36:fL 36=true:=hall 36 (by omega)
    have e37:fL 37=true:=hall 37 (by omega)
    have e38:fL 38=true:=hall 38 (by omega)
    have e39:fL 39=true:=hall 39 (by omega)
    have e40:fL 40=true:=hall 40 (by omega)
    have e41:fL 41=true:=hall 41 (by omega)
    have e42:fL 42=true:=hall 42 (by omega)
    have e43:fL 43=true:=hall 43 (by omega)
    have e44:fL 44=true:=hall 44 (by omega)
    have e45:fL 45=true:=hall 45 (by omega)
    have e46:fL 46=true:=hall 46 (by omega)
    have e47:fL 47=true:=hall 47 (by omega)
    have e48:fL 48=true:=hall 48 (by omega)
    have e49:fL 49=true:=hall 49 (by omega)
    have e50:fL 50=true:=hall 50 (by omega)
    have e51:fL 51=true:=hall 51 (by omega)
    have e52:fL 52=true:=hall 52 (by omega)
    have e53:fL 53=true:=hall 53 (by omega)
    have e54:fL 54=true:=hall 54 (by omega)
    have e55:fL 55=true:=hall 55 (by omega)
    have e56:fL 56=true:=hall 56 (by omega)
    have e57:fL 57=true:=hall 57 (by omega)
    have e58:fL 58=true:=hall 58 (by omega)
    have e59:fL 59=true:=hall 59 (by omega)
    have e60:fL 60=true:=hall 60 (by omega)
    have e61:fL 61=true:=hall 61 (by omega)
    have e62:fL 62=true:=hall 62 (by omega)
    have e63:fL 63=true:=hall 63 (by omega)
    have e64:fL 64=true:=hall 64 (by omega)
    simp only [e0,e1,e2,e3,e4,e5,e6,e7,e8,e9,e10,e11,e12,e13,e14,e15,e16,e17,e18,e19,e20,e21,e22,e23,e24,e25,e26,e27,e28,e29,e30,e31,e32,e33,e34,e35,e36,e37,e38,e39,e40,e41,e42,e43,e44,e45,e46,e47,e48,e49,e50,e51,e52,e53,e54,e55,e56,e57,e58,e59,e60,e61,e62,e63,e64,cond_true,List.drop_succ_cons,List.drop_zero]
    clear hall
    obtain ⟨g,rfl,hg,BB⟩:=hS.sl e64
    replace hW:=hW.trans (hS.hb.mono hW.size)
    clear hS x0 y0 x1 y1 x2 y2 x3 y3 x4 y4 x5 y5 x6 y6 x7 y7 x8 y8 x9 y9 x10 y10 x11 y11 x12 y12 x13 y13 x14 y14 x15 y15 x16 y16 X Y HF hXl hYl hg
    have hgs:Hid (∀ wr,Blk wr g 4 #[.bool m0,.bool m1,.bool (m2 && m3),.bool (f0 && f1),.bool (f2 && f3),.bool m4,.bool m5]→∀ k,k < 7→wr.cell? ⟨g,k,none⟩=some (.bool (D.getD k true))):=Lib.hid (fun wr hB k hk=>bools_at hB D (by rw [hAl.out];first | rfl | simp [Bool.not_and]) (by rw [hlD.out];exact hk))
    have hgl:=BB.lt
    have hws:=hW.size
    have L0:CgL w g 4 #[.bool m0,.bool m1,.bool (m2 && m3),.bool (f0 && f1),.bool (f2 && f3),.bool m4,.bool m5] 2 [] (.slice (some ⟨v.heap.size,0,none⟩) 0 0) (v.alloc (.cells #[] 2)) :=
     ⟨(by repeat first | with_reducible (first | exact hW | apply below_drewN' | apply Below.drew | refine Below.alloc ?_ ?_ _ | refine Below.setCell ?_ ?_ _) | exact hW | omega | (simp <;> omega) | (have:=(hW).size;first | omega | (simp <;> omega))),BB.alloc _,by simp [Value.ownBlock];omega,Own.empty (w:=v) (base:=w.heap.size) (e:=2) (k:=1) hws⟩
    clear BB hW hAl
    generalize hcs:(#[.bool m0,.bool m1,.bool (m2 && m3),.bool (f0 && f1),.bool (f2 && f3),.bool m4,.bool m5]:Array Value)=gs at L0 hgs
    clear hcs
    go_wp2_with fail
    go_loopw [7,8] (fun o i wr=>∃ k:Nat,k ≤ 7∧i=.int .i64 k∧CgL w g 4 gs 2 ((idxN D k).map ic) o wr) (fun _ i _=>7 - (intOf i).toNat)
    case atStart=>exact ⟨0,Nat.zero_le _,rfl,L0⟩
    case round =>
     clear L0
     obtain ⟨k,hk,rfl,hL⟩:=hrel
     by_cases hlt:k < 7
     ·have y0:=hgs.out wr hL.fg k hlt
      have hln:=idxN_len D k
      have hsz:=hL.hb.size
      cases hx:D.getD k true with
      | false =>
       rw [hx] at y0
       have hnx:Hid (idxN D (k+1)=idxN D k ++ [(k:Int)]):=Lib.hid (by show (if D.getD k true=false then _ else _)=_;rw [if_pos hx])
       clear hx
       replace hln:=Lib.hid hln
       try simp only [Bool.not_false] at y0
       go_wp2_with (at_builtin;refine wpList_append_rows _ rfl _ _ _ rfl w.heap.size 2 i0 _ 1 8 Tryz.underlying27 hi hz0 hz1 hz2 rfl (by omega) _ _ rfl (hL.o.alloc _) _ _ _ _ ([(k:Int)].map ic) rfl rfl (Sl.ints _ _ [(k:Int)] rfl rfl) (ic_one (x:=[(k:Int)])) (by simp;have:=hln.out;unfold maxLen;omega) (by simp;have:=hln.out;omega) (by first | omega | (simp only [];omega) | (simp;omega)) ?_;intro v1 w2 hO2 hg2 hat;have hL2:=(hL.alloc _).app hg2 hO2 hat)
       go_roundw
       case rel=>exact ⟨k+1,by omega,by go_num,by rw [hnx.out,List.map_append];exact hL2⟩
       case measure=>simp [intOf];omega
      | true =>
       rw [hx] at y0
       have hnx:Hid (idxN D (k+1)=idxN D k):=Lib.hid (by show (if D.getD k true=false then _ else _)=_;rw [if_neg (by rw [hx];simp)])
       clear hx
       try simp only [Bool.not_true] at y0
       go_wp2
       go_roundw
       case rel=>exact ⟨k+1,by omega,by go_num,by rw [hnx.out];exact hL⟩
       case measure=>simp [intOf];omega
     ·have:k=7:=by omega
      subst this
      have hO:=hL.o
      have hbw:=hL.hb
      clear hL
      obtain ⟨A9,c9,hv,_⟩:=hO.form
      rw [List.length_map] at hv
      subst hv
      go_wp2
      go_ret2
      exact ⟨A9,c9,rfl,hO,hbw⟩
end Go.Proofs.YtednjmldjbndhaaGreatDoor
