/- Whether moves are valid, and the number of settings: the reference's. Condition: the list's length. The span of a plan's result: the reference's. Conditions: the chain and the rule are valid. Whether an exercise is valid: the program's. Conditions: the lists' lengths. -/
import Derived.Test.YtednjmldjbndhaaGreatKGr16
import Derived.Test.YtednjmldjbndhaaGreatKGr18
set_option linter.unusedSimpArgs false
set_option linter.unusedVariables false
set_option maxRecDepth 100000
set_option maxHeartbeats 8000000
namespace Go.Proofs.YtednjmldjbndhaaGreat
open Go.RowKit
def movesCode (l:List Move):Int:=if l.all moveB then (if 30 < l.length then 3 else 0) else 1
theorem l12Code_c (A:Option Addr) (c:Nat) (l:List Move) (w:World) (hl:l.length ≤ 140737488351232) (hs:Sl w w.heap.size 4 A (l.map Move.cells)) :
  Calls Tryz.prog 165 #[.slice A l.length c] w fun e w'=>e=.returned (.int .i64 (movesCode l))∧Below w.heap.size w w':=by
 have HI:=fun m W=>Lib.hid (l12Is_c (Move.kind m) m.scale m.digits m.tens W)
 go_enter Tryz.func165,Tryz.ntmps165
 go_wp2_with fail
 go_loopw [3] (fun i wr=>∃ k:Nat,k ≤ l.length∧i=.int .i64 k∧Hid ((l.take k).all moveB=true)∧Below w.heap.size w wr) (fun i _=>l.length - (intOf i).toNat)
 case atStart=>exact ⟨0,Nat.zero_le _,rfl,(show (l.take 0).all moveB=true by simp),Below.refl _ _⟩
 case round =>
  obtain ⟨k,hk,rfl,hok,hb⟩:=hrel
  by_cases hlt:k < l.length
  ·obtain ⟨b,off,rfl,hbB,hc⟩:=hs.at_ (i:=k) (by simpa using hlt)
   simp only [List.getElem_map] at hc
   have c0:wr.cell? ⟨b,off+k * 4,none⟩=some (.int .i64 l[k].kind):=by rw [hb.cell hbB];exact hc 0 _ rfl
   have c1:wr.cell? ⟨b,off+k * 4+1,none⟩=some (.int .i64 l[k].scale):=by rw [hb.cell hbB];exact hc 1 _ rfl
   have c2:wr.cell? ⟨b,off+k * 4+2,none⟩=some (.int .i64 l[k].digits):=by rw [hb.cell hbB];exact hc 2 _ rfl
   have c3:wr.cell? ⟨b,off+k * 4+3,none⟩=some (.int .i64 l[k].tens):=by rw [hb.cell hbB];exact hc 3 _ rfl
   clear hc
   have hI:=HI l[k]
   have Hnx:Hid ((l.take (k+1)).all moveB=((l.take k).all moveB && moveB l[k])):=by unfold Hid;rw [List.take_succ_eq_append_getElem hlt,List.all_append];simp
   have Hmem:Hid (l[k] ∈ l):=List.getElem_mem hlt
   have HmB:Hid (moveB l[k]=moveB ⟨l[k].kind,l[k].scale,l[k].digits,l[k].tens⟩):=rfl
   cases hm:moveB ⟨l[k].kind,l[k].scale,l[k].digits,l[k].tens⟩ with
   | true =>
    rw [hm] at hI
    have Hm:=Lib.hid hm;clear hm
    have hok2:Hid ((l.take (k+1)).all moveB=true):=by unfold Hid;rw [Hnx.out,hok.out,HmB.out,Hm.out];rfl
    go_wp2_with (go_at_call 202;refine Calls.mono (hI _).out ?_;rintro e w1 ⟨rfl,hb1⟩)
    go_roundw
    case rel=>exact ⟨k+1,by omega,by go_num,hok2,hb.trans (hb1.mono hb.size)⟩
    case measure=>simp [intOf];omega
   | false =>
    rw [hm] at hI
    have hbad:Hid (movesCode l=1):=by
     unfold Hid movesCode
     rw [if_neg]
     intro h
     have:=List.all_eq_true.1 h _ Hmem.out
     rw [HmB.out,hm] at this
     cases this
    clear hm
    go_wp2_with (go_at_call 202;refine Calls.mono (hI _).out ?_;rintro e w1 ⟨rfl,hb1⟩)
    go_ret
    exact ⟨by rw [hbad.out];rfl,hb.trans (hb1.mono hb.size)⟩
  ·have:k=l.length:=by omega
   subst this
   have hall:l.all moveB=true:=by have:=hok.out;rwa [List.take_length] at this
   by_cases h30:30 < l.length
   ·have hcd:Hid (movesCode l=3):=by unfold Hid movesCode;rw [if_pos hall,if_pos h30]
    have h30I:(30:Int) < (l.length:Int):=by omega
    clear hall
    go_wp2
    go_ret
    exact ⟨by rw [hcd.out];rfl,hb⟩
   ·have hcd:Hid (movesCode l=0):=by unfold Hid movesCode;rw [if_pos hall,if_neg h30]
    have h30I:¬ (30:Int) < (l.length:Int):=by omega
    clear hall
    go_wp2
    go_ret
    exact ⟨by rw [hcd.out];rfl,hb⟩
theorem specCount_c (A:Option Addr) (c:Nat) (l:List Move) (w:World) (hl:l.length ≤ 140737488351232) (hgood:movesCode l=0) (hs:Sl w w.heap.size 4 A (l.map Move.cells)) :
  Calls Tryz.prog 214 #[.slice A l.length c] w fun e w'=>e=.returned (.tuple #[.int .i64 (setTo l l.length),.int .i64 0])∧Below w.heap.size w w':=by
 have HC:=l12Code_c A c l w hl hs
 rw [hgood] at HC
 have HC:=Lib.hid HC
 clear hgood
 go_enter Tryz.func214,Tryz.ntmps214
 go_wp2_with fail
 refine Calls.mono HC.out ?_;rintro e w1 ⟨rfl,hb0⟩
 go_wp2_with fail
 go_loopw [5,6] (fun q i wr=>∃ k:Nat,k ≤ l.length∧i=.int .i64 k∧q=.int .i64 (setTo l k)∧Below w.heap.size w wr) (fun _ i _=>l.length - (intOf i).toNat)
 case atStart=>exact ⟨0,Nat.zero_le _,rfl,rfl,hb0⟩
 case round =>
  obtain ⟨k,hk,rfl,rfl,hb⟩:=hrel
  by_cases hlt:k < l.length
  ·obtain ⟨b,off,rfl,hbB,hc⟩:=hs.at_ (i:=k) (by simpa using hlt)
   simp only [List.getElem_map] at hc
   have c0:wr.cell? ⟨b,off+k * 4,none⟩=some (.int .i64 l[k].kind):=by rw [hb.cell hbB];exact hc 0 _ rfl
   clear hc
   have hnx:=setTo_succ l hlt
   have hle:=setTo_le l k
   have hz:=hb.size
   by_cases h2:l[k].kind ≤ 2
   ·rw [if_pos h2] at hnx
    have Hnx:=Lib.hid hnx;clear hnx
    generalize setTo l k=u at *
    go_wp2
    go_roundw
    case rel=>exact ⟨k+1,by omega,by go_num,by rw [Hnx.out];go_num,hb⟩
    case measure=>simp [intOf];omega
   ·rw [if_neg h2] at hnx
    have Hnx:=Lib.hid hnx;clear hnx
    generalize setTo l k=u at *
    go_wp2
    go_roundw
    case rel=>exact ⟨k+1,by omega,by go_num,by rw [Hnx.out];rfl,hb⟩
    case measure=>simp [intOf];omega
  ·have:k=l.length:=by omega
   subst this
   go_wp2
   go_ret2
   exact ⟨rfl,hb⟩
theorem l15Units_c (L:Int) (A1:Option Addr) (c1:Nat) (l1:List Int) (A2:Option Addr) (c2:Nat) (l2:List Int) (A3:Option Addr) (c3:Nat) (l:List Term) (p q r:Int) (w:World) (R:RuleIn w A1 l1 A2 l2)
  (hl:chainB l=true) (hs:Sl w w.heap.size 3 A3 (l.map Term.cells)) (hL:1 ≤ L∧L ≤ 100000) (he:errorsB p q r=true) :
  Calls Tryz.prog 179 #[.agg #[.int .i64 L,.slice A1 l1.length c1,.slice A2 l2.length c2],.slice A3 l.length c3,.agg #[.int .i64 p,.int .i64 q,.int .i64 r]] w fun e w'=>e=.returned (.int .i64 (unitsPl L l p q r))∧Below w.heap.size w w':=by
 obtain ⟨k1,k2,k3,_⟩:=chainB_parts hl
 obtain ⟨e1,e2,e3⟩:=errors_bd he
 have hub:=unitsC_bd hL e1 e2 e3
 have huk:=usual_ok k1 k2 k3
 have hn:=huk.2
 have hgood:movesCode (usualP l).ms=0:=by unfold movesCode;rw [if_pos huk.1.2,if_neg (by omega)]
 have hsl:=setTo_le (usualP l).ms (usualP l).ms.length
 have hUp:=unitsPl_bd hl hL e1 e2 e3
 unfold unitsPl at hUp ⊢
 have HU:=fun (W:World) (hW:Below w.heap.size w W)=>Lib.hid (l14Usual_c L A1 c1 l1 A2 c2 l2 A3 c3 l W (R.later hW) k1 k2 k3 ((hs.below hW).more hW.size))
 have HE:=fun W=>Lib.hid (l10UnitsC_c L p q r W hL e1 e2 e3)
 have HC:=fun A c W (hsl:Sl W W.heap.size 4 A ((usualP l).ms.map Move.cells))=>Lib.hid (specCount_c A c (usualP l).ms W (by omega) hgood hsl)
 have hW:Below w.heap.size w ((w.alloc (.cells #[.int .i64 L,.slice A1 l1.length c1,.slice A2 l2.length c2] 26)).alloc (.cells #[.int .i64 p,.int .i64 q,.int .i64 r] 29)):=(by repeat first | with_reducible (first | exact Below.refl _ _ | apply below_drewN' | apply Below.drew | refine Below.alloc ?_ ?_ _ | refine Below.setCell ?_ ?_ _) | exact Below.refl _ _ | omega | (simp <;> omega) | (have:=(Below.refl _ _).size;first | omega | (simp <;> omega)))
 have B3:Blk ((w.alloc (.cells #[.int .i64 L,.slice A1 l1.length c1,.slice A2 l2.length c2] 26)).alloc (.cells #[.int .i64 p,.int .i64 q,.int .i64 r] 29)) w.heap.size 26 #[.int .i64 L,.slice A1 l1.length c1,.slice A2 l2.length c2]:=(Blk.new _ _ _).alloc _
 have B5:Blk ((w.alloc (.cells #[.int .i64 L,.slice A1 l1.length c1,.slice A2 l2.length c2] 26)).alloc (.cells #[.int .i64 p,.int .i64 q,.int .i64 r] 29)) (w.heap.size+1) 29 #[.int .i64 p,.int .i64 q,.int .i64 r]:=Blk.new' _ _ _ (by simp)
 have hul:(usualP l).ms.length ≤ 19:=hn
 clear hn hl hs R hL e1 e2 e3 k1 k2 k3 he huk hgood
 generalize unitsC L p q r=u at *
 generalize setTo (usualP l).ms (usualP l).ms.length=n at *
 have hn19:n ≤ 19:=by omega
 go_enter Tryz.func179,Tryz.ntmps179
 go_wp2_with fail
 generalize ((w.alloc (.cells #[.int .i64 L,.slice A1 l1.length c1,.slice A2 l2.length c2] 26)).alloc (.cells #[.int .i64 p,.int .i64 q,.int .i64 r] 29))=W at *
 refine Calls.mono (HU W hW).out ?_;rintro e w1 ⟨A',c',rfl,hSl,hb1⟩
 have C3:=B3.below hb1 B3.lt
 have C5:=B5.below hb1 B5.lt
 have hW1:=hW.trans (hb1.mono hW.size)
 clear B3 B5 hb1 HU hW
 have hC:=HC A' c' w1 hSl
 clear hSl HC
 go_wp2_with fail
 refine Calls.mono hC.out ?_;rintro e w2 ⟨rfl,hb2⟩
 have D3:=C3.below hb2 C3.lt
 have D5:=C5.below hb2 C5.lt
 have hW2:=hW1.trans (hb2.mono hW1.size)
 clear C3 C5 hb2 hC hW1
 have y0:w2.cell? ⟨w.heap.size,0,none⟩=some (.int .i64 L):=D3.cell 0
 have y1:w2.cell? ⟨w.heap.size+1,0,none⟩=some (.int .i64 p):=D5.cell 0
 have y2:w2.cell? ⟨w.heap.size+1,1,none⟩=some (.int .i64 q):=D5.cell 1
 have y3:w2.cell? ⟨w.heap.size+1,2,none⟩=some (.int .i64 r):=D5.cell 2
 go_wp2_with fail
 refine Calls.mono (HE _).out ?_;rintro e w3 ⟨rfl,hb3⟩
 have hW3:=hW2.trans (hb3.mono hW2.size)
 go_wp2
 go_ret
 exact ⟨rfl,(by repeat first | with_reducible (first | exact hW3 | apply below_drewN' | apply Below.drew | refine Below.alloc ?_ ?_ _ | refine Below.setCell ?_ ?_ _) | exact hW3 | omega | (simp <;> omega) | (have:=(hW3).size;first | omega | (simp <;> omega)))⟩
end Go.Proofs.YtednjmldjbndhaaGreat
namespace Go.Proofs.YtednjmldjbndhaaGreat
open Go.RowKit
structure AlT (T:TypeId) (w1:World) (b bs:Bool) (v9 x y:Value) (v:World):Prop where
 hb:Below w1.heap.size w1 v
 blk:b=true→∃ gb c0 c1,v9=.pointer (some ⟨gb,0,none⟩)∧Blk v gb T #[c0,c1]∧w1.heap.size ≤ gb∧(bs=true→c0=x∧c1=y)
 dd:bs=true→b=true
section
variable {T : TypeId} {w1 v v' : World} {b bs : Bool} {v9 x y c0 c1 : Value} {gb : Nat}
theorem AlT.init {v9:Value}:AlT T w1 false false v9 x y w1.drew:=⟨(Below.refl _ _).drew,nofun,nofun⟩
theorem AlT.below (h:AlT T w1 b bs v9 x y v) (hb:Below v.heap.size v v'):AlT T w1 b bs v9 x y v' :=
 ⟨h.hb.trans (hb.mono h.hb.size),fun e=>by
  obtain ⟨gb,c0,c1,h1,h2,h3,h4⟩:=h.blk e
  exact ⟨gb,c0,c1,h1,h2.below hb h2.lt,h3,h4⟩,h.dd⟩
theorem AlT.new {z:Value} (h:AlT T w1 b bs v9 x y v) (hb:b=false):AlT T w1 true bs (.pointer (some ⟨v.heap.size,0,none⟩)) x y (v.alloc (.cells #[z,z] T)) :=
 ⟨h.hb.alloc h.hb.size _,fun _=>⟨_,_,_,rfl,Blk.new _ _ _,h.hb.size,fun e=>(by have:=h.dd e;rw [hb] at this;cases this)⟩,fun _=>rfl⟩
theorem AlT.set (h:AlT T w1 b bs (.pointer (some ⟨gb,0,none⟩)) x y v) (hb:b=true) (hB:Blk v gb T #[c0,c1]) (hg:w1.heap.size ≤ gb):AlT T w1 b true (.pointer (some ⟨gb,0,none⟩)) x y ((v.setCell ⟨gb,0,none⟩ x).setCell ⟨gb,1,none⟩ y) :=
 ⟨(h.hb.setCell hg _).setCell hg _,fun _=>⟨gb,x,y,rfl,(hB.set_ 0 x).set_ 1 y,hg,fun _=>⟨rfl,rfl⟩⟩,fun _=>hb⟩
end
theorem l15Span_c (L:Int) (A1:Option Addr) (c1:Nat) (l1:List Int) (A2:Option Addr) (c2:Nat) (l2:List Int) (A3:Option Addr) (c3:Nat) (l:List Term) (p q r:Int) (w:World) (R:RuleIn w A1 l1 A2 l2)
  (hl:chainB l=true) (_:l.length ≤ c3) (hs:Sl w w.heap.size 3 A3 (l.map Term.cells)) (hL:1 ≤ L∧L ≤ 100000) (he:errorsB p q r=true) :
  Calls Tryz.prog 137 #[.agg #[.int .i64 L,.slice A1 l1.length c1,.slice A2 l2.length c2],.slice A3 l.length c3,.agg #[.int .i64 p,.int .i64 q,.int .i64 r]] w fun e w'=>e=.returned (spanR (spanLo L l p q r) (spanHi L l p q r))∧Below w.heap.size w w':=by
 obtain ⟨k1,k2,k3,k4⟩:=chainB_parts hl
 obtain ⟨e1,e2,e3⟩:=errors_bd he
 have hUp:=unitsPl_bd hl hL e1 e2 e3
 have hcb:=chain_bd hl
 have HU:=fun (W:World) (hW:Below w.heap.size w W)=>Lib.hid (l15Units_c L A1 c1 l1 A2 c2 l2 A3 c3 l p q r W (R.later hW) hl ((hs.below hW).more hW.size) hL he)
 have HC:=fun (W:World) (hW:Below w.heap.size w W)=>Lib.hid (l13Log_c A3 c3 l W k1 k2 k3 k4 ((hs.below hW).more hW.size))
 unfold spanLo spanHi
 generalize (chainTo l l.length).1=lo at *
 generalize (chainTo l l.length).2=hi at *
 generalize unitsPl L l p q r=u at *
 have HSo:=fun W=>l04Span_c (lo - u) (hi+u) W
 rw [spanR_form] at HSo
 rw [spanR_form]
 generalize spLoF (lo - u) (hi+u)=F1 at *
 generalize spHiF (lo - u) (hi+u)=F2 at *
 generalize spanC (lo - u) (hi+u)=cc at *
 have HSo:=fun W=>Lib.hid (HSo W)
 obtain ⟨d1,t1⟩:=F1
 obtain ⟨d2,t2⟩:=F2
 simp only at HSo
 have hP0:PsS w L A1 l1.length c1 A2 l2.length c2 p q r _:=PsS.init
 obtain ⟨hcb1,hcb2⟩:=hcb
 clear hl e1 e2 e3 k1 k2 k3 k4 R hs hL he
 go_enter Tryz.func137,Tryz.ntmps137
 go_wp2_with fail
 generalize ((((w.alloc (.cells #[.int .i64 L,.slice A1 l1.length c1,.slice A2 l2.length c2] 26)).alloc (.cells #[.int .i64 p,.int .i64 q,.int .i64 r] 29)).alloc (.cells #[.int .i64 0,.int .i64 0] 51)).alloc (.cells #[.int .i64 0,.int .i64 0] 51))=W at *
 refine wp_region_all (fun a0 fL bA v=>∃ v11 v12 v13 v14 v15 v16 v9 v10:Value,bA=(((((((a0.put (some 11) v11).put (some 12) v12).put (some 13) v13).put (some 14) v14).put (some 15) v15).put (some 16) v16).put (some 9) v9).put (some 10) v10∧(AlT 186 W (fL 6) (fL 7) v9 (.int .i64 lo) (.int .i64 hi) v)∧(fL 0=true→v11=.slice A3 l.length c3)∧(fL 1=true→v12=.agg #[.int .i64 lo,.int .i64 hi])∧(fL 2=true→v13=.agg #[.int .i64 L,.slice A1 l1.length c1,.slice A2 l2.length c2])∧(fL 3=true→v14=.slice A3 l.length c3)∧(fL 4=true→v15=.agg #[.int .i64 p,.int .i64 q,.int .i64 r])∧(fL 5=true→v16=.int .i64 u)∧(fL 6=true→True)∧(fL 8=true→v10=.int .i64 u)) (by kernel_rfl) (by decide +kernel) ?_ ?_ ?_
 ·exact ⟨undef,undef,undef,undef,undef,undef,undef,undef,by simp only [Act.put,List.setIfInBounds_toArray,List.set_cons_zero,List.set_cons_succ],AlT.init,nofun,nofun,nofun,nofun,nofun,nofun,nofun,nofun⟩
 ·rintro fL bA v ⟨v11,v12,v13,v14,v15,v16,v9,v10,rfl,hS,q0,q1,q2,q3,q4,q5,q6,q8⟩ i hi hf o ho hall
  simp only [Act.put,List.setIfInBounds_toArray,List.set_cons_zero,List.set_cons_succ]
  simp only [List.length_cons,List.length_nil] at hi
  have hn:i=0 ∨ i=1 ∨ i=2 ∨ i=3 ∨ i=4 ∨ i=5 ∨ i=6 ∨ i=7 ∨ i=8:=by omega
  clear hi
  rcases hn with rfl | rfl | rfl | rfl | rfl | rfl | rfl | rfl | rfl
  ·obtain rfl:=Option.some.inj ho
   clear hall ho
   refine wpOp_step rfl (fun K hK=>?_)
   go_simp
   exact hK _ _ ⟨_,_,_,_,_,_,_,_,rfl,hS,fun _=>rfl,q1,q2,q3,q4,q5,fun _=>trivial,q8⟩
  ·obtain rfl:=Option.some.inj ho
   obtain rfl:=q0 (hall ⟨0,.data⟩ (by simp) rfl)
   clear hall ho
   refine wpOp_step rfl (fun K hK=>?_)
   go_simp
   refine Calls.mono ((HC _ (hP0.hb.trans (hS.hb.mono hP0.hb.size))).out) ?_;rintro e w1 ⟨rfl,hb1⟩
   go_simp
   exact hK _ _ ⟨_,_,_,_,_,_,_,_,rfl,hS.below hb1,fun _=>rfl,fun _=>rfl,q2,q3,q4,q5,fun _=>trivial,q8⟩
  ·obtain rfl:=Option.some.inj ho
   have E:=hP0.b3.below hS.hb hP0.b3.lt
   have y0:v.cell? ⟨w.heap.size,0,none⟩=some (.int .i64 L):=E.cell 0
   have y1:v.cell? ⟨w.heap.size,1,none⟩=some (.slice A1 l1.length c1):=E.cell 1
   have y2:v.cell? ⟨w.heap.size,2,none⟩=some (.slice A2 l2.length c2):=E.cell 2
   clear hall ho
   refine wpOp_step rfl (fun K hK=>?_)
   go_simp
   exact hK _ _ ⟨_,_,_,_,_,_,_,_,rfl,hS,q0,q1,fun _=>rfl,q3,q4,q5,fun _=>trivial,q8⟩
  ·obtain rfl:=Option.some.inj ho
   clear hall ho
   refine wpOp_step rfl (fun K hK=>?_)
   go_simp
   exact hK _ _ ⟨_,_,_,_,_,_,_,_,rfl,hS,q0,q1,q2,fun _=>rfl,q4,q5,fun _=>trivial,q8⟩
  ·obtain rfl:=Option.some.inj ho
   have E:=hP0.b5.below hS.hb hP0.b5.lt
   have y0:v.cell? ⟨w.heap.size+1,0,none⟩=some (.int .i64 p):=E.cell 0
   have y1:v.cell? ⟨w.heap.size+1,1,none⟩=some (.int .i64 q):=E.cell 1
   have y2:v.cell? ⟨w.heap.size+1,2,none⟩=some (.int .i64 r):=E.cell 2
   clear hall ho
   refine wpOp_step rfl (fun K hK=>?_)
   go_simp
   exact hK _ _ ⟨_,_,_,_,_,_,_,_,rfl,hS,q0,q1,q2,q3,fun _=>rfl,q5,fun _=>trivial,q8⟩
  ·obtain rfl:=Option.some.inj ho
   obtain rfl:=q2 (hall ⟨2,.data⟩ (by simp) rfl)
   obtain rfl:=q3 (hall ⟨3,.data⟩ (by simp) rfl)
   obtain rfl:=q4 (hall ⟨4,.data⟩ (by simp) rfl)
   clear hall ho
   refine wpOp_step rfl (fun K hK=>?_)
   go_simp
   refine Calls.mono ((HU _ (hP0.hb.trans (hS.hb.mono hP0.hb.size))).out) ?_;rintro e w1 ⟨rfl,hb1⟩
   go_simp
   exact hK _ _ ⟨_,_,_,_,_,_,_,_,rfl,hS.below hb1,q0,q1,fun _=>rfl,fun _=>rfl,fun _=>rfl,fun _=>rfl,fun _=>trivial,q8⟩
  ·obtain rfl:=Option.some.inj ho
   clear hall ho
   refine wpOp_step rfl (fun K hK=>?_)
   go_simp
   exact hK _ _ ⟨_,_,_,_,_,_,_,_,rfl,hS.new hf,q0,q1,q2,q3,q4,q5,fun _=>trivial,q8⟩
  ·obtain rfl:=Option.some.inj ho
   have e6:fL 6=true:=hall ⟨6,.data⟩ (by simp) rfl
   obtain rfl:=q1 (hall ⟨1,.data⟩ (by simp) rfl)
   obtain ⟨gb,x0,x1,rfl,Bb,hgb,_⟩:=hS.blk e6
   have y0:v.cell? ⟨gb,0,none⟩=some x0:=Bb.cell 0
   have y1:v.cell? ⟨gb,1,none⟩=some x1:=Bb.cell 1
   have yf0:=Bb.frozen 0
   have yf1:=Bb.frozen 1
   clear hall ho
   refine wpOp_step rfl (fun K hK=>?_)
   go_simp
   exact hK _ _ ⟨_,_,_,_,_,_,_,_,rfl,hS.set e6 Bb hgb,q0,fun _=>rfl,q2,q3,q4,q5,fun _=>trivial,q8⟩
  ·obtain rfl:=Option.some.inj ho
   obtain rfl:=q5 (hall ⟨5,.data⟩ (by simp) rfl)
   clear hall ho
   refine wpOp_step rfl (fun K hK=>?_)
   go_simp
   exact hK _ _ ⟨_,_,_,_,_,_,_,_,rfl,hS,q0,q1,q2,q3,q4,fun _=>rfl,fun _=>trivial,fun _=>rfl⟩
 ·rintro fL bA v ⟨v11,v12,v13,v14,v15,v16,v9,v10,rfl,hS,q0,q1,q2,q3,q4,q5,q6,q8⟩ hall
  simp only [Act.put,List.setIfInBounds_toArray,List.set_cons_zero,List.set_cons_succ]
  simp only [List.length_cons,List.length_nil] at hall
  obtain rfl:=q0 (hall 0 (by omega))
  obtain rfl:=q1 (hall 1 (by omega))
  obtain rfl:=q2 (hall 2 (by omega))
  obtain rfl:=q3 (hall 3 (by omega))
  obtain rfl:=q4 (hall 4 (by omega))
  obtain rfl:=q5 (hall 5 (by omega))
  have e6:fL 6=true:=hall 6 (by omega)
  obtain rfl:=q8 (hall 8 (by omega))
  have e7:fL 7=true:=hall 7 (by omega)
  clear hall
  obtain ⟨gb,x0,x1,rfl,Bb,hgb,hxy⟩:=hS.blk e6
  obtain ⟨rfl,rfl⟩:=hxy e7
  have hP1:=hP0.below hS.hb
  have y0:v.cell? ⟨gb,0,none⟩=some (.int .i64 lo):=Bb.cell 0
  have y1:v.cell? ⟨gb,1,none⟩=some (.int .i64 hi):=Bb.cell 1
  clear hP0 hS Bb hgb HC HU
  go_wp2_with fail
  refine Calls.mono (HSo v).out ?_;rintro e v2 ⟨rfl,hb2⟩
  have hS:=hP1.below hb2
  clear y0 y1 hP1 hb2
  have z0:v2.cell? ⟨w.heap.size+1+1,0,none⟩=some (.int .i64 0):=hS.b6.cell 0
  have z1:v2.cell? ⟨w.heap.size+1+1,1,none⟩=some (.int .i64 0):=hS.b6.cell 1
  have z2:v2.cell? ⟨w.heap.size+1+1+1,0,none⟩=some (.int .i64 0):=hS.b7.cell 0
  have z3:v2.cell? ⟨w.heap.size+1+1+1,1,none⟩=some (.int .i64 0):=hS.b7.cell 1
  have f0:v2.frozen? ⟨w.heap.size+1+1,0,none⟩=false:=hS.b6.frozen 0
  have f1:v2.frozen? ⟨w.heap.size+1+1,1,none⟩=false:=hS.b6.frozen 1
  have f2:v2.frozen? ⟨w.heap.size+1+1+1,0,none⟩=false:=hS.b7.frozen 0
  have f3:v2.frozen? ⟨w.heap.size+1+1+1,1,none⟩=false:=hS.b7.frozen 1
  have hbv:=hS.hb
  go_wp2
  refine bodyPost_ret (v:=.tuple #[.agg #[.int .i64 d1,.int .i64 t1],.agg #[.int .i64 d2,.int .i64 t2],.int .i64 cc]) (by simp [results,Tryz.results137,go_sem,z0,z1,z2,z3]) rfl ⟨rfl,(by repeat first | with_reducible (first | exact hbv | apply below_drewN' | apply Below.drew | refine Below.alloc ?_ ?_ _ | refine Below.setCell ?_ ?_ _) | exact hbv | omega | (simp <;> omega) | (have:=(hbv).size;first | omega | (simp <;> omega)))⟩
end Go.Proofs.YtednjmldjbndhaaGreat
namespace Go.Proofs.YtednjmldjbndhaaGreat
open Go.RowKit
structure ExIn (w:World) (A1:Option Addr) (c1:Nat) (l1:List Int) (A2:Option Addr) (c2:Nat) (l2:List Int) (A3:Option Addr) (c3:Nat) (l3:List Term):Prop where
 h1:l1.length ≤ 1048576
 h2:l2.length ≤ 1048576
 h3:l3.length ≤ 1048576
 k1:l1.length ≤ c1
 k2:l2.length ≤ c2
 k3:l3.length ≤ c3
 s1:Sl w w.heap.size 1 A1 (l1.map ic)
 s2:Sl w w.heap.size 1 A2 (l2.map ic)
 s3:Sl w w.heap.size 3 A3 (l3.map Term.cells)
theorem ExIn.later {w W:World} {A1:Option Addr} {c1:Nat} {l1:List Int} {A2:Option Addr} {c2:Nat} {l2:List Int} {A3:Option Addr} {c3:Nat} {l3:List Term} (E:ExIn w A1 c1 l1 A2 c2 l2 A3 c3 l3) (hW:Below w.heap.size w W):ExIn W A1 c1 l1 A2 c2 l2 A3 c3 l3 :=
 ⟨E.h1,E.h2,E.h3,E.k1,E.k2,E.k3,(E.s1.below hW).more hW.size,(E.s2.below hW).more hW.size,(E.s3.below hW).more hW.size⟩
theorem ExIn.rule {w:World} {A1:Option Addr} {c1:Nat} {l1:List Int} {A2:Option Addr} {c2:Nat} {l2:List Int} {A3:Option Addr} {c3:Nat} {l3:List Term} (E:ExIn w A1 c1 l1 A2 c2 l2 A3 c3 l3) (m1:(0:Int) ∈ l1) (m2:(0:Int) ∈ l2):RuleIn w A1 l1 A2 l2 :=
 ⟨E.h1,E.h2,E.s1,E.s2,m1,m2⟩
theorem ex_ok {L:Int} {l1 l2:List Int} {l:List Term} {p q r:Int} (h:boundCode L l1 l2 l p q r=0):exLoF L l1 l2 l p q r=spLoF (spanLo L l p q r) (spanHi L l p q r)∧exHiF L l1 l2 l p q r=spHiF (spanLo L l p q r) (spanHi L l p q r)∧exCode L l1 l2 l p q r=spanC (spanLo L l p q r) (spanHi L l p q r):=by
 unfold exLoF exHiF exCode
 rw [if_pos h,if_pos h,if_pos h]
 exact ⟨rfl,rfl,rfl⟩
theorem ex_bad {L:Int} {l1 l2:List Int} {l:List Term} {p q r:Int} (h:boundCode L l1 l2 l p q r ≠ 0):exLoF L l1 l2 l p q r=⟨0,0⟩∧exHiF L l1 l2 l p q r=⟨0,0⟩∧exCode L l1 l2 l p q r=boundCode L l1 l2 l p q r:=by
 unfold exLoF exHiF exCode
 rw [if_neg h,if_neg h,if_neg h]
 exact ⟨rfl,rfl,rfl⟩
theorem implPlanSpan_c (L:Int) (A1:Option Addr) (c1:Nat) (l1:List Int) (A2:Option Addr) (c2:Nat) (l2:List Int) (A3:Option Addr) (c3:Nat) (l:List Term) (p q r:Int) (w:World) (E:ExIn w A1 c1 l1 A2 c2 l2 A3 c3 l) :
  Calls Tryz.prog 63 #[.agg #[.int .i64 L,.slice A1 l1.length c1,.slice A2 l2.length c2],.slice A3 l.length c3,.agg #[.int .i64 p,.int .i64 q,.int .i64 r]] w fun e w' =>
   e=.returned (.tuple #[.agg #[.int .i64 (exLoF L l1 l2 l p q r).digits,.int .i64 (exLoF L l1 l2 l p q r).tens],.agg #[.int .i64 (exHiF L l1 l2 l p q r).digits,.int .i64 (exHiF L l1 l2 l p q r).tens],.int .i64 (exCode L l1 l2 l p q r)])∧Below w.heap.size w w':=by
 have HB:=fun (W:World) (hW:Below w.heap.size w W)=>Lib.hid (checkBound_c L A1 c1 l1 A2 c2 l2 A3 c3 l p q r W E.h1 E.h2 E.h3 E.k1 E.k2 (E.later hW).s1 (E.later hW).s2 (E.later hW).s3)
 have hP0:PsS w L A1 l1.length c1 A2 l2.length c2 p q r _:=PsS.init
 by_cases hc:boundCode L l1 l2 l p q r=0
 ·obtain ⟨b1,b2,b3,b4,b5⟩:=bound_parts hc
  have hL:=ruleB_len b1
  have HS:=fun (W:World) (hW:Below w.heap.size w W)=>planSpan_c L A1 c1 l1 A2 c2 l2 A3 c3 l p q r W ((E.later hW).rule b3 b4) b2 E.k3 (E.later hW).s3 hL b5
  rw [spanR_form] at HS
  obtain ⟨x1,x2,x3⟩:=ex_ok hc
  rw [x1,x2,x3]
  rw [hc] at HB
  generalize spLoF (spanLo L l p q r) (spanHi L l p q r)=F1 at *
  generalize spHiF (spanLo L l p q r) (spanHi L l p q r)=F2 at *
  generalize spanC (spanLo L l p q r) (spanHi L l p q r)=cc at *
  obtain ⟨d1,t1⟩:=F1
  obtain ⟨d2,t2⟩:=F2
  simp only at HS ⊢
  have HS:=fun W hW=>Lib.hid (HS W hW)
  clear b1 b2 b3 b4 b5 hL x1 x2 x3 hc E
  go_enter Tryz.func63,Tryz.ntmps63
  go_wp2_with fail
  generalize ((((w.alloc (.cells #[.int .i64 L,.slice A1 l1.length c1,.slice A2 l2.length c2] 26)).alloc (.cells #[.int .i64 p,.int .i64 q,.int .i64 r] 29)).alloc (.cells #[.int .i64 0,.int .i64 0] 51)).alloc (.cells #[.int .i64 0,.int .i64 0] 51))=W at *
  refine Calls.mono (HB W hP0.hb).out ?_;rintro e w1 ⟨rfl,hb1⟩
  have hP1:=hP0.below hb1
  have y0:w1.cell? ⟨w.heap.size,0,none⟩=some (.int .i64 L):=hP1.b3.cell 0
  have y1:w1.cell? ⟨w.heap.size,1,none⟩=some (.slice A1 l1.length c1):=hP1.b3.cell 1
  have y2:w1.cell? ⟨w.heap.size,2,none⟩=some (.slice A2 l2.length c2):=hP1.b3.cell 2
  have y3:w1.cell? ⟨w.heap.size+1,0,none⟩=some (.int .i64 p):=hP1.b5.cell 0
  have y4:w1.cell? ⟨w.heap.size+1,1,none⟩=some (.int .i64 q):=hP1.b5.cell 1
  have y5:w1.cell? ⟨w.heap.size+1,2,none⟩=some (.int .i64 r):=hP1.b5.cell 2
  clear hP0 hb1
  go_wp2_with fail
  refine Calls.mono (HS w1 hP1.hb).out ?_;rintro e v ⟨rfl,hb2⟩
  have hS:=hP1.below hb2
  clear y0 y1 y2 y3 y4 y5 hP1 hb2
  have z0:v.cell? ⟨w.heap.size+1+1,0,none⟩=some (.int .i64 0):=hS.b6.cell 0
  have z1:v.cell? ⟨w.heap.size+1+1,1,none⟩=some (.int .i64 0):=hS.b6.cell 1
  have z2:v.cell? ⟨w.heap.size+1+1+1,0,none⟩=some (.int .i64 0):=hS.b7.cell 0
  have z3:v.cell? ⟨w.heap.size+1+1+1,1,none⟩=some (.int .i64 0):=hS.b7.cell 1
  have f0:v.frozen? ⟨w.heap.size+1+1,0,none⟩=false:=hS.b6.frozen 0
  have f1:v.frozen? ⟨w.heap.size+1+1,1,none⟩=false:=hS.b6.frozen 1
  have f2:v.frozen? ⟨w.heap.size+1+1+1,0,none⟩=false:=hS.b7.frozen 0
  have f3:v.frozen? ⟨w.heap.size+1+1+1,1,none⟩=false:=hS.b7.frozen 1
  have hbv:=hS.hb
  go_wp2
  refine bodyPost_ret (v:=.tuple #[.agg #[.int .i64 d1,.int .i64 t1],.agg #[.int .i64 d2,.int .i64 t2],.int .i64 cc]) (by simp [results,Tryz.results63,go_sem,z0,z1,z2,z3]) rfl ⟨rfl,(by repeat first | with_reducible (first | exact hbv | apply below_drewN' | apply Below.drew | refine Below.alloc ?_ ?_ _ | refine Below.setCell ?_ ?_ _) | exact hbv | omega | (simp <;> omega) | (have:=(hbv).size;first | omega | (simp <;> omega)))⟩
 ·obtain ⟨x1,x2,x3⟩:=ex_bad hc
  rw [x1,x2,x3]
  generalize boundCode L l1 l2 l p q r=bc at *
  clear x1 x2 x3 E
  simp only
  go_enter Tryz.func63,Tryz.ntmps63
  go_wp2_with fail
  generalize ((((w.alloc (.cells #[.int .i64 L,.slice A1 l1.length c1,.slice A2 l2.length c2] 26)).alloc (.cells #[.int .i64 p,.int .i64 q,.int .i64 r] 29)).alloc (.cells #[.int .i64 0,.int .i64 0] 51)).alloc (.cells #[.int .i64 0,.int .i64 0] 51))=W at *
  refine Calls.mono (HB W hP0.hb).out ?_;rintro e v ⟨rfl,hb1⟩
  have hS:=hP0.below hb1
  have z0:v.cell? ⟨w.heap.size+1+1,0,none⟩=some (.int .i64 0):=hS.b6.cell 0
  have z1:v.cell? ⟨w.heap.size+1+1,1,none⟩=some (.int .i64 0):=hS.b6.cell 1
  have z2:v.cell? ⟨w.heap.size+1+1+1,0,none⟩=some (.int .i64 0):=hS.b7.cell 0
  have z3:v.cell? ⟨w.heap.size+1+1+1,1,none⟩=some (.int .i64 0):=hS.b7.cell 1
  have f0:v.frozen? ⟨w.heap.size+1+1,0,none⟩=false:=hS.b6.frozen 0
  have f1:v.frozen? ⟨w.heap.size+1+1,1,none⟩=false:=hS.b6.frozen 1
  have f2:v.frozen? ⟨w.heap.size+1+1+1,0,none⟩=false:=hS.b7.frozen 0
  have f3:v.frozen? ⟨w.heap.size+1+1+1,1,none⟩=false:=hS.b7.frozen 1
  have hbv:=hS.hb
  clear hP0 hb1
  go_wp2
  refine bodyPost_ret (v:=.tuple #[.agg #[.int .i64 0,.int .i64 0],.agg #[.int .i64 0,.int .i64 0],.int .i64 bc]) (by simp [results,Tryz.results63,go_sem,z0,z1,z2,z3]) rfl ⟨rfl,(by repeat first | with_reducible (first | exact hbv | apply below_drewN' | apply Below.drew | refine Below.alloc ?_ ?_ _ | refine Below.setCell ?_ ?_ _) | exact hbv | omega | (simp <;> omega) | (have:=(hbv).size;first | omega | (simp <;> omega)))⟩
theorem implIsExercise_c (L:Int) (A1:Option Addr) (c1:Nat) (l1:List Int) (A2:Option Addr) (c2:Nat) (l2:List Int) (A3:Option Addr) (c3:Nat) (l:List Term) (p q r:Int) (w:World) (E:ExIn w A1 c1 l1 A2 c2 l2 A3 c3 l) :
  Calls Tryz.prog 18 #[.agg #[.int .i64 L,.slice A1 l1.length c1,.slice A2 l2.length c2,.slice A3 l.length c3,.int .i64 p,.int .i64 q,.int .i64 r]] w fun e w'=>e=.returned (.bool (exB L l1 l2 l p q r))∧Below w.heap.size w w':=by
 have HS:=fun (W:World) (hW:Below w.heap.size w W)=>Lib.hid (implPlanSpan_c L A1 c1 l1 A2 c2 l2 A3 c3 l p q r W (E.later hW))
 unfold exB
 generalize exLoF L l1 l2 l p q r=F1 at *
 generalize exHiF L l1 l2 l p q r=F2 at *
 generalize exCode L l1 l2 l p q r=cc at *
 clear E
 have hW:Below w.heap.size w (w.alloc (.cells #[.int .i64 L,.slice A1 l1.length c1,.slice A2 l2.length c2,.slice A3 l.length c3,.int .i64 p,.int .i64 q,.int .i64 r] 31)):=(by repeat first | with_reducible (first | exact Below.refl _ _ | apply below_drewN' | apply Below.drew | refine Below.alloc ?_ ?_ _ | refine Below.setCell ?_ ?_ _) | exact Below.refl _ _ | omega | (simp <;> omega) | (have:=(Below.refl _ _).size;first | omega | (simp <;> omega)))
 go_enter Tryz.func18,Tryz.ntmps18
 go_wp2_with fail
 generalize w.alloc (.cells #[.int .i64 L,.slice A1 l1.length c1,.slice A2 l2.length c2,.slice A3 l.length c3,.int .i64 p,.int .i64 q,.int .i64 r] 31)=W at *
 refine Calls.mono (HS W hW).out ?_;rintro e w1 ⟨rfl,hb1⟩
 have hW1:=hW.trans (hb1.mono hW.size)
 have hs1:=hW1.size
 go_wp2
 go_ret
 exact ⟨rfl,(by repeat first | with_reducible (first | exact hW1 | apply below_drewN' | apply Below.drew | refine Below.alloc ?_ ?_ _ | refine Below.setCell ?_ ?_ _) | exact hW1 | omega | (simp <;> omega) | (have:=(hW1).size;first | omega | (simp <;> omega)))⟩
theorem specPlanSpan_c (L:Int) (A1:Option Addr) (c1:Nat) (l1:List Int) (A2:Option Addr) (c2:Nat) (l2:List Int) (A3:Option Addr) (c3:Nat) (l:List Term) (p q r:Int) (w:World) (E:ExIn w A1 c1 l1 A2 c2 l2 A3 c3 l) :
  Calls Tryz.prog 82 #[.agg #[.int .i64 L,.slice A1 l1.length c1,.slice A2 l2.length c2],.slice A3 l.length c3,.agg #[.int .i64 p,.int .i64 q,.int .i64 r]] w fun e w' =>
   e=.returned (.tuple #[.agg #[.int .i64 (exLoF L l1 l2 l p q r).digits,.int .i64 (exLoF L l1 l2 l p q r).tens],.agg #[.int .i64 (exHiF L l1 l2 l p q r).digits,.int .i64 (exHiF L l1 l2 l p q r).tens],.int .i64 (exCode L l1 l2 l p q r)])∧Below w.heap.size w w':=by
 have HB:=fun (W:World) (hW:Below w.heap.size w W)=>Lib.hid (l15Code_c L A1 c1 l1 A2 c2 l2 A3 c3 l p q r W E.h1 E.h2 E.h3 E.k1 E.k2 (E.later hW).s1 (E.later hW).s2 (E.later hW).s3)
 have hP0:PsS w L A1 l1.length c1 A2 l2.length c2 p q r _:=PsS.init
 by_cases hc:boundCode L l1 l2 l p q r=0
 ·obtain ⟨b1,b2,b3,b4,b5⟩:=bound_parts hc
  have hL:=ruleB_len b1
  have HS:=fun (W:World) (hW:Below w.heap.size w W)=>l15Span_c L A1 c1 l1 A2 c2 l2 A3 c3 l p q r W ((E.later hW).rule b3 b4) b2 E.k3 (E.later hW).s3 hL b5
  rw [spanR_form] at HS
  obtain ⟨x1,x2,x3⟩:=ex_ok hc
  rw [x1,x2,x3]
  rw [hc] at HB
  generalize spLoF (spanLo L l p q r) (spanHi L l p q r)=F1 at *
  generalize spHiF (spanLo L l p q r) (spanHi L l p q r)=F2 at *
  generalize spanC (spanLo L l p q r) (spanHi L l p q r)=cc at *
  obtain ⟨d1,t1⟩:=F1
  obtain ⟨d2,t2⟩:=F2
  simp only at HS ⊢
  have HS:=fun W hW=>Lib.hid (HS W hW)
  clear b1 b2 b3 b4 b5 hL x1 x2 x3 hc E
  go_enter Tryz.func82,Tryz.ntmps82
  go_wp2_with fail
  generalize ((((w.alloc (.cells #[.int .i64 L,.slice A1 l1.length c1,.slice A2 l2.length c2] 26)).alloc (.cells #[.int .i64 p,.int .i64 q,.int .i64 r] 29)).alloc (.cells #[.int .i64 0,.int .i64 0] 51)).alloc (.cells #[.int .i64 0,.int .i64 0] 51))=W at *
  refine Calls.mono (HB W hP0.hb).out ?_;rintro e w1 ⟨rfl,hb1⟩
  have hP1:=hP0.below hb1
  have y0:w1.cell? ⟨w.heap.size,0,none⟩=some (.int .i64 L):=hP1.b3.cell 0
  have y1:w1.cell? ⟨w.heap.size,1,none⟩=some (.slice A1 l1.length c1):=hP1.b3.cell 1
  have y2:w1.cell? ⟨w.heap.size,2,none⟩=some (.slice A2 l2.length c2):=hP1.b3.cell 2
  have y3:w1.cell? ⟨w.heap.size+1,0,none⟩=some (.int .i64 p):=hP1.b5.cell 0
  have y4:w1.cell? ⟨w.heap.size+1,1,none⟩=some (.int .i64 q):=hP1.b5.cell 1
  have y5:w1.cell? ⟨w.heap.size+1,2,none⟩=some (.int .i64 r):=hP1.b5.cell 2
  clear hP0 hb1
  go_wp2_with fail
  refine Calls.mono (HS w1 hP1.hb).out ?_;rintro e v ⟨rfl,hb2⟩
  have hS:=hP1.below hb2
  clear y0 y1 y2 y3 y4 y5 hP1 hb2
  have z0:v.cell? ⟨w.heap.size+1+1,0,none⟩=some (.int .i64 0):=hS.b6.cell 0
  have z1:v.cell? ⟨w.heap.size+1+1,1,none⟩=some (.int .i64 0):=hS.b6.cell 1
  have z2:v.cell? ⟨w.heap.size+1+1+1,0,none⟩=some (.int .i64 0):=hS.b7.cell 0
  have z3:v.cell? ⟨w.heap.size+1+1+1,1,none⟩=some (.int .i64 0):=hS.b7.cell 1
  have f0:v.frozen? ⟨w.heap.size+1+1,0,none⟩=false:=hS.b6.frozen 0
  have f1:v.frozen? ⟨w.heap.size+1+1,1,none⟩=false:=hS.b6.frozen 1
  have f2:v.frozen? ⟨w.heap.size+1+1+1,0,none⟩=false:=hS.b7.frozen 0
  have f3:v.frozen? ⟨w.heap.size+1+1+1,1,none⟩=false:=hS.b7.frozen 1
  have hbv:=hS.hb
  go_wp2
  refine bodyPost_ret (v:=.tuple #[.agg #[.int .i64 d1,.int .i64 t1],.agg #[.int .i64 d2,.int .i64 t2],.int .i64 cc]) (by simp [results,Tryz.results82,go_sem,z0,z1,z2,z3]) rfl ⟨rfl,(by repeat first | with_reducible (first | exact hbv | apply below_drewN' | apply Below.drew | refine Below.alloc ?_ ?_ _ | refine Below.setCell ?_ ?_ _) | exact hbv | omega | (simp <;> omega) | (have:=(hbv).size;first | omega | (simp <;> omega)))⟩
 ·obtain ⟨x1,x2,x3⟩:=ex_bad hc
  rw [x1,x2,x3]
  generalize boundCode L l1 l2 l p q r=bc at *
  clear x1 x2 x3 E
  simp only
  go_enter Tryz.func82,Tryz.ntmps82
  go_wp2_with fail
  generalize ((((w.alloc (.cells #[.int .i64 L,.slice A1 l1.length c1,.slice A2 l2.length c2] 26)).alloc (.cells #[.int .i64 p,.int .i64 q,.int .i64 r] 29)).alloc (.cells #[.int .i64 0,.int .i64 0] 51)).alloc (.cells #[.int .i64 0,.int .i64 0] 51))=W at *
  refine Calls.mono (HB W hP0.hb).out ?_;rintro e v ⟨rfl,hb1⟩
  have hS:=hP0.below hb1
  have z0:v.cell? ⟨w.heap.size+1+1,0,none⟩=some (.int .i64 0):=hS.b6.cell 0
  have z1:v.cell? ⟨w.heap.size+1+1,1,none⟩=some (.int .i64 0):=hS.b6.cell 1
  have z2:v.cell? ⟨w.heap.size+1+1+1,0,none⟩=some (.int .i64 0):=hS.b7.cell 0
  have z3:v.cell? ⟨w.heap.size+1+1+1,1,none⟩=some (.int .i64 0):=hS.b7.cell 1
  have f0:v.frozen? ⟨w.heap.size+1+1,0,none⟩=false:=hS.b6.frozen 0
  have f1:v.frozen? ⟨w.heap.size+1+1,1,none⟩=false:=hS.b6.frozen 1
  have f2:v.frozen? ⟨w.heap.size+1+1+1,0,none⟩=false:=hS.b7.frozen 0
  have f3:v.frozen? ⟨w.heap.size+1+1+1,1,none⟩=false:=hS.b7.frozen 1
  have hbv:=hS.hb
  clear hP0 hb1
  go_wp2
  refine bodyPost_ret (v:=.tuple #[.agg #[.int .i64 0,.int .i64 0],.agg #[.int .i64 0,.int .i64 0],.int .i64 bc]) (by simp [results,Tryz.results82,go_sem,z0,z1,z2,z3]) rfl ⟨rfl,(by repeat first | with_reducible (first | exact hbv | apply below_drewN' | apply Below.drew | refine Below.alloc ?_ ?_ _ | refine Below.setCell ?_ ?_ _) | exact hbv | omega | (simp <;> omega) | (have:=(hbv).size;first | omega | (simp <;> omega)))⟩
theorem specIsExercise_c (L:Int) (A1:Option Addr) (c1:Nat) (l1:List Int) (A2:Option Addr) (c2:Nat) (l2:List Int) (A3:Option Addr) (c3:Nat) (l:List Term) (p q r:Int) (w:World) (E:ExIn w A1 c1 l1 A2 c2 l2 A3 c3 l) :
  Calls Tryz.prog 35 #[.agg #[.int .i64 L,.slice A1 l1.length c1,.slice A2 l2.length c2,.slice A3 l.length c3,.int .i64 p,.int .i64 q,.int .i64 r]] w fun e w'=>e=.returned (.bool (exB L l1 l2 l p q r))∧Below w.heap.size w w':=by
 have HS:=fun (W:World) (hW:Below w.heap.size w W)=>Lib.hid (specPlanSpan_c L A1 c1 l1 A2 c2 l2 A3 c3 l p q r W (E.later hW))
 unfold exB
 generalize exLoF L l1 l2 l p q r=F1 at *
 generalize exHiF L l1 l2 l p q r=F2 at *
 generalize exCode L l1 l2 l p q r=cc at *
 clear E
 have hW:Below w.heap.size w (w.alloc (.cells #[.int .i64 L,.slice A1 l1.length c1,.slice A2 l2.length c2,.slice A3 l.length c3,.int .i64 p,.int .i64 q,.int .i64 r] 31)):=(by repeat first | with_reducible (first | exact Below.refl _ _ | apply below_drewN' | apply Below.drew | refine Below.alloc ?_ ?_ _ | refine Below.setCell ?_ ?_ _) | exact Below.refl _ _ | omega | (simp <;> omega) | (have:=(Below.refl _ _).size;first | omega | (simp <;> omega)))
 go_enter Tryz.func35,Tryz.ntmps35
 go_wp2_with fail
 generalize w.alloc (.cells #[.int .i64 L,.slice A1 l1.length c1,.slice A2 l2.length c2,.slice A3 l.length c3,.int .i64 p,.int .i64 q,.int .i64 r] 31)=W at *
 refine Calls.mono (HS W hW).out ?_;rintro e w1 ⟨rfl,hb1⟩
 have hW1:=hW.trans (hb1.mono hW.size)
 have hs1:=hW1.size
 go_wp2
 go_ret
 exact ⟨rfl,(by repeat first | with_reducible (first | exact hW1 | apply below_drewN' | apply Below.drew | refine Below.alloc ?_ ?_ _ | refine Below.setCell ?_ ?_ _) | exact hW1 | omega | (simp <;> omega) | (have:=(hW1).size;first | omega | (simp <;> omega)))⟩
end Go.Proofs.YtednjmldjbndhaaGreat
