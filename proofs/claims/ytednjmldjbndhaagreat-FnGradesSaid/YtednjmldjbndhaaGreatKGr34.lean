/- The step of an answer: how many of its moves are the usual plan's. Conditions: the lists' lengths; the exercise is valid. -/
import Derived.BigQuiet
import Derived.Test.YtednjmldjbndhaaGreatKGr12
import Derived.Test.YtednjmldjbndhaaGreatKGr18
import Derived.Test.YtednjmldjbndhaaGreatKGr21
set_option linter.unusedSimpArgs false
set_option linter.unusedVariables false
set_option maxRecDepth 100000
set_option maxHeartbeats 8000000
namespace Go.Proofs.YtednjmldjbndhaaGreat
open Go.RowKit
def stepN:List Move→List Move→Nat
 | x :: xs,y :: ys=>if x=y then stepN xs ys+1 else 0
 | _,_=>0
theorem stepN_eq:∀ {ms l:List Move} {k:Nat},k ≤ ms.length→k ≤ l.length→(∀ j,j < k→ms[j]?=l[j]?)→(k=ms.length ∨ k=l.length ∨ ∃ x y,ms[k]?=some x∧l[k]?=some y∧x ≠ y)→stepN ms l=k
 | [],l,k,h1,_,_,_=>by
  have:k=0:=by simpa using h1
  subst this
  unfold stepN
  cases l <;> rfl
 | x :: xs,[],k,_,h2,_,_=>by
  have:k=0:=by simpa using h2
  subst this
  rfl
 | x :: xs,y :: ys,0,_,_,_,he=>by
  unfold stepN
  rcases he with he | he | ⟨a,b,ha,hb,hn⟩
  ·simp at he
  ·simp at he
  ·simp at ha hb
   subst ha
   subst hb
   rw [if_neg hn]
 | x :: xs,y :: ys,k+1,h1,h2,h,he=>by
  have h0:=h 0 (by omega)
  simp at h0
  unfold stepN
  rw [if_pos h0,stepN_eq (k:=k) (by simpa using h1) (by simpa using h2) (fun j hj=>by have:=h (j+1) (by omega);simpa using this) (by simpa using he)]
theorem stepN_le:∀ {ms l:List Move},stepN ms l ≤ ms.length∧stepN ms l ≤ l.length
 | [],l=>by unfold stepN;cases l <;> simp
 | x :: xs,[]=>by simp [stepN]
 | x :: xs,y :: ys=>by
  unfold stepN
  have:=stepN_le (ms:=xs) (l:=ys)
  split
  ·simp;omega
  ·simp
theorem mvEq_eq (x y:Move):(decide (x.kind=y.kind) && (decide (x.scale=y.scale) && ((decide (x.digits=y.digits) && (decide (x.tens=y.tens) && true)) && true)))=decide (x=y):=by
 obtain ⟨a,b,c,d⟩:=x
 obtain ⟨a',b',c',d'⟩:=y
 rw [Bool.eq_iff_iff]
 simp
theorem ex_usual {w:World} {L:Int} {A1:Option Addr} {c1:Nat} {l1:List Int} {A2:Option Addr} {c2:Nat} {l2:List Int} {A3:Option Addr} {c3:Nat} {l3:List Term} {p q r:Int} (h:exB L l1 l2 l3 p q r=true) (E:ExIn w A1 c1 l1 A2 c2 l2 A3 c3 l3):RuleIn w A1 l1 A2 l2∧0 < l3.length∧l3.length ≤ 6∧l3.all termOK=true:=by
 unfold exB at h
 have hc:exCode L l1 l2 l3 p q r=0:=by simpa using h
 by_cases hb:boundCode L l1 l2 l3 p q r=0
 ·obtain ⟨b1,b2,b3,b4,b5⟩:=bound_parts hb
  obtain ⟨k1,k2,k3,k4⟩:=chainB_parts b2
  exact ⟨ExIn.rule E b3 b4,k1,k2,k3⟩
 ·rw [(ex_bad hb).2.2] at hc
  exact absurd hc hb
theorem stepOf_c (L:Int) (A1:Option Addr) (c1:Nat) (l1:List Int) (A2:Option Addr) (c2:Nat) (l2:List Int) (A3:Option Addr) (c3:Nat) (l3:List Term) (p q r:Int) (A:Option Addr) (c:Nat) (l:List Move) (a b:Int) (w:World) (E:ExIn w A1 c1 l1 A2 c2 l2 A3 c3 l3) (hx:exB L l1 l2 l3 p q r=true) (F:AnIn w A c l) :
  Calls Tryz.prog 80 #[.agg #[.int .i64 L,.slice A1 l1.length c1,.slice A2 l2.length c2,.slice A3 l3.length c3,.int .i64 p,.int .i64 q,.int .i64 r],.agg #[.slice A l.length c,.int .i64 a,.int .i64 b]] w fun e w'=>(∃ A' c',e=.returned (.tuple #[.int .i64 (stepN (usualP l3).ms l),.slice A' (usualP l3).ms.length c'])∧(usualP l3).ms.length ≤ c'∧Sl w' w'.heap.size 4 A' ((usualP l3).ms.map Move.cells))∧Below w.heap.size w w':=by
 have hGt:Tryz.prog.eqGuardType Tryz.prog.depth 75=false:=by kernel_rfl
 have hW0:Below w.heap.size w ((w.alloc (.cells #[.int .i64 L,.slice A1 l1.length c1,.slice A2 l2.length c2,.slice A3 l3.length c3,.int .i64 p,.int .i64 q,.int .i64 r] 31)).alloc (.cells #[.slice A l.length c,.int .i64 a,.int .i64 b] 53)):=(by repeat first | with_reducible (first | exact Below.refl _ _ | apply below_drewN' | apply Below.drew | refine Below.alloc ?_ ?_ _ | refine Below.setCell ?_ ?_ _) | exact Below.refl _ _ | omega | (simp <;> omega) | (have:=(Below.refl _ _).size;first | omega | (simp <;> omega)))
 have B0:=Blk.new' (w.alloc (.cells #[.int .i64 L,.slice A1 l1.length c1,.slice A2 l2.length c2,.slice A3 l3.length c3,.int .i64 p,.int .i64 q,.int .i64 r] 31)) 53 #[.slice A l.length c,.int .i64 a,.int .i64 b] (g:=w.heap.size+1) (by simp)
 obtain ⟨R,r1,r2,r3⟩:=ex_usual hx E
 have hms:(usualP l3).ms.length ≤ 19:=(usual_ok r1 r2 r3).2
 have HU:=Lib.hid (usualPlan_c L A1 c1 l1 A2 c2 l2 A3 c3 l3 _ (R.later hW0) r1 r2 E.k3 r3 (E.later hW0).s3)
 have hl:=F.n
 have F0:=F.later hW0
 clear E R r1 r2 r3 hx F
 generalize (usualP l3).ms=ms at *
 go_enter Tryz.func80,Tryz.ntmps80
 go_wp2_with fail
 generalize ((w.alloc (.cells #[.int .i64 L,.slice A1 l1.length c1,.slice A2 l2.length c2,.slice A3 l3.length c3,.int .i64 p,.int .i64 q,.int .i64 r] 31)).alloc (.cells #[.slice A l.length c,.int .i64 a,.int .i64 b] 53))=W at *
 refine Calls.mono HU.out ?_;rintro e w1 ⟨A',c',rfl,hO,hb1⟩;have hs':=hO.sl;have hk':=hO.le_cap;clear hO
 have hW1:=hW0.trans (hb1.mono hW0.size)
 have B1:=B0.below hb1 B0.lt
 have F1:=F0.later hb1
 clear HU hW0 B0 F0 hb1
 have hba:Below w1.heap.size w1 (w1.alloc (.cells #[.int .i64 (usualP l3).sh,.int .i64 (usualP l3).cu] 104)):=(Below.refl _ _).alloc (Nat.le_refl _) _
 have hW2:=hW1.trans (hba.mono hW1.size)
 have B2:=B1.below hba B1.lt
 have hs':=(hs'.below hba).more hba.size
 have F2:=F1.later hba
 clear hW1 B1 F1 hba
 go_wp2_with fail
 generalize w1.alloc (.cells #[.int .i64 (usualP l3).sh,.int .i64 (usualP l3).cu] 104)=w2 at *
 have hs:=F2.s
 have hgB:=B2.lt
 have y0:w2.cell? ⟨w.heap.size+1,0,none⟩=some (.slice A l.length c):=B2.cell 0
 clear B2 F2
 go_loopw [8] (fun i wr=>∃ k:Nat,k ≤ ms.length∧k ≤ l.length∧i=.int .i64 k∧Below w2.heap.size w2 wr∧Hid (∀ j,j < k→ms[j]?=l[j]?)) (fun i _=>ms.length - (intOf i).toNat)
 case atStart=>exact ⟨0,Nat.zero_le _,Nat.zero_le _,rfl,Below.refl _ _,fun j h=>by omega⟩
 case round =>
  obtain ⟨k,hk1,hk2,rfl,hb,hn⟩:=hrel
  have x0:wr.cell? ⟨w.heap.size+1,0,none⟩=some (.slice A l.length c):=by rw [hb.cell hgB];exact y0
  have hWr:=hW2.trans (hb.mono hW2.size)
  have k0:(0:Int) ≤ (k:Int):=by omega
  have HSr:Sl wr wr.heap.size 4 A' (ms.map Move.cells):=(hs'.below hb).more hb.size
  by_cases h1:k < ms.length
  ·have i1:(k:Int) < (ms.length:Int):=by omega
   by_cases h2:k < l.length
   ·have i2:(k:Int) < (l.length:Int):=by omega
    obtain ⟨b2,off2,rfl,b2B,hc2⟩:=hs.at_ (i:=k) (by simpa using h2)
    obtain ⟨b1,off1,rfl,b1B,hc1⟩:=hs'.at_ (i:=k) (by simpa using h1)
    simp only [List.getElem_map] at hc1 hc2
    have m0:wr.cell? ⟨b1,off1+k * 4,none⟩=some (.int .i64 ms[k].kind):=by rw [hb.cell b1B];exact hc1 0 _ rfl
    have m1:wr.cell? ⟨b1,off1+k * 4+1,none⟩=some (.int .i64 ms[k].scale):=by rw [hb.cell b1B];exact hc1 1 _ rfl
    have m2:wr.cell? ⟨b1,off1+k * 4+2,none⟩=some (.int .i64 ms[k].digits):=by rw [hb.cell b1B];exact hc1 2 _ rfl
    have m3:wr.cell? ⟨b1,off1+k * 4+3,none⟩=some (.int .i64 ms[k].tens):=by rw [hb.cell b1B];exact hc1 3 _ rfl
    have n0:wr.cell? ⟨b2,off2+k * 4,none⟩=some (.int .i64 l[k].kind):=by rw [hb.cell b2B];exact hc2 0 _ rfl
    have n1:wr.cell? ⟨b2,off2+k * 4+1,none⟩=some (.int .i64 l[k].scale):=by rw [hb.cell b2B];exact hc2 1 _ rfl
    have n2:wr.cell? ⟨b2,off2+k * 4+2,none⟩=some (.int .i64 l[k].digits):=by rw [hb.cell b2B];exact hc2 2 _ rfl
    have n3:wr.cell? ⟨b2,off2+k * 4+3,none⟩=some (.int .i64 l[k].tens):=by rw [hb.cell b2B];exact hc2 3 _ rfl
    clear hc1 hc2
    have HQ:=fun W=>eqMov ms[k].kind ms[k].scale ms[k].digits ms[k].tens l[k].kind l[k].scale l[k].digits l[k].tens W
    rw [mvEq_eq] at HQ
    have e1:Hid (ms[k]?=some ms[k]):=List.getElem?_eq_getElem h1
    have e2:Hid (l[k]?=some l[k]):=List.getElem?_eq_getElem h2
    generalize ms[k]=x at *
    generalize l[k]=y at *
    by_cases he:x=y
    ·have hN:Hid (∀ j,j < k+1→ms[j]?=l[j]?):=fun j hj=>by
      by_cases hjk:j < k
      ·exact hn.out j hjk
      ·obtain rfl:j=k:=by omega
       rw [e1.out,e2.out,he]
     rw [decide_eq_true he] at HQ
     clear he e1 e2
     go_wp2_with fail
     go_quiet (fail)
     go_wp2
     go_roundw
     case rel=>exact ⟨k+1,by omega,by omega,by go_num,(by first | exact below_drewN' hb _ | exact hb.drew),hN⟩
     case measure=>simp [intOf];omega
    ·have hst:Hid (stepN ms l=k):=stepN_eq hk1 hk2 hn.out (.inr (.inr ⟨x,y,e1.out,e2.out,he⟩))
     rw [decide_eq_false he] at HQ
     clear he e1 e2
     go_wp2_with fail
     go_quiet (fail)
     go_wp2
     refine bodyPost_ret (v:=.tuple #[.int .i64 k,.slice _ ms.length c']) (by simp [results,Tryz.results80,go_sem];rfl) rfl ⟨⟨_,c',by rw [hst.out],hk',by first | exact HSr | exact HSr.drewN _⟩,(by repeat first | with_reducible (first | exact hWr | apply below_drewN' | apply Below.drew | refine Below.alloc ?_ ?_ _ | refine Below.setCell ?_ ?_ _) | exact hWr | omega | (simp <;> omega) | (have:=(hWr).size;first | omega | (simp <;> omega)))⟩
   ·have hst:Hid (stepN ms l=k):=stepN_eq hk1 hk2 hn.out (.inr (.inl (by omega)))
    have hd2:decide ((k:Int) < (l.length:Int))=false:=decide_eq_false (by omega)
    go_wp2_with fail
    go_quiet (fail)
    go_wp2
    refine bodyPost_ret (v:=.tuple #[.int .i64 k,.slice _ ms.length c']) (by simp [results,Tryz.results80,go_sem];rfl) rfl ⟨⟨_,c',by rw [hst.out],hk',by first | exact HSr | exact HSr.drewN _⟩,(by repeat first | with_reducible (first | exact hWr | apply below_drewN' | apply Below.drew | refine Below.alloc ?_ ?_ _ | refine Below.setCell ?_ ?_ _) | exact hWr | omega | (simp <;> omega) | (have:=(hWr).size;first | omega | (simp <;> omega)))⟩
  ·have hst:Hid (stepN ms l=k):=stepN_eq hk1 hk2 hn.out (.inl (by omega))
   have hd1:decide ((k:Int) < (ms.length:Int))=false:=decide_eq_false (by omega)
   go_wp2_with fail
   go_quiet (fail)
   go_wp2
   refine bodyPost_ret (v:=.tuple #[.int .i64 k,.slice _ ms.length c']) (by simp [results,Tryz.results80,go_sem];rfl) rfl ⟨⟨_,c',by rw [hst.out],hk',by first | exact HSr | exact HSr.drewN _⟩,(by repeat first | with_reducible (first | exact hWr | apply below_drewN' | apply Below.drew | refine Below.alloc ?_ ?_ _ | refine Below.setCell ?_ ?_ _) | exact hWr | omega | (simp <;> omega) | (have:=(hWr).size;first | omega | (simp <;> omega)))⟩
theorem l31Step_c (L:Int) (A1:Option Addr) (c1:Nat) (l1:List Int) (A2:Option Addr) (c2:Nat) (l2:List Int) (A3:Option Addr) (c3:Nat) (l3:List Term) (p q r:Int) (A:Option Addr) (c:Nat) (l:List Move) (a b:Int) (w:World) (E:ExIn w A1 c1 l1 A2 c2 l2 A3 c3 l3) (hx:exB L l1 l2 l3 p q r=true) (F:AnIn w A c l) :
  Calls Tryz.prog 81 #[.agg #[.int .i64 L,.slice A1 l1.length c1,.slice A2 l2.length c2,.slice A3 l3.length c3,.int .i64 p,.int .i64 q,.int .i64 r],.agg #[.slice A l.length c,.int .i64 a,.int .i64 b]] w fun e w'=>e=.returned (.int .i64 (stepN (usualP l3).ms l))∧Below w.heap.size w w':=by
 have hGt:Tryz.prog.eqGuardType Tryz.prog.depth 75=false:=by kernel_rfl
 have hW0:Below w.heap.size w ((w.alloc (.cells #[.int .i64 L,.slice A1 l1.length c1,.slice A2 l2.length c2,.slice A3 l3.length c3,.int .i64 p,.int .i64 q,.int .i64 r] 31)).alloc (.cells #[.slice A l.length c,.int .i64 a,.int .i64 b] 53)):=(by repeat first | with_reducible (first | exact Below.refl _ _ | apply below_drewN' | apply Below.drew | refine Below.alloc ?_ ?_ _ | refine Below.setCell ?_ ?_ _) | exact Below.refl _ _ | omega | (simp <;> omega) | (have:=(Below.refl _ _).size;first | omega | (simp <;> omega)))
 have B0:=Blk.new' (w.alloc (.cells #[.int .i64 L,.slice A1 l1.length c1,.slice A2 l2.length c2,.slice A3 l3.length c3,.int .i64 p,.int .i64 q,.int .i64 r] 31)) 53 #[.slice A l.length c,.int .i64 a,.int .i64 b] (g:=w.heap.size+1) (by simp)
 obtain ⟨R,r1,r2,r3⟩:=ex_usual hx E
 have hms:(usualP l3).ms.length ≤ 19:=(usual_ok r1 r2 r3).2
 have HU:=Lib.hid (l14Usual_c L A1 c1 l1 A2 c2 l2 A3 c3 l3 _ (R.later hW0) r1 r2 r3 (E.later hW0).s3)
 have hl:=F.n
 have F0:=F.later hW0
 clear E R r1 r2 r3 hx F
 generalize (usualP l3).ms=ms at *
 go_enter Tryz.func81,Tryz.ntmps81
 go_wp2_with fail
 generalize ((w.alloc (.cells #[.int .i64 L,.slice A1 l1.length c1,.slice A2 l2.length c2,.slice A3 l3.length c3,.int .i64 p,.int .i64 q,.int .i64 r] 31)).alloc (.cells #[.slice A l.length c,.int .i64 a,.int .i64 b] 53))=W at *
 refine Calls.mono HU.out ?_;rintro e w1 ⟨A',c',rfl,hs',hb1⟩
 have hW1:=hW0.trans (hb1.mono hW0.size)
 have B1:=B0.below hb1 B0.lt
 have F1:=F0.later hb1
 clear HU hW0 B0 F0 hb1
 have hW2:=hW1
 have B2:=B1
 have F2:=F1
 clear hW1 B1 F1
 generalize w1=w2 at *
 go_wp2_with fail
 have hs:=F2.s
 have hgB:=B2.lt
 have y0:w2.cell? ⟨w.heap.size+1,0,none⟩=some (.slice A l.length c):=B2.cell 0
 clear B2 F2
 go_loopw [6] (fun i wr=>∃ k:Nat,k ≤ ms.length∧k ≤ l.length∧i=.int .i64 k∧Below w2.heap.size w2 wr∧Hid (∀ j,j < k→ms[j]?=l[j]?)) (fun i _=>ms.length - (intOf i).toNat)
 case atStart=>exact ⟨0,Nat.zero_le _,Nat.zero_le _,rfl,Below.refl _ _,fun j h=>by omega⟩
 case round =>
  obtain ⟨k,hk1,hk2,rfl,hb,hn⟩:=hrel
  have x0:wr.cell? ⟨w.heap.size+1,0,none⟩=some (.slice A l.length c):=by rw [hb.cell hgB];exact y0
  have hWr:=hW2.trans (hb.mono hW2.size)
  have k0:(0:Int) ≤ (k:Int):=by omega
  have HSr:Sl wr wr.heap.size 4 A' (ms.map Move.cells):=(hs'.below hb).more hb.size
  by_cases h1:k < ms.length
  ·have i1:(k:Int) < (ms.length:Int):=by omega
   by_cases h2:k < l.length
   ·have i2:(k:Int) < (l.length:Int):=by omega
    obtain ⟨b2,off2,rfl,b2B,hc2⟩:=hs.at_ (i:=k) (by simpa using h2)
    obtain ⟨b1,off1,rfl,b1B,hc1⟩:=hs'.at_ (i:=k) (by simpa using h1)
    simp only [List.getElem_map] at hc1 hc2
    have m0:wr.cell? ⟨b1,off1+k * 4,none⟩=some (.int .i64 ms[k].kind):=by rw [hb.cell b1B];exact hc1 0 _ rfl
    have m1:wr.cell? ⟨b1,off1+k * 4+1,none⟩=some (.int .i64 ms[k].scale):=by rw [hb.cell b1B];exact hc1 1 _ rfl
    have m2:wr.cell? ⟨b1,off1+k * 4+2,none⟩=some (.int .i64 ms[k].digits):=by rw [hb.cell b1B];exact hc1 2 _ rfl
    have m3:wr.cell? ⟨b1,off1+k * 4+3,none⟩=some (.int .i64 ms[k].tens):=by rw [hb.cell b1B];exact hc1 3 _ rfl
    have n0:wr.cell? ⟨b2,off2+k * 4,none⟩=some (.int .i64 l[k].kind):=by rw [hb.cell b2B];exact hc2 0 _ rfl
    have n1:wr.cell? ⟨b2,off2+k * 4+1,none⟩=some (.int .i64 l[k].scale):=by rw [hb.cell b2B];exact hc2 1 _ rfl
    have n2:wr.cell? ⟨b2,off2+k * 4+2,none⟩=some (.int .i64 l[k].digits):=by rw [hb.cell b2B];exact hc2 2 _ rfl
    have n3:wr.cell? ⟨b2,off2+k * 4+3,none⟩=some (.int .i64 l[k].tens):=by rw [hb.cell b2B];exact hc2 3 _ rfl
    clear hc1 hc2
    have HQ:=fun W=>eqMov ms[k].kind ms[k].scale ms[k].digits ms[k].tens l[k].kind l[k].scale l[k].digits l[k].tens W
    rw [mvEq_eq] at HQ
    have e1:Hid (ms[k]?=some ms[k]):=List.getElem?_eq_getElem h1
    have e2:Hid (l[k]?=some l[k]):=List.getElem?_eq_getElem h2
    generalize ms[k]=x at *
    generalize l[k]=y at *
    by_cases he:x=y
    ·have hN:Hid (∀ j,j < k+1→ms[j]?=l[j]?):=fun j hj=>by
      by_cases hjk:j < k
      ·exact hn.out j hjk
      ·obtain rfl:j=k:=by omega
       rw [e1.out,e2.out,he]
     rw [decide_eq_true he] at HQ
     clear he e1 e2
     go_wp2_with fail
     go_quiet (fail)
     go_wp2
     go_roundw
     case rel=>exact ⟨k+1,by omega,by omega,by go_num,(by first | exact below_drewN' hb _ | exact hb.drew),hN⟩
     case measure=>simp [intOf];omega
    ·have hst:Hid (stepN ms l=k):=stepN_eq hk1 hk2 hn.out (.inr (.inr ⟨x,y,e1.out,e2.out,he⟩))
     rw [decide_eq_false he] at HQ
     clear he e1 e2
     go_wp2_with fail
     go_quiet (fail)
     go_wp2
     (go_ret;exact ⟨by rw [hst.out];rfl,(by repeat first | with_reducible (first | exact hWr | apply below_drewN' | apply Below.drew | refine Below.alloc ?_ ?_ _ | refine Below.setCell ?_ ?_ _) | exact hWr | omega | (simp <;> omega) | (have:=(hWr).size;first | omega | (simp <;> omega)))⟩)
   ·have hst:Hid (stepN ms l=k):=stepN_eq hk1 hk2 hn.out (.inr (.inl (by omega)))
    have hd2:decide ((k:Int) < (l.length:Int))=false:=decide_eq_false (by omega)
    go_wp2_with fail
    go_quiet (fail)
    go_wp2
    (go_ret;exact ⟨by rw [hst.out];rfl,(by repeat first | with_reducible (first | exact hWr | apply below_drewN' | apply Below.drew | refine Below.alloc ?_ ?_ _ | refine Below.setCell ?_ ?_ _) | exact hWr | omega | (simp <;> omega) | (have:=(hWr).size;first | omega | (simp <;> omega)))⟩)
  ·have hst:Hid (stepN ms l=k):=stepN_eq hk1 hk2 hn.out (.inl (by omega))
   have hd1:decide ((k:Int) < (ms.length:Int))=false:=decide_eq_false (by omega)
   go_wp2_with fail
   go_quiet (fail)
   go_wp2
   (go_ret;exact ⟨by rw [hst.out];rfl,(by repeat first | with_reducible (first | exact hWr | apply below_drewN' | apply Below.drew | refine Below.alloc ?_ ?_ _ | refine Below.setCell ?_ ?_ _) | exact hWr | omega | (simp <;> omega) | (have:=(hWr).size;first | omega | (simp <;> omega)))⟩)
end Go.Proofs.YtednjmldjbndhaaGreat
