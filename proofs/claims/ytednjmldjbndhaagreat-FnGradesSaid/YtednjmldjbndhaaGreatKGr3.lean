/- Small range tests of one number. No condition. The logarithm by squaring: the plain sums. No program. The logarithm of a number from 10^8 to 10^9: the program's and the reference's. Figures on a circle: valid figures, their angles. The small functions behind a mark's place: differences, halves and thirds of intervals. No condition beyond bounds. The point of a figure on ScaleC, the program's and the reference's. Condition: the digits are in range. Sums of intervals, and the reference's logarithm of a figure. Conditions: bounds. slices.ContainsFunc at []impl.Term, at a predicate that only computes. Chains: whether they are valid, the program's and the reference's. No condition beyond the length. The logarithm of a chain, the program's and the reference's. Condition: the chain is valid. -/
import Derived.Deep.RegionHeld3
import Derived.IntWalk
import Derived.Shelf.Abstract
import Derived.Test.YtednjmldjbndhaaGreatKGr1
set_option linter.unusedSimpArgs false
set_option linter.unusedVariables false
set_option maxRecDepth 100000
set_option maxHeartbeats 8000000
namespace Go.Proofs.YtednjmldjbndhaaGreat
open Go.RowKit
theorem specIsScale_c (n:Int) (w:World):Calls Tryz.prog 204 #[.int .i64 n] w fun e w'=>e=.returned (.bool (inB n 0 5))∧w=w':=by
 go_enter Tryz.func204,Tryz.ntmps204
 go_wp2_with (go_at_call 56;refine (l01In_c _ _ _ _).mono ?_;rintro e w' ⟨rfl,rfl⟩)
 go_ret
 exact ⟨rfl,rfl⟩
theorem implIsScale_c (n:Int) (w:World):Calls Tryz.prog 166 #[.int .i64 n] w fun e w'=>e=.returned (.bool (inB n 0 5))∧w=w':=by
 go_enter Tryz.func166,Tryz.ntmps166
 go_wp2_with (go_at_call 52;refine (within_c _ _ _ _).mono ?_;rintro e w' ⟨rfl,rfl⟩)
 go_ret
 exact ⟨rfl,rfl⟩
theorem l05Length_c (n:Int) (w:World):Calls Tryz.prog 111 #[.int .i64 n] w fun e w'=>e=.returned (.bool (inB n 1 100000))∧w=w':=by
 go_enter Tryz.func111,Tryz.ntmps111
 go_wp2_with (go_at_call 56;refine (l01In_c _ _ _ _).mono ?_;rintro e w' ⟨rfl,rfl⟩)
 go_ret
 exact ⟨rfl,rfl⟩
theorem isLength_c (n:Int) (w:World):Calls Tryz.prog 108 #[.int .i64 n] w fun e w'=>e=.returned (.bool (inB n 1 100000))∧w=w':=by
 go_enter Tryz.func108,Tryz.ntmps108
 go_wp2_with (go_at_call 52;refine (within_c _ _ _ _).mono ?_;rintro e w' ⟨rfl,rfl⟩)
 go_ret
 exact ⟨rfl,rfl⟩
theorem l10Eye_c (n:Int) (w:World):Calls Tryz.prog 113 #[.int .i64 n] w fun e w'=>e=.returned (.bool (inB n 0 200))∧w=w':=by
 go_enter Tryz.func113,Tryz.ntmps113
 go_wp2_with (go_at_call 56;refine (l01In_c _ _ _ _).mono ?_;rintro e w' ⟨rfl,rfl⟩)
 go_ret
 exact ⟨rfl,rfl⟩
end Go.Proofs.YtednjmldjbndhaaGreat
namespace Go.Proofs.YtednjmldjbndhaaGreat
def stepL (s:Int × Int):Int × Int:=if 1000000000 ≤ s.1 * s.1 / 100000000 then (s.1 * s.1 / 100000000 / 10,2 * s.2+1) else (s.1 * s.1 / 100000000,2 * s.2)
def cdiv (a b:Int):Int:=-(-a / b)
def stepH (s:Int × Int):Int × Int:=if 1000000000 ≤ cdiv (s.1 * s.1) 100000000 then (cdiv (cdiv (s.1 * s.1) 100000000) 10,2 * s.2+1) else (cdiv (s.1 * s.1) 100000000,2 * s.2)
def itL (x:Int):Nat→Int × Int
 | 0=>(x,0)
 | k+1=>stepL (itL x k)
def itH (x:Int):Nat→Int × Int
 | 0=>(x,0)
 | k+1=>stepH (itH x k)
theorem sq_bd {x:Int} (h:100000000 ≤ x∧x ≤ 1000000000):10000000000000000 ≤ x * x∧x * x ≤ 1000000000000000000:=by
 have h1:100000000 * 100000000 ≤ x * x:=Int.mul_le_mul h.1 h.1 (by omega) (by omega)
 have h2:x * x ≤ 1000000000 * 1000000000:=Int.mul_le_mul h.2 h.2 (by omega) (by omega)
 omega
theorem two_pow_le:∀ k:Nat,k ≤ 20→(2:Int) ^ k ≤ 1048576:=by decide
theorem itL_bd {x:Int} (h:100000000 ≤ x∧x ≤ 1000000000):∀ k,(100000000 ≤ (itL x k).1∧(itL x k).1 ≤ 1000000000)∧0 ≤ (itL x k).2∧(itL x k).2 < 2 ^ k:=by
 intro k
 induction k with
 | zero=>exact ⟨h,by simp [itL],by simp [itL]⟩
 | succ k ih =>
  have hs:=sq_bd ih.1
  simp only [itL,stepL]
  generalize itL x k=s at ih hs
  obtain ⟨y,n⟩:=s
  simp only at ih hs ⊢
  generalize y * y=q at hs
  rw [Int.pow_succ]
  split <;> simp only <;> omega
theorem itH_bd {x:Int} (h:100000000 ≤ x∧x ≤ 1000000000):∀ k,(100000000 ≤ (itH x k).1∧(itH x k).1 ≤ 1000000000)∧0 ≤ (itH x k).2∧(itH x k).2 < 2 ^ k:=by
 intro k
 induction k with
 | zero=>exact ⟨h,by simp [itH],by simp [itH]⟩
 | succ k ih =>
  have hs:=sq_bd ih.1
  simp only [itH,stepH]
  generalize itH x k=s at ih hs
  obtain ⟨y,n⟩:=s
  simp only at ih hs ⊢
  generalize y * y=q at hs
  rw [Int.pow_succ]
  by_cases hb:1000000000 ≤ cdiv q 100000000
  ·rw [if_pos hb];simp only;unfold cdiv at *;omega
  ·rw [if_neg hb];simp only;unfold cdiv at *;omega
def logLow (x:Int):Int:=(itL x 20).2
def logHigh (x:Int):Int:=(itH x 20).2+1
theorem logLow_bd {x:Int} (h:100000000 ≤ x∧x ≤ 1000000000):0 ≤ logLow x∧logLow x < 1048576:=by
 have:=(itL_bd h 20).2;unfold logLow;omega
theorem logHigh_bd {x:Int} (h:100000000 ≤ x∧x ≤ 1000000000):1 ≤ logHigh x∧logHigh x ≤ 1048576:=by
 have:=(itH_bd h 20).2;unfold logHigh;omega
end Go.Proofs.YtednjmldjbndhaaGreat
namespace Go.Proofs.YtednjmldjbndhaaGreat
open Go.RowKit
theorem l03BitsL_c (x:Int) (w:World) (h:100000000 ≤ x∧x ≤ 1000000000):Calls Tryz.prog 235 #[.int .i64 x,.bool false] w fun e w'=>e=.returned (.int .i64 (itL x 20).2)∧w=w':=by
 go_enter Tryz.func235,Tryz.ntmps235
 go_wp2_with fail
 go_loop [0,5,6] (fun y n i=>∃ k:Nat,k ≤ 20∧i=.int .i64 k∧y=.int .i64 (itL x k).1∧n=.int .i64 (itL x k).2) (fun _ _ i=>20 - (intOf i).toNat)
 case atStart=>exact ⟨0,Nat.zero_le _,rfl,rfl,rfl⟩
 case round =>
  obtain ⟨k,hk,rfl,rfl,rfl⟩:=hrel
  have bd:=itL_bd h k
  have hp:=two_pow_le k hk
  have hsu:itL x (k+1)=stepL (itL x k):=rfl
  by_cases hlt:k < 20
  ·have hlt':(k:Int) < 20:=by omega
   generalize itL x k=st at bd hsu ⊢
   obtain ⟨y,n⟩:=st
   simp only at bd ⊢
   have hs:=sq_bd bd.1
   obtain ⟨⟨b1,b2⟩,b3,b4⟩:=bd
   obtain ⟨s1,s2⟩:=hs
   have b5:n ≤ 1048576:=by omega
   clear b4 hp
   by_cases hbig:1000000000 ≤ y * y / 100000000
   ·have Hs:Hid (itL x (k+1)=(y * y / 100000000 / 10,2 * n+1)):=by unfold Hid;rw [hsu];unfold stepL;rw [if_pos hbig]
    clear hsu
    go_wp2
    go_round
    case rel=>exact ⟨k+1,by omega,by go_num,by rw [Hs.out],by rw [Hs.out]⟩
    case measure=>simp [intOf];omega
   ·have Hs:Hid (itL x (k+1)=(y * y / 100000000,2 * n)):=by unfold Hid;rw [hsu];unfold stepL;rw [if_neg hbig]
    clear hsu
    go_wp2
    go_round
    case rel=>exact ⟨k+1,by omega,by go_num,by rw [Hs.out],by rw [Hs.out]⟩
    case measure=>simp [intOf];omega
  ·have:k=20:=by omega
   subst this
   go_wp2
   go_ret
   exact ⟨rfl,rfl⟩
theorem l03BitsH_c (x:Int) (w:World) (h:100000000 ≤ x∧x ≤ 1000000000):Calls Tryz.prog 235 #[.int .i64 x,.bool true] w fun e w'=>e=.returned (.int .i64 (itH x 20).2)∧w=w':=by
 go_enter Tryz.func235,Tryz.ntmps235
 go_wp2_with fail
 go_loop [0,5,6] (fun y n i=>∃ k:Nat,k ≤ 20∧i=.int .i64 k∧y=.int .i64 (itH x k).1∧n=.int .i64 (itH x k).2) (fun _ _ i=>20 - (intOf i).toNat)
 case atStart=>exact ⟨0,Nat.zero_le _,rfl,rfl,rfl⟩
 case round =>
  obtain ⟨k,hk,rfl,rfl,rfl⟩:=hrel
  have bd:=itH_bd h k
  have hp:=two_pow_le k hk
  have hsu:itH x (k+1)=stepH (itH x k):=rfl
  by_cases hlt:k < 20
  ·have hlt':(k:Int) < 20:=by omega
   generalize itH x k=st at bd hsu ⊢
   obtain ⟨y,n⟩:=st
   simp only at bd ⊢
   have hs:=sq_bd bd.1
   obtain ⟨⟨b1,b2⟩,b3,b4⟩:=bd
   obtain ⟨s1,s2⟩:=hs
   have b5:n ≤ 1048576:=by omega
   clear b4 hp
   by_cases hbig:1000000000 ≤ -(-(y * y) / 100000000)
   ·have Hs:Hid (itH x (k+1)=(cdiv (cdiv (y * y) 100000000) 10,2 * n+1)):=by unfold Hid;rw [hsu];unfold stepH;rw [if_pos (show 1000000000 ≤ cdiv (y * y) 100000000 from hbig)]
    clear hsu
    go_wp2_with (go_at_call 229;refine (l01Ceil_c _ _ _ (by omega) (by omega)).mono ?_;rintro e w' ⟨rfl,rfl⟩)
    go_round
    case rel=>exact ⟨k+1,by omega,by go_num,by rw [Hs.out];simp [cdiv],by rw [Hs.out]⟩
    case measure=>simp [intOf];omega
   ·have Hs:Hid (itH x (k+1)=(cdiv (y * y) 100000000,2 * n)):=by unfold Hid;rw [hsu];unfold stepH;rw [if_neg (show ¬ 1000000000 ≤ cdiv (y * y) 100000000 from hbig)]
    clear hsu
    go_wp2_with (go_at_call 229;refine (l01Ceil_c _ _ _ (by omega) (by omega)).mono ?_;rintro e w' ⟨rfl,rfl⟩)
    go_round
    case rel=>exact ⟨k+1,by omega,by go_num,by rw [Hs.out];rfl,by rw [Hs.out]⟩
    case measure=>simp [intOf];omega
  ·have:k=20:=by omega
   subst this
   go_wp2
   go_ret
   exact ⟨rfl,rfl⟩

theorem l03Log_c (x:Int) (w:World) (h:100000000 ≤ x∧x ≤ 1000000000):Calls Tryz.prog 227 #[.int .i64 x] w fun e w'=>e=.returned (.agg #[.int .i64 (logLow x),.int .i64 (logHigh x)])∧Below w.heap.size w w':=by
 have h1:=logLow_bd h
 have h2:=logHigh_bd h
 unfold logLow at *
 unfold logHigh at *
 go_enter Tryz.func227,Tryz.ntmps227
 go_wp2_with fail
 refine (l03BitsL_c x _ h).mono ?_;rintro e w' ⟨rfl,rfl⟩
 go_wp2_with fail
 refine (l03BitsH_c x _ h).mono ?_;rintro e w' ⟨rfl,rfl⟩
 go_wp2
 refine bodyPost_ret (v:=.agg #[.int .i64 (itL x 20).2,.int .i64 ((itH x 20).2+1)]) (by simp [results,Tryz.results227,go_sem]) rfl ⟨rfl,?_⟩
 exact (by repeat first | with_reducible (first | exact Below.refl _ _ | apply below_drewN' | apply Below.drew | refine Below.alloc ?_ ?_ _ | refine Below.setCell ?_ ?_ _) | exact Below.refl _ _ | omega | (simp <;> omega) | (have:=(Below.refl _ _).size;first | omega | (simp <;> omega)))
theorem logarithm_c (x:Int) (w:World) (h:100000000 ≤ x∧x ≤ 1000000000):Calls Tryz.prog 221 #[.int .i64 x] w fun e w'=>e=.returned (.agg #[.int .i64 (logLow x),.int .i64 (logHigh x)])∧Below w.heap.size w w':=by
 go_enter Tryz.func221,Tryz.ntmps221
 go_wp2_with fail
 go_loopw [3,4,9] (fun lo hi i wr=>∃ k:Nat,k ≤ 20∧i=.int .i64 k∧lo=.int .i64 (itL x k).1∧hi=.int .i64 (itH x k).1∧Below w.heap.size w wr ∧
   Blk wr w.heap.size 186 #[.int .i64 0,.int .i64 0]∧Blk wr (w.heap.size+1) 186 #[.int .i64 (itL x k).2,.int .i64 (itH x k).2]) (fun _ _ i _=>20 - (intOf i).toNat)
 case atStart =>
  refine ⟨0,Nat.zero_le _,rfl,rfl,rfl,(by repeat first | with_reducible (first | exact Below.refl _ _ | apply below_drewN' | apply Below.drew | refine Below.alloc ?_ ?_ _ | refine Below.setCell ?_ ?_ _) | exact Below.refl _ _ | omega | (simp <;> omega) | (have:=(Below.refl _ _).size;first | omega | (simp <;> omega))),?_,?_⟩
  ·exact (Blk.new w _ _).alloc _
  ·exact Blk.new' _ _ _ (by simp)
 case round =>
  obtain ⟨k,hk,rfl,rfl,rfl,hb,hB0,hB1⟩:=hrel
  have bd:=itL_bd h k
  have bh:=itH_bd h k
  have hp:=two_pow_le k hk
  have hsu:itL x (k+1)=stepL (itL x k):=rfl
  have hsh:itH x (k+1)=stepH (itH x k):=rfl
  have hz1:=hB1.lt
  generalize hgg:w.heap.size=g at *
  by_cases hlt:k < 20
  ·have hlt':(k:Int) < 20:=by omega
   generalize itL x k=st at *
   generalize itH x k=sh at *
   obtain ⟨y,n⟩:=st
   obtain ⟨z,m⟩:=sh
   simp only at bd bh hB1 ⊢
   have hs:=sq_bd bd.1
   have hs':=sq_bd bh.1
   obtain ⟨⟨b1,b2⟩,b3,b4⟩:=bd
   obtain ⟨⟨d1,d2⟩,d3,d4⟩:=bh
   obtain ⟨s1,s2⟩:=hs
   obtain ⟨s3,s4⟩:=hs'
   have b5:n ≤ 1048576:=by omega
   have d5:m ≤ 1048576:=by omega
   clear b4 d4 hp
   have c0:wr.cell? ⟨g+1,0,none⟩=some (.int .i64 n):=hB1.cell 0
   have c1:wr.cell? ⟨g+1,1,none⟩=some (.int .i64 m):=hB1.cell 1
   have f0:=hB1.frozen 0
   have f1:=hB1.frozen 1
   have HB0:=Lib.hid hB0
   have HB1:=Lib.hid hB1
   clear hB0 hB1
   have e1:(1000000000 ≤ y * y / 100000000∧stepL (y,n)=(y * y / 100000000 / 10,2 * n+1)) ∨ (¬ 1000000000 ≤ y * y / 100000000∧stepL (y,n)=(y * y / 100000000,2 * n)):=by
    by_cases hbig:1000000000 ≤ y * y / 100000000
    ·exact .inl ⟨hbig,by unfold stepL;rw [if_pos hbig]⟩
    ·exact .inr ⟨hbig,by unfold stepL;rw [if_neg hbig]⟩
   have e2:(1000000000 ≤ -(-(z * z) / 100000000)∧stepH (z,m)=(cdiv (cdiv (z * z) 100000000) 10,2 * m+1)) ∨ (¬ 1000000000 ≤ -(-(z * z) / 100000000)∧stepH (z,m)=(cdiv (z * z) 100000000,2 * m)):=by
    by_cases hbig:1000000000 ≤ -(-(z * z) / 100000000)
    ·exact .inl ⟨hbig,by unfold stepH;rw [if_pos (show 1000000000 ≤ cdiv (z * z) 100000000 from hbig)]⟩
    ·exact .inr ⟨hbig,by unfold stepH;rw [if_neg (show ¬ 1000000000 ≤ cdiv (z * z) 100000000 from hbig)]⟩
   rcases e1 with ⟨e1,E1⟩ | ⟨e1,E1⟩ <;> rcases e2 with ⟨e2,E2⟩ | ⟨e2,E2⟩
   all_goals
    have H1:=Lib.hid (hsu.trans E1)
    have H2:=Lib.hid (hsh.trans E2)
    clear hsu hsh E1 E2
    go_wp2_with (first | (go_at_call 150;refine (down_c _ _ _ (by omega) (by omega)).mono ?_;rintro e w' ⟨rfl,rfl⟩) | (go_at_call 185;refine (up_c _ _ _ (by omega) (by omega)).mono ?_;rintro e w' ⟨rfl,rfl⟩))
    go_roundw
    case rel =>
     refine ⟨k+1,by omega,by go_num,by rw [H1.out],by rw [H2.out];simp [cdiv],(by repeat first | with_reducible (first | exact hb | apply below_drewN' | apply Below.drew | refine Below.alloc ?_ ?_ _ | refine Below.setCell ?_ ?_ _) | exact hb | omega | (simp <;> omega) | (have:=(hb).size;first | omega | (simp <;> omega))),?_,?_⟩
     ·repeat (first | with_reducible exact HB0.out | refine Blk.far ?_ (show g ≠ g+1 from by omega) _)
     ·rw [H1.out,H2.out]
      dsimp only
      rw [Int.mul_comm 2 n,Int.mul_comm 2 m]
      repeat (first | with_reducible exact HB1.out | with_reducible apply Blk.two0 | with_reducible apply Blk.two1)
    case measure=>simp [intOf];omega
  ·have:k=20:=by omega
   subst this
   have c0:wr.cell? ⟨g+1,0,none⟩=some (.int .i64 (itL x 20).2):=hB1.cell 0
   have c1:wr.cell? ⟨g+1,1,none⟩=some (.int .i64 (itH x 20).2):=hB1.cell 1
   have f1:=hB1.frozen 1
   have r0:wr.cell? ⟨g,0,none⟩=some (.int .i64 0):=hB0.cell 0
   have r1:wr.cell? ⟨g,1,none⟩=some (.int .i64 0):=hB0.cell 1
   have q0:=hB0.frozen 0
   have q1:=hB0.frozen 1
   have hz0:=hB0.lt
   clear hB0 hB1 hsu hsh bd
   go_wp2
   refine bodyPost_ret (v:=.agg #[.int .i64 (itL x 20).2,.int .i64 ((itH x 20).2+1)]) ?_ rfl ⟨rfl,by rw [hgg];exact (by repeat first | with_reducible (first | exact hb | apply below_drewN' | apply Below.drew | refine Below.alloc ?_ ?_ _ | refine Below.setCell ?_ ?_ _) | exact hb | omega | (simp <;> omega) | (have:=(hb).size;first | omega | (simp <;> omega)))⟩
   simp [results,Tryz.results221,go_sem,r0,r1]
end Go.Proofs.YtednjmldjbndhaaGreat
namespace Go.Proofs.YtednjmldjbndhaaGreat
open Go.RowKit
def figOK (f:Figure):Bool:=inB f.digits 1000 9999 && inB f.tens (-30) 30
theorem fig_bd {f:Figure} (h:figOK f=true):(1000 ≤ f.digits∧f.digits ≤ 9999)∧(-30 ≤ f.tens∧f.tens ≤ 30):=by
 simp only [figOK,Bool.and_eq_true] at h
 exact ⟨inB_true.1 h.1,inB_true.1 h.2⟩
theorem specIsFigure_c (f:Figure) (w:World):Calls Tryz.prog 102 #[f.agg] w fun e w'=>e=.returned (.bool (figOK f))∧Below w.heap.size w w':=by
 obtain ⟨a,b⟩:=f
 unfold Figure.agg figOK
 cases h1:inB a 1000 9999 <;> cases h2:inB b (-30) 30
 all_goals
  go_enter Tryz.func102,Tryz.ntmps102
  go_wp2_with (first | (go_at_call 56;refine (l01In_c _ _ _ _).mono ?_;rintro e w' ⟨rfl,rfl⟩))
  go_ret
  exact ⟨rfl,(Below.refl _ _).alloc (by simp) _⟩
theorem implIsFigure_c (f:Figure) (w:World):Calls Tryz.prog 158 #[f.agg] w fun e w'=>e=.returned (.bool (figOK f))∧Below w.heap.size w w':=by
 obtain ⟨a,b⟩:=f
 unfold Figure.agg figOK
 cases h1:inB a 1000 9999 <;> cases h2:inB b (-30) 30
 all_goals
  go_enter Tryz.func158,Tryz.ntmps158
  go_wp2_with (first | (go_at_call 52;refine (within_c _ _ _ _).mono ?_;rintro e w' ⟨rfl,rfl⟩))
  go_ret
  exact ⟨rfl,(Below.refl _ _).alloc (by simp) _⟩
theorem areFigures_c (A:Option Addr) (c:Nat) (l:List Figure) (w:World) (hl:l.length ≤ 140737488351232) (hs:Sl w w.heap.size 2 A (l.map Figure.cells)) :
  Calls Tryz.prog 193 #[.slice A l.length c] w fun e w'=>e=.returned (.bool (l.all figOK))∧Below w.heap.size w w':=by
 go_enter Tryz.func193,Tryz.ntmps193
 go_wp2_with fail
 go_loopw [7] (fun i wr=>∃ k:Nat,k ≤ l.length∧i=.int .i64 k∧Below w.heap.size w wr∧Hid ((l.take k).all figOK=true)) (fun i _=>l.length - (intOf i).toNat)
 case atStart=>exact ⟨0,Nat.zero_le _,rfl,Below.refl _ _,(show (l.take 0).all figOK=true from by simp)⟩
 case round =>
  obtain ⟨k,hk,rfl,hb,hn⟩:=hrel
  have hbs:=hb.size
  by_cases hlt:k < l.length
  ·obtain ⟨b,off,rfl,bB,cc⟩:=hs.at_ (i:=k) (by simpa using hlt)
   simp only [List.getElem_map] at cc
   have c0:wr.cell? ⟨b,off+k * 2,none⟩=some (.int .i64 l[k].digits):=by rw [hb.cell bB];exact cc 0 _ rfl
   have c1:wr.cell? ⟨b,off+k * 2+1,none⟩=some (.int .i64 l[k].tens):=by rw [hb.cell bB];exact cc 1 _ rfl
   clear cc
   have hnx:(l.take (k+1)).all figOK=((l.take k).all figOK && figOK l[k]):=by rw [List.take_succ_eq_append_getElem hlt,List.all_append];simp
   have hnx':=Lib.hid hnx;clear hnx
   have hcall:=fun W=>implIsFigure_c l[k] W
   cases hq:figOK l[k] with
   | true =>
    rw [hq] at hcall
    have hcall':=Lib.hid hcall;clear hcall
    have hq':=Lib.hid hq;clear hq
    go_wp2_with (go_at_call 158;refine (hcall'.out _).mono ?_;rintro e w1 ⟨rfl,hb1⟩)
    go_roundw
    case rel=>exact ⟨k+1,by omega,by go_num,(hb.alloc hbs _).trans (hb1.mono (by simp;omega)),(show _=true from by rw [hnx'.out,hn.out,hq'.out];rfl)⟩
    case measure=>simp [intOf];omega
   | false =>
    rw [hq] at hcall
    have hcall':=Lib.hid hcall;clear hcall
    have hq':=Lib.hid hq;clear hq
    go_wp2_with (go_at_call 158;refine (hcall'.out _).mono ?_;rintro e w1 ⟨rfl,hb1⟩)
    go_ret
    refine ⟨ret_bool ?_,(hb.alloc hbs _).trans (hb1.mono (by simp;omega))⟩
    symm
    rw [Bool.eq_false_iff]
    intro h
    have:=List.all_eq_true.1 h l[k] (List.getElem_mem hlt)
    rw [hq'.out] at this
    cases this
  ·have:k=l.length:=by omega
   subst this
   have hn':=hn.out
   rw [List.take_length] at hn'
   have hn'':=Lib.hid hn';clear hn'
   go_wp2
   go_ret
   exact ⟨ret_bool hn''.out.symm,hb⟩
theorem figureLog_c (f:Figure) (w:World) (h:1000 ≤ f.digits∧f.digits ≤ 9999) (ht:-30 ≤ f.tens∧f.tens ≤ 30) :
  Calls Tryz.prog 186 #[f.agg] w fun e w'=>e=.returned (.agg #[.int .i64 (logLow (f.digits * 100000)+f.tens * 1048576),.int .i64 (logHigh (f.digits * 100000)+f.tens * 1048576)])∧Below w.heap.size w w':=by
 obtain ⟨d,t⟩:=f
 unfold Figure.agg
 simp only at *
 have hx:100000000 ≤ d * 100000∧d * 100000 ≤ 1000000000:=by omega
 have h1:=logLow_bd hx
 have h2:=logHigh_bd hx
 obtain ⟨h,h'⟩:=h
 obtain ⟨ht,ht'⟩:=ht
 have hlog:=fun W=>Lib.hid (logarithm_c (d * 100000) W hx)
 generalize logLow (d * 100000)=lo at *
 generalize logHigh (d * 100000)=hi at *
 go_enter Tryz.func186,Tryz.ntmps186
 go_wp2_with fail
 refine (hlog _).out.mono ?_;rintro e w1 ⟨rfl,hb1⟩
 have B0:Blk w1 w.heap.size 51 #[.int .i64 d,.int .i64 t]:=((Blk.new w _ _).alloc _).below hb1 (by simp;omega)
 have B1:Blk w1 (w.heap.size+1) 186 #[.int .i64 0,.int .i64 0]:=(Blk.new' _ _ _ (by simp)).below hb1 (by simp)
 have hb0:Below w.heap.size w w1:=(((Below.refl _ _).alloc (Nat.le_refl _) _).alloc (by simp) _).trans (hb1.mono (by simp;omega))
 clear hb1
 have z0:=B0.lt
 have z1:=B1.lt
 have c1:w1.cell? ⟨w.heap.size,1,none⟩=some (.int .i64 t):=B0.cell 1
 have d0:w1.cell? ⟨w.heap.size+1,0,none⟩=some (.int .i64 0):=B1.cell 0
 have d1:w1.cell? ⟨w.heap.size+1,1,none⟩=some (.int .i64 0):=B1.cell 1
 have f0:=B1.frozen 0
 have f1:=B1.frozen 1
 clear B0 B1
 go_wp2
 refine bodyPost_ret (v:=.agg #[.int .i64 (lo+t * 1048576),.int .i64 (hi+t * 1048576)]) (by simp [results,Tryz.results186,go_sem,d0,d1,z1]) rfl ⟨rfl,?_⟩
 have hbs:=hb0.size
 exact (by repeat first | with_reducible (first | exact hb0 | apply below_drewN' | apply Below.drew | refine Below.alloc ?_ ?_ _ | refine Below.setCell ?_ ?_ _) | exact hb0 | omega | (simp <;> omega) | (have:=(hb0).size;first | omega | (simp <;> omega)))

end Go.Proofs.YtednjmldjbndhaaGreat
namespace Go.Proofs.YtednjmldjbndhaaGreat
open Go.RowKit
theorem difference_c (a b a' b':Int) (w:World) (h:-1099511627776 ≤ a∧a ≤ 1099511627776) (h2:-1099511627776 ≤ b∧b ≤ 1099511627776) (h3:-1099511627776 ≤ a'∧a' ≤ 1099511627776) (h4:-1099511627776 ≤ b'∧b' ≤ 1099511627776) :
  Calls Tryz.prog 189 #[.agg #[.int .i64 a,.int .i64 b],.agg #[.int .i64 a',.int .i64 b']] w fun e w'=>e=.returned (.agg #[.int .i64 (a - b'),.int .i64 (b - a')])∧Below w.heap.size w w':=by
 obtain ⟨p1,p2⟩:=h
 obtain ⟨p3,p4⟩:=h2
 obtain ⟨p5,p6⟩:=h3
 obtain ⟨p7,p8⟩:=h4
 go_enter Tryz.func189,Tryz.ntmps189
 go_wp2
 refine bodyPost_ret (v:=.agg #[.int .i64 (a - b'),.int .i64 (b - a')]) (by simp [results,Tryz.results189,go_sem]) rfl ⟨rfl,(by repeat first | with_reducible (first | exact Below.refl _ _ | apply below_drewN' | apply Below.drew | refine Below.alloc ?_ ?_ _ | refine Below.setCell ?_ ?_ _) | exact Below.refl _ _ | omega | (simp <;> omega) | (have:=(Below.refl _ _).size;first | omega | (simp <;> omega)))⟩
theorem l03Sub_c (a b a' b':Int) (w:World) (h:-1099511627776 ≤ a∧a ≤ 1099511627776) (h2:-1099511627776 ≤ b∧b ≤ 1099511627776) (h3:-1099511627776 ≤ a'∧a' ≤ 1099511627776) (h4:-1099511627776 ≤ b'∧b' ≤ 1099511627776) :
  Calls Tryz.prog 212 #[.agg #[.int .i64 a,.int .i64 b],.agg #[.int .i64 a',.int .i64 b']] w fun e w'=>e=.returned (.agg #[.int .i64 (a - b'),.int .i64 (b - a')])∧Below w.heap.size w w':=by
 obtain ⟨p1,p2⟩:=h
 obtain ⟨p3,p4⟩:=h2
 obtain ⟨p5,p6⟩:=h3
 obtain ⟨p7,p8⟩:=h4
 go_enter Tryz.func212,Tryz.ntmps212
 go_wp2
 refine bodyPost_ret (v:=.agg #[.int .i64 (a - b'),.int .i64 (b - a')]) (by simp [results,Tryz.results212,go_sem]) rfl ⟨rfl,(by repeat first | with_reducible (first | exact Below.refl _ _ | apply below_drewN' | apply Below.drew | refine Below.alloc ?_ ?_ _ | refine Below.setCell ?_ ?_ _) | exact Below.refl _ _ | omega | (simp <;> omega) | (have:=(Below.refl _ _).size;first | omega | (simp <;> omega)))⟩
theorem scaled_c (a b d:Int) (w:World) (h:-1099511627776 ≤ a∧a ≤ 1099511627776) (h2:-1099511627776 ≤ b∧b ≤ 1099511627776) (hd:0 < d∧d ≤ 12) :
  Calls Tryz.prog 188 #[.agg #[.int .i64 a,.int .i64 b],.int .i64 1,.int .i64 d] w fun e w'=>e=.returned (.agg #[.int .i64 ((min a b) / d),.int .i64 (-(-(max a b) / d))])∧Below w.heap.size w w':=by
 obtain ⟨p1,p2⟩:=h
 obtain ⟨p3,p4⟩:=h2
 obtain ⟨d1,d2⟩:=hd
 have e1:a * 1=a:=Int.mul_one a
 have e2:b * 1=b:=Int.mul_one b
 have s1:IntKind.i64.wrap a=a:=IntWalk.i64_in _ (by omega)
 have s2:IntKind.i64.wrap b=b:=IntWalk.i64_in _ (by omega)
 go_enter Tryz.func188,Tryz.ntmps188
 go_wp2_with fail
 go_quiet (fail)
 clear e1 e2 s1 s2
 go_wp2_with (first | (go_at_call 150;refine (down_c _ _ _ (by omega) (by omega)).mono ?_;rintro e w' ⟨rfl,rfl⟩) | (go_at_call 185;refine (up_c _ _ _ (by omega) (by omega)).mono ?_;rintro e w' ⟨rfl,rfl⟩))
 all_goals
  first
   | (have q1:min a b=a:=(by omega);have q2:max a b=a:=(by omega);refine bodyPost_ret (v:=.agg #[.int .i64 (min a b / d),.int .i64 (-(-(max a b) / d))]) (by simp [results,Tryz.results188,go_sem,q1,q2]) rfl ⟨rfl,(by repeat first | with_reducible (first | exact Below.refl _ _ | apply below_drewN' | apply Below.drew | refine Below.alloc ?_ ?_ _ | refine Below.setCell ?_ ?_ _) | exact Below.refl _ _ | omega | (simp <;> omega) | (have:=(Below.refl _ _).size;first | omega | (simp <;> omega)))⟩)
   | (have q1:min a b=a:=(by omega);have q2:max a b=b:=(by omega);refine bodyPost_ret (v:=.agg #[.int .i64 (min a b / d),.int .i64 (-(-(max a b) / d))]) (by simp [results,Tryz.results188,go_sem,q1,q2]) rfl ⟨rfl,(by repeat first | with_reducible (first | exact Below.refl _ _ | apply below_drewN' | apply Below.drew | refine Below.alloc ?_ ?_ _ | refine Below.setCell ?_ ?_ _) | exact Below.refl _ _ | omega | (simp <;> omega) | (have:=(Below.refl _ _).size;first | omega | (simp <;> omega)))⟩)
   | (have q1:min a b=b:=(by omega);have q2:max a b=a:=(by omega);refine bodyPost_ret (v:=.agg #[.int .i64 (min a b / d),.int .i64 (-(-(max a b) / d))]) (by simp [results,Tryz.results188,go_sem,q1,q2]) rfl ⟨rfl,(by repeat first | with_reducible (first | exact Below.refl _ _ | apply below_drewN' | apply Below.drew | refine Below.alloc ?_ ?_ _ | refine Below.setCell ?_ ?_ _) | exact Below.refl _ _ | omega | (simp <;> omega) | (have:=(Below.refl _ _).size;first | omega | (simp <;> omega)))⟩)
   | (have q1:min a b=b:=(by omega);have q2:max a b=b:=(by omega);refine bodyPost_ret (v:=.agg #[.int .i64 (min a b / d),.int .i64 (-(-(max a b) / d))]) (by simp [results,Tryz.results188,go_sem,q1,q2]) rfl ⟨rfl,(by repeat first | with_reducible (first | exact Below.refl _ _ | apply below_drewN' | apply Below.drew | refine Below.alloc ?_ ?_ _ | refine Below.setCell ?_ ?_ _) | exact Below.refl _ _ | omega | (simp <;> omega) | (have:=(Below.refl _ _).size;first | omega | (simp <;> omega)))⟩)
theorem l03Scale_c (a b d:Int) (w:World) (h:-1099511627776 ≤ a∧a ≤ 1099511627776) (h2:-1099511627776 ≤ b∧b ≤ 1099511627776) (hd:0 < d∧d ≤ 12) :
  Calls Tryz.prog 228 #[.agg #[.int .i64 a,.int .i64 b],.int .i64 1,.int .i64 d] w fun e w'=>e=.returned (.agg #[.int .i64 ((min a b) / d),.int .i64 (-(-(max a b) / d))])∧Below w.heap.size w w':=by
 obtain ⟨p1,p2⟩:=h
 obtain ⟨p3,p4⟩:=h2
 obtain ⟨d1,d2⟩:=hd
 have e1:a * 1=a:=Int.mul_one a
 have e2:b * 1=b:=Int.mul_one b
 have s1:IntKind.i64.wrap a=a:=IntWalk.i64_in _ (by omega)
 have s2:IntKind.i64.wrap b=b:=IntWalk.i64_in _ (by omega)
 go_enter Tryz.func228,Tryz.ntmps228
 go_wp2_with fail
 go_quiet (fail)
 clear e1 e2 s1 s2
 go_wp2_with (first | (go_at_call 207;refine (l01Floor_c _ _ _ (by omega) (by omega)).mono ?_;rintro e w' ⟨rfl,rfl⟩) | (go_at_call 229;refine (l01Ceil_c _ _ _ (by omega) (by omega)).mono ?_;rintro e w' ⟨rfl,rfl⟩))
 all_goals
  first
   | (have q1:min a b=a:=(by omega);have q2:max a b=a:=(by omega);refine bodyPost_ret (v:=.agg #[.int .i64 (min a b / d),.int .i64 (-(-(max a b) / d))]) (by simp [results,Tryz.results228,go_sem,q1,q2]) rfl ⟨rfl,(by repeat first | with_reducible (first | exact Below.refl _ _ | apply below_drewN' | apply Below.drew | refine Below.alloc ?_ ?_ _ | refine Below.setCell ?_ ?_ _) | exact Below.refl _ _ | omega | (simp <;> omega) | (have:=(Below.refl _ _).size;first | omega | (simp <;> omega)))⟩)
   | (have q1:min a b=a:=(by omega);have q2:max a b=b:=(by omega);refine bodyPost_ret (v:=.agg #[.int .i64 (min a b / d),.int .i64 (-(-(max a b) / d))]) (by simp [results,Tryz.results228,go_sem,q1,q2]) rfl ⟨rfl,(by repeat first | with_reducible (first | exact Below.refl _ _ | apply below_drewN' | apply Below.drew | refine Below.alloc ?_ ?_ _ | refine Below.setCell ?_ ?_ _) | exact Below.refl _ _ | omega | (simp <;> omega) | (have:=(Below.refl _ _).size;first | omega | (simp <;> omega)))⟩)
   | (have q1:min a b=b:=(by omega);have q2:max a b=a:=(by omega);refine bodyPost_ret (v:=.agg #[.int .i64 (min a b / d),.int .i64 (-(-(max a b) / d))]) (by simp [results,Tryz.results228,go_sem,q1,q2]) rfl ⟨rfl,(by repeat first | with_reducible (first | exact Below.refl _ _ | apply below_drewN' | apply Below.drew | refine Below.alloc ?_ ?_ _ | refine Below.setCell ?_ ?_ _) | exact Below.refl _ _ | omega | (simp <;> omega) | (have:=(Below.refl _ _).size;first | omega | (simp <;> omega)))⟩)
   | (have q1:min a b=b:=(by omega);have q2:max a b=b:=(by omega);refine bodyPost_ret (v:=.agg #[.int .i64 (min a b / d),.int .i64 (-(-(max a b) / d))]) (by simp [results,Tryz.results228,go_sem,q1,q2]) rfl ⟨rfl,(by repeat first | with_reducible (first | exact Below.refl _ _ | apply below_drewN' | apply Below.drew | refine Below.alloc ?_ ?_ _ | refine Below.setCell ?_ ?_ _) | exact Below.refl _ _ | omega | (simp <;> omega) | (have:=(Below.refl _ _).size;first | omega | (simp <;> omega)))⟩)
end Go.Proofs.YtednjmldjbndhaaGreat
namespace Go.Proofs.YtednjmldjbndhaaGreat
open Go.RowKit
def pointC (m:Int):Int:=(logLow (m * 100000)+logHigh (m * 100000)) / 2
theorem positionC_c (m t:Int) (w:World) (hm:1000 ≤ m∧m ≤ 9999) :
  Calls Tryz.prog 149 #[.int .i64 0,.agg #[.int .i64 m,.int .i64 t]] w fun e w'=>e=.returned (.agg #[.int .i64 (logLow (m * 100000)),.int .i64 (logHigh (m * 100000))])∧Below w.heap.size w w':=by
 have hmf:∀ (fn:Fn) (first cap:Array Value) (w:World),(Instr.makeFunc fn first cap).run Tryz.prog w=.ok (.func fn first cap) w:=fun _ _ _ _=>rfl
 have HL:=fun W=>figureLog_c ⟨m,0⟩ W hm (by simp)
 unfold Figure.agg at HL
 simp only [Int.zero_mul,Int.add_zero] at HL
 have HL:=fun W=>Lib.hid (HL W)
 generalize logLow (m * 100000)=lo at *
 generalize logHigh (m * 100000)=hi at *
 go_enter Tryz.func149,Tryz.ntmps149
 go_wp2_with fail
 refine (HL _).out.mono ?_;rintro e w1 ⟨rfl,hb1⟩
 have Bg:=(Blk.new' (w.alloc (.cells #[.int .i64 m,.int .i64 t] 51)) 186 #[.int .i64 0,.int .i64 0] (g:=w.heap.size+1) (by simp)).below hb1 (by simp)
 have c0:w1.cell? ⟨w.heap.size+1,0,none⟩=some (.int .i64 0):=Bg.cell 0
 have c1:w1.cell? ⟨w.heap.size+1,1,none⟩=some (.int .i64 0):=Bg.cell 1
 have cf0:w1.frozen? ⟨w.heap.size+1,0,none⟩=false:=Bg.frozen 0
 have cf1:w1.frozen? ⟨w.heap.size+1,1,none⟩=false:=Bg.frozen 1
 have cz:=Bg.lt
 have hB1:Below w.heap.size w w1:=Below.trans ((by repeat first | with_reducible (first | exact Below.refl _ _ | apply below_drewN' | apply Below.drew | refine Below.alloc ?_ ?_ _ | refine Below.setCell ?_ ?_ _) | exact Below.refl _ _ | omega | (simp <;> omega) | (have:=(Below.refl _ _).size;first | omega | (simp <;> omega)))) (hb1.mono (by simp <;> omega))
 have hB1s:=hB1.size
 go_wp2
 refine bodyPost_ret (v:=.agg #[.int .i64 lo,.int .i64 hi]) (by simp [results,Tryz.results149,go_sem,c0,c1,cz]) rfl ⟨rfl,(by repeat first | with_reducible (first | exact hB1 | apply below_drewN' | apply Below.drew | refine Below.alloc ?_ ?_ _ | refine Below.setCell ?_ ?_ _) | exact hB1 | omega | (simp <;> omega) | (have:=(hB1).size;first | omega | (simp <;> omega)))⟩
theorem l05PositionC_c (m t:Int) (w:World) (hm:1000 ≤ m∧m ≤ 9999) :
  Calls Tryz.prog 206 #[.int .i64 0,.agg #[.int .i64 m,.int .i64 t]] w fun e w'=>e=.returned (.agg #[.int .i64 (logLow (m * 100000)),.int .i64 (logHigh (m * 100000))])∧Below w.heap.size w w':=by
 have HL:=fun W=>Lib.hid (l03Log_c (m * 100000) W (by omega))
 generalize logLow (m * 100000)=lo at *
 generalize logHigh (m * 100000)=hi at *
 go_enter Tryz.func206,Tryz.ntmps206
 go_wp2_with fail
 refine (HL _).out.mono ?_;rintro e w1 ⟨rfl,hb1⟩
 have Bg:=(Blk.new' (w.alloc (.cells #[.int .i64 m,.int .i64 t] 51)) 186 #[.int .i64 0,.int .i64 0] (g:=w.heap.size+1) (by simp)).below hb1 (by simp)
 have c0:w1.cell? ⟨w.heap.size+1,0,none⟩=some (.int .i64 0):=Bg.cell 0
 have c1:w1.cell? ⟨w.heap.size+1,1,none⟩=some (.int .i64 0):=Bg.cell 1
 have cf0:w1.frozen? ⟨w.heap.size+1,0,none⟩=false:=Bg.frozen 0
 have cf1:w1.frozen? ⟨w.heap.size+1,1,none⟩=false:=Bg.frozen 1
 have cz:=Bg.lt
 have hB1:Below w.heap.size w w1:=Below.trans ((by repeat first | with_reducible (first | exact Below.refl _ _ | apply below_drewN' | apply Below.drew | refine Below.alloc ?_ ?_ _ | refine Below.setCell ?_ ?_ _) | exact Below.refl _ _ | omega | (simp <;> omega) | (have:=(Below.refl _ _).size;first | omega | (simp <;> omega)))) (hb1.mono (by simp <;> omega))
 have hB1s:=hB1.size
 go_wp2
 refine bodyPost_ret (v:=.agg #[.int .i64 lo,.int .i64 hi]) (by simp [results,Tryz.results206,go_sem,c0,c1,cz]) rfl ⟨rfl,(by repeat first | with_reducible (first | exact hB1 | apply below_drewN' | apply Below.drew | refine Below.alloc ?_ ?_ _ | refine Below.setCell ?_ ?_ _) | exact hB1 | omega | (simp <;> omega) | (have:=(hB1).size;first | omega | (simp <;> omega)))⟩
theorem pointOf_c (m t:Int) (w:World) (hm:1000 ≤ m∧m ≤ 9999) :
  Calls Tryz.prog 86 #[.int .i64 0,.agg #[.int .i64 m,.int .i64 t]] w fun e w'=>e=.returned (.int .i64 (pointC m))∧Below w.heap.size w w':=by
 have h1:=logLow_bd (x:=m * 100000) (by omega)
 have h2:=logHigh_bd (x:=m * 100000) (by omega)
 have HL:=fun W=>Lib.hid (positionC_c m t W hm)
 unfold pointC
 generalize logLow (m * 100000)=lo at *
 generalize logHigh (m * 100000)=hi at *
 have HD:=fun W=>Lib.hid (down_c (lo+hi) 2 W (by omega) (by omega))
 go_enter Tryz.func86,Tryz.ntmps86
 go_wp2_with fail
 refine (HL _).out.mono ?_;rintro e w1 ⟨rfl,hb1⟩
 have hB1:Below w.heap.size w w1:=((Below.refl _ _).alloc (Nat.le_refl _) _).trans (hb1.mono (by simp))
 have hB1s:=hB1.size
 go_wp2_with (go_at_call 150;refine (HD _).out.mono ?_;rintro e w2 ⟨rfl,rfl⟩)
 go_ret
 exact ⟨rfl,(by repeat first | with_reducible (first | exact hB1 | apply below_drewN' | apply Below.drew | refine Below.alloc ?_ ?_ _ | refine Below.setCell ?_ ?_ _) | exact hB1 | omega | (simp <;> omega) | (have:=(hB1).size;first | omega | (simp <;> omega)))⟩
theorem l11Point_c (m t:Int) (w:World) (hm:1000 ≤ m∧m ≤ 9999) :
  Calls Tryz.prog 172 #[.int .i64 0,.agg #[.int .i64 m,.int .i64 t]] w fun e w'=>e=.returned (.int .i64 (pointC m))∧Below w.heap.size w w':=by
 have h1:=logLow_bd (x:=m * 100000) (by omega)
 have h2:=logHigh_bd (x:=m * 100000) (by omega)
 have HL:=fun W=>Lib.hid (l05PositionC_c m t W hm)
 unfold pointC
 generalize logLow (m * 100000)=lo at *
 generalize logHigh (m * 100000)=hi at *
 have HD:=fun W=>Lib.hid (l01Floor_c (lo+hi) 2 W (by omega) (by omega))
 go_enter Tryz.func172,Tryz.ntmps172
 go_wp2_with fail
 refine (HL _).out.mono ?_;rintro e w1 ⟨rfl,hb1⟩
 have hB1:Below w.heap.size w w1:=((Below.refl _ _).alloc (Nat.le_refl _) _).trans (hb1.mono (by simp))
 have hB1s:=hB1.size
 go_wp2_with (go_at_call 207;refine (HD _).out.mono ?_;rintro e w2 ⟨rfl,rfl⟩)
 go_ret
 exact ⟨rfl,(by repeat first | with_reducible (first | exact hB1 | apply below_drewN' | apply Below.drew | refine Below.alloc ?_ ?_ _ | refine Below.setCell ?_ ?_ _) | exact hB1 | omega | (simp <;> omega) | (have:=(hB1).size;first | omega | (simp <;> omega)))⟩
theorem l14Point_c (m t:Int) (w:World) (hm:1000 ≤ m∧m ≤ 9999) :
  Calls Tryz.prog 121 #[.agg #[.int .i64 m,.int .i64 t]] w fun e w'=>e=.returned (.int .i64 (pointC m))∧Below w.heap.size w w':=by
 have HL:=fun W=>Lib.hid (l11Point_c m t W hm)
 go_enter Tryz.func121,Tryz.ntmps121
 go_wp2_with (go_at_call 172;refine (HL _).out.mono ?_;rintro e w1 ⟨rfl,hb1⟩)
 go_ret
 exact ⟨rfl,((Below.refl _ _).alloc (Nat.le_refl _) _).trans (hb1.mono (by simp))⟩
end Go.Proofs.YtednjmldjbndhaaGreat
namespace Go.Proofs.YtednjmldjbndhaaGreat
open Go.RowKit
theorem sum_c (a b a' b':Int) (w:World) (h:-1099511627776 ≤ a∧a ≤ 1099511627776) (h2:-1099511627776 ≤ b∧b ≤ 1099511627776) (h3:-1099511627776 ≤ a'∧a' ≤ 1099511627776) (h4:-1099511627776 ≤ b'∧b' ≤ 1099511627776) :
  Calls Tryz.prog 199 #[.agg #[.int .i64 a,.int .i64 b],.agg #[.int .i64 a',.int .i64 b']] w fun e w'=>e=.returned (.agg #[.int .i64 (a+a'),.int .i64 (b+b')])∧Below w.heap.size w w':=by
 obtain ⟨p1,p2⟩:=h
 obtain ⟨p3,p4⟩:=h2
 obtain ⟨p5,p6⟩:=h3
 obtain ⟨p7,p8⟩:=h4
 go_enter Tryz.func199,Tryz.ntmps199
 go_wp2
 refine bodyPost_ret (v:=.agg #[.int .i64 (a+a'),.int .i64 (b+b')]) (by simp [results,Tryz.results199,go_sem]) rfl ⟨rfl,(by repeat first | with_reducible (first | exact Below.refl _ _ | apply below_drewN' | apply Below.drew | refine Below.alloc ?_ ?_ _ | refine Below.setCell ?_ ?_ _) | exact Below.refl _ _ | omega | (simp <;> omega) | (have:=(Below.refl _ _).size;first | omega | (simp <;> omega)))⟩
theorem l03Add_c (a b a' b':Int) (w:World) (h:-1099511627776 ≤ a∧a ≤ 1099511627776) (h2:-1099511627776 ≤ b∧b ≤ 1099511627776) (h3:-1099511627776 ≤ a'∧a' ≤ 1099511627776) (h4:-1099511627776 ≤ b'∧b' ≤ 1099511627776) :
  Calls Tryz.prog 213 #[.agg #[.int .i64 a,.int .i64 b],.agg #[.int .i64 a',.int .i64 b']] w fun e w'=>e=.returned (.agg #[.int .i64 (a+a'),.int .i64 (b+b')])∧Below w.heap.size w w':=by
 obtain ⟨p1,p2⟩:=h
 obtain ⟨p3,p4⟩:=h2
 obtain ⟨p5,p6⟩:=h3
 obtain ⟨p7,p8⟩:=h4
 go_enter Tryz.func213,Tryz.ntmps213
 go_wp2
 refine bodyPost_ret (v:=.agg #[.int .i64 (a+a'),.int .i64 (b+b')]) (by simp [results,Tryz.results213,go_sem]) rfl ⟨rfl,(by repeat first | with_reducible (first | exact Below.refl _ _ | apply below_drewN' | apply Below.drew | refine Below.alloc ?_ ?_ _ | refine Below.setCell ?_ ?_ _) | exact Below.refl _ _ | omega | (simp <;> omega) | (have:=(Below.refl _ _).size;first | omega | (simp <;> omega)))⟩
theorem l03Figure_c (f:Figure) (w:World) (h:1000 ≤ f.digits∧f.digits ≤ 9999) (ht:-30 ≤ f.tens∧f.tens ≤ 30) :
  Calls Tryz.prog 211 #[f.agg] w fun e w'=>e=.returned (.agg #[.int .i64 (logLow (f.digits * 100000)+f.tens * 1048576),.int .i64 (logHigh (f.digits * 100000)+f.tens * 1048576)])∧Below w.heap.size w w':=by
 obtain ⟨d,t⟩:=f
 unfold Figure.agg
 simp only at *
 have hx:100000000 ≤ d * 100000∧d * 100000 ≤ 1000000000:=by omega
 have h1:=logLow_bd hx
 have h2:=logHigh_bd hx
 obtain ⟨h,h'⟩:=h
 obtain ⟨ht,ht'⟩:=ht
 have hlog:=fun W=>Lib.hid (l03Log_c (d * 100000) W hx)
 generalize logLow (d * 100000)=lo at *
 generalize logHigh (d * 100000)=hi at *
 go_enter Tryz.func211,Tryz.ntmps211
 go_wp2_with fail
 refine (hlog _).out.mono ?_;rintro e w1 ⟨rfl,hb1⟩
 have B0:Blk w1 w.heap.size 51 #[.int .i64 d,.int .i64 t]:=((Blk.new w _ _).alloc _).below hb1 (by simp;omega)
 have B1:Blk w1 (w.heap.size+1) 186 #[.int .i64 0,.int .i64 0]:=(Blk.new' _ _ _ (by simp)).below hb1 (by simp)
 have hb0:Below w.heap.size w w1:=(((Below.refl _ _).alloc (Nat.le_refl _) _).alloc (by simp) _).trans (hb1.mono (by simp;omega))
 clear hb1
 have z0:=B0.lt
 have z1:=B1.lt
 have c1:w1.cell? ⟨w.heap.size,1,none⟩=some (.int .i64 t):=B0.cell 1
 have d0:w1.cell? ⟨w.heap.size+1,0,none⟩=some (.int .i64 0):=B1.cell 0
 have d1:w1.cell? ⟨w.heap.size+1,1,none⟩=some (.int .i64 0):=B1.cell 1
 have f0:=B1.frozen 0
 have f1:=B1.frozen 1
 clear B0 B1
 go_wp2
 refine bodyPost_ret (v:=.agg #[.int .i64 (lo+t * 1048576),.int .i64 (hi+t * 1048576)]) (by simp [results,Tryz.results211,go_sem,d0,d1,z1]) rfl ⟨rfl,?_⟩
 have hbs:=hb0.size
 exact (by repeat first | with_reducible (first | exact hb0 | apply below_drewN' | apply Below.drew | refine Below.alloc ?_ ?_ _ | refine Below.setCell ?_ ?_ _) | exact hb0 | omega | (simp <;> omega) | (have:=(hb0).size;first | omega | (simp <;> omega)))

def figLo (d t:Int):Int:=logLow (d * 100000)+t * 1048576
def figHi (d t:Int):Int:=logHigh (d * 100000)+t * 1048576
theorem figLo_bd {d t:Int} (h:1000 ≤ d∧d ≤ 9999) (ht:-30 ≤ t∧t ≤ 30):(-33554432 ≤ figLo d t∧figLo d t ≤ 33554432)∧(-33554432 ≤ figHi d t∧figHi d t ≤ 33554432):=by
 have h1:=logLow_bd (x:=d * 100000) (by omega)
 have h2:=logHigh_bd (x:=d * 100000) (by omega)
 unfold figLo figHi
 omega
end Go.Proofs.YtednjmldjbndhaaGreat
namespace Go.Proofs.YtednjmldjbndhaaGreat
open Go.RowKit
def PredTerm (g:FuncId) (lb:Array Value) (p:Term→Bool) (w:World):Prop :=
 ∀ (x:Term) (W:World),Below w.heap.size w W→Calls Tryz.prog g (#[x.agg] ++ lb) W fun e w'=>e=.returned (.bool (p x))∧Below W.heap.size W w'
def IdxPostTerm (p:Term→Bool) (l:List Term) (w:World) (e:Ending) (w':World):Prop :=
 ∃ r:Int,e=.returned (.int .i64 r)∧decide (0 ≤ r)=l.any p∧Below w.heap.size w w'
theorem indexFuncTerm_c (A:Option Addr) (c:Nat) (l:List Term) (g:FuncId) (lb:Array Value) (p:Term→Bool) (w:World)
  (eg:∀ args w,(callFunc g args).run Tryz.prog w=.ok (.enter g args) w) (hp:PredTerm g lb p w) (hl:l.length ≤ 140737488351232) (hs:Sl w w.heap.size 3 A (l.map Term.cells)) :
  Calls Tryz.prog 219 #[.slice A l.length c,.func (.func g) #[] lb] w (IdxPostTerm p l w):=by
 go_enter Tryz.func219,Tryz.ntmps219
 go_wp2_with fail
 go_loopw [8] (fun i wr=>∃ k:Nat,k ≤ l.length∧i=.int .i64 k∧Below w.heap.size w wr∧Hid ((l.take k).any p=false)) (fun i _=>l.length - (intOf i).toNat)
 case atStart=>exact ⟨0,Nat.zero_le _,rfl,Below.refl _ _,(show (l.take 0).any p=false from by simp)⟩
 case round =>
  obtain ⟨k,hk,rfl,hb,hn⟩:=hrel
  by_cases hlt:k < l.length
  ·obtain ⟨b,off,rfl,hbB,hc⟩:=hs.at_ (i:=k) (by simpa using hlt)
   simp only [List.getElem_map] at hc
   have c0:wr.cell? ⟨b,off+k * 3,none⟩=some (.int .i64 l[k].digits):=by rw [hb.cell hbB];exact hc 0 _ rfl
   have c1:wr.cell? ⟨b,off+k * 3+1,none⟩=some (.int .i64 l[k].tens):=by rw [hb.cell hbB];exact hc 1 _ rfl
   have c2:wr.cell? ⟨b,off+k * 3+2,none⟩=some (.bool l[k].div):=by rw [hb.cell hbB];exact hc 2 _ rfl
   clear hc
   have hcall:=hp l[k] wr hb
   have hnx:(l.take (k+1)).any p=((l.take k).any p || p l[k]):=by rw [List.take_succ_eq_append_getElem hlt,List.any_append];simp
   have hnx:=Lib.hid hnx
   clear hp
   cases hq:p l[k] with
   | true =>
    have hq':=Lib.hid hq
    rw [hq] at hcall
    have hcall:=Lib.hid hcall
    clear hq
    go_wp2_with (go_at_fn g;refine hcall.out.mono ?_;rintro e w1 ⟨rfl,hb1⟩)
    go_ret
    refine ⟨k,rfl,?_,hb.trans (hb1.mono hb.size)⟩
    rw [show l.any p=true from List.any_eq_true.2 ⟨l[k],List.getElem_mem hlt,hq'.out⟩]
    simp
   | false =>
    have hq':=Lib.hid hq
    rw [hq] at hcall
    have hcall:=Lib.hid hcall
    clear hq
    go_wp2_with (go_at_fn g;refine hcall.out.mono ?_;rintro e w1 ⟨rfl,hb1⟩)
    go_roundw
    case rel=>exact ⟨k+1,by omega,by go_num,hb.trans (hb1.mono hb.size),(show _=false from by rw [hnx.out,hn.out,hq'.out];rfl)⟩
    case measure=>simp [intOf];omega
  ·have:k=l.length:=by omega
   subst this
   go_wp2
   go_ret
   refine ⟨-1,rfl,?_,hb⟩
   have:=hn.out
   rw [List.take_length] at this
   rw [this]
   rfl
theorem containsFuncTerm_c (A:Option Addr) (c:Nat) (l:List Term) (g:FuncId) (lb:Array Value) (p:Term→Bool) (w:World)
  (eg:∀ args w,(callFunc g args).run Tryz.prog w=.ok (.enter g args) w) (hp:PredTerm g lb p w) (hl:l.length ≤ 140737488351232) (hs:Sl w w.heap.size 3 A (l.map Term.cells)) :
  Calls Tryz.prog 181 #[.slice A l.length c,.func (.func g) #[] lb] w fun e w'=>e=.returned (.bool (l.any p))∧Below w.heap.size w w':=by
 have H:=Lib.hid (indexFuncTerm_c A c l g lb p w eg hp hl hs)
 clear hp hs eg
 go_enter Tryz.func181,Tryz.ntmps181
 go_wp2_with fail
 refine H.out.mono ?_
 rintro e w1 ⟨r,rfl,hr,hb⟩
 go_wp2
 go_ret
 exact ⟨rfl,hb⟩
end Go.Proofs.YtednjmldjbndhaaGreat
namespace Go.Proofs.YtednjmldjbndhaaGreat
open Go.RowKit
def Term.fig (t:Term):Figure:=⟨t.digits,t.tens⟩
def termOK (t:Term):Bool:=figOK t.fig
def firstDiv:List Term→Bool
 | []=>false
 | t :: _=>t.div
def chainB (c:List Term):Bool:=c.all termOK && (inB c.length 1 6 && !firstDiv c)
theorem firstDiv_eq {l:List Term} (h:0 < l.length):firstDiv l=(l[0]).div:=by
 match l,h with
 | _ :: _,_=>rfl
theorem chainPred (w:World):PredTerm 182 #[] (fun t=>!termOK t) w:=by
 intro t W _
 have H:=fun W=>implIsFigure_c t.fig W
 obtain ⟨a,b,d⟩:=t
 unfold Figure.agg Term.fig at H
 unfold Term.agg termOK
 simp only [Term.fig] at H ⊢
 cases h1:figOK ⟨a,b⟩
 all_goals
  rw [h1] at H
  have H:=fun W=>Lib.hid (H W)
  go_enter Tryz.func182,Tryz.ntmps182
  go_wp2_with (go_at_call 158;refine (H _).out.mono ?_;rintro e w1 ⟨rfl,hb1⟩)
  go_ret
  exact ⟨rfl,((Below.refl _ _).alloc (Nat.le_refl _) _).trans (hb1.mono (by simp))⟩
theorem implIsChain_c (A:Option Addr) (c:Nat) (l:List Term) (w:World) (hl:l.length ≤ 140737488351232) (hs:Sl w w.heap.size 3 A (l.map Term.cells)) :
  Calls Tryz.prog 138 #[.slice A l.length c] w fun e w'=>e=.returned (.bool (chainB l))∧Below w.heap.size w w':=by
 have hcall:=containsFuncTerm_c A c l 182 #[] (fun t=>!termOK t) w (enters_of Tryz.func182 (by kernel_rfl) rfl) (chainPred w) hl hs
 have hall:l.any (fun t=>!termOK t)=!(l.all termOK):=by rw [List.any_eq_not_all_not];simp
 rw [hall] at hcall
 have HC:=Lib.hid hcall
 clear hcall hall
 have hin:Hid (inB l.length 1 6=(decide (1 ≤ (l.length:Int)) && decide ((l.length:Int) ≤ 6))):=rfl
 by_cases h1:(l.length:Int) < 1
 ·have HR:Hid (chainB l=false):=by unfold Hid chainB;rw [hin.out,show decide ((1:Int) ≤ (l.length:Int))=false from decide_eq_false (by omega)];simp
  go_enter Tryz.func138,Tryz.ntmps138
  go_wp2
  go_ret
  exact ⟨by rw [HR.out];rfl,Below.refl _ _⟩
 by_cases h6:(6:Int) < (l.length:Int)
 ·have HR:Hid (chainB l=false):=by unfold Hid chainB;rw [hin.out,show decide ((l.length:Int) ≤ 6)=false from decide_eq_false (by omega)];simp
  go_enter Tryz.func138,Tryz.ntmps138
  go_wp2
  go_ret
  exact ⟨by rw [HR.out];rfl,Below.refl _ _⟩
 have hlt:0 < l.length:=by omega
 have HR:Hid (chainB l=(l.all termOK && !firstDiv l)):=by unfold Hid chainB;rw [hin.out,show decide ((1:Int) ≤ (l.length:Int))=true from decide_eq_true (by omega),show decide ((l.length:Int) ≤ 6)=true from decide_eq_true (by omega)];rfl
 have hf:=firstDiv_eq hlt
 obtain ⟨b,off,rfl,hbB,hc⟩:=hs.at_ (i:=0) (by simpa using hlt)
 simp only [List.getElem_map] at hc
 have c2:w.cell? ⟨b,off+2,none⟩=some (.bool (firstDiv l)):=by rw [hf];have:=hc 2 _ rfl;simpa using this
 clear hc hf hs
 generalize firstDiv l=d at *
 cases d with
 | true =>
  go_enter Tryz.func138,Tryz.ntmps138
  go_wp2
  go_ret
  exact ⟨by rw [HR.out];simp,Below.refl _ _⟩
 | false =>
  generalize l.all termOK=t at *
  cases t
  all_goals
   go_enter Tryz.func138,Tryz.ntmps138
   go_wp2_with (go_at_call 181;refine HC.out.mono ?_;rintro e w1 ⟨rfl,hb1⟩)
   go_ret
   exact ⟨by rw [HR.out];rfl,hb1⟩
theorem specIsChain_c (A:Option Addr) (c:Nat) (l:List Term) (w:World) (hl:l.length ≤ 140737488351232) (hs:Sl w w.heap.size 3 A (l.map Term.cells)) :
  Calls Tryz.prog 152 #[.slice A l.length c] w fun e w'=>e=.returned (.bool (chainB l))∧Below w.heap.size w w':=by
 go_enter Tryz.func152,Tryz.ntmps152
 go_wp2_with fail
 go_loopw [3] (fun i wr=>∃ k:Nat,k ≤ l.length∧i=.int .i64 k∧Hid ((l.take k).all termOK=true)∧Below w.heap.size w wr) (fun i _=>l.length - (intOf i).toNat)
 case atStart=>exact ⟨0,Nat.zero_le _,rfl,(show (l.take 0).all termOK=true by simp),Below.refl _ _⟩
 case round =>
  obtain ⟨k,hk,rfl,hok,hb⟩:=hrel
  by_cases hlt:k < l.length
  ·obtain ⟨b,off,rfl,hbB,hc⟩:=hs.at_ (i:=k) (by simpa using hlt)
   simp only [List.getElem_map] at hc
   have c0:wr.cell? ⟨b,off+k * 3,none⟩=some (.int .i64 l[k].digits):=by rw [hb.cell hbB];exact hc 0 _ rfl
   have c1:wr.cell? ⟨b,off+k * 3+1,none⟩=some (.int .i64 l[k].tens):=by rw [hb.cell hbB];exact hc 1 _ rfl
   clear hc
   have H:=fun W=>specIsFigure_c l[k].fig W
   have hnx:(l.take (k+1)).all termOK=((l.take k).all termOK && termOK l[k]):=by rw [List.take_succ_eq_append_getElem hlt,List.all_append];simp
   have hbad:termOK l[k]=false→Hid (chainB l=false):=fun h=>by
    unfold Hid chainB
    rw [show l.all termOK=false from by rw [List.all_eq_false];exact ⟨l[k],List.getElem_mem hlt,by simp [h]⟩]
    rfl
   unfold Figure.agg at H
   have he:Hid (termOK l[k]=figOK l[k].fig):=rfl
   rw [show figOK l[k].fig=termOK l[k] from rfl] at H
   simp only [Term.fig] at H
   clear he
   cases hq:termOK l[k] with
   | false =>
    have hF:=hbad hq
    rw [hq] at H
    have H:=fun W=>Lib.hid (H W)
    clear hnx hbad hq
    go_wp2_with (go_at_call 102;refine (H _).out.mono ?_;rintro e w1 ⟨rfl,hb1⟩)
    go_ret
    exact ⟨by rw [hF.out];rfl,hb.trans (hb1.mono hb.size)⟩
   | true =>
    have hok2:Hid ((l.take (k+1)).all termOK=true):=by unfold Hid;rw [hnx,hok.out,hq];rfl
    rw [hq] at H
    have H:=fun W=>Lib.hid (H W)
    clear hnx hbad hq
    go_wp2_with (go_at_call 102;refine (H _).out.mono ?_;rintro e w1 ⟨rfl,hb1⟩)
    go_roundw
    case rel=>exact ⟨k+1,by omega,by go_num,hok2,hb.trans (hb1.mono hb.size)⟩
    case measure=>simp [intOf];omega
  ·have:k=l.length:=by omega
   subst this
   have hall:Hid (l.all termOK=true):=by unfold Hid;have:=hok.out;rwa [List.take_length] at this
   have HI:=fun W=>Lib.hid (l01In_c l.length 1 6 W)
   have HR:Hid (chainB l=(inB l.length 1 6 && !firstDiv l)):=by unfold Hid chainB;rw [hall.out];rfl
   by_cases hin:inB l.length 1 6=true
   ·have hlt0:0 < l.length:=by have:=(inB_true.1 hin).1;omega
    have hf:=firstDiv_eq hlt0
    obtain ⟨b,off,rfl,hbB,hc⟩:=hs.at_ (i:=0) (by simpa using hlt0)
    simp only [List.getElem_map] at hc
    have c2:wr.cell? ⟨b,off+2,none⟩=some (.bool (firstDiv l)):=by rw [hf,hb.cell hbB];have:=hc 2 _ rfl;simpa using this
    have h0I:(0:Int) < (l.length:Int):=by omega
    rw [hin] at HI HR
    clear hc hf hin
    generalize firstDiv l=d at *
    cases d
    all_goals
     go_wp2_with (go_at_call 56;refine (HI _).out.mono ?_;rintro e w1 ⟨rfl,rfl⟩)
     go_ret
     exact ⟨by rw [HR.out];rfl,hb⟩
   ·rw [Bool.not_eq_true] at hin
    rw [hin] at HI HR
    clear hin
    go_wp2_with (go_at_call 56;refine (HI _).out.mono ?_;rintro e w1 ⟨rfl,rfl⟩)
    go_ret
    exact ⟨by rw [HR.out];rfl,hb⟩
end Go.Proofs.YtednjmldjbndhaaGreat
namespace Go.Proofs.YtednjmldjbndhaaGreat
open Go.RowKit
def chainStep (s:Int × Int) (t:Term):Int × Int:=if t.div then (s.1 - figHi t.digits t.tens,s.2 - figLo t.digits t.tens) else (s.1+figLo t.digits t.tens,s.2+figHi t.digits t.tens)
def chainTo (l:List Term) (k:Nat):Int × Int:=(l.take k).foldl chainStep (0,0)
theorem chainTo_succ (l:List Term) {k:Nat} (hk:k < l.length):chainTo l (k+1)=chainStep (chainTo l k) l[k]:=by
 unfold chainTo
 rw [List.take_succ_eq_append_getElem hk,List.foldl_append]
 rfl
theorem term_bd {t:Term} (h:termOK t=true):(1000 ≤ t.digits∧t.digits ≤ 9999)∧(-30 ≤ t.tens∧t.tens ≤ 30):=fig_bd (f:=t.fig) h
theorem chainTo_bd {l:List Term} (h:l.all termOK=true) {k:Nat} (hk:k ≤ l.length):(-(33554432 * (k:Int)) ≤ (chainTo l k).1∧(chainTo l k).1 ≤ 33554432 * (k:Int))∧(-(33554432 * (k:Int)) ≤ (chainTo l k).2∧(chainTo l k).2 ≤ 33554432 * (k:Int)):=by
 induction k with
 | zero=>simp [chainTo]
 | succ k ih =>
  have ih:=ih (by omega)
  rw [chainTo_succ l (by omega)]
  have hb:=term_bd (List.all_eq_true.1 h l[k] (List.getElem_mem _))
  have:=figLo_bd hb.1 hb.2
  unfold chainStep
  split
  ·simp only;omega
  ·simp only;omega
theorem chainTo_one {l:List Term} (h:0 < l.length) (hd:firstDiv l=false):chainTo l 1=(figLo l[0].digits l[0].tens,figHi l[0].digits l[0].tens):=by
 rw [chainTo_succ l h]
 rw [firstDiv_eq h] at hd
 unfold chainStep chainTo
 rw [hd]
 simp
theorem l13Log_c (A:Option Addr) (c:Nat) (l:List Term) (w:World) (h1:0 < l.length) (h6:l.length ≤ 6) (hok:l.all termOK=true) (hd:firstDiv l=false) (hs:Sl w w.heap.size 3 A (l.map Term.cells)) :
  Calls Tryz.prog 178 #[.slice A l.length c] w fun e w'=>e=.returned (.agg #[.int .i64 (chainTo l l.length).1,.int .i64 (chainTo l l.length).2])∧Below w.heap.size w w':=by
 have hs0:=hs
 have Hone:=Lib.hid (chainTo_one h1 hd)
 have hb0:=term_bd (List.all_eq_true.1 hok l[0] (List.getElem_mem _))
 have HF:=fun W=>l03Figure_c ⟨l[0].digits,l[0].tens⟩ W hb0.1 hb0.2
 unfold Figure.agg at HF
 have HF:=fun W=>Lib.hid (HF W)
 have Hok:=Lib.hid hok;clear hok hd
 obtain ⟨b,off,rfl,hbB,hc⟩:=hs.at_ (i:=0) (by simpa using h1)
 simp only [List.getElem_map] at hc
 have c0:w.cell? ⟨b,off,none⟩=some (.int .i64 l[0].digits):=by have:=hc 0 _ rfl;simpa using this
 have c1:w.cell? ⟨b,off+1,none⟩=some (.int .i64 l[0].tens):=by have:=hc 1 _ rfl;simpa using this
 have h1I:(0:Int) < (l.length:Int):=by omega
 clear hc hs
 simp only [figLo,figHi] at Hone
 generalize l[0]=t0 at *
 go_enter Tryz.func178,Tryz.ntmps178
 go_wp2_with fail
 refine (HF _).out.mono ?_;rintro e w1 ⟨rfl,hb1⟩
 have hB1:Below w.heap.size w w1:=((Below.refl _ _).alloc (Nat.le_refl _) _).trans (hb1.mono (by simp))
 have Br:=(Blk.new w 186 #[.int .i64 0,.int .i64 0]).below hb1 (by simp)
 have hz1:=hB1.size
 have hz1':=Br.lt
 clear c0 c1 HF
 go_wp2_with fail
 go_loopw [4] (fun i wr=>∃ k:Nat,1 ≤ k∧k ≤ l.length∧i=.int .i64 k∧Below w.heap.size w wr∧Blk wr w.heap.size 186 #[.int .i64 0,.int .i64 0]∧Blk wr w1.heap.size 186 #[.int .i64 (chainTo l k).1,.int .i64 (chainTo l k).2]) (fun i _=>l.length - (intOf i).toNat)
 case atStart=>exact ⟨1,Nat.le_refl _,h1,rfl,(by repeat first | with_reducible (first | exact hB1 | apply below_drewN' | apply Below.drew | refine Below.alloc ?_ ?_ _ | refine Below.setCell ?_ ?_ _) | exact hB1 | omega | (simp <;> omega) | (have:=(hB1).size;first | omega | (simp <;> omega))),Br.alloc _,by rw [Hone.out];exact Blk.new _ _ _⟩
 case round =>
  obtain ⟨k,hk1,hk,rfl,hb,Brr,Bg⟩:=hrel
  by_cases hlt:k < l.length
  ·obtain ⟨b',off',hA,hbB',hc⟩:=hs0.at_ (i:=k) (by simpa using hlt)
   obtain ⟨rfl,rfl⟩:b=b'∧off=off':=by simpa using hA
   clear hA
   simp only [List.getElem_map] at hc
   have c0:wr.cell? ⟨b,off+k * 3,none⟩=some (.int .i64 l[k].digits):=by rw [hb.cell hbB];exact hc 0 _ rfl
   have c1:wr.cell? ⟨b,off+k * 3+1,none⟩=some (.int .i64 l[k].tens):=by rw [hb.cell hbB];exact hc 1 _ rfl
   have c2:wr.cell? ⟨b,off+k * 3+2,none⟩=some (.bool l[k].div):=by rw [hb.cell hbB];exact hc 2 _ rfl
   clear hc
   have hbk:=term_bd (List.all_eq_true.1 Hok.out l[k] (List.getElem_mem _))
   have hfb:=figLo_bd hbk.1 hbk.2
   have hcb:=chainTo_bd Hok.out hk
   have Hnx:=Lib.hid (chainTo_succ l hlt)
   have HF:=fun W=>l03Figure_c ⟨l[k].digits,l[k].tens⟩ W hbk.1 hbk.2
   unfold Figure.agg at HF
   have HF:∀ W,Calls Tryz.prog 211 #[.agg #[.int .i64 l[k].digits,.int .i64 l[k].tens]] W fun e w'=>e=.returned (.agg #[.int .i64 (figLo l[k].digits l[k].tens),.int .i64 (figHi l[k].digits l[k].tens)])∧Below W.heap.size W w':=HF
   unfold chainStep at Hnx
   generalize figLo l[k].digits l[k].tens=fl at *
   generalize figHi l[k].digits l[k].tens=fh at *
   generalize chainTo l k=s at *
   obtain ⟨s1,s2⟩:=s
   simp only at Hnx hcb Bg
   have HF:=fun W=>Lib.hid (HF W)
   generalize l[k]=t at *
   obtain ⟨td,tt,tv⟩:=t
   simp only at Hnx c0 c1 c2 HF
   have hzr:=hb.size
   have hbw:b < wr.heap.size:=by omega
   have hzg:=Bg.lt
   go_wp2_with fail
   refine (HF _).out.mono ?_;rintro e w2 ⟨rfl,hb2⟩
   have hB2:=hb.trans (hb2.mono hzr)
   have Br2:=Brr.below hb2 Brr.lt
   have Bg2:=Bg.below hb2 Bg.lt
   have d2:w2.cell? ⟨b,off+k * 3+2,none⟩=some (.bool tv):=(hb2.cell (p:=⟨b,off+k * 3+2,none⟩) hbw).trans c2
   have y0:w2.cell? ⟨w1.heap.size,0,none⟩=some (.int .i64 s1):=Bg2.cell 0
   have y1:w2.cell? ⟨w1.heap.size,1,none⟩=some (.int .i64 s2):=Bg2.cell 1
   have hz2:=hB2.size
   have hzg2:=Bg2.lt
   have hz2':=hb2.size
   have hbw2:b < w2.heap.size:=by omega
   have hne2:b ≠ w2.heap.size:=by omega
   have hneg:w1.heap.size ≠ w2.heap.size:=by omega
   have e2:(w2.alloc (.cells #[.int .i64 fl,.int .i64 fh] 186)).cell? ⟨b,off+k * 3+2,none⟩=some (.bool tv):=(World.cell?_alloc_lt w2 _ _ hbw2).trans d2
   clear c0 c1 c2
   cases tv with
   | true =>
    simp only [if_true] at Hnx
    go_wp2_with fail
    refine (l03Sub_c s1 s2 fl fh _ (by omega) (by omega) (by omega) (by omega)).mono ?_;rintro e w3 ⟨rfl,hb3⟩
    have hB3:Below w.heap.size w w3:=Below.trans ((by repeat first | with_reducible (first | exact hB2 | apply below_drewN' | apply Below.drew | refine Below.alloc ?_ ?_ _ | refine Below.setCell ?_ ?_ _) | exact hB2 | omega | (simp <;> omega) | (have:=(hB2).size;first | omega | (simp <;> omega)))) (hb3.mono (by simp;omega))
    have Br3:=(Br2.alloc (.cells #[.int .i64 fl,.int .i64 fh] 186)).below hb3 (by simp;omega)
    have Bg3:=(Bg2.alloc (.cells #[.int .i64 fl,.int .i64 fh] 186)).below hb3 (by simp;omega)
    have z0:w3.cell? ⟨w1.heap.size,0,none⟩=some (.int .i64 s1):=Bg3.cell 0
    have z1:w3.cell? ⟨w1.heap.size,1,none⟩=some (.int .i64 s2):=Bg3.cell 1
    have zf0:w3.frozen? ⟨w1.heap.size,0,none⟩=false:=Bg3.frozen 0
    have zf1:w3.frozen? ⟨w1.heap.size,1,none⟩=false:=Bg3.frozen 1
    go_wp2
    go_roundw
    case rel=>exact ⟨k+1,by omega,by omega,by go_num,(hB3.setCell (p:=⟨w1.heap.size,0,none⟩) hz1 _).setCell (p:=⟨w1.heap.size,1,none⟩) hz1 _,(Br3.far (p:=⟨w1.heap.size,0,none⟩) (by simp;omega) _).far (p:=⟨w1.heap.size,1,none⟩) (by simp;omega) _,by rw [Hnx.out];exact (Bg3.two0 (u:=.int .i64 (s1 - fh))).two1 (u:=.int .i64 (s2 - fl))⟩
    case measure=>simp [intOf];omega
   | false =>
    simp only [Bool.false_eq_true,if_false] at Hnx
    go_wp2_with fail
    refine (l03Add_c s1 s2 fl fh _ (by omega) (by omega) (by omega) (by omega)).mono ?_;rintro e w3 ⟨rfl,hb3⟩
    have hB3:Below w.heap.size w w3:=Below.trans ((by repeat first | with_reducible (first | exact hB2 | apply below_drewN' | apply Below.drew | refine Below.alloc ?_ ?_ _ | refine Below.setCell ?_ ?_ _) | exact hB2 | omega | (simp <;> omega) | (have:=(hB2).size;first | omega | (simp <;> omega)))) (hb3.mono (by simp;omega))
    have Br3:=(Br2.alloc (.cells #[.int .i64 fl,.int .i64 fh] 186)).below hb3 (by simp;omega)
    have Bg3:=(Bg2.alloc (.cells #[.int .i64 fl,.int .i64 fh] 186)).below hb3 (by simp;omega)
    have z0:w3.cell? ⟨w1.heap.size,0,none⟩=some (.int .i64 s1):=Bg3.cell 0
    have z1:w3.cell? ⟨w1.heap.size,1,none⟩=some (.int .i64 s2):=Bg3.cell 1
    have zf0:w3.frozen? ⟨w1.heap.size,0,none⟩=false:=Bg3.frozen 0
    have zf1:w3.frozen? ⟨w1.heap.size,1,none⟩=false:=Bg3.frozen 1
    go_wp2
    go_roundw
    case rel=>exact ⟨k+1,by omega,by omega,by go_num,(hB3.setCell (p:=⟨w1.heap.size,0,none⟩) hz1 _).setCell (p:=⟨w1.heap.size,1,none⟩) hz1 _,(Br3.far (p:=⟨w1.heap.size,0,none⟩) (by simp;omega) _).far (p:=⟨w1.heap.size,1,none⟩) (by simp;omega) _,by rw [Hnx.out];exact (Bg3.two0 (u:=.int .i64 (s1+fl))).two1 (u:=.int .i64 (s2+fh))⟩
    case measure=>simp [intOf];omega
  ·have:k=l.length:=by omega
   subst this
   have z0:wr.cell? ⟨w1.heap.size,0,none⟩=some (.int .i64 (chainTo l l.length).1):=Bg.cell 0
   have z1:wr.cell? ⟨w1.heap.size,1,none⟩=some (.int .i64 (chainTo l l.length).2):=Bg.cell 1
   have r0:wr.cell? ⟨w.heap.size,0,none⟩=some (.int .i64 0):=Brr.cell 0
   have r1:wr.cell? ⟨w.heap.size,1,none⟩=some (.int .i64 0):=Brr.cell 1
   have rf0:wr.frozen? ⟨w.heap.size,0,none⟩=false:=Brr.frozen 0
   have rf1:wr.frozen? ⟨w.heap.size,1,none⟩=false:=Brr.frozen 1
   have _rz:=Brr.lt
   clear hs0
   go_wp2
   refine bodyPost_ret (v:=.agg #[.int .i64 (chainTo l l.length).1,.int .i64 (chainTo l l.length).2]) (by simp [results,Tryz.results178,go_sem,r0,r1]) rfl ⟨rfl,(by repeat first | with_reducible (first | exact hb | apply below_drewN' | apply Below.drew | refine Below.alloc ?_ ?_ _ | refine Below.setCell ?_ ?_ _) | exact hb | omega | (simp <;> omega) | (have:=(hb).size;first | omega | (simp <;> omega)))⟩
end Go.Proofs.YtednjmldjbndhaaGreat
