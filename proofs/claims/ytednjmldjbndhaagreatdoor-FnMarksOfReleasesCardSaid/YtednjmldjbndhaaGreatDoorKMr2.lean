/- Contracts of the small integer functions: each returns what its Lean counterpart computes, the world unchanged. No condition beyond those that are written. Figure: the structure, the laws' copies and comparisons of it. No condition beyond the length. Small range tests of one number. No condition. The logarithm by squaring: the plain sums. No program. The logarithm of a number from 10^8 to 10^9: the program's and the reference's. Figures on a circle: valid figures, their angles. Formulas and charts: plain. No program. -/
import Derived.Test.YtednjmldjbndhaaGreatDoorProg
import Derived.WalkLawsBesides
import Derived.Lib.Hide
import Derived.StillTailTactics
import Derived.Test.YtednjmldjbndhaaGreatDoorKMr1
set_option linter.unusedSimpArgs false
set_option linter.unusedVariables false
set_option maxRecDepth 100000
set_option maxHeartbeats 8000000
namespace Go.Proofs.YtednjmldjbndhaaGreatDoor
open Go.RowKit

def inB (n lo hi:Int):Bool:=decide (lo ≤ n) && decide (n ≤ hi)
theorem inB_true {n lo hi:Int}:inB n lo hi=true ↔ lo ≤ n∧n ≤ hi:=by simp [inB]
theorem inB_false {n lo hi:Int}:inB n lo hi=false ↔ ¬ (lo ≤ n∧n ≤ hi):=by rw [← inB_true];simp

theorem within_c (n lo hi:Int) (w:World) :
  Calls Tryz.prog 66 #[.int .i64 n,.int .i64 lo,.int .i64 hi] w fun e w'=>e=.returned (.bool (inB n lo hi))∧w=w':=by
 by_cases h1:lo ≤ n
 all_goals
  go_enter Tryz.func66,Tryz.ntmps66
  go_wp2
  go_ret
  exact ⟨by simp [inB,h1] <;> omega,rfl⟩

theorem l01In_c (n lo hi:Int) (w:World) :
  Calls Tryz.prog 71 #[.int .i64 n,.int .i64 lo,.int .i64 hi] w fun e w'=>e=.returned (.bool (inB n lo hi))∧w=w':=by
 by_cases h1:lo ≤ n
 all_goals
  go_enter Tryz.func71,Tryz.ntmps71
  go_wp2
  go_ret
  exact ⟨by simp [inB,h1] <;> omega,rfl⟩

theorem tdiv_neg_of (a b:Int) (hb:0 < b) (hm:a.tmod b=0):a.tdiv b=a / b:=by
 have h1:=Int.mul_tdiv_add_tmod a b
 rw [hm] at h1
 have h2:a.tdiv b=a / b:=by
  rw [← h1];simp
  rw [Int.mul_tdiv_cancel_left _ (by omega),Int.mul_ediv_cancel_left _ (by omega)]
 exact h2
theorem tmod_neg_bd (a b:Int) (ha:a < 0) (hb:0 < b):-b < a.tmod b∧a.tmod b ≤ 0:=by
 have h1:=Int.neg_tmod (-a) b
 rw [Int.neg_neg] at h1
 rw [h1]
 have h3:=Int.tmod_nonneg b (show 0 ≤ -a by omega)
 have h4:=Int.tmod_lt_of_pos (-a) hb
 omega
theorem tdiv_neg_of' (a b:Int) (ha:a < 0) (hb:0 < b) (hm:¬ a.tmod b=0):a.tdiv b - 1=a / b:=by
 have h1:=Int.mul_tdiv_add_tmod a b
 have h2:=tmod_neg_bd a b ha hb
 symm
 have h3:a=(a.tmod b+b)+b * (a.tdiv b - 1):=by rw [Int.mul_sub];omega
 rw [h3,Int.add_mul_ediv_left _ _ (by omega)]
 rw [← h3,Int.ediv_eq_zero_of_lt (by omega) (by omega)]
 omega
theorem tdiv_bd (a b:Int) (hb:0 < b) (ha:-4611686018427387904 ≤ a∧a ≤ 4611686018427387904):-4611686018427387904 ≤ a.tdiv b∧a.tdiv b ≤ 4611686018427387904:=by
 rw [tdiv_eq_if]
 split
 ·rename_i hx;have:=IntWalk.tdiv_le a b hx (by omega);omega
 ·rename_i hx;have:=IntWalk.tdiv_le (-a) b (by omega) (by omega);omega
theorem ediv_bd (a b:Int) (hb:0 < b) (ha:-4611686018427387904 ≤ a∧a ≤ 4611686018427387904):-4611686018427387904 ≤ a / b∧a / b ≤ 4611686018427387904:=by
 constructor
 ·exact Int.le_trans (by omega) (Int.le_ediv_of_mul_le hb (show -4611686018427387904 * b ≤ a by
   have:4611686018427387904 * 1 ≤ 4611686018427387904 * b:=Int.mul_le_mul_of_nonneg_left (by omega) (by omega)
   omega))
 ·have:a / b < 4611686018427387904+1:=Int.ediv_lt_of_lt_mul hb (by
   have:4611686018427387905 * 1 ≤ 4611686018427387905 * b:=Int.mul_le_mul_of_nonneg_left (by omega) (by omega)
   omega)
  omega

theorem mul_div_bd (a b:Int) (hb:0 < b):a - b < b * (a / b)∧b * (a / b) ≤ a:=by
 have h1:=Int.mul_ediv_add_emod a b
 have h2:=Int.emod_nonneg a (show b ≠ 0 by omega)
 have h3:=Int.emod_lt_of_pos a hb
 omega

theorem down_c (a b:Int) (w:World) (ha:-4611686018427387904 ≤ a∧a ≤ 4611686018427387904) (hb:0 < b∧b ≤ 4611686018427387904) :
  Calls Tryz.prog 91 #[.int .i64 a,.int .i64 b] w fun e w'=>e=.returned (.int .i64 (a / b))∧w=w':=by
 obtain ⟨ha1,ha2⟩:=ha
 obtain ⟨hb1,hb2⟩:=hb
 have hbn:¬ b < 0:=by omega
 have hb0:¬ b=0:=by omega
 have hbt:=tdiv_bd a b hb1 ⟨ha1,ha2⟩
 by_cases h:0 ≤ a
 ·have h':¬ a < 0:=by omega
  have E:=Lib.hid (Int.tdiv_eq_ediv_of_nonneg (b:=b) h)
  by_cases hm:a % b=0
  ·have hm1:((a % b) != 0)=false:=by simp [hm]
   have hm:=Lib.hid hm
   go_enter Tryz.func91,Tryz.ntmps91
   go_wp2
   go_ret
   exact ⟨ret_int E.out,rfl⟩
  ·have hm1:((a % b) != 0)=true:=by simp [hm]
   go_enter Tryz.func91,Tryz.ntmps91
   go_wp2
   go_ret
   exact ⟨ret_int E.out,rfl⟩
 ·have h':a < 0:=by omega
  by_cases hm:a.tmod b=0
  ·have hm1:((a.tmod b) != 0)=false:=by simp [hm]
   have E:=Lib.hid (tdiv_neg_of a b hb1 hm)
   have hm:=Lib.hid hm
   go_enter Tryz.func91,Tryz.ntmps91
   go_wp2
   go_ret
   exact ⟨ret_int E.out,rfl⟩
  ·have hm1:((a.tmod b) != 0)=true:=by simp [hm]
   have E:=Lib.hid (tdiv_neg_of' a b h' hb1 hm)
   go_enter Tryz.func91,Tryz.ntmps91
   go_wp2
   go_ret
   exact ⟨ret_int E.out,rfl⟩

theorem modulo_c (a b:Int) (w:World) (ha:-4611686018427387904 ≤ a∧a ≤ 4611686018427387904) (hb:0 < b∧b ≤ 4611686018427387904) :
  Calls Tryz.prog 59 #[.int .i64 a,.int .i64 b] w fun e w'=>e=.returned (.int .i64 (a % b))∧w=w':=by
 have h1:=mul_div_bd a b hb.1
 have h2:=ediv_bd a b hb.1 ha
 obtain ⟨ha1,ha2⟩:=ha
 obtain ⟨hb1,hb2⟩:=hb
 obtain ⟨h11,h12⟩:=h1
 have h4:=Int.emod_nonneg a (show b ≠ 0 by omega)
 have h5:=Int.emod_lt_of_pos a hb1
 have E:Hid (a - b * (a / b)=a % b):=by have:=Int.mul_ediv_add_emod a b;unfold Hid;omega
 go_enter Tryz.func59,Tryz.ntmps59
 go_wp2_with (go_at_call 91;refine (down_c _ _ _ ⟨ha1,ha2⟩ ⟨hb1,hb2⟩).mono ?_;rintro e w' ⟨rfl,rfl⟩)
 go_ret
 exact ⟨ret_int E.out,rfl⟩

theorem up_c (a b:Int) (w:World) (ha:-4611686018427387904 ≤ a∧a ≤ 4611686018427387904) (hb:0 < b∧b ≤ 4611686018427387904) :
  Calls Tryz.prog 79 #[.int .i64 a,.int .i64 b] w fun e w'=>e=.returned (.int .i64 (-(-a / b)))∧w=w':=by
 have h2:=ediv_bd (-a) b hb.1 (by omega)
 obtain ⟨ha1,ha2⟩:=ha
 obtain ⟨hb1,hb2⟩:=hb
 go_enter Tryz.func79,Tryz.ntmps79
 go_wp2_with (go_at_call 91;refine (down_c _ _ _ (by omega) ⟨hb1,hb2⟩).mono ?_;rintro e w' ⟨rfl,rfl⟩)
 go_ret
 exact ⟨rfl,rfl⟩

theorem l01Floor_c (a b:Int) (w:World) (ha:-4611686018427387904 ≤ a∧a ≤ 4611686018427387904) (hb:0 < b∧b ≤ 4611686018427387904) :
  Calls Tryz.prog 132 #[.int .i64 a,.int .i64 b] w fun e w'=>e=.returned (.int .i64 (a / b))∧w=w':=by
 obtain ⟨ha1,ha2⟩:=ha
 obtain ⟨hb1,hb2⟩:=hb
 have hbn:¬ b < 0:=by omega
 have hb0:¬ b=0:=by omega
 have hbt:=tdiv_bd a b hb1 ⟨ha1,ha2⟩
 by_cases h:0 ≤ a
 ·have h':¬ a < 0:=by omega
  have E:=Lib.hid (Int.tdiv_eq_ediv_of_nonneg (b:=b) h)
  have hm:=Int.emod_nonneg a (show b ≠ 0 by omega)
  go_enter Tryz.func132,Tryz.ntmps132
  go_wp2
  go_ret
  exact ⟨ret_int E.out,rfl⟩
 ·have h':a < 0:=by omega
  have hmb:=tmod_neg_bd a b h' hb1
  by_cases hm:a.tmod b=0
  ·have E:=Lib.hid (tdiv_neg_of a b hb1 hm)
   have hm1:¬ a.tmod b < 0:=by omega
   have hm:=Lib.hid hm
   go_enter Tryz.func132,Tryz.ntmps132
   go_wp2
   go_ret
   exact ⟨ret_int E.out,rfl⟩
  ·have hm1:a.tmod b < 0:=by omega
   have E:=Lib.hid (tdiv_neg_of' a b h' hb1 hm)
   go_enter Tryz.func132,Tryz.ntmps132
   go_wp2
   go_ret
   exact ⟨ret_int E.out,rfl⟩

theorem l01Ceil_c (a b:Int) (w:World) (ha:-4611686018427387904 ≤ a∧a ≤ 4611686018427387904) (hb:0 < b∧b ≤ 4611686018427387904) :
  Calls Tryz.prog 104 #[.int .i64 a,.int .i64 b] w fun e w'=>e=.returned (.int .i64 (-(-a / b)))∧w=w':=by
 have h2:=ediv_bd (-a) b hb.1 (by omega)
 obtain ⟨ha1,ha2⟩:=ha
 obtain ⟨hb1,hb2⟩:=hb
 go_enter Tryz.func104,Tryz.ntmps104
 go_wp2_with (go_at_call 132;refine (l01Floor_c _ _ _ (by omega) ⟨hb1,hb2⟩).mono ?_;rintro e w' ⟨rfl,rfl⟩)
 go_ret
 exact ⟨rfl,rfl⟩

theorem l01Mod_c (a b:Int) (w:World) (ha:-4611686018427387904 ≤ a∧a ≤ 4611686018427387904) (hb:0 < b∧b ≤ 2305843009213693952) :
  Calls Tryz.prog 60 #[.int .i64 a,.int .i64 b] w fun e w'=>e=.returned (.int .i64 (a % b))∧w=w':=by
 obtain ⟨ha1,ha2⟩:=ha
 obtain ⟨hb1,hb2⟩:=hb
 have hb0:¬ b=0:=by omega
 have h4:=Int.emod_nonneg a hb0
 have h5:=Int.emod_lt_of_pos a hb1
 by_cases h:0 ≤ a
 ·have E:Hid ((a % b+b) % b=a % b):=by unfold Hid;rw [Int.add_emod_right,Int.emod_emod]
  go_enter Tryz.func60,Tryz.ntmps60
  go_wp2
  go_ret
  exact ⟨ret_int E.out,rfl⟩
 ·have h':a < 0:=by omega
  have hmb:=tmod_neg_bd a b h' hb1
  have E:Hid (a.tmod b % b=a % b):=by
   have h1:=Int.mul_tdiv_add_tmod a b
   unfold Hid
   conv=>rhs;rw [← h1,Int.mul_add_emod_self_left]
  go_enter Tryz.func60,Tryz.ntmps60
  go_wp2
  go_ret
  exact ⟨ret_int E.out,rfl⟩

theorem l01Abs_c (a:Int) (w:World) (ha:-4611686018427387904 ≤ a∧a ≤ 4611686018427387904) :
  Calls Tryz.prog 105 #[.int .i64 a] w fun e w'=>e=.returned (.int .i64 (max a (-a)))∧w=w':=by
 obtain ⟨ha1,ha2⟩:=ha
 go_enter Tryz.func105,Tryz.ntmps105
 go_wp2
 all_goals go_ret
 all_goals exact ⟨ret_int (by omega),rfl⟩

end Go.Proofs.YtednjmldjbndhaaGreatDoor
namespace Go.Proofs.YtednjmldjbndhaaGreatDoor
open Go.RowKit
@[ext] structure Figure where
 digits:Int
 tens:Int
deriving DecidableEq
def Figure.cells (s:Figure):List Value:=[.int .i64 s.digits,.int .i64 s.tens]
def Figure.agg (s:Figure):Value:=.agg #[.int .i64 s.digits,.int .i64 s.tens]

end Go.Proofs.YtednjmldjbndhaaGreatDoor
namespace Go.Proofs.YtednjmldjbndhaaGreatDoor
open Go.RowKit
end Go.Proofs.YtednjmldjbndhaaGreatDoor
namespace Go.Proofs.YtednjmldjbndhaaGreatDoor
def stepL (s:Int × Int):Int × Int:=if 1000000000 ≤ s.1 * s.1 / 100000000 then (s.1 * s.1 / 100000000 / 10,2 * s.2+1) else (s.1 * s.1 / 100000000,2 * s.2)
def cdiv (a b:Int):Int:=-(-a / b)
def stepH (s:Int × Int):Int × Int:=if 1000000000 ≤ cdiv (s.1 * s.1) 100000000 then (cdiv (cdiv (s.1 * s.1) 100000000) 10,2 * s.2+1) else (cdiv (s.1 * s.1) 100000000,2 * s.2)
def itL (x:Int):Nat→Int × Int
 | 0=>(x,0)
 | k+1=>stepL (itL x k)
def itH (x:Int):Nat→Int × Int
 | 0=>(x,0)
 | k+1=>stepH (itH x k)
theorem sq_bd {x:Int} (h:100000000 ≤ x∧x ≤ 1000000000):10000000000000000 ≤ x * x∧x * x ≤ 1000000000000000000:=by
 have h1:100000000 * 100000000 ≤ x * x:=Int.mul_le_mul h.1 h.1 (by omega) (by omega)
 have h2:x * x ≤ 1000000000 * 1000000000:=Int.mul_le_mul h.2 h.2 (by omega) (by omega)
 omega
theorem two_pow_le:∀ k:Nat,k ≤ 20→(2:Int) ^ k ≤ 1048576:=by decide
theorem itL_bd {x:Int} (h:100000000 ≤ x∧x ≤ 1000000000):∀ k,(100000000 ≤ (itL x k).1∧(itL x k).1 ≤ 1000000000)∧0 ≤ (itL x k).2∧(itL x k).2 < 2 ^ k:=by
 intro k
 induction k with
 | zero=>exact ⟨h,by simp [itL],by simp [itL]⟩
 | succ k ih =>
  have hs:=sq_bd ih.1
  simp only [itL,stepL]
  generalize itL x k=s at ih hs
  obtain ⟨y,n⟩:=s
  simp only at ih hs ⊢
  generalize y * y=q at hs
  rw [Int.pow_succ]
  split <;> simp only <;> omega
theorem itH_bd {x:Int} (h:100000000 ≤ x∧x ≤ 1000000000):∀ k,(100000000 ≤ (itH x k).1∧(itH x k).1 ≤ 1000000000)∧0 ≤ (itH x k).2∧(itH x k).2 < 2 ^ k:=by
 intro k
 induction k with
 | zero=>exact ⟨h,by simp [itH],by simp [itH]⟩
 | succ k ih =>
  have hs:=sq_bd ih.1
  simp only [itH,stepH]
  generalize itH x k=s at ih hs
  obtain ⟨y,n⟩:=s
  simp only at ih hs ⊢
  generalize y * y=q at hs
  rw [Int.pow_succ]
  by_cases hb:1000000000 ≤ cdiv q 100000000
  ·rw [if_pos hb];simp only;unfold cdiv at *;omega
  ·rw [if_neg hb];simp only;unfold cdiv at *;omega
def logLow (x:Int):Int:=(itL x 20).2
def logHigh (x:Int):Int:=(itH x 20).2+1
theorem logLow_bd {x:Int} (h:100000000 ≤ x∧x ≤ 1000000000):0 ≤ logLow x∧logLow x < 1048576:=by
 have:=(itL_bd h 20).2;unfold logLow;omega
theorem logHigh_bd {x:Int} (h:100000000 ≤ x∧x ≤ 1000000000):1 ≤ logHigh x∧logHigh x ≤ 1048576:=by
 have:=(itH_bd h 20).2;unfold logHigh;omega
end Go.Proofs.YtednjmldjbndhaaGreatDoor
namespace Go.Proofs.YtednjmldjbndhaaGreatDoor
open Go.RowKit
theorem l03BitsL_c (x:Int) (w:World) (h:100000000 ≤ x∧x ≤ 1000000000):Calls Tryz.prog 168 #[.int .i64 x,.bool false] w fun e w'=>e=.returned (.int .i64 (itL x 20).2)∧w=w':=by
 go_enter Tryz.func168,Tryz.ntmps168
 go_wp2_with fail
 go_loop [0,5,6] (fun y n i=>∃ k:Nat,k ≤ 20∧i=.int .i64 k∧y=.int .i64 (itL x k).1∧n=.int .i64 (itL x k).2) (fun _ _ i=>20 - (intOf i).toNat)
 case atStart=>exact ⟨0,Nat.zero_le _,rfl,rfl,rfl⟩
 case round =>
  obtain ⟨k,hk,rfl,rfl,rfl⟩:=hrel
  have bd:=itL_bd h k
  have hp:=two_pow_le k hk
  have hsu:itL x (k+1)=stepL (itL x k):=rfl
  by_cases hlt:k < 20
  ·have hlt':(k:Int) < 20:=by omega
   generalize itL x k=st at bd hsu ⊢
   obtain ⟨y,n⟩:=st
   simp only at bd ⊢
   have hs:=sq_bd bd.1
   obtain ⟨⟨b1,b2⟩,b3,b4⟩:=bd
   obtain ⟨s1,s2⟩:=hs
   have b5:n ≤ 1048576:=by omega
   clear b4 hp
   by_cases hbig:1000000000 ≤ y * y / 100000000
   ·have Hs:Hid (itL x (k+1)=(y * y / 100000000 / 10,2 * n+1)):=by unfold Hid;rw [hsu];unfold stepL;rw [if_pos hbig]
    clear hsu
    go_wp2
    go_round
    case rel=>exact ⟨k+1,by omega,by go_num,by rw [Hs.out],by rw [Hs.out]⟩
    case measure=>simp [intOf];omega
   ·have Hs:Hid (itL x (k+1)=(y * y / 100000000,2 * n)):=by unfold Hid;rw [hsu];unfold stepL;rw [if_neg hbig]
    clear hsu
    go_wp2
    go_round
    case rel=>exact ⟨k+1,by omega,by go_num,by rw [Hs.out],by rw [Hs.out]⟩
    case measure=>simp [intOf];omega
  ·have:k=20:=by omega
   subst this
   go_wp2
   go_ret
   exact ⟨rfl,rfl⟩
theorem l03BitsH_c (x:Int) (w:World) (h:100000000 ≤ x∧x ≤ 1000000000):Calls Tryz.prog 168 #[.int .i64 x,.bool true] w fun e w'=>e=.returned (.int .i64 (itH x 20).2)∧w=w':=by
 go_enter Tryz.func168,Tryz.ntmps168
 go_wp2_with fail
 go_loop [0,5,6] (fun y n i=>∃ k:Nat,k ≤ 20∧i=.int .i64 k∧y=.int .i64 (itH x k).1∧n=.int .i64 (itH x k).2) (fun _ _ i=>20 - (intOf i).toNat)
 case atStart=>exact ⟨0,Nat.zero_le _,rfl,rfl,rfl⟩
 case round =>
  obtain ⟨k,hk,rfl,rfl,rfl⟩:=hrel
  have bd:=itH_bd h k
  have hp:=two_pow_le k hk
  have hsu:itH x (k+1)=stepH (itH x k):=rfl
  by_cases hlt:k < 20
  ·have hlt':(k:Int) < 20:=by omega
   generalize itH x k=st at bd hsu ⊢
   obtain ⟨y,n⟩:=st
   simp only at bd ⊢
   have hs:=sq_bd bd.1
   obtain ⟨⟨b1,b2⟩,b3,b4⟩:=bd
   obtain ⟨s1,s2⟩:=hs
   have b5:n ≤ 1048576:=by omega
   clear b4 hp
   by_cases hbig:1000000000 ≤ -(-(y * y) / 100000000)
   ·have Hs:Hid (itH x (k+1)=(cdiv (cdiv (y * y) 100000000) 10,2 * n+1)):=by unfold Hid;rw [hsu];unfold stepH;rw [if_pos (show 1000000000 ≤ cdiv (y * y) 100000000 from hbig)]
    clear hsu
    go_wp2_with (go_at_call 104;refine (l01Ceil_c _ _ _ (by omega) (by omega)).mono ?_;rintro e w' ⟨rfl,rfl⟩)
    go_round
    case rel=>exact ⟨k+1,by omega,by go_num,by rw [Hs.out];simp [cdiv],by rw [Hs.out]⟩
    case measure=>simp [intOf];omega
   ·have Hs:Hid (itH x (k+1)=(cdiv (y * y) 100000000,2 * n)):=by unfold Hid;rw [hsu];unfold stepH;rw [if_neg (show ¬ 1000000000 ≤ cdiv (y * y) 100000000 from hbig)]
    clear hsu
    go_wp2_with (go_at_call 104;refine (l01Ceil_c _ _ _ (by omega) (by omega)).mono ?_;rintro e w' ⟨rfl,rfl⟩)
    go_round
    case rel=>exact ⟨k+1,by omega,by go_num,by rw [Hs.out];rfl,by rw [Hs.out]⟩
    case measure=>simp [intOf];omega
  ·have:k=20:=by omega
   subst this
   go_wp2
   go_ret
   exact ⟨rfl,rfl⟩

theorem l03Log_c (x:Int) (w:World) (h:100000000 ≤ x∧x ≤ 1000000000):Calls Tryz.prog 166 #[.int .i64 x] w fun e w'=>e=.returned (.agg #[.int .i64 (logLow x),.int .i64 (logHigh x)])∧Below w.heap.size w w':=by
 have h1:=logLow_bd h
 have h2:=logHigh_bd h
 unfold logLow at *
 unfold logHigh at *
 go_enter Tryz.func166,Tryz.ntmps166
 go_wp2_with fail
 refine (l03BitsL_c x _ h).mono ?_;rintro e w' ⟨rfl,rfl⟩
 go_wp2_with fail
 refine (l03BitsH_c x _ h).mono ?_;rintro e w' ⟨rfl,rfl⟩
 go_wp2
 refine bodyPost_ret (v:=.agg #[.int .i64 (itL x 20).2,.int .i64 ((itH x 20).2+1)]) (by simp [results,Tryz.results166,go_sem]) rfl ⟨rfl,?_⟩
 exact (by repeat first | with_reducible (first | exact Below.refl _ _ | apply below_drewN' | apply Below.drew | refine Below.alloc ?_ ?_ _ | refine Below.setCell ?_ ?_ _) | exact Below.refl _ _ | omega | (simp <;> omega) | (have:=(Below.refl _ _).size;first | omega | (simp <;> omega)))
theorem logarithm_c (x:Int) (w:World) (h:100000000 ≤ x∧x ≤ 1000000000):Calls Tryz.prog 161 #[.int .i64 x] w fun e w'=>e=.returned (.agg #[.int .i64 (logLow x),.int .i64 (logHigh x)])∧Below w.heap.size w w':=by
 go_enter Tryz.func161,Tryz.ntmps161
 go_wp2_with fail
 go_loopw [3,4,9] (fun lo hi i wr=>∃ k:Nat,k ≤ 20∧i=.int .i64 k∧lo=.int .i64 (itL x k).1∧hi=.int .i64 (itH x k).1∧Below w.heap.size w wr ∧
   Blk wr w.heap.size 149 #[.int .i64 0,.int .i64 0]∧Blk wr (w.heap.size+1) 149 #[.int .i64 (itL x k).2,.int .i64 (itH x k).2]) (fun _ _ i _=>20 - (intOf i).toNat)
 case atStart =>
  refine ⟨0,Nat.zero_le _,rfl,rfl,rfl,(by repeat first | with_reducible (first | exact Below.refl _ _ | apply below_drewN' | apply Below.drew | refine Below.alloc ?_ ?_ _ | refine Below.setCell ?_ ?_ _) | exact Below.refl _ _ | omega | (simp <;> omega) | (have:=(Below.refl _ _).size;first | omega | (simp <;> omega))),?_,?_⟩
  ·exact (Blk.new w _ _).alloc _
  ·exact Blk.new' _ _ _ (by simp)
 case round =>
  obtain ⟨k,hk,rfl,rfl,rfl,hb,hB0,hB1⟩:=hrel
  have bd:=itL_bd h k
  have bh:=itH_bd h k
  have hp:=two_pow_le k hk
  have hsu:itL x (k+1)=stepL (itL x k):=rfl
  have hsh:itH x (k+1)=stepH (itH x k):=rfl
  have hz1:=hB1.lt
  generalize hgg:w.heap.size=g at *
  by_cases hlt:k < 20
  ·have hlt':(k:Int) < 20:=by omega
   generalize itL x k=st at *
   generalize itH x k=sh at *
   obtain ⟨y,n⟩:=st
   obtain ⟨z,m⟩:=sh
   simp only at bd bh hB1 ⊢
   have hs:=sq_bd bd.1
   have hs':=sq_bd bh.1
   obtain ⟨⟨b1,b2⟩,b3,b4⟩:=bd
   obtain ⟨⟨d1,d2⟩,d3,d4⟩:=bh
   obtain ⟨s1,s2⟩:=hs
   obtain ⟨s3,s4⟩:=hs'
   have b5:n ≤ 1048576:=by omega
   have d5:m ≤ 1048576:=by omega
   clear b4 d4 hp
   have c0:wr.cell? ⟨g+1,0,none⟩=some (.int .i64 n):=hB1.cell 0
   have c1:wr.cell? ⟨g+1,1,none⟩=some (.int .i64 m):=hB1.cell 1
   have f0:=hB1.frozen 0
   have f1:=hB1.frozen 1
   have HB0:=Lib.hid hB0
   have HB1:=Lib.hid hB1
   clear hB0 hB1
   have e1:(1000000000 ≤ y * y / 100000000∧stepL (y,n)=(y * y / 100000000 / 10,2 * n+1)) ∨ (¬ 1000000000 ≤ y * y / 100000000∧stepL (y,n)=(y * y / 100000000,2 * n)):=by
    by_cases hbig:1000000000 ≤ y * y / 100000000
    ·exact .inl ⟨hbig,by unfold stepL;rw [if_pos hbig]⟩
    ·exact .inr ⟨hbig,by unfold stepL;rw [if_neg hbig]⟩
   have e2:(1000000000 ≤ -(-(z * z) / 100000000)∧stepH (z,m)=(cdiv (cdiv (z * z) 100000000) 10,2 * m+1)) ∨ (¬ 1000000000 ≤ -(-(z * z) / 100000000)∧stepH (z,m)=(cdiv (z * z) 100000000,2 * m)):=by
    by_cases hbig:1000000000 ≤ -(-(z * z) / 100000000)
    ·exact .inl ⟨hbig,by unfold stepH;rw [if_pos (show 1000000000 ≤ cdiv (z * z) 100000000 from hbig)]⟩
    ·exact .inr ⟨hbig,by unfold stepH;rw [if_neg (show ¬ 1000000000 ≤ cdiv (z * z) 100000000 from hbig)]⟩
   rcases e1 with ⟨e1,E1⟩ | ⟨e1,E1⟩ <;> rcases e2 with ⟨e2,E2⟩ | ⟨e2,E2⟩
   all_goals
    have H1:=Lib.hid (hsu.trans E1)
    have H2:=Lib.hid (hsh.trans E2)
    clear hsu hsh E1 E2
    go_wp2_with (first | (go_at_call 91;refine (down_c _ _ _ (by omega) (by omega)).mono ?_;rintro e w' ⟨rfl,rfl⟩) | (go_at_call 79;refine (up_c _ _ _ (by omega) (by omega)).mono ?_;rintro e w' ⟨rfl,rfl⟩))
    go_roundw
    case rel =>
     refine ⟨k+1,by omega,by go_num,by rw [H1.out],by rw [H2.out];simp [cdiv],(by repeat first | with_reducible (first | exact hb | apply below_drewN' | apply Below.drew | refine Below.alloc ?_ ?_ _ | refine Below.setCell ?_ ?_ _) | exact hb | omega | (simp <;> omega) | (have:=(hb).size;first | omega | (simp <;> omega))),?_,?_⟩
     ·repeat (first | with_reducible exact HB0.out | refine Blk.far ?_ (show g ≠ g+1 from by omega) _)
     ·rw [H1.out,H2.out]
      dsimp only
      rw [Int.mul_comm 2 n,Int.mul_comm 2 m]
      repeat (first | with_reducible exact HB1.out | with_reducible apply Blk.two0 | with_reducible apply Blk.two1)
    case measure=>simp [intOf];omega
  ·have:k=20:=by omega
   subst this
   have c0:wr.cell? ⟨g+1,0,none⟩=some (.int .i64 (itL x 20).2):=hB1.cell 0
   have c1:wr.cell? ⟨g+1,1,none⟩=some (.int .i64 (itH x 20).2):=hB1.cell 1
   have f1:=hB1.frozen 1
   have r0:wr.cell? ⟨g,0,none⟩=some (.int .i64 0):=hB0.cell 0
   have r1:wr.cell? ⟨g,1,none⟩=some (.int .i64 0):=hB0.cell 1
   have q0:=hB0.frozen 0
   have q1:=hB0.frozen 1
   have hz0:=hB0.lt
   clear hB0 hB1 hsu hsh bd
   go_wp2
   refine bodyPost_ret (v:=.agg #[.int .i64 (itL x 20).2,.int .i64 ((itH x 20).2+1)]) ?_ rfl ⟨rfl,by rw [hgg];exact (by repeat first | with_reducible (first | exact hb | apply below_drewN' | apply Below.drew | refine Below.alloc ?_ ?_ _ | refine Below.setCell ?_ ?_ _) | exact hb | omega | (simp <;> omega) | (have:=(hb).size;first | omega | (simp <;> omega)))⟩
   simp [results,Tryz.results161,go_sem,r0,r1]
end Go.Proofs.YtednjmldjbndhaaGreatDoor
namespace Go.Proofs.YtednjmldjbndhaaGreatDoor
open Go.RowKit
def figOK (f:Figure):Bool:=inB f.digits 1000 9999 && inB f.tens (-30) 30
theorem fig_bd {f:Figure} (h:figOK f=true):(1000 ≤ f.digits∧f.digits ≤ 9999)∧(-30 ≤ f.tens∧f.tens ≤ 30):=by
 simp only [figOK,Bool.and_eq_true] at h
 exact ⟨inB_true.1 h.1,inB_true.1 h.2⟩
theorem specIsFigure_c (f:Figure) (w:World):Calls Tryz.prog 113 #[f.agg] w fun e w'=>e=.returned (.bool (figOK f))∧Below w.heap.size w w':=by
 obtain ⟨a,b⟩:=f
 unfold Figure.agg figOK
 cases h1:inB a 1000 9999 <;> cases h2:inB b (-30) 30
 all_goals
  go_enter Tryz.func113,Tryz.ntmps113
  go_wp2_with (first | (go_at_call 71;refine (l01In_c _ _ _ _).mono ?_;rintro e w' ⟨rfl,rfl⟩))
  go_ret
  exact ⟨rfl,(Below.refl _ _).alloc (by simp) _⟩
theorem implIsFigure_c (f:Figure) (w:World):Calls Tryz.prog 107 #[f.agg] w fun e w'=>e=.returned (.bool (figOK f))∧Below w.heap.size w w':=by
 obtain ⟨a,b⟩:=f
 unfold Figure.agg figOK
 cases h1:inB a 1000 9999 <;> cases h2:inB b (-30) 30
 all_goals
  go_enter Tryz.func107,Tryz.ntmps107
  go_wp2_with (first | (go_at_call 66;refine (within_c _ _ _ _).mono ?_;rintro e w' ⟨rfl,rfl⟩))
  go_ret
  exact ⟨rfl,(Below.refl _ _).alloc (by simp) _⟩
theorem areFigures_c (A:Option Addr) (c:Nat) (l:List Figure) (w:World) (hl:l.length ≤ 140737488351232) (hs:Sl w w.heap.size 2 A (l.map Figure.cells)) :
  Calls Tryz.prog 76 #[.slice A l.length c] w fun e w'=>e=.returned (.bool (l.all figOK))∧Below w.heap.size w w':=by
 go_enter Tryz.func76,Tryz.ntmps76
 go_wp2_with fail
 go_loopw [7] (fun i wr=>∃ k:Nat,k ≤ l.length∧i=.int .i64 k∧Below w.heap.size w wr∧Hid ((l.take k).all figOK=true)) (fun i _=>l.length - (intOf i).toNat)
 case atStart=>exact ⟨0,Nat.zero_le _,rfl,Below.refl _ _,(show (l.take 0).all figOK=true from by simp)⟩
 case round =>
  obtain ⟨k,hk,rfl,hb,hn⟩:=hrel
  have hbs:=hb.size
  by_cases hlt:k < l.length
  ·obtain ⟨b,off,rfl,bB,cc⟩:=hs.at_ (i:=k) (by simpa using hlt)
   simp only [List.getElem_map] at cc
   have c0:wr.cell? ⟨b,off+k * 2,none⟩=some (.int .i64 l[k].digits):=by rw [hb.cell bB];exact cc 0 _ rfl
   have c1:wr.cell? ⟨b,off+k * 2+1,none⟩=some (.int .i64 l[k].tens):=by rw [hb.cell bB];exact cc 1 _ rfl
   clear cc
   have hnx:(l.take (k+1)).all figOK=((l.take k).all figOK && figOK l[k]):=by rw [List.take_succ_eq_append_getElem hlt,List.all_append];simp
   have hnx':=Lib.hid hnx;clear hnx
   have hcall:=fun W=>implIsFigure_c l[k] W
   cases hq:figOK l[k] with
   | true =>
    rw [hq] at hcall
    have hcall':=Lib.hid hcall;clear hcall
    have hq':=Lib.hid hq;clear hq
    go_wp2_with (go_at_call 107;refine (hcall'.out _).mono ?_;rintro e w1 ⟨rfl,hb1⟩)
    go_roundw
    case rel=>exact ⟨k+1,by omega,by go_num,(hb.alloc hbs _).trans (hb1.mono (by simp;omega)),(show _=true from by rw [hnx'.out,hn.out,hq'.out];rfl)⟩
    case measure=>simp [intOf];omega
   | false =>
    rw [hq] at hcall
    have hcall':=Lib.hid hcall;clear hcall
    have hq':=Lib.hid hq;clear hq
    go_wp2_with (go_at_call 107;refine (hcall'.out _).mono ?_;rintro e w1 ⟨rfl,hb1⟩)
    go_ret
    refine ⟨ret_bool ?_,(hb.alloc hbs _).trans (hb1.mono (by simp;omega))⟩
    symm
    rw [Bool.eq_false_iff]
    intro h
    have:=List.all_eq_true.1 h l[k] (List.getElem_mem hlt)
    rw [hq'.out] at this
    cases this
  ·have:k=l.length:=by omega
   subst this
   have hn':=hn.out
   rw [List.take_length] at hn'
   have hn'':=Lib.hid hn';clear hn'
   go_wp2
   go_ret
   exact ⟨ret_bool hn''.out.symm,hb⟩
theorem figureLog_c (f:Figure) (w:World) (h:1000 ≤ f.digits∧f.digits ≤ 9999) (ht:-30 ≤ f.tens∧f.tens ≤ 30) :
  Calls Tryz.prog 148 #[f.agg] w fun e w'=>e=.returned (.agg #[.int .i64 (logLow (f.digits * 100000)+f.tens * 1048576),.int .i64 (logHigh (f.digits * 100000)+f.tens * 1048576)])∧Below w.heap.size w w':=by
 obtain ⟨d,t⟩:=f
 unfold Figure.agg
 simp only at *
 have hx:100000000 ≤ d * 100000∧d * 100000 ≤ 1000000000:=by omega
 have h1:=logLow_bd hx
 have h2:=logHigh_bd hx
 obtain ⟨h,h'⟩:=h
 obtain ⟨ht,ht'⟩:=ht
 have hlog:=fun W=>Lib.hid (logarithm_c (d * 100000) W hx)
 generalize logLow (d * 100000)=lo at *
 generalize logHigh (d * 100000)=hi at *
 go_enter Tryz.func148,Tryz.ntmps148
 go_wp2_with fail
 refine (hlog _).out.mono ?_;rintro e w1 ⟨rfl,hb1⟩
 have B0:Blk w1 w.heap.size 26 #[.int .i64 d,.int .i64 t]:=((Blk.new w _ _).alloc _).below hb1 (by simp;omega)
 have B1:Blk w1 (w.heap.size+1) 149 #[.int .i64 0,.int .i64 0]:=(Blk.new' _ _ _ (by simp)).below hb1 (by simp)
 have hb0:Below w.heap.size w w1:=(((Below.refl _ _).alloc (Nat.le_refl _) _).alloc (by simp) _).trans (hb1.mono (by simp;omega))
 clear hb1
 have z0:=B0.lt
 have z1:=B1.lt
 have c1:w1.cell? ⟨w.heap.size,1,none⟩=some (.int .i64 t):=B0.cell 1
 have d0:w1.cell? ⟨w.heap.size+1,0,none⟩=some (.int .i64 0):=B1.cell 0
 have d1:w1.cell? ⟨w.heap.size+1,1,none⟩=some (.int .i64 0):=B1.cell 1
 have f0:=B1.frozen 0
 have f1:=B1.frozen 1
 clear B0 B1
 go_wp2
 refine bodyPost_ret (v:=.agg #[.int .i64 (lo+t * 1048576),.int .i64 (hi+t * 1048576)]) (by simp [results,Tryz.results148,go_sem,d0,d1,z1]) rfl ⟨rfl,?_⟩
 have hbs:=hb0.size
 exact (by repeat first | with_reducible (first | exact hb0 | apply below_drewN' | apply Below.drew | refine Below.alloc ?_ ?_ _ | refine Below.setCell ?_ ?_ _) | exact hb0 | omega | (simp <;> omega) | (have:=(hb0).size;first | omega | (simp <;> omega)))

end Go.Proofs.YtednjmldjbndhaaGreatDoor
namespace Go.Proofs.YtednjmldjbndhaaGreatDoor
open Go.RowKit
def chAt (s:ByteArray) (k:Nat):Int:=if h:k < s.size then (s[k].toNat:Int) else 0
theorem chAt_eq {s:ByteArray} {k:Nat} (h:k < s.size):chAt s k=(s[k].toNat:Int):=dif_pos h
def letB (s:ByteArray) (l:List Int) (k:Nat):Bool :=
 decide (97 ≤ chAt s k) && decide (chAt s k ≤ 122) && (decide (k=0) || decide (chAt s (k - 1) < chAt s k)) && !decide (l.getD k 0=0) && inB (l.getD k 0) (-6) 6
def formB (fd ft:Int) (s:ByteArray) (l:List Int):Bool:=figOK ⟨fd,ft⟩ && decide (s.size ≤ 6) && decide (l.length=s.size) && (List.range l.length).all (letB s l)
theorem letters_bad {s:ByteArray} {l:List Int} {k:Nat} (hk:k < l.length) (h:letB s l k=false):(List.range l.length).all (letB s l)=false:=by
 rw [List.all_eq_false]
 exact ⟨k,List.mem_range.2 hk,by rw [h];simp⟩
theorem letters_next {s:ByteArray} {l:List Int} {k:Nat} (h:letB s l k=true) (hs:(List.range k).all (letB s l)=true):(List.range (k+1)).all (letB s l)=true:=by
 rw [List.range_succ,List.all_append,hs]
 simp [h]
def chartB (fd ft:Int) (s:ByteArray) (l:List Int) (wd lf rt:Int):Bool:=formB fd ft s l && decide (s.size=2) && inB wd 1000 100000 && inB lf 100 20000 && inB rt 100 20000
theorem form_parts {fd ft:Int} {s:ByteArray} {l:List Int} (h:formB fd ft s l=true):figOK ⟨fd,ft⟩=true∧s.size ≤ 6∧l.length=s.size∧∀ k,k < l.length→letB s l k=true:=by
 unfold formB at h
 simp only [Bool.and_eq_true,decide_eq_true_eq] at h
 exact ⟨h.1.1.1,h.1.1.2,h.1.2,fun k hk=>List.all_eq_true.1 h.2 k (List.mem_range.2 hk)⟩
theorem chart_parts {fd ft:Int} {s:ByteArray} {l:List Int} {wd lf rt:Int} (h:chartB fd ft s l wd lf rt=true):formB fd ft s l=true∧s.size=2∧(1000 ≤ wd∧wd ≤ 100000)∧(100 ≤ lf∧lf ≤ 20000)∧(100 ≤ rt∧rt ≤ 20000)∧∃ p0 p1,l=[p0,p1]∧(-6 ≤ p0∧p0 ≤ 6)∧(-6 ≤ p1∧p1 ≤ 6):=by
 unfold chartB at h
 simp only [Bool.and_eq_true,decide_eq_true_eq,inB_true] at h
 obtain ⟨⟨⟨⟨h1,h2⟩,h3⟩,h4⟩,h5⟩:=h
 obtain ⟨_,_,f3,f4⟩:=form_parts h1
 rw [h2] at f3
 match l,f3 with
 | [p0,p1],_ =>
  have a:=f4 0 (by simp)
  have b:=f4 1 (by simp)
  unfold letB at a b
  simp only [Bool.and_eq_true,inB_true] at a b
  exact ⟨h1,h2,h3,h4,h5,p0,p1,rfl,a.2,b.2⟩
end Go.Proofs.YtednjmldjbndhaaGreatDoor
