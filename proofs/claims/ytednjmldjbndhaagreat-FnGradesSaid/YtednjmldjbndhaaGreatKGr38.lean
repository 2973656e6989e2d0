/- Plain facts for the law on grades: the usual plan ends at the sum of the points; the figure nearest to its cursor lies in the span. No condition. -/
import Derived.Test.YtednjmldjbndhaaGreatKGr12
import Derived.Test.YtednjmldjbndhaaGreatKGr32
import Derived.Test.YtednjmldjbndhaaGreatKGr35
import Derived.Test.YtednjmldjbndhaaGreatKGr37
set_option linter.unusedSimpArgs false
set_option linter.unusedVariables false
set_option maxRecDepth 100000
set_option maxHeartbeats 8000000
namespace Go.Proofs.YtednjmldjbndhaaGreat
open Go.RowKit
def curP (p:PS):Int:=if p.en then p.sh else p.cu
def eqD (a b:Int):Prop:=(a - b) % 1048576=0
theorem under_cur (p:PS):eqD (underP p).cu (curP p):=by
 unfold underP curP eqD
 cases p.en with
 | false=>simp
 | true =>
  simp only [if_true]
  split <;> simp [mvP,moveS] <;> omega
theorem term_cur (p:PS) (t:Term):eqD (curP (termP p t)) (curP p+ptT t):=by
 have hu:=under_cur p
 have he:=under_en p
 unfold termP ptT
 unfold eqD at *
 cases hd:t.div with
 | true =>
  simp only [if_true]
  show (curP (mvP (underP p) 2 t.digits t.tens true) - _) % _=0
  have:curP (mvP (underP p) 2 t.digits t.tens true)=(underP p).cu - pointC t.digits:=by simp [curP,mvP,moveS]
  rw [this]
  omega
 | false =>
  simp only [Bool.false_eq_true,if_false]
  cases hf:p.en && fitsB p.sh t.digits with
  | true =>
   simp only [if_true]
   rw [Bool.and_eq_true] at hf
   have h1:curP (mvP p 1 t.digits t.tens false)=pointC t.digits+p.sh:=by simp [curP,mvP,moveS]
   have h2:curP p=p.sh:=by unfold curP;rw [hf.1];rfl
   rw [h1,h2]
   omega
  | false =>
   simp only [Bool.false_eq_true,if_false]
   have h1:∀ k,k=3 ∨ k=4→((curP (mvP (mvP (underP p) k 0 0 false) 1 t.digits t.tens false)) - (pointC t.digits+(underP p).cu)) % 1048576=0:=by
    intro k hk
    rcases hk with rfl | rfl <;> simp [curP,mvP,moveS] <;> omega
   have h2:=h1 (if fitsB (underP p).cu t.digits then 3 else 4) (by split <;> simp)
   omega
theorem fold_cur {l:List Term} (h0:0 < l.length) (hd:firstDiv l=false):∀ k,1 ≤ k→k ≤ l.length→eqD (curP (foldP (headP l[0]) l k)) (sumP l k)
 | 0,h,_=>by omega
 | k+1,_,hk=>by
  by_cases hk0:k=0
  ·subst hk0
   rw [foldP_one,sumP_succ l h0]
   rw [firstDiv_eq h0] at hd
   unfold ptT
   rw [hd]
   simp [eqD,curP,headP,mvP,moveS,sumP]
  ·have ih:=fold_cur h0 hd k (by omega) (by omega)
   rw [foldP_succ _ _ (by omega) (by omega),sumP_succ l (by omega)]
   have:=term_cur (foldP (headP l[0]) l k) (l[k]'(by omega))
   unfold eqD at *
   omega
theorem usual_cur {l:List Term} (h0:0 < l.length) (hd:firstDiv l=false):eqD (usualP l).cu (sumP l l.length):=by
 have h:=fold_cur h0 hd l.length h0 (Nat.le_refl _)
 rw [usualP_eq h0]
 have:=under_cur (foldP (headP l[0]) l l.length)
 unfold eqD at *
 omega
theorem stepLH {s s':Int × Int} (h0:0 ≤ s.1) (h:leB s s'):leB (stepL s) (stepH s'):=by
 obtain ⟨y,n⟩:=s
 obtain ⟨z,m⟩:=s'
 unfold leB at h ⊢
 simp only at h h0
 unfold stepL stepH
 simp only
 rcases h with h | ⟨rfl,h⟩
 ·left
  split <;> split <;> (simp only;omega)
 ·have hq:y * y ≤ z * z:=Int.mul_le_mul h h h0 (by omega)
  have hp:0 ≤ y * y:=Int.mul_nonneg h0 h0
  unfold cdiv
  generalize y * y=a at *
  generalize z * z=b at *
  by_cases h1:1000000000 ≤ a / 100000000 <;> by_cases h2:1000000000 ≤ -(-b / 100000000)
  ·rw [if_pos h1,if_pos h2];exact .inr ⟨rfl,by simp only;omega⟩
  ·exfalso;omega
  ·rw [if_neg h1,if_pos h2];exact .inl (by simp only;omega)
  ·rw [if_neg h1,if_neg h2];exact .inr ⟨rfl,by simp only;omega⟩
theorem itLH {x:Int} (hx:100000000 ≤ x∧x ≤ 1000000000):∀ k,leB (itL x k) (itH x k)
 | 0=>.inr ⟨rfl,Int.le_refl _⟩
 | k+1=>stepLH (by have:=(itL_bd hx k).1;omega) (itLH hx k)
theorem logLH {d:Int} (h:1000 ≤ d∧d ≤ 9999):logLow (d * 100000) ≤ logHigh (d * 100000):=by
 have:=itLH (x:=d * 100000) (by omega) 20
 unfold leB at this
 unfold logLow logHigh
 omega
def tenT (t:Term):Int:=if t.div then -t.tens else t.tens
theorem chain_mid {l:List Term} (hall:l.all termOK=true):∀ k,k ≤ l.length→∃ T:Int,(chainTo l k).1 ≤ sumP l k+T * 1048576∧sumP l k+T * 1048576 ≤ (chainTo l k).2
 | 0,_=>⟨0,by simp [chainTo,sumP],by simp [chainTo,sumP]⟩
 | k+1,hk=>by
  obtain ⟨T,h1,h2⟩:=chain_mid hall k (by omega)
  rw [chainTo_succ l (by omega),sumP_succ l (by omega)]
  have hb:=term_bd (List.all_eq_true.1 hall l[k] (List.getElem_mem _))
  have hlh:logLow (l[k].digits * 100000) ≤ logHigh (l[k].digits * 100000):=logLH (by omega)
  refine ⟨T+tenT l[k],?_⟩
  unfold chainStep tenT ptT pointC figLo figHi
  split
  ·simp only
   omega
  ·simp only
   omega
theorem pointC_lt1 {d:Int} (h:1000 ≤ d∧d ≤ 9998):pointC d < pointC (d+1):=by
 have h1:=logLow_up h
 have h2:=logHigh_mono (x:=d * 100000) (x':=(d+1) * 100000) (by omega) (by omega)
 unfold pointC
 omega
theorem pointC_add {d:Int} (h:1000 ≤ d):∀ n:Nat,d+1+(n:Int) ≤ 9999→pointC d < pointC (d+1+(n:Int))
 | 0,hn=>by
  have h1:=pointC_lt1 (d:=d) ⟨h,by omega⟩
  rw [show d+1+((0:Nat):Int)=d+1 from by omega]
  exact h1
 | n+1,hn=>by
  have h1:=pointC_add h n (by omega)
  have h2:=pointC_lt1 (d:=d+1+(n:Int)) (by omega)
  rw [show d+1+((n+1:Nat):Int)=d+1+(n:Int)+1 from by omega]
  exact Int.lt_trans h1 h2
theorem pointC_lt {d d':Int} (h:1000 ≤ d) (hd:d < d') (h':d' ≤ 9999):pointC d < pointC d':=by
 have h1:=pointC_add h (d' - (d+1)).toNat (by omega)
 rw [show d+1+((d' - (d+1)).toNat:Int)=d' from by omega] at h1
 exact h1
def NearC (c d:Int):Prop:=(1000 ≤ d∧d ≤ 9999)∧∀ x,1000 ≤ x∧x ≤ 9999→(pointC d - c).natAbs ≤ (pointC x - c).natAbs
theorem near_in {c d k CL CH u:Int} {lo hi:Figure} (hc:0 ≤ c∧c ≤ 1048576) (hn:NearC c d) (hu:1 ≤ u) (h1:CL ≤ c+k * 1048576) (h2:c+k * 1048576 ≤ CH)
  (hlo:figOK lo=true) (hhi:figOK hi=true) (h3:figHi lo.digits lo.tens ≤ CL - u) (h4:CH+u ≤ figLo hi.digits hi.tens):leF lo ⟨d,k⟩=true∧leF ⟨d,k⟩ hi=true:=by
 obtain ⟨l1,l2⟩:=fig_bd hlo
 obtain ⟨i1,i2⟩:=fig_bd hhi
 have hll:logLow (lo.digits * 100000) ≤ logHigh (lo.digits * 100000):=logLH (by omega)
 have hhl:logLow (hi.digits * 100000) ≤ logHigh (hi.digits * 100000):=logLH (by omega)
 have pl:=pointC_bd l1
 have ph:=pointC_bd i1
 have ql:pointC lo.digits+lo.tens * 1048576 < c+k * 1048576:=by unfold figHi at h3;unfold pointC;omega
 have qh:c+k * 1048576 < pointC hi.digits+hi.tens * 1048576:=by unfold figLo at h4;unfold pointC;omega
 constructor
 ·rw [leF_iff]
  simp only
  rcases Int.lt_trichotomy lo.tens k with h | h | h
  ·exact .inl h
  ·refine .inr ⟨h,?_⟩
   rcases Int.lt_or_le d lo.digits with hd | hd
   ·have a1:=pointC_lt hn.1.1 hd l1.2
    have a2:=hn.2 lo.digits l1
    subst h
    omega
   ·exact hd
  ·omega
 ·rw [leF_iff]
  simp only
  rcases Int.lt_trichotomy k hi.tens with h | h | h
  ·exact .inl h
  ·refine .inr ⟨h,?_⟩
   rcases Int.lt_or_le hi.digits d with hd | hd
   ·have a1:=pointC_lt i1.1 hd hn.1.2
    have a2:=hn.2 hi.digits i1
    subst h
    omega
   ·exact hd
  ·omega
theorem grade_plan {L:Int} {l1 l2:List Int} {l:List Term} {p q r d:Int} (h:exB L l1 l2 l p q r=true) (hn:NearC (usualP l).cu d):gradeP L l1 l2 l p q r ⟨d,0⟩ ≤ 2:=by
 obtain ⟨x1,x2,x3,x4,x5⟩:=ex_parts h
 obtain ⟨b1,b2,b3,b4,b5⟩:=bound_parts x1
 obtain ⟨k1,k2,k3,k4⟩:=chainB_parts b2
 obtain ⟨ok,_⟩:=usual_ok k1 k2 k3
 obtain ⟨T,m1,m2⟩:=chain_mid k3 l.length (Nat.le_refl _)
 have hcu:=usual_cur k1 k4
 have hcb:=ok.1.2
 unfold eqD at hcu
 obtain ⟨k,hk⟩:∃ k:Int,sumP l l.length+T * 1048576=(usualP l).cu+k * 1048576:=⟨T - ((usualP l).cu - sumP l l.length) / 1048576,by omega⟩
 rw [hk] at m1 m2
 have hx:=ex_ok x1
 have hr:=b1
 unfold ruleB at hr
 unfold errorsB at b5
 simp only [Bool.and_eq_true,inB_true] at hr b5
 have hU:=(unitsC_bd (L:=L) (p:=p) (q:=q) (r:=r) (by omega) (by omega) (by omega) (by omega)).1
 have hu:1 ≤ unitsPl L l p q r:=by
  unfold unitsPl
  have h2:(1:Int) ≤ ((setTo (usualP l).ms (usualP l).ms.length:Nat):Int)+1:=by omega
  have h3:(1:Int) ≤ unitsC L p q r+2:=by omega
  have:=Int.mul_le_mul h2 h3 (by omega) (by omega)
  omega
 have hf1:exLoF L l1 l2 l p q r=belF (spanLo L l p q r):=by rw [hx.1];unfold spLoF;rw [if_pos x5]
 have hf2:exHiF L l1 l2 l p q r=aboF (spanHi L l p q r):=by rw [hx.2.1];unfold spHiF;rw [if_pos x5]
 have hlo:figHi (exLoF L l1 l2 l p q r).digits (exLoF L l1 l2 l p q r).tens ≤ (chainTo l l.length).1 - unitsPl L l p q r:=by
  rw [hf1]
  exact belN_lo (u:=spanLo L l p q r) (n:=belN (spanLo L l p q r) - 1) (by omega)
 have hhi:(chainTo l l.length).2+unitsPl L l p q r ≤ figLo (exHiF L l1 l2 l p q r).digits (exHiF L l1 l2 l p q r).tens:=by
  rw [hf2]
  exact aboN_hi (u:=spanHi L l p q r) (n:=aboN (spanHi L l p q r)) (Int.le_refl _)
 obtain ⟨g1,g2⟩:=near_in hcb hn hu m1 m2 x3 x4 hlo hhi
 have hw:withinP (exLoF L l1 l2 l p q r) (exHiF L l1 l2 l p q r) d=true:=by
  have e1:=leF_iff.1 g1
  have e2:=leF_iff.1 g2
  have f1:=(fig_bd x3).2
  have f2:=(fig_bd x4).2
  simp only at e1 e2
  have hj:((k+30).toNat:Int) - 30=k:=by omega
  refine within_hit (j:=(k+30).toNat) (by omega) ?_
  unfold wOK
  rw [hj,g1,g2]
  rfl
 unfold gradeP
 rw [if_pos hw]
 split
 ·omega
 ·split
  ·omega
  ·omega
theorem step_more {ms l:List Move} (h1:stepN ms l=l.length) (h2:l.length < ms.length):stepN ms (l ++ [ms[l.length]])=l.length+1:=by
 induction ms generalizing l with
 | nil=>simp at h2
 | cons x t ih =>
  cases l with
  | nil=>simp [stepN]
  | cons y s =>
   simp only [List.length_cons] at h1 h2
   unfold stepN at h1
   split at h1
   ·rename_i hxy
    simp only [List.cons_append,List.length_cons,List.getElem_cons_succ]
    unfold stepN
    rw [if_pos hxy]
    have:=ih (l:=s) (by omega) (by omega)
    rw [this]
   ·omega
end Go.Proofs.YtednjmldjbndhaaGreat
