/- The size test of the laws on drawn arguments. No condition beyond the length. What the law on grades asks of the values, and the structure of its region with two appends. No condition. A great region that draws its order: its frame is a function of what has come up. Plain. -/
import Derived.Test.YtednjmldjbndhaaGreatKGr1
import Derived.Test.YtednjmldjbndhaaGreatKGr16
import Derived.Test.YtednjmldjbndhaaGreatKGr2
import Derived.Test.YtednjmldjbndhaaGreatKGr21
import Derived.Test.YtednjmldjbndhaaGreatKGr27
import Derived.Test.YtednjmldjbndhaaGreatKGr28
import Derived.Test.YtednjmldjbndhaaGreatKGr40
import Derived.Test.YtednjmldjbndhaaGreatKGr43
set_option linter.unusedSimpArgs false
set_option linter.unusedVariables false
set_option maxRecDepth 100000
set_option maxHeartbeats 8000000
namespace Go.Proofs.YtednjmldjbndhaaGreat
open Go.RowKit
theorem big_c (A:Option Addr) (n c:Nat) (w:World) (hn:n ≤ 140737488351232):Calls Tryz.prog 6 #[.slice A n c] w fun e w'=>e=.returned (.bool (decide (4096 < n)))∧w=w':=by
 go_enter Tryz.func6,Tryz.ntmps6
 go_wp2
 go_ret
 exact ⟨ret_bool (by simp;omega),rfl⟩
end Go.Proofs.YtednjmldjbndhaaGreat
namespace Go.Proofs.YtednjmldjbndhaaGreat
open Go.RowKit
def rightS:ByteArray:=⟨#[114,105,103,104,116]⟩
theorem expS_right (pl:Bool) (g:Int) (all:Bool):(pl=true∧g ≤ 1∧expS pl g all=rightS) ∨ (¬ (pl=true∧g ≤ 1)∧((expS pl g all).toList == [114,105,103,104,116])=false):=by
 unfold expS rightS
 by_cases h:pl=true
 ·rw [if_pos h]
  by_cases h1:g ≤ 1
  ·exact .inl ⟨h,h1,by rw [if_pos h1]⟩
  ·right
   refine ⟨fun e=>h1 e.2,?_⟩
   rw [if_neg h1]
   split <;> decide +kernel
 ·right
  refine ⟨fun e=>h e.1,?_⟩
  rw [if_neg h]
  split <;> decide +kernel
theorem movesB_append {l:List Move} {m:Move} (h:movesB l=true) (h2:l.length < 19) (hm:moveB m=true):movesB (l ++ [m])=true:=by
 unfold movesB at *
 simp only [Bool.and_eq_true,decide_eq_true_eq,List.length_append,List.length_singleton,List.all_append,List.all_cons,List.all_nil] at *
 exact ⟨by omega,h.2,hm,trivial⟩
theorem grd_true (L:Int) (l1 l2:List Int) (l3:List Term) (p q r:Int) (l:List Move) (fa fb:Int) (h:(if (exB L l1 l2 l3 p q r && ansB l fa fb)=true then (0:Int) else 1)=0) :
  (exB L l1 l2 l3 p q r && ansB l fa fb)=true ∧
  (0 ≤ (if (exB L l1 l2 l3 p q r && ansB l fa fb)=true then gradeP L l1 l2 l3 p q r ⟨fa,fb⟩ else 0)∧(if (exB L l1 l2 l3 p q r && ansB l fa fb)=true then gradeP L l1 l2 l3 p q r ⟨fa,fb⟩ else 0) ≤ 3) ∧
  (ansB (usualP l3).ms (rdD (usualP l3).cu) 0=true∧gradeP L l1 l2 l3 p q r ⟨rdD (usualP l3).cu,0⟩ ≤ 2∧planL L l1 l2 l3=(usualP l3).ms∧planCode L l1 l2 l3=0∧(usualP l3).ms.length ≤ 19) ∧
  expC (exB L l1 l2 l3 p q r && ansB l fa fb)=0 ∧
  (0 ≤ (if (exB L l1 l2 l3 p q r && ansB l fa fb)=true then (stepN (usualP l3).ms l:Int) else 0)∧(if (exB L l1 l2 l3 p q r && ansB l fa fb)=true then (stepN (usualP l3).ms l:Int) else 0) ≤ (usualP l3).ms.length) ∧
  ((nmRes (exB L l1 l2 l3 p q r && ansB l fa fb) (usualP l3).ms l).2=0→ansB (l ++ [(nmRes (exB L l1 l2 l3 p q r && ansB l fa fb) (usualP l3).ms l).1]) fa fb=true ∧
   (stepN (usualP l3).ms (l ++ [(nmRes (exB L l1 l2 l3 p q r && ansB l fa fb) (usualP l3).ms l).1]):Int)=(if (exB L l1 l2 l3 p q r && ansB l fa fb)=true then (stepN (usualP l3).ms l:Int) else 0)+1) ∧
  ((planB l1 l2 l3 l=true∧(if (exB L l1 l2 l3 p q r && ansB l fa fb)=true then gradeP L l1 l2 l3 p q r ⟨fa,fb⟩ else 0) ≤ 1∧expW (exB L l1 l2 l3 p q r && ansB l fa fb) (planB l1 l2 l3 l) (gradeP L l1 l2 l3 p q r ⟨fa,fb⟩) (decide ((runR l1 l2 (0,0) l).2=l.length))=rightS) ∨
   (¬ (planB l1 l2 l3 l=true∧(if (exB L l1 l2 l3 p q r && ansB l fa fb)=true then gradeP L l1 l2 l3 p q r ⟨fa,fb⟩ else 0) ≤ 1)∧((expW (exB L l1 l2 l3 p q r && ansB l fa fb) (planB l1 l2 l3 l) (gradeP L l1 l2 l3 p q r ⟨fa,fb⟩) (decide ((runR l1 l2 (0,0) l).2=l.length))).toList == [114,105,103,104,116])=false)):=by
 have hok:(exB L l1 l2 l3 p q r && ansB l fa fb)=true:=by
  split at h
  ·assumption
  ·cases h
 have hk:=hok
 rw [Bool.and_eq_true] at hk
 obtain ⟨hx,ha⟩:=hk
 have hpc:planCode L l1 l2 l3=0:=by
  have hb:=(ex_parts hx).1
  unfold boundCode at hb
  split at hb
  ·exact hb
  ·cases hb
 have K:=chainB_parts (plan_parts hpc).2.1
 have U:=usual_ok K.1 K.2.1 K.2.2.1
 have hnear:=rdD_near (usualP l3).cu
 have hms:(usualP l3).ms.all moveB=true:=U.1.2
 rw [if_pos hok,if_pos hok]
 simp only [hok]
 have hfig:figOK ⟨fa,fb⟩=true:=ans_fig ha
 have hmv:movesB l=true:=by unfold ansB at ha;rw [Bool.and_eq_true] at ha;exact ha.1
 have hgp:=grade_plan hx hnear
 have hnd:=hnear.1
 clear hnear
 generalize rdD (usualP l3).cu=rd at *
 refine ⟨trivial,gradeP_bd L l1 l2 l3 p q r ⟨fa,fb⟩,⟨?_,hgp,by unfold planL;rw [if_pos hpc],hpc,U.2⟩,rfl,⟨by omega,by have:=(stepN_le (ms:=(usualP l3).ms) (l:=l)).1;omega⟩,?_,?_⟩
 ·unfold ansB movesB
  rw [hms]
  have h1:figOK ⟨rd,0⟩=true:=by
   unfold figOK
   rw [Bool.and_eq_true,inB_true,inB_true]
   exact ⟨hnd,by simp only;omega⟩
  rw [h1]
  have:(usualP l3).ms.length ≤ 30:=by omega
  simp [this]
 ·intro hz
  unfold nmRes at hz ⊢
  simp only [if_true] at hz ⊢
  unfold nextP at hz ⊢
  split at hz
  ·cases hz
  ·rename_i h1
   split at hz
   ·cases hz
   ·rename_i h2
    rw [if_neg h1,if_neg h2]
    have hle:=stepN_le (ms:=(usualP l3).ms) (l:=l)
    have hsl:stepN (usualP l3).ms l=l.length:=by omega
    have hlt:l.length < (usualP l3).ms.length:=by omega
    simp only [hsl,List.getElem?_eq_getElem hlt,Option.getD_some]
    refine ⟨?_,?_⟩
    ·unfold ansB
     rw [hfig,movesB_append hmv (by omega) (List.all_eq_true.1 hms _ (List.getElem_mem hlt))]
     rfl
    ·rw [step_more hsl hlt]
     omega
 ·unfold expW
  rw [if_pos rfl]
  exact expS_right _ _ _
theorem grd_false (L:Int) (l1 l2:List Int) (l3:List Term) (p q r:Int) (l:List Move) (fa fb:Int) (h:(if (exB L l1 l2 l3 p q r && ansB l fa fb)=true then (0:Int) else 1) ≠ 0) :
  (if (exB L l1 l2 l3 p q r && ansB l fa fb)=true then (0:Int) else 1)=1∧expC (exB L l1 l2 l3 p q r && ansB l fa fb)=1∧(nmRes (exB L l1 l2 l3 p q r && ansB l fa fb) (usualP l3).ms l).2=1:=by
 split at h
 ·exact absurd rfl h
 ·rename_i hn
  rw [if_neg hn]
  unfold expC nmRes
  rw [if_neg hn,if_neg hn]
  exact ⟨rfl,rfl,rfl⟩
theorem neMovSame (k a b c:Int) (w:World):Sem.run Tryz.prog (binOp .neq 75 (.agg #[.int .i64 k,.int .i64 a,.int .i64 b,.int .i64 c]) (.agg #[.int .i64 k,.int .i64 a,.int .i64 b,.int .i64 c])) w=.ok (.bool false) w:=by
 have h:=eqMov k a b c k a b c w
 rw [run_eql_struct] at h
 rw [run_neq_struct]
 generalize Sem.run Tryz.prog (Op.equalIn 10000 75 (.agg #[.int .i64 k,.int .i64 a,.int .i64 b,.int .i64 c]) (.agg #[.int .i64 k,.int .i64 a,.int .i64 b,.int .i64 c])) w=R at h ⊢
 cases R with
 | ok b w1 =>
  simp only [Result.andThen_ok,decide_true,Bool.and_self,Result.ok.injEq,Value.bool.injEq] at h ⊢
  obtain ⟨rfl,rfl⟩:=h
  exact ⟨rfl,rfl⟩
 | _=>simp [Result.andThen] at h
theorem own_form1 {v:World} {base:Nat} {e:TypeId} {k:Nat} {u:Value} {rows:List (List Value)} {m:List Value} (h:Own v base e k u (rows ++ [m])):∃ A nn c,u=.slice A nn c∧Hid (nn=rows.length+1):=by
 obtain ⟨A,c,rfl,_⟩:=h.form
 exact ⟨A,_,c,rfl,by unfold Hid;simp⟩
theorem implStepOfN_c (L:Int) (A1:Option Addr) (c1:Nat) (l1:List Int) (A2:Option Addr) (c2:Nat) (l2:List Int) (A3:Option Addr) (c3:Nat) (l3:List Term) (p q r:Int) (A:Option Addr) (c:Nat) (l:List Move) (nn:Nat) (hn:nn=l.length) (a b:Int) (w:World) (E:ExIn w A1 c1 l1 A2 c2 l2 A3 c3 l3) (F:AnIn w A c l) :
  Calls Tryz.prog 31 #[.agg #[.int .i64 L,.slice A1 l1.length c1,.slice A2 l2.length c2,.slice A3 l3.length c3,.int .i64 p,.int .i64 q,.int .i64 r],.agg #[.slice A nn c,.int .i64 a,.int .i64 b]] w fun e w'=>e=.returned (.tuple #[.int .i64 (if (exB L l1 l2 l3 p q r && ansB l a b)=true then (stepN (usualP l3).ms l:Int) else 0),.int .i64 (if (exB L l1 l2 l3 p q r && ansB l a b)=true then 0 else 1)])∧Below w.heap.size w w':=by
 subst hn
 exact implStepOf_c L A1 c1 l1 A2 c2 l2 A3 c3 l3 p q r A c l a b w E F
structure NxD (w1:World) (rows:List (List Value)) (m:List Value) (b1 b4 b6 b7 b10:Bool) (v1 v4 v6 v7 v10 x y:Value) (v:World):Prop where
 d:DlS w1 rows m b1 b4 b6 b7 v1 v4 v6 v7 v
 q:b10=true→b7=true∧v10=.agg #[v7,x,y]
theorem DlS.below {w1 v v':World} {rows:List (List Value)} {m:List Value} {b24 b27 b29 b30:Bool} {v24 v27 v29 v30:Value} (h:DlS w1 rows m b24 b27 b29 b30 v24 v27 v29 v30 v) (hb:Below v.heap.size v v'):DlS w1 rows m b24 b27 b29 b30 v24 v27 v29 v30 v' :=
 ⟨h.hb.trans (hb.mono h.hb.size),fun e e'=>(h.q24 e e').below hb,fun e e'=>(h.q27 e e').below hb,fun e e'=>let ⟨gb,r1,r2,r3⟩:=h.q29 e e';⟨gb,r1,r2.below hb r2.lt,r3⟩,fun e=>(h.q30 e).below hb,h.dd⟩
end Go.Proofs.YtednjmldjbndhaaGreat
namespace Go.Proofs.YtednjmldjbndhaaGreat
open Go.RowKit
theorem region_fr {P:Program} {Q:Exit→Act→World→Prop} {l:List Oper} (n:Nat) {id:Nat} {w:World} {slots:List Value} {d:List Deferred}
  (fr:(Nat→Bool)→List Value→Value→List Value) (S:(Nat→Bool)→Value→World→Prop) (hm:P.follows .mixedOrders=true) (hB:sinkAll l.toArray n=true)
  (x0:Value) (h00:fr (fun _=>false) slots x0=slots) (h0:S (fun _=>false) x0 w.drew)
  (hI:∀ f x v,S f x v→∀ i,i < n→f i=false→∀ o,l.toArray[i]?=some o→(∀ e ∈ o.after,Region.binds .any e=true→f e.on=true)→wpOp P l.toArray Q i (fun a' w'=>∃ x',a'=⟨(fr (upd f i) slots x').toArray,d⟩∧S (upd f i) x' w') ⟨(fr f slots x).toArray,d⟩ v)
  (hE:∀ f x v,S f x v→(∀ i,i < n→f i=true)→wpList P l.toArray Q (l.drop n) ⟨(fr f slots x).toArray,d⟩ v):(Code.region id l.toArray true).wp P Q ⟨slots.toArray,d⟩ w :=
 wp_region_sink n (fun _ f b v=>∃ x,b=⟨(fr f slots x).toArray,d⟩∧S f x v) hm hB ⟨x0,by rw [h00],h0⟩
  (fun f b v ⟨x,hb,hS⟩ i hi hf o ho ha=>by subst hb;exact hI f x v hS i hi hf o ho ha)
  (fun f b v ⟨x,hb,hS⟩ hall=>by subst hb;exact hE f x v hS hall)
end Go.Proofs.YtednjmldjbndhaaGreat
