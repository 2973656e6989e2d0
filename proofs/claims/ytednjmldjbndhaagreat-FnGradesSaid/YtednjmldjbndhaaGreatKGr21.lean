/- Moves: equality of moves, as the program computes it. No condition. Whether moves are valid: the program's and the reference's. Conditions: the list's length. Exercises and answers: the laws' copies and comparisons of them. No condition beyond the slices' lengths. Answers: whether they are valid. Conditions: the lists' lengths. Rounding fractions to figures: the program's and the reference's. Conditions: the digits' bounds. Rounding fractions to figures: the reference's. Conditions: the digits' bounds. Products and quotients of figures: the program's and the reference's. Conditions: both figures are valid. -/
import Derived.Laws.StructEq
import Derived.Shelf.Abstract
import Derived.Test.YtednjmldjbndhaaGreatKGr1
import Derived.Test.YtednjmldjbndhaaGreatKGr19
import Derived.Test.YtednjmldjbndhaaGreatKGr5
set_option linter.unusedSimpArgs false
set_option linter.unusedVariables false
set_option maxRecDepth 100000
set_option maxHeartbeats 8000000
namespace Go.Proofs.YtednjmldjbndhaaGreat
open Go.RowKit
theorem eqFields_more {P:Program} {w:World} {d:Nat} {xs ys:Array Value} {f:Field} {fs:List Field} {x y:Value} {r s:Bool} (hn:f.name ≠ "_") (hx:(part f.type xs f.offset).run P w=.ok x w) (hy:(part f.type ys f.offset).run P w=.ok y w)
  (hr:(Op.equalIn d f.type x y).run P w=.ok r w) (hs:(Op.eqFields d xs ys fs).run P w=.ok s w):(Op.eqFields d xs ys (f :: fs)).run P w=.ok (r && s) w:=by
 simp only [Op.eqFields,hn,ne_eq,not_false_eq_true,if_true,Sem.run_bind,hx,hy,hr,Result.andThen_ok]
 cases r
 ·simp
 ·simp [hs]
theorem eqFields_none {P:Program} {w:World} {d:Nat} {xs ys:Array Value}:(Op.eqFields d xs ys []).run P w=.ok true w:=by simp [Op.eqFields]
theorem part_int (xs:Array Value) (o:Nat) (a:Int) (w:World) (h:xs[o]?=some (.int .i64 a)):(part 2 xs o).run Tryz.prog w=.ok (.int .i64 a) w:=by
 have u3:=Tryz.underlying2
 have a3:=Tryz.isAgg2
 have z3:=Tryz.sizeOf2
 go_simp
theorem eq_int (n:Nat) (a b:Int) (w:World):(Op.equalIn (n+1) 2 (.int .i64 a) (.int .i64 b)).run Tryz.prog w=.ok (decide (a=b)) w:=by
 have u3:=Tryz.underlying2
 have a3:=Tryz.isAgg2
 have z3:=Tryz.sizeOf2
 by_cases h:a=b
 all_goals go_simp
theorem part_fig (a b c d:Value) (w:World):(part 51 #[a,b,c,d] 2).run Tryz.prog w=.ok (.agg #[c,d]) w:=by
 have a4:=Tryz.isAgg51
 have z4:=Tryz.sizeOf51
 go_simp
theorem eq_fig (n:Nat) (a b c d:Int) (w:World):(Op.equalIn (n+2) 51 (.agg #[.int .i64 a,.int .i64 b]) (.agg #[.int .i64 c,.int .i64 d])).run Tryz.prog w=.ok (decide (a=c) && (decide (b=d) && true)) w:=by
 have hS2:Tryz.prog.underlying 51=some (.struct (Tryz.prog.fieldsOf 51)):=by kernel_rfl
 have hp2:Tryz.prog.stoodInHeld 51=false:=by kernel_rfl
 rw [run_equalIn_agg w (n+1) 51 _ _ hS2 hp2]
 simp only [Program.fieldsOf,Tryz.underlying51]
 exact eqFields_more (by decide) (part_int _ _ _ _ rfl) (part_int _ _ _ _ rfl) (eq_int _ _ _ _) (eqFields_more (by decide) (part_int _ _ _ _ rfl) (part_int _ _ _ _ rfl) (eq_int _ _ _ _) eqFields_none)
theorem eqMov (k a b c k' a' b' c':Int) (w:World):Sem.run Tryz.prog (binOp .eql 75 (.agg #[.int .i64 k,.int .i64 a,.int .i64 b,.int .i64 c]) (.agg #[.int .i64 k',.int .i64 a',.int .i64 b',.int .i64 c'])) w=.ok (.bool (decide (k=k') && (decide (a=a') && ((decide (b=b') && (decide (c=c') && true)) && true)))) w:=by
 have hS:Tryz.prog.underlying 75=some (.struct (Tryz.prog.fieldsOf 75)):=by kernel_rfl
 have hp:Tryz.prog.stoodInHeld 75=false:=by kernel_rfl
 rw [run_eql_struct,show (10000:Nat)=9997+1+1+1 from rfl,run_equalIn_agg w (9997+1+1) 75 _ _ hS hp]
 simp only [Program.fieldsOf,Tryz.underlying75]
 have H:=eqFields_more (P:=Tryz.prog) (w:=w) (d:=9997+1+1) (xs:=#[.int .i64 k,.int .i64 a,.int .i64 b,.int .i64 c]) (ys:=#[.int .i64 k',.int .i64 a',.int .i64 b',.int .i64 c']) (f:=⟨"Kind",2,0,false,"","",0⟩) (fs:=_) (by decide) (part_int _ _ _ _ rfl) (part_int _ _ _ _ rfl) (eq_int _ _ _ _) (eqFields_more (f:=⟨"Scale",2,1,false,"","",8⟩) (fs:=_) (by decide) (part_int _ _ _ _ rfl) (part_int _ _ _ _ rfl) (eq_int _ _ _ _) (eqFields_more (f:=⟨"Figure",51,2,false,"","",16⟩) (by decide) (part_fig _ _ _ _ _) (part_fig _ _ _ _ _) (eq_fig 9997 _ _ _ _ _) eqFields_none))
 rw [H]
 rfl
end Go.Proofs.YtednjmldjbndhaaGreat
namespace Go.Proofs.YtednjmldjbndhaaGreat
open Go.RowKit
theorem isMove_c (k s a b:Int) (w:World):Calls Tryz.prog 210 #[.agg #[.int .i64 k,.int .i64 s,.int .i64 a,.int .i64 b]] w fun e w'=>e=.returned (.bool (moveB ⟨k,s,a,b⟩))∧Below w.heap.size w w':=by
 have hGt:Tryz.prog.eqGuardType Tryz.prog.depth 75=false:=by kernel_rfl
 have HS:=fun W=>Lib.hid (implIsScale_c s W)
 have HF0:=fun W=>implIsFigure_c ⟨a,b⟩ W
 unfold Figure.agg at HF0
 have HF:=fun W=>Lib.hid (HF0 W)
 clear HF0
 have HQ:=fun W=>eqMov k s a b k 0 0 0 W
 have hW:Below w.heap.size w (w.alloc (.cells #[.int .i64 k,.int .i64 s,.int .i64 a,.int .i64 b] 75)):=(by repeat first | with_reducible (first | exact Below.refl _ _ | apply below_drewN' | apply Below.drew | refine Below.alloc ?_ ?_ _ | refine Below.setCell ?_ ?_ _) | exact Below.refl _ _ | omega | (simp <;> omega) | (have:=(Below.refl _ _).size;first | omega | (simp <;> omega)))
 by_cases h0:0 ≤ k∧k ≤ 2
 ·have HR0:=moveB_lo (m:=⟨k,s,a,b⟩) h0
  simp only at HR0
  have hsc:scaleB s=(inB s 0 5 && !(decide (s=5))):=by unfold scaleB;rfl
  rw [hsc] at HR0
  have HR:=Lib.hid HR0
  clear HR0
  generalize figOK ⟨a,b⟩=v at *
  have HN0:=fun W=>within_c k 0 2 W
  simp only [inB_true.2 h0] at HN0
  have HN:=fun W=>Lib.hid (HN0 W)
  clear h0 HQ hsc HN0
  cases hu:inB s 0 5 with
  | false =>
   rw [hu] at HR
   simp only [hu] at HS
   clear hu
   skip
   all_goals
    go_enter Tryz.func210,Tryz.ntmps210
    go_wp2_with (first | (go_at_call 52;refine Calls.mono (HN _).out ?_;rintro e w1 ⟨rfl,rfl⟩) | (go_at_call 166;refine Calls.mono (HS _).out ?_;rintro e w1 ⟨rfl,rfl⟩))
    go_ret
    exact ⟨by rw [HR.out];rfl,(by repeat first | with_reducible (first | exact hW | apply below_drewN' | apply Below.drew | refine Below.alloc ?_ ?_ _ | refine Below.setCell ?_ ?_ _) | exact hW | omega | (simp <;> omega) | (have:=(hW).size;first | omega | (simp <;> omega)))⟩
  | true =>
   rw [hu] at HR
   simp only [hu] at HS
   clear hu
   by_cases h5:s=5
   ·subst h5
    skip
    all_goals
     go_enter Tryz.func210,Tryz.ntmps210
     go_wp2_with (first | (go_at_call 52;refine Calls.mono (HN _).out ?_;rintro e w1 ⟨rfl,rfl⟩) | (go_at_call 166;refine Calls.mono (HS _).out ?_;rintro e w1 ⟨rfl,rfl⟩))
     go_ret
     exact ⟨by rw [HR.out];rfl,(by repeat first | with_reducible (first | exact hW | apply below_drewN' | apply Below.drew | refine Below.alloc ?_ ?_ _ | refine Below.setCell ?_ ?_ _) | exact hW | omega | (simp <;> omega) | (have:=(hW).size;first | omega | (simp <;> omega)))⟩
   ·have h5':decide (s=5)=false:=decide_eq_false h5
    have h5b:(s != 5)=true:=by simpa using h5
    rw [h5'] at HR
    skip
    all_goals
     go_enter Tryz.func210,Tryz.ntmps210
     go_wp2_with (first | (go_at_call 52;refine Calls.mono (HN _).out ?_;rintro e w1 ⟨rfl,rfl⟩) | (go_at_call 166;refine Calls.mono (HS _).out ?_;rintro e w1 ⟨rfl,rfl⟩) | (go_at_call 158;refine Calls.mono (HF _).out ?_;rintro e w1 ⟨rfl,hb1⟩;have hW1:=hW.trans (hb1.mono hW.size)))
     go_ret
     exact ⟨by rw [HR.out];cases v <;> rfl,(by repeat first | with_reducible (first | exact hW1 | apply below_drewN' | apply Below.drew | refine Below.alloc ?_ ?_ _ | refine Below.setCell ?_ ?_ _) | exact hW1 | omega | (simp <;> omega) | (have:=(hW1).size;first | omega | (simp <;> omega)))⟩
 ·by_cases h3:3 ≤ k∧k ≤ 6
  ·have HR:=Lib.hid (moveB_hi (m:=⟨k,s,a,b⟩) h3)
   simp only at HR
   have hk:k=3 ∨ k=4 ∨ k=5 ∨ k=6:=by omega
   clear h0 h3 HS HF
   rcases hk with rfl | rfl | rfl | rfl
   all_goals
    go_enter Tryz.func210,Tryz.ntmps210
    go_wp2
    go_ret
    exact ⟨by rw [HR.out];simp,(by repeat first | with_reducible (first | exact hW | apply below_drewN' | apply Below.drew | refine Below.alloc ?_ ?_ _ | refine Below.setCell ?_ ?_ _) | exact hW | omega | (simp <;> omega) | (have:=(hW).size;first | omega | (simp <;> omega)))⟩
  ·have hk:k < 0 ∨ 6 < k:=by omega
   have HR:=Lib.hid (moveB_out (m:=⟨k,s,a,b⟩) hk)
   have hz:(¬ 0 ≤ k∧¬ 3 ≤ k) ∨ (¬ k ≤ 2∧¬ k ≤ 6):=by omega
   clear h0 h3 HS HF HQ hk
   rcases hz with ⟨h1,h2⟩ | ⟨h1,h2⟩
   all_goals
    go_enter Tryz.func210,Tryz.ntmps210
    go_wp2
    go_ret
    exact ⟨by rw [HR.out];rfl,(by repeat first | with_reducible (first | exact hW | apply below_drewN' | apply Below.drew | refine Below.alloc ?_ ?_ _ | refine Below.setCell ?_ ?_ _) | exact hW | omega | (simp <;> omega) | (have:=(hW).size;first | omega | (simp <;> omega)))⟩
theorem movePred (w:World):PredMove 209 #[] (fun m=>!moveB m) w:=by
 intro m W _
 have H:=fun W=>Lib.hid (isMove_c m.kind m.scale m.digits m.tens W)
 obtain ⟨k,s,a,b⟩:=m
 unfold Move.agg
 simp only at H ⊢
 have hW:Below W.heap.size W (W.alloc (.cells #[.int .i64 k,.int .i64 s,.int .i64 a,.int .i64 b] 75)):=(by repeat first | with_reducible (first | exact Below.refl _ _ | apply below_drewN' | apply Below.drew | refine Below.alloc ?_ ?_ _ | refine Below.setCell ?_ ?_ _) | exact Below.refl _ _ | omega | (simp <;> omega) | (have:=(Below.refl _ _).size;first | omega | (simp <;> omega)))
 generalize moveB ⟨k,s,a,b⟩=mb at *
 go_enter Tryz.func209,Tryz.ntmps209
 go_wp2_with (go_at_call 210;refine Calls.mono (H _).out ?_;rintro e w1 ⟨rfl,hb1⟩;have hW1:=hW.trans (hb1.mono hW.size))
 go_ret
 exact ⟨rfl,(by repeat first | with_reducible (first | exact hW1 | apply below_drewN' | apply Below.drew | refine Below.alloc ?_ ?_ _ | refine Below.setCell ?_ ?_ _) | exact hW1 | omega | (simp <;> omega) | (have:=(hW1).size;first | omega | (simp <;> omega)))⟩
theorem allMoves_c (A:Option Addr) (c:Nat) (l:List Move) (w:World) (hl:l.length ≤ 140737488351232) (hs:Sl w w.heap.size 4 A (l.map Move.cells)) :
  Calls Tryz.prog 177 #[.slice A l.length c] w fun e w'=>e=.returned (.bool (l.all moveB))∧Below w.heap.size w w':=by
 have hcall:=containsFuncMove_c A c l 209 #[] (fun t=>!moveB t) w (enters_of Tryz.func209 (by kernel_rfl) rfl) (movePred w) hl hs
 have hall:l.any (fun t=>!moveB t)=!(l.all moveB):=by rw [List.any_eq_not_all_not];simp
 rw [hall] at hcall
 have HC:=Lib.hid hcall
 clear hcall hall
 generalize l.all moveB=b at *
 go_enter Tryz.func177,Tryz.ntmps177
 go_wp2_with fail
 refine Calls.mono HC.out ?_;rintro e w1 ⟨rfl,hb1⟩
 go_wp2
 go_ret
 exact ⟨by simp,(by repeat first | with_reducible (first | exact hb1 | apply below_drewN' | apply Below.drew | refine Below.alloc ?_ ?_ _ | refine Below.setCell ?_ ?_ _) | exact hb1 | omega | (simp <;> omega) | (have:=(hb1).size;first | omega | (simp <;> omega)))⟩
def movesB (l:List Move):Bool:=decide (l.length ≤ 30) && l.all moveB
theorem movesCode_eq (l:List Move):(movesCode l == 0)=movesB l:=by
 unfold movesCode movesB
 cases l.all moveB
 ·simp
 ·by_cases h:30 < l.length
  ·simp [h]
  ·simp [h];omega
theorem areMoves_c (A:Option Addr) (c:Nat) (l:List Move) (w:World) (hl:l.length ≤ 140737488351232) (hs:Sl w w.heap.size 4 A (l.map Move.cells)) :
  Calls Tryz.prog 157 #[.slice A l.length c] w fun e w'=>e=.returned (.bool (movesB l))∧Below w.heap.size w w':=by
 have HC:=Lib.hid (allMoves_c A c l w hl hs)
 unfold movesB
 by_cases h:l.length ≤ 30
 ·have h':(l.length:Int) ≤ 30:=by omega
  rw [decide_eq_true h]
  generalize l.all moveB=b at *
  go_enter Tryz.func157,Tryz.ntmps157
  go_wp2_with fail
  refine Calls.mono HC.out ?_;rintro e w1 ⟨rfl,hb1⟩
  go_wp2
  go_ret
  exact ⟨by simp,(by repeat first | with_reducible (first | exact hb1 | apply below_drewN' | apply Below.drew | refine Below.alloc ?_ ?_ _ | refine Below.setCell ?_ ?_ _) | exact hb1 | omega | (simp <;> omega) | (have:=(hb1).size;first | omega | (simp <;> omega)))⟩
 ·have h':¬ (l.length:Int) ≤ 30:=by omega
  rw [decide_eq_false h]
  go_enter Tryz.func157,Tryz.ntmps157
  go_wp2_with fail
  go_wp2
  go_ret
  exact ⟨by simp,(by repeat first | with_reducible (first | exact Below.refl _ _ | apply below_drewN' | apply Below.drew | refine Below.alloc ?_ ?_ _ | refine Below.setCell ?_ ?_ _) | exact Below.refl _ _ | omega | (simp <;> omega) | (have:=(Below.refl _ _).size;first | omega | (simp <;> omega)))⟩
theorem specAreMoves_c (A:Option Addr) (c:Nat) (l:List Move) (w:World) (hl:l.length ≤ 140737488351232) (hs:Sl w w.heap.size 4 A (l.map Move.cells)) :
  Calls Tryz.prog 101 #[.slice A l.length c] w fun e w'=>e=.returned (.bool (movesB l))∧Below w.heap.size w w':=by
 have HC:=Lib.hid (l12Code_c A c l w hl hs)
 have HR:=Lib.hid (movesCode_eq l)
 generalize movesCode l=b at *
 go_enter Tryz.func101,Tryz.ntmps101
 go_wp2_with fail
 refine Calls.mono HC.out ?_;rintro e w1 ⟨rfl,hb1⟩
 go_wp2
 go_ret
 exact ⟨by rw [← HR.out];rfl,(by repeat first | with_reducible (first | exact hb1 | apply below_drewN' | apply Below.drew | refine Below.alloc ?_ ?_ _ | refine Below.setCell ?_ ?_ _) | exact hb1 | omega | (simp <;> omega) | (have:=(hb1).size;first | omega | (simp <;> omega)))⟩
end Go.Proofs.YtednjmldjbndhaaGreat
namespace Go.Proofs.YtednjmldjbndhaaGreat
open Go.RowKit
end Go.Proofs.YtednjmldjbndhaaGreat
namespace Go.Proofs.YtednjmldjbndhaaGreat
open Go.RowKit
structure AnIn (w:World) (A:Option Addr) (c:Nat) (l:List Move):Prop where
 n:l.length ≤ 1048576
 k:l.length ≤ c
 s:Sl w w.heap.size 4 A (l.map Move.cells)
theorem AnIn.later {w W:World} {A:Option Addr} {c:Nat} {l:List Move} (E:AnIn w A c l) (hW:Below w.heap.size w W):AnIn W A c l:=⟨E.n,E.k,(E.s.below hW).more hW.size⟩
structure AnR where
 A:Option Addr
 c:Nat
 l:List Move
 a:Int
 b:Int
def AnR.cells (e:AnR):List Value:=[.slice e.A e.l.length e.c,.int .i64 e.a,.int .i64 e.b]
def AnR.agg (e:AnR):Value:=.agg #[.slice e.A e.l.length e.c,.int .i64 e.a,.int .i64 e.b]
def AnR.In (e:AnR) (w:World):Prop:=AnIn w e.A e.c e.l
def ansB (l:List Move) (a b:Int):Bool:=movesB l && figOK ⟨a,b⟩
def AnR.ok (e:AnR):Bool:=ansB e.l e.a e.b
structure AnsIn (w:World) (A:Option Addr) (es:List AnR):Prop where
 n:es.length ≤ 1048576
 s:Sl w w.heap.size 3 A (es.map AnR.cells)
 i:∀ e ∈ es,e.In w
theorem AnsIn.later {w W:World} {A:Option Addr} {es:List AnR} (h:AnsIn w A es) (hW:Below w.heap.size w W):AnsIn W A es:=⟨h.n,(h.s.below hW).more hW.size,fun e he=>AnIn.later (h.i e he) hW⟩
theorem isAnswer_c (A:Option Addr) (c:Nat) (l:List Move) (a b:Int) (w:World) (E:AnIn w A c l) :
  Calls Tryz.prog 96 #[.agg #[.slice A l.length c,.int .i64 a,.int .i64 b]] w fun e w'=>e=.returned (.bool (ansB l a b))∧Below w.heap.size w w':=by
 have hW:Below w.heap.size w (w.alloc (.cells #[.slice A l.length c,.int .i64 a,.int .i64 b] 53)):=(by repeat first | with_reducible (first | exact Below.refl _ _ | apply below_drewN' | apply Below.drew | refine Below.alloc ?_ ?_ _ | refine Below.setCell ?_ ?_ _) | exact Below.refl _ _ | omega | (simp <;> omega) | (have:=(Below.refl _ _).size;first | omega | (simp <;> omega)))
 have HM:=Lib.hid (areMoves_c A c l _ (by have:=E.n;omega) (E.later hW).s)
 have HF0:=fun W=>implIsFigure_c ⟨a,b⟩ W
 unfold Figure.agg at HF0
 have HF:=fun W=>Lib.hid (HF0 W)
 clear HF0 E
 have B1:=Blk.new w 53 #[.slice A l.length c,.int .i64 a,.int .i64 b]
 unfold ansB
 generalize figOK ⟨a,b⟩=v at *
 generalize movesB l=u at *
 go_enter Tryz.func96,Tryz.ntmps96
 go_wp2_with fail
 refine Calls.mono HM.out ?_;rintro e w1 ⟨rfl,hb1⟩
 have C1:=B1.below hb1 B1.lt
 have y1:w1.cell? ⟨w.heap.size,1,none⟩=some (.int .i64 a):=C1.cell 1
 have y2:w1.cell? ⟨w.heap.size,2,none⟩=some (.int .i64 b):=C1.cell 2
 have hW1:=hW.trans (hb1.mono hW.size)
 clear HM hW B1 C1 hb1
 cases u
 ·go_wp2
  go_ret
  exact ⟨rfl,(by repeat first | with_reducible (first | exact hW1 | apply below_drewN' | apply Below.drew | refine Below.alloc ?_ ?_ _ | refine Below.setCell ?_ ?_ _) | exact hW1 | omega | (simp <;> omega) | (have:=(hW1).size;first | omega | (simp <;> omega)))⟩
 ·go_wp2_with (go_at_call 158;refine Calls.mono (HF _).out ?_;rintro e w2 ⟨rfl,hb2⟩;have hW2:=hW1.trans (hb2.mono hW1.size))
  go_ret
  exact ⟨rfl,(by repeat first | with_reducible (first | exact hW2 | apply below_drewN' | apply Below.drew | refine Below.alloc ?_ ?_ _ | refine Below.setCell ?_ ?_ _) | exact hW2 | omega | (simp <;> omega) | (have:=(hW2).size;first | omega | (simp <;> omega)))⟩
theorem l31Answer_c (A:Option Addr) (c:Nat) (l:List Move) (a b:Int) (w:World) (E:AnIn w A c l) :
  Calls Tryz.prog 45 #[.agg #[.slice A l.length c,.int .i64 a,.int .i64 b]] w fun e w'=>e=.returned (.bool (ansB l a b))∧Below w.heap.size w w':=by
 have hW:Below w.heap.size w (w.alloc (.cells #[.slice A l.length c,.int .i64 a,.int .i64 b] 53)):=(by repeat first | with_reducible (first | exact Below.refl _ _ | apply below_drewN' | apply Below.drew | refine Below.alloc ?_ ?_ _ | refine Below.setCell ?_ ?_ _) | exact Below.refl _ _ | omega | (simp <;> omega) | (have:=(Below.refl _ _).size;first | omega | (simp <;> omega)))
 have HM:=Lib.hid (specAreMoves_c A c l _ (by have:=E.n;omega) (E.later hW).s)
 have HF0:=fun W=>specIsFigure_c ⟨a,b⟩ W
 unfold Figure.agg at HF0
 have HF:=fun W=>Lib.hid (HF0 W)
 clear HF0 E
 have B1:=Blk.new w 53 #[.slice A l.length c,.int .i64 a,.int .i64 b]
 unfold ansB
 generalize figOK ⟨a,b⟩=v at *
 generalize movesB l=u at *
 go_enter Tryz.func45,Tryz.ntmps45
 go_wp2_with fail
 refine Calls.mono HM.out ?_;rintro e w1 ⟨rfl,hb1⟩
 have C1:=B1.below hb1 B1.lt
 have y1:w1.cell? ⟨w.heap.size,1,none⟩=some (.int .i64 a):=C1.cell 1
 have y2:w1.cell? ⟨w.heap.size,2,none⟩=some (.int .i64 b):=C1.cell 2
 have hW1:=hW.trans (hb1.mono hW.size)
 clear HM hW B1 C1 hb1
 cases u
 ·go_wp2
  go_ret
  exact ⟨rfl,(by repeat first | with_reducible (first | exact hW1 | apply below_drewN' | apply Below.drew | refine Below.alloc ?_ ?_ _ | refine Below.setCell ?_ ?_ _) | exact hW1 | omega | (simp <;> omega) | (have:=(hW1).size;first | omega | (simp <;> omega)))⟩
 ·go_wp2_with (go_at_call 102;refine Calls.mono (HF _).out ?_;rintro e w2 ⟨rfl,hb2⟩;have hW2:=hW1.trans (hb2.mono hW1.size))
  go_ret
  exact ⟨rfl,(by repeat first | with_reducible (first | exact hW2 | apply below_drewN' | apply Below.drew | refine Below.alloc ?_ ?_ _ | refine Below.setCell ?_ ?_ _) | exact hW2 | omega | (simp <;> omega) | (have:=(hW2).size;first | omega | (simp <;> omega)))⟩
def PredAn (g:FuncId) (lb:Array Value) (o:AnR→Bool) (es:List AnR) (w:World):Prop :=
 ∀ (x:AnR) (W:World),x ∈ es→Below w.heap.size w W→Calls Tryz.prog g (#[x.agg] ++ lb) W fun e w'=>e=.returned (.bool (o x))∧Below W.heap.size W w'
def IdxPostAn (o:AnR→Bool) (l:List AnR) (w:World) (e:Ending) (w':World):Prop :=
 ∃ r:Int,e=.returned (.int .i64 r)∧decide (0 ≤ r)=l.any o∧Below w.heap.size w w'
theorem indexFuncAn_c (A:Option Addr) (c:Nat) (l:List AnR) (g:FuncId) (lb:Array Value) (o:AnR→Bool) (w:World)
  (eg:∀ args w,(callFunc g args).run Tryz.prog w=.ok (.enter g args) w) (hp:PredAn g lb o l w) (E:AnsIn w A l) :
  Calls Tryz.prog 156 #[.slice A l.length c,.func (.func g) #[] lb] w (IdxPostAn o l w):=by
 have hl:=E.n
 have hs:=E.s
 clear E
 go_enter Tryz.func156,Tryz.ntmps156
 go_wp2_with fail
 go_loopw [8] (fun i wr=>∃ k:Nat,k ≤ l.length∧i=.int .i64 k∧Below w.heap.size w wr∧Hid ((l.take k).any o=false)) (fun i _=>l.length - (intOf i).toNat)
 case atStart=>exact ⟨0,Nat.zero_le _,rfl,Below.refl _ _,(show (l.take 0).any o=false from by simp)⟩
 case round =>
  obtain ⟨k,hk,rfl,hb,hn⟩:=hrel
  by_cases hlt:k < l.length
  ·obtain ⟨b,off,rfl,hbB,hc⟩:=hs.at_ (i:=k) (by simpa using hlt)
   simp only [List.getElem_map] at hc
   have c0:wr.cell? ⟨b,off+k * 3,none⟩=some (.slice l[k].A l[k].l.length l[k].c):=by rw [hb.cell hbB];exact hc 0 _ rfl
   have c1:wr.cell? ⟨b,off+k * 3+1,none⟩=some (.int .i64 l[k].a):=by rw [hb.cell hbB];exact hc 1 _ rfl
   have c2:wr.cell? ⟨b,off+k * 3+2,none⟩=some (.int .i64 l[k].b):=by rw [hb.cell hbB];exact hc 2 _ rfl
   clear hc
   have hcall:=hp l[k] wr (List.getElem_mem hlt) hb
   unfold AnR.agg at hcall
   have hnx:(l.take (k+1)).any o=((l.take k).any o || o l[k]):=by rw [List.take_succ_eq_append_getElem hlt,List.any_append];simp
   have hnx:=Lib.hid hnx
   have hmem:Hid (l[k] ∈ l):=List.getElem_mem hlt
   clear hp
   generalize l[k]=ek at *
   cases hq:o ek with
   | true =>
    have hq':=Lib.hid hq
    rw [hq] at hcall
    have hcall:=Lib.hid hcall
    clear hq
    go_wp2_with (go_at_fn g;refine hcall.out.mono ?_;rintro e w1 ⟨rfl,hb1⟩)
    go_ret
    refine ⟨k,rfl,?_,hb.trans (hb1.mono hb.size)⟩
    rw [show l.any o=true from List.any_eq_true.2 ⟨ek,hmem.out,hq'.out⟩]
    simp
   | false =>
    have hq':=Lib.hid hq
    rw [hq] at hcall
    have hcall:=Lib.hid hcall
    clear hq
    go_wp2_with (go_at_fn g;refine hcall.out.mono ?_;rintro e w1 ⟨rfl,hb1⟩)
    go_roundw
    case rel=>exact ⟨k+1,by omega,by go_num,hb.trans (hb1.mono hb.size),(show _=false from by rw [hnx.out,hn.out,hq'.out];rfl)⟩
    case measure=>simp [intOf];omega
  ·have:k=l.length:=by omega
   subst this
   go_wp2
   go_ret
   refine ⟨-1,rfl,?_,hb⟩
   have:=hn.out
   rw [List.take_length] at this
   rw [this]
   rfl
theorem containsFuncAn_c (A:Option Addr) (c:Nat) (l:List AnR) (g:FuncId) (lb:Array Value) (o:AnR→Bool) (w:World)
  (eg:∀ args w,(callFunc g args).run Tryz.prog w=.ok (.enter g args) w) (hp:PredAn g lb o l w) (E:AnsIn w A l) :
  Calls Tryz.prog 94 #[.slice A l.length c,.func (.func g) #[] lb] w fun e w'=>e=.returned (.bool (l.any o))∧Below w.heap.size w w':=by
 have H:=Lib.hid (indexFuncAn_c A c l g lb o w eg hp E)
 clear hp E eg
 go_enter Tryz.func94,Tryz.ntmps94
 go_wp2_with fail
 refine H.out.mono ?_
 rintro e w1 ⟨r,rfl,hr,hb⟩
 go_wp2
 go_ret
 exact ⟨rfl,hb⟩
theorem ansPred (es:List AnR) (w:World) (hi:∀ e ∈ es,e.In w):PredAn 95 #[] (fun e=>!e.ok) es w:=by
 intro x W hx hW
 have HX:=fun (W':World) (h:Below W.heap.size W W')=>Lib.hid (isAnswer_c x.A x.c x.l x.a x.b W' (AnIn.later (AnIn.later (hi x hx) hW) h))
 clear hi hx hW
 obtain ⟨A,c,l,a,b⟩:=x
 show Calls _ _ _ _ _
 unfold AnR.agg AnR.ok
 simp only at HX ⊢
 have hW:Below W.heap.size W (W.alloc (.cells #[.slice A l.length c,.int .i64 a,.int .i64 b] 53)):=(by repeat first | with_reducible (first | exact Below.refl _ _ | apply below_drewN' | apply Below.drew | refine Below.alloc ?_ ?_ _ | refine Below.setCell ?_ ?_ _) | exact Below.refl _ _ | omega | (simp <;> omega) | (have:=(Below.refl _ _).size;first | omega | (simp <;> omega)))
 generalize ansB l a b=bb at *
 go_enter Tryz.func95,Tryz.ntmps95
 go_wp2_with fail
 generalize W.alloc (.cells #[.slice A l.length c,.int .i64 a,.int .i64 b] 53)=W1 at *
 refine Calls.mono (HX W1 hW).out ?_;rintro e w1 ⟨rfl,hb1⟩
 have hv:=hW.trans (hb1.mono hW.size)
 go_wp2
 go_ret
 exact ⟨rfl,(by repeat first | with_reducible (first | exact hv | apply below_drewN' | apply Below.drew | refine Below.alloc ?_ ?_ _ | refine Below.setCell ?_ ?_ _) | exact hv | omega | (simp <;> omega) | (have:=(hv).size;first | omega | (simp <;> omega)))⟩
theorem checkAnswer_c (L:Int) (A1:Option Addr) (c1:Nat) (l1:List Int) (A2:Option Addr) (c2:Nat) (l2:List Int) (A3:Option Addr) (c3:Nat) (l3:List Term) (p q r:Int) (A:Option Addr) (c:Nat) (es:List AnR) (w:World) (E:ExIn w A1 c1 l1 A2 c2 l2 A3 c3 l3) (F:AnsIn w A es) :
  Calls Tryz.prog 43 #[.agg #[.int .i64 L,.slice A1 l1.length c1,.slice A2 l2.length c2,.slice A3 l3.length c3,.int .i64 p,.int .i64 q,.int .i64 r],.slice A es.length c] w fun e w'=>e=.returned (.int .i64 (if (exB L l1 l2 l3 p q r && es.all AnR.ok)=true then 0 else 1))∧Below w.heap.size w w':=by
 have hW:Below w.heap.size w (w.alloc (.cells #[.int .i64 L,.slice A1 l1.length c1,.slice A2 l2.length c2,.slice A3 l3.length c3,.int .i64 p,.int .i64 q,.int .i64 r] 31)):=(by repeat first | with_reducible (first | exact Below.refl _ _ | apply below_drewN' | apply Below.drew | refine Below.alloc ?_ ?_ _ | refine Below.setCell ?_ ?_ _) | exact Below.refl _ _ | omega | (simp <;> omega) | (have:=(Below.refl _ _).size;first | omega | (simp <;> omega)))
 have HX:=Lib.hid (implIsExercise_c L A1 c1 l1 A2 c2 l2 A3 c3 l3 p q r _ (E.later hW))
 have hall:es.any (fun e=>!e.ok)=!(es.all AnR.ok):=by rw [List.any_eq_not_all_not];simp
 have HC:Hid (∀ W,Below w.heap.size w W→Calls Tryz.prog 94 #[.slice A es.length c,.func (.func 95) #[] #[]] W fun e w'=>e=.returned (.bool (!(es.all AnR.ok)))∧Below W.heap.size W w'):=fun W hW=>by
  have F':=F.later hW
  have hcall:=containsFuncAn_c A c es 95 #[] (fun e=>!e.ok) W (enters_of Tryz.func95 (by kernel_rfl) rfl) (ansPred es W F'.i) F'
  rw [hall] at hcall
  exact hcall
 clear E F hall
 generalize es.all AnR.ok=v at *
 generalize exB L l1 l2 l3 p q r=u at *
 cases u
 ·go_enter Tryz.func43,Tryz.ntmps43
  go_wp2_with fail
  refine Calls.mono HX.out ?_;rintro e w1 ⟨rfl,hb1⟩
  have hW1:=hW.trans (hb1.mono hW.size)
  go_wp2
  go_ret
  exact ⟨rfl,(by repeat first | with_reducible (first | exact hW1 | apply below_drewN' | apply Below.drew | refine Below.alloc ?_ ?_ _ | refine Below.setCell ?_ ?_ _) | exact hW1 | omega | (simp <;> omega) | (have:=(hW1).size;first | omega | (simp <;> omega)))⟩
 ·cases v
  all_goals
   go_enter Tryz.func43,Tryz.ntmps43
   go_wp2_with fail
   refine Calls.mono HX.out ?_;rintro e w1 ⟨rfl,hb1⟩
   have hW1:=hW.trans (hb1.mono hW.size)
   go_wp2_with fail
   refine Calls.mono (HC.out _ hW1) ?_;rintro e w2 ⟨rfl,hb2⟩
   have hW2:=hW1.trans (hb2.mono hW1.size)
   go_wp2
   go_ret
   exact ⟨rfl,(by repeat first | with_reducible (first | exact hW2 | apply below_drewN' | apply Below.drew | refine Below.alloc ?_ ?_ _ | refine Below.setCell ?_ ?_ _) | exact hW2 | omega | (simp <;> omega) | (have:=(hW2).size;first | omega | (simp <;> omega)))⟩
end Go.Proofs.YtednjmldjbndhaaGreat
namespace Go.Proofs.YtednjmldjbndhaaGreat
open Go.RowKit
def finR (x T:Int):Figure:=if x=10000 then ⟨1000,T+1⟩ else ⟨x,T⟩
def mulF (P t:Int):Figure:=if P < 10000000 then finR ((2 * P+1000) / 2000) (t+6) else finR ((2 * P+10000) / 20000) (t+7)
theorem nearN_c (n d:Int) (w:World) (hn:0 ≤ n∧n ≤ 1000000000) (hd:0 < d∧d ≤ 1000000000):Calls Tryz.prog 223 #[.int .i64 n,.int .i64 d] w fun e w'=>e=.returned (.int .i64 ((2 * n+d) / (2 * d)))∧w=w':=by
 obtain ⟨hn1,hn2⟩:=hn
 obtain ⟨hd1,hd2⟩:=hd
 have h0:¬ d < 0:=by omega
 go_enter Tryz.func223,Tryz.ntmps223
 go_wp2_with (go_at_call 150;refine (down_c _ _ _ (by omega) (by omega)).mono ?_;rintro e w' ⟨rfl,rfl⟩)
 go_ret
 exact ⟨rfl,rfl⟩
theorem roundedMul_c (P t:Int) (w:World) (hP:1000000 ≤ P∧P ≤ 99980001) (ht:-1000 ≤ t∧t ≤ 1000):Calls Tryz.prog 195 #[.int .i64 P,.int .i64 1,.int .i64 t] w fun e w' =>
  e=.returned (.agg #[.int .i64 (mulF P t).digits,.int .i64 (mulF P t).tens])∧Below w.heap.size w w':=by
 obtain ⟨hP1,hP2⟩:=hP
 obtain ⟨ht1,ht2⟩:=ht
 have Br:=Blk.new w 51 #[.int .i64 0,.int .i64 0]
 have hB:Below w.heap.size w (w.alloc (.cells #[.int .i64 0,.int .i64 0] 51)):=(by repeat first | with_reducible (first | exact Below.refl _ _ | apply below_drewN' | apply Below.drew | refine Below.alloc ?_ ?_ _ | refine Below.setCell ?_ ?_ _) | exact Below.refl _ _ | omega | (simp <;> omega) | (have:=(Below.refl _ _).size;first | omega | (simp <;> omega)))
 go_enter Tryz.func195,Tryz.ntmps195
 go_wp2_with fail
 generalize w.alloc (.cells #[.int .i64 0,.int .i64 0] 51)=W at *
 have c0:W.cell? ⟨w.heap.size,0,none⟩=some (.int .i64 0):=Br.cell 0
 have c1:W.cell? ⟨w.heap.size,1,none⟩=some (.int .i64 0):=Br.cell 1
 have f0:W.frozen? ⟨w.heap.size,0,none⟩=false:=Br.frozen 0
 have f1:W.frozen? ⟨w.heap.size,1,none⟩=false:=Br.frozen 1
 go_loop [0,2] (fun n u=>n=.int .i64 P∧u=.int .i64 (t+3)) (fun _ _=>0)
 case atStart=>exact ⟨rfl,rfl⟩
 case round =>
  obtain ⟨rfl,rfl⟩:=hrel
  go_wp2_with fail
  go_loop [1,2] (fun d u=>(d=.int .i64 1∧u=.int .i64 (t+3)) ∨ (d=.int .i64 10∧u=.int .i64 (t+4)) ∨ (d=.int .i64 100∧u=.int .i64 (t+5)) ∨ (d=.int .i64 1000∧u=.int .i64 (t+6)) ∨ (d=.int .i64 10000∧u=.int .i64 (t+7)∧¬ P < 10000000)) (fun d _=>10000 - (intOf d).toNat)
  case atStart=>exact .inl ⟨rfl,rfl⟩
  case round =>
   rcases hrel with ⟨rfl,rfl⟩ | ⟨rfl,rfl⟩ | ⟨rfl,rfl⟩ | ⟨rfl,rfl⟩ | ⟨rfl,rfl,h7⟩
   ·go_wp2
    go_round
    case rel=>exact .inr (.inl ⟨rfl,congrArg (Value.int .i64) (by omega)⟩)
    case measure=>simp [intOf]
   ·go_wp2
    go_round
    case rel=>exact .inr (.inr (.inl ⟨rfl,congrArg (Value.int .i64) (by omega)⟩))
    case measure=>simp [intOf]
   ·go_wp2
    go_round
    case rel=>exact .inr (.inr (.inr (.inl ⟨rfl,congrArg (Value.int .i64) (by omega)⟩)))
    case measure=>simp [intOf]
   ·by_cases h7:P < 10000000
    ·have HF:Hid (mulF P t=finR ((2 * P+1000) / 2000) (t+6)):=if_pos h7
     have hN:=fun W=>nearN_c P 1000 W (by omega) (by omega)
     rw [show (2:Int) * 1000=2000 from rfl] at hN
     have hN':=fun W=>Lib.hid (hN W)
     clear hN
     have hx:0 ≤ (2 * P+1000) / 2000∧(2 * P+1000) / 2000 ≤ 10000:=by omega
     generalize (2 * P+1000) / 2000=x at *
     by_cases h9:x=10000
     ·subst h9
      go_wp2_with (go_at_call 223;refine Calls.mono (hN' _).out ?_;rintro e w5 ⟨rfl,rfl⟩)
      refine bodyPost_ret (v:=.agg #[.int .i64 1000,.int .i64 (t+6+1)]) (by simp [results,Tryz.results195,go_sem,c0,c1]) rfl ⟨by rw [HF.out];rfl,(by repeat first | with_reducible (first | exact hB | apply below_drewN' | apply Below.drew | refine Below.alloc ?_ ?_ _ | refine Below.setCell ?_ ?_ _) | exact hB | omega | (simp <;> omega) | (have:=(hB).size;first | omega | (simp <;> omega)))⟩
     ·go_wp2_with (go_at_call 223;refine Calls.mono (hN' _).out ?_;rintro e w5 ⟨rfl,rfl⟩)
      refine bodyPost_ret (v:=.agg #[.int .i64 x,.int .i64 (t+6)]) (by simp [results,Tryz.results195,go_sem,c0,c1]) rfl ⟨by rw [HF.out];unfold finR;rw [if_neg h9],(by repeat first | with_reducible (first | exact hB | apply below_drewN' | apply Below.drew | refine Below.alloc ?_ ?_ _ | refine Below.setCell ?_ ?_ _) | exact hB | omega | (simp <;> omega) | (have:=(hB).size;first | omega | (simp <;> omega)))⟩
    ·go_wp2
     go_round
     case rel=>exact .inr (.inr (.inr (.inr ⟨rfl,congrArg (Value.int .i64) (by omega),h7⟩)))
     case measure=>simp [intOf]
   ·have HF:Hid (mulF P t=finR ((2 * P+10000) / 20000) (t+7)):=if_neg h7
    have hN:=fun W=>nearN_c P 10000 W (by omega) (by omega)
    rw [show (2:Int) * 10000=20000 from rfl] at hN
    have hN':=fun W=>Lib.hid (hN W)
    clear hN
    have hx:0 ≤ (2 * P+10000) / 20000∧(2 * P+10000) / 20000 ≤ 10000:=by omega
    generalize (2 * P+10000) / 20000=x at *
    by_cases h9:x=10000
    ·subst h9
     go_wp2_with (go_at_call 223;refine Calls.mono (hN' _).out ?_;rintro e w5 ⟨rfl,rfl⟩)
     refine bodyPost_ret (v:=.agg #[.int .i64 1000,.int .i64 (t+7+1)]) (by simp [results,Tryz.results195,go_sem,c0,c1]) rfl ⟨by rw [HF.out];rfl,(by repeat first | with_reducible (first | exact hB | apply below_drewN' | apply Below.drew | refine Below.alloc ?_ ?_ _ | refine Below.setCell ?_ ?_ _) | exact hB | omega | (simp <;> omega) | (have:=(hB).size;first | omega | (simp <;> omega)))⟩
    ·go_wp2_with (go_at_call 223;refine Calls.mono (hN' _).out ?_;rintro e w5 ⟨rfl,rfl⟩)
     refine bodyPost_ret (v:=.agg #[.int .i64 x,.int .i64 (t+7)]) (by simp [results,Tryz.results195,go_sem,c0,c1]) rfl ⟨by rw [HF.out];unfold finR;rw [if_neg h9],(by repeat first | with_reducible (first | exact hB | apply below_drewN' | apply Below.drew | refine Below.alloc ?_ ?_ _ | refine Below.setCell ?_ ?_ _) | exact hB | omega | (simp <;> omega) | (have:=(hB).size;first | omega | (simp <;> omega)))⟩
def divF (n d t:Int):Figure:=if d ≤ n then finR ((2 * (n * 1000)+d) / (2 * d)) t else finR ((2 * (n * 10000)+d) / (2 * d)) (t - 1)
theorem roundedDiv_c (n d t:Int) (w:World) (hn:1000 ≤ n∧n ≤ 9999) (hd:1000 ≤ d∧d ≤ 9999) (ht:-1000 ≤ t∧t ≤ 1000):Calls Tryz.prog 195 #[.int .i64 n,.int .i64 d,.int .i64 t] w fun e w' =>
  e=.returned (.agg #[.int .i64 (divF n d t).digits,.int .i64 (divF n d t).tens])∧Below w.heap.size w w':=by
 obtain ⟨hn1,hn2⟩:=hn
 obtain ⟨hd1,hd2⟩:=hd
 obtain ⟨ht1,ht2⟩:=ht
 have Br:=Blk.new w 51 #[.int .i64 0,.int .i64 0]
 have hB:Below w.heap.size w (w.alloc (.cells #[.int .i64 0,.int .i64 0] 51)):=(by repeat first | with_reducible (first | exact Below.refl _ _ | apply below_drewN' | apply Below.drew | refine Below.alloc ?_ ?_ _ | refine Below.setCell ?_ ?_ _) | exact Below.refl _ _ | omega | (simp <;> omega) | (have:=(Below.refl _ _).size;first | omega | (simp <;> omega)))
 go_enter Tryz.func195,Tryz.ntmps195
 go_wp2_with fail
 generalize w.alloc (.cells #[.int .i64 0,.int .i64 0] 51)=W at *
 have c0:W.cell? ⟨w.heap.size,0,none⟩=some (.int .i64 0):=Br.cell 0
 have c1:W.cell? ⟨w.heap.size,1,none⟩=some (.int .i64 0):=Br.cell 1
 have f0:W.frozen? ⟨w.heap.size,0,none⟩=false:=Br.frozen 0
 have f1:W.frozen? ⟨w.heap.size,1,none⟩=false:=Br.frozen 1
 go_loop [0,2] (fun m u=>(m=.int .i64 n∧u=.int .i64 (t+3)) ∨ (m=.int .i64 (n * 10)∧u=.int .i64 (t+2)) ∨ (m=.int .i64 (n * 100)∧u=.int .i64 (t+1)) ∨ (m=.int .i64 (n * 1000)∧u=.int .i64 t) ∨ (m=.int .i64 (n * 10000)∧u=.int .i64 (t - 1)∧¬ d ≤ n)) (fun m _=>100000000 - (intOf m).toNat)
 case atStart=>exact .inl ⟨rfl,rfl⟩
 case round =>
  rcases hrel with ⟨rfl,rfl⟩ | ⟨rfl,rfl⟩ | ⟨rfl,rfl⟩ | ⟨rfl,rfl⟩ | ⟨rfl,rfl,h7⟩
  ·have hc:n < 1000 * d:=by omega
   go_wp2
   go_round
   case rel=>exact .inr (.inl ⟨rfl,congrArg (Value.int .i64) (by omega)⟩)
   case measure=>simp [intOf];omega
  ·have hc:n * 10 < 1000 * d:=by omega
   go_wp2
   go_round
   case rel=>exact .inr (.inr (.inl ⟨congrArg (Value.int .i64) (by omega),congrArg (Value.int .i64) (by omega)⟩))
   case measure=>simp [intOf];omega
  ·have hc:n * 100 < 1000 * d:=by omega
   go_wp2
   go_round
   case rel=>exact .inr (.inr (.inr (.inl ⟨congrArg (Value.int .i64) (by omega),congrArg (Value.int .i64) (by omega)⟩)))
   case measure=>simp [intOf];omega
  ·by_cases h7:d ≤ n
   ·have HF:Hid (divF n d t=finR ((2 * (n * 1000)+d) / (2 * d)) t):=if_pos h7
    have hc:¬ n * 1000 < 1000 * d:=by omega
    have hc2:n * 1000 < 10000 * d:=by omega
    go_wp2_with fail
    go_loop [1,2] (fun dd u=>dd=.int .i64 d∧u=.int .i64 (t)) (fun _ _=>0)
    case atStart=>exact ⟨rfl,rfl⟩
    case round =>
     obtain ⟨rfl,rfl⟩:=hrel
     have hN:=fun W=>nearN_c (n * 1000) d W (by omega) (by omega)
     have hN':=fun W=>Lib.hid (hN W)
     clear hN
     generalize (2 * (n * 1000)+d) / (2 * d)=x at *
     by_cases h9:x=10000
     ·subst h9
      go_wp2_with (go_at_call 223;refine Calls.mono (hN' _).out ?_;rintro e w5 ⟨rfl,rfl⟩)
      refine bodyPost_ret (v:=.agg #[.int .i64 1000,.int .i64 (t+1)]) (by simp [results,Tryz.results195,go_sem,c0,c1]) rfl ⟨by rw [HF.out];rfl,(by repeat first | with_reducible (first | exact hB | apply below_drewN' | apply Below.drew | refine Below.alloc ?_ ?_ _ | refine Below.setCell ?_ ?_ _) | exact hB | omega | (simp <;> omega) | (have:=(hB).size;first | omega | (simp <;> omega)))⟩
     ·go_wp2_with (go_at_call 223;refine Calls.mono (hN' _).out ?_;rintro e w5 ⟨rfl,rfl⟩)
      refine bodyPost_ret (v:=.agg #[.int .i64 x,.int .i64 (t)]) (by simp [results,Tryz.results195,go_sem,c0,c1]) rfl ⟨by rw [HF.out];unfold finR;rw [if_neg h9],(by repeat first | with_reducible (first | exact hB | apply below_drewN' | apply Below.drew | refine Below.alloc ?_ ?_ _ | refine Below.setCell ?_ ?_ _) | exact hB | omega | (simp <;> omega) | (have:=(hB).size;first | omega | (simp <;> omega)))⟩
   ·have hc:n * 1000 < 1000 * d:=by omega
    go_wp2
    go_round
    case rel=>exact .inr (.inr (.inr (.inr ⟨congrArg (Value.int .i64) (by omega),rfl,h7⟩)))
    case measure=>simp [intOf];omega
  ·have HF:Hid (divF n d t=finR ((2 * (n * 10000)+d) / (2 * d)) (t - 1)):=if_neg h7
   have hc:¬ n * 10000 < 1000 * d:=by omega
   have hc2:n * 10000 < 10000 * d:=by omega
   go_wp2_with fail
   go_loop [1,2] (fun dd u=>dd=.int .i64 d∧u=.int .i64 (t - 1)) (fun _ _=>0)
   case atStart=>exact ⟨rfl,rfl⟩
   case round =>
    obtain ⟨rfl,rfl⟩:=hrel
    have hN:=fun W=>nearN_c (n * 10000) d W (by omega) (by omega)
    have hN':=fun W=>Lib.hid (hN W)
    clear hN
    generalize (2 * (n * 10000)+d) / (2 * d)=x at *
    by_cases h9:x=10000
    ·subst h9
     go_wp2_with (go_at_call 223;refine Calls.mono (hN' _).out ?_;rintro e w5 ⟨rfl,rfl⟩)
     refine bodyPost_ret (v:=.agg #[.int .i64 1000,.int .i64 (t - 1+1)]) (by simp [results,Tryz.results195,go_sem,c0,c1]) rfl ⟨by rw [HF.out];rfl,(by repeat first | with_reducible (first | exact hB | apply below_drewN' | apply Below.drew | refine Below.alloc ?_ ?_ _ | refine Below.setCell ?_ ?_ _) | exact hB | omega | (simp <;> omega) | (have:=(hB).size;first | omega | (simp <;> omega)))⟩
    ·go_wp2_with (go_at_call 223;refine Calls.mono (hN' _).out ?_;rintro e w5 ⟨rfl,rfl⟩)
     refine bodyPost_ret (v:=.agg #[.int .i64 x,.int .i64 (t - 1)]) (by simp [results,Tryz.results195,go_sem,c0,c1]) rfl ⟨by rw [HF.out];unfold finR;rw [if_neg h9],(by repeat first | with_reducible (first | exact hB | apply below_drewN' | apply Below.drew | refine Below.alloc ?_ ?_ _ | refine Below.setCell ?_ ?_ _) | exact hB | omega | (simp <;> omega) | (have:=(hB).size;first | omega | (simp <;> omega)))⟩
end Go.Proofs.YtednjmldjbndhaaGreat
namespace Go.Proofs.YtednjmldjbndhaaGreat
open Go.RowKit
theorem l01NearN_c (n d:Int) (w:World) (hn:0 ≤ n∧n ≤ 1000000000) (hd:0 < d∧d ≤ 1000000000):Calls Tryz.prog 222 #[.int .i64 n,.int .i64 d] w fun e w'=>e=.returned (.int .i64 ((2 * n+d) / (2 * d)))∧w=w':=by
 obtain ⟨hn1,hn2⟩:=hn
 obtain ⟨hd1,hd2⟩:=hd
 have h0:¬ d < 0:=by omega
 go_enter Tryz.func222,Tryz.ntmps222
 go_wp2_with (go_at_call 207;refine (l01Floor_c _ _ _ (by omega) (by omega)).mono ?_;rintro e w' ⟨rfl,rfl⟩)
 go_ret
 exact ⟨rfl,rfl⟩
theorem l02RoundMul_c (P t:Int) (w:World) (hP:1000000 ≤ P∧P ≤ 99980001) (ht:-1000 ≤ t∧t ≤ 1000):Calls Tryz.prog 192 #[.int .i64 P,.int .i64 1,.int .i64 t] w fun e w' =>
  e=.returned (.agg #[.int .i64 (mulF P t).digits,.int .i64 (mulF P t).tens])∧Below w.heap.size w w':=by
 obtain ⟨hP1,hP2⟩:=hP
 obtain ⟨ht1,ht2⟩:=ht
 have Br:=Blk.new w 51 #[.int .i64 0,.int .i64 0]
 have hB:Below w.heap.size w (w.alloc (.cells #[.int .i64 0,.int .i64 0] 51)):=(by repeat first | with_reducible (first | exact Below.refl _ _ | apply below_drewN' | apply Below.drew | refine Below.alloc ?_ ?_ _ | refine Below.setCell ?_ ?_ _) | exact Below.refl _ _ | omega | (simp <;> omega) | (have:=(Below.refl _ _).size;first | omega | (simp <;> omega)))
 go_enter Tryz.func192,Tryz.ntmps192
 go_wp2_with fail
 generalize w.alloc (.cells #[.int .i64 0,.int .i64 0] 51)=W at *
 have c0:W.cell? ⟨w.heap.size,0,none⟩=some (.int .i64 0):=Br.cell 0
 have c1:W.cell? ⟨w.heap.size,1,none⟩=some (.int .i64 0):=Br.cell 1
 have f0:W.frozen? ⟨w.heap.size,0,none⟩=false:=Br.frozen 0
 have f1:W.frozen? ⟨w.heap.size,1,none⟩=false:=Br.frozen 1
 go_loop [1,2] (fun d u=>(d=.int .i64 1∧u=.int .i64 (t+3)) ∨ (d=.int .i64 10∧u=.int .i64 (t+4)) ∨ (d=.int .i64 100∧u=.int .i64 (t+5)) ∨ (d=.int .i64 1000∧u=.int .i64 (t+6)) ∨ (d=.int .i64 10000∧u=.int .i64 (t+7)∧¬ P < 10000000)) (fun d _=>10000 - (intOf d).toNat)
 case atStart=>exact .inl ⟨rfl,rfl⟩
 case round =>
  rcases hrel with ⟨rfl,rfl⟩ | ⟨rfl,rfl⟩ | ⟨rfl,rfl⟩ | ⟨rfl,rfl⟩ | ⟨rfl,rfl,h7⟩
  ·go_wp2
   go_round
   case rel=>exact .inr (.inl ⟨rfl,congrArg (Value.int .i64) (by omega)⟩)
   case measure=>simp [intOf]
  ·go_wp2
   go_round
   case rel=>exact .inr (.inr (.inl ⟨rfl,congrArg (Value.int .i64) (by omega)⟩))
   case measure=>simp [intOf]
  ·go_wp2
   go_round
   case rel=>exact .inr (.inr (.inr (.inl ⟨rfl,congrArg (Value.int .i64) (by omega)⟩)))
   case measure=>simp [intOf]
  ·by_cases h7:P < 10000000
   ·have HF:Hid (mulF P t=finR ((2 * P+1000) / 2000) (t+6)):=if_pos h7
    have hN:=fun W=>l01NearN_c P 1000 W (by omega) (by omega)
    rw [show (2:Int) * 1000=2000 from rfl] at hN
    have hN':=fun W=>Lib.hid (hN W)
    clear hN
    have hx:0 ≤ (2 * P+1000) / 2000∧(2 * P+1000) / 2000 ≤ 10000:=by omega
    generalize (2 * P+1000) / 2000=x at *
    go_wp2_with fail
    go_loop [0,2] (fun m u=>m=.int .i64 P∧u=.int .i64 (t+6)) (fun _ _=>0)
    case atStart=>exact ⟨rfl,rfl⟩
    case round =>
     obtain ⟨rfl,rfl⟩:=hrel
     by_cases h9:x=10000
     ·subst h9
      go_wp2_with (go_at_call 222;refine Calls.mono (hN' _).out ?_;rintro e w5 ⟨rfl,rfl⟩)
      refine bodyPost_ret (v:=.agg #[.int .i64 1000,.int .i64 (t+6+1)]) (by simp [results,Tryz.results192,go_sem,c0,c1]) rfl ⟨by rw [HF.out];rfl,(by repeat first | with_reducible (first | exact hB | apply below_drewN' | apply Below.drew | refine Below.alloc ?_ ?_ _ | refine Below.setCell ?_ ?_ _) | exact hB | omega | (simp <;> omega) | (have:=(hB).size;first | omega | (simp <;> omega)))⟩
     ·go_wp2_with (go_at_call 222;refine Calls.mono (hN' _).out ?_;rintro e w5 ⟨rfl,rfl⟩)
      refine bodyPost_ret (v:=.agg #[.int .i64 x,.int .i64 (t+6)]) (by simp [results,Tryz.results192,go_sem,c0,c1]) rfl ⟨by rw [HF.out];unfold finR;rw [if_neg h9],(by repeat first | with_reducible (first | exact hB | apply below_drewN' | apply Below.drew | refine Below.alloc ?_ ?_ _ | refine Below.setCell ?_ ?_ _) | exact hB | omega | (simp <;> omega) | (have:=(hB).size;first | omega | (simp <;> omega)))⟩
   ·go_wp2
    go_round
    case rel=>exact .inr (.inr (.inr (.inr ⟨rfl,congrArg (Value.int .i64) (by omega),h7⟩)))
    case measure=>simp [intOf]
  ·have HF:Hid (mulF P t=finR ((2 * P+10000) / 20000) (t+7)):=if_neg h7
   have hN:=fun W=>l01NearN_c P 10000 W (by omega) (by omega)
   rw [show (2:Int) * 10000=20000 from rfl] at hN
   have hN':=fun W=>Lib.hid (hN W)
   clear hN
   have hx:0 ≤ (2 * P+10000) / 20000∧(2 * P+10000) / 20000 ≤ 10000:=by omega
   generalize (2 * P+10000) / 20000=x at *
   go_wp2_with fail
   go_loop [0,2] (fun m u=>m=.int .i64 P∧u=.int .i64 (t+7)) (fun _ _=>0)
   case atStart=>exact ⟨rfl,rfl⟩
   case round =>
    obtain ⟨rfl,rfl⟩:=hrel
    by_cases h9:x=10000
    ·subst h9
     go_wp2_with (go_at_call 222;refine Calls.mono (hN' _).out ?_;rintro e w5 ⟨rfl,rfl⟩)
     refine bodyPost_ret (v:=.agg #[.int .i64 1000,.int .i64 (t+7+1)]) (by simp [results,Tryz.results192,go_sem,c0,c1]) rfl ⟨by rw [HF.out];rfl,(by repeat first | with_reducible (first | exact hB | apply below_drewN' | apply Below.drew | refine Below.alloc ?_ ?_ _ | refine Below.setCell ?_ ?_ _) | exact hB | omega | (simp <;> omega) | (have:=(hB).size;first | omega | (simp <;> omega)))⟩
    ·go_wp2_with (go_at_call 222;refine Calls.mono (hN' _).out ?_;rintro e w5 ⟨rfl,rfl⟩)
     refine bodyPost_ret (v:=.agg #[.int .i64 x,.int .i64 (t+7)]) (by simp [results,Tryz.results192,go_sem,c0,c1]) rfl ⟨by rw [HF.out];unfold finR;rw [if_neg h9],(by repeat first | with_reducible (first | exact hB | apply below_drewN' | apply Below.drew | refine Below.alloc ?_ ?_ _ | refine Below.setCell ?_ ?_ _) | exact hB | omega | (simp <;> omega) | (have:=(hB).size;first | omega | (simp <;> omega)))⟩
theorem l02RoundDiv_c (n d t:Int) (w:World) (hn:1000 ≤ n∧n ≤ 9999) (hd:1000 ≤ d∧d ≤ 9999) (ht:-1000 ≤ t∧t ≤ 1000):Calls Tryz.prog 192 #[.int .i64 n,.int .i64 d,.int .i64 t] w fun e w' =>
  e=.returned (.agg #[.int .i64 (divF n d t).digits,.int .i64 (divF n d t).tens])∧Below w.heap.size w w':=by
 obtain ⟨hn1,hn2⟩:=hn
 obtain ⟨hd1,hd2⟩:=hd
 obtain ⟨ht1,ht2⟩:=ht
 have Br:=Blk.new w 51 #[.int .i64 0,.int .i64 0]
 have hB:Below w.heap.size w (w.alloc (.cells #[.int .i64 0,.int .i64 0] 51)):=(by repeat first | with_reducible (first | exact Below.refl _ _ | apply below_drewN' | apply Below.drew | refine Below.alloc ?_ ?_ _ | refine Below.setCell ?_ ?_ _) | exact Below.refl _ _ | omega | (simp <;> omega) | (have:=(Below.refl _ _).size;first | omega | (simp <;> omega)))
 go_enter Tryz.func192,Tryz.ntmps192
 go_wp2_with fail
 generalize w.alloc (.cells #[.int .i64 0,.int .i64 0] 51)=W at *
 have c0:W.cell? ⟨w.heap.size,0,none⟩=some (.int .i64 0):=Br.cell 0
 have c1:W.cell? ⟨w.heap.size,1,none⟩=some (.int .i64 0):=Br.cell 1
 have f0:W.frozen? ⟨w.heap.size,0,none⟩=false:=Br.frozen 0
 have f1:W.frozen? ⟨w.heap.size,1,none⟩=false:=Br.frozen 1
 have hc0:n < 10000 * d:=by omega
 go_loop [1,2] (fun dd u=>dd=.int .i64 d∧u=.int .i64 (t+3)) (fun _ _=>0)
 case atStart=>exact ⟨rfl,rfl⟩
 case round =>
  obtain ⟨rfl,rfl⟩:=hrel
  go_wp2_with fail
  go_loop [0,2] (fun m u=>(m=.int .i64 n∧u=.int .i64 (t+3)) ∨ (m=.int .i64 (n * 10)∧u=.int .i64 (t+2)) ∨ (m=.int .i64 (n * 100)∧u=.int .i64 (t+1)) ∨ (m=.int .i64 (n * 1000)∧u=.int .i64 t) ∨ (m=.int .i64 (n * 10000)∧u=.int .i64 (t - 1)∧¬ d ≤ n)) (fun m _=>100000000 - (intOf m).toNat)
  case atStart=>exact .inl ⟨rfl,rfl⟩
  case round =>
   rcases hrel with ⟨rfl,rfl⟩ | ⟨rfl,rfl⟩ | ⟨rfl,rfl⟩ | ⟨rfl,rfl⟩ | ⟨rfl,rfl,h7⟩
   ·have hc:n < 1000 * d:=by omega
    go_wp2
    go_round
    case rel=>exact .inr (.inl ⟨congrArg (Value.int .i64) (by omega),congrArg (Value.int .i64) (by omega)⟩)
    case measure=>simp [intOf];omega
   ·have hc:n * 10 < 1000 * d:=by omega
    go_wp2
    go_round
    case rel=>exact .inr (.inr (.inl ⟨congrArg (Value.int .i64) (by omega),congrArg (Value.int .i64) (by omega)⟩))
    case measure=>simp [intOf];omega
   ·have hc:n * 100 < 1000 * d:=by omega
    go_wp2
    go_round
    case rel=>exact .inr (.inr (.inr (.inl ⟨congrArg (Value.int .i64) (by omega),congrArg (Value.int .i64) (by omega)⟩)))
    case measure=>simp [intOf];omega
   ·by_cases h7:d ≤ n
    ·have HF:Hid (divF n d t=finR ((2 * (n * 1000)+d) / (2 * d)) t):=if_pos h7
     have hc:¬ n * 1000 < 1000 * d:=by omega
     have hc2:n * 1000 < 10000 * d:=by omega
     have hN:=fun W=>l01NearN_c (n * 1000) d W (by omega) (by omega)
     have hN':=fun W=>Lib.hid (hN W)
     clear hN
     generalize (2 * (n * 1000)+d) / (2 * d)=x at *
     by_cases h9:x=10000
     ·subst h9
      go_wp2_with (go_at_call 222;refine Calls.mono (hN' _).out ?_;rintro e w5 ⟨rfl,rfl⟩)
      refine bodyPost_ret (v:=.agg #[.int .i64 1000,.int .i64 (t+1)]) (by simp [results,Tryz.results192,go_sem,c0,c1]) rfl ⟨by rw [HF.out];rfl,(by repeat first | with_reducible (first | exact hB | apply below_drewN' | apply Below.drew | refine Below.alloc ?_ ?_ _ | refine Below.setCell ?_ ?_ _) | exact hB | omega | (simp <;> omega) | (have:=(hB).size;first | omega | (simp <;> omega)))⟩
     ·go_wp2_with (go_at_call 222;refine Calls.mono (hN' _).out ?_;rintro e w5 ⟨rfl,rfl⟩)
      refine bodyPost_ret (v:=.agg #[.int .i64 x,.int .i64 (t)]) (by simp [results,Tryz.results192,go_sem,c0,c1]) rfl ⟨by rw [HF.out];unfold finR;rw [if_neg h9],(by repeat first | with_reducible (first | exact hB | apply below_drewN' | apply Below.drew | refine Below.alloc ?_ ?_ _ | refine Below.setCell ?_ ?_ _) | exact hB | omega | (simp <;> omega) | (have:=(hB).size;first | omega | (simp <;> omega)))⟩
    ·have hc:n * 1000 < 1000 * d:=by omega
     go_wp2
     go_round
     case rel=>exact .inr (.inr (.inr (.inr ⟨congrArg (Value.int .i64) (by omega),rfl,h7⟩)))
     case measure=>simp [intOf];omega
   ·have HF:Hid (divF n d t=finR ((2 * (n * 10000)+d) / (2 * d)) (t - 1)):=if_neg h7
    have hc:¬ n * 10000 < 1000 * d:=by omega
    have hc2:n * 10000 < 10000 * d:=by omega
    have hN:=fun W=>l01NearN_c (n * 10000) d W (by omega) (by omega)
    have hN':=fun W=>Lib.hid (hN W)
    clear hN
    generalize (2 * (n * 10000)+d) / (2 * d)=x at *
    by_cases h9:x=10000
    ·subst h9
     go_wp2_with (go_at_call 222;refine Calls.mono (hN' _).out ?_;rintro e w5 ⟨rfl,rfl⟩)
     refine bodyPost_ret (v:=.agg #[.int .i64 1000,.int .i64 (t - 1+1)]) (by simp [results,Tryz.results192,go_sem,c0,c1]) rfl ⟨by rw [HF.out];rfl,(by repeat first | with_reducible (first | exact hB | apply below_drewN' | apply Below.drew | refine Below.alloc ?_ ?_ _ | refine Below.setCell ?_ ?_ _) | exact hB | omega | (simp <;> omega) | (have:=(hB).size;first | omega | (simp <;> omega)))⟩
    ·go_wp2_with (go_at_call 222;refine Calls.mono (hN' _).out ?_;rintro e w5 ⟨rfl,rfl⟩)
     refine bodyPost_ret (v:=.agg #[.int .i64 x,.int .i64 (t - 1)]) (by simp [results,Tryz.results192,go_sem,c0,c1]) rfl ⟨by rw [HF.out];unfold finR;rw [if_neg h9],(by repeat first | with_reducible (first | exact hB | apply below_drewN' | apply Below.drew | refine Below.alloc ?_ ?_ _ | refine Below.setCell ?_ ?_ _) | exact hB | omega | (simp <;> omega) | (have:=(hB).size;first | omega | (simp <;> omega)))⟩
end Go.Proofs.YtednjmldjbndhaaGreat
namespace Go.Proofs.YtednjmldjbndhaaGreat
open Go.RowKit
def limR (f:Figure):Figure × Int:=if figOK f=true then (f,0) else (⟨0,0⟩,3)
theorem limitedG_c (a b:Int) (w:World):Calls Tryz.prog 194 #[.agg #[.int .i64 a,.int .i64 b]] w fun e w'=>e=.returned (.tuple #[.agg #[.int .i64 (limR ⟨a,b⟩).1.digits,.int .i64 (limR ⟨a,b⟩).1.tens],.int .i64 (limR ⟨a,b⟩).2])∧Below w.heap.size w w':=by
 have hI:=fun W=>implIsFigure_c ⟨a,b⟩ W
 unfold Figure.agg at hI
 have hW:Below w.heap.size w ((w.alloc (.cells #[.int .i64 a,.int .i64 b] 51)).alloc (.cells #[.int .i64 0,.int .i64 0] 51)):=(by repeat first | with_reducible (first | exact Below.refl _ _ | apply below_drewN' | apply Below.drew | refine Below.alloc ?_ ?_ _ | refine Below.setCell ?_ ?_ _) | exact Below.refl _ _ | omega | (simp <;> omega) | (have:=(Below.refl _ _).size;first | omega | (simp <;> omega)))
 have X0:=(Blk.new w 51 #[.int .i64 a,.int .i64 b]).alloc (.cells #[.int .i64 0,.int .i64 0] 51)
 have R0:=Blk.new' (w.alloc (.cells #[.int .i64 a,.int .i64 b] 51)) 51 #[.int .i64 0,.int .i64 0] (g:=w.heap.size+1) (by simp)
 cases hf:figOK ⟨a,b⟩ with
 | false =>
  have hR:Hid (limR ⟨a,b⟩=(⟨0,0⟩,3)):=if_neg (by rw [hf];simp)
  simp only [hf] at hI
  have HI:=fun W=>Lib.hid (hI W)
  clear hI hf
  go_enter Tryz.func194,Tryz.ntmps194
  go_wp2_with fail
  generalize ((w.alloc (.cells #[.int .i64 a,.int .i64 b] 51)).alloc (.cells #[.int .i64 0,.int .i64 0] 51))=W at *
  refine Calls.mono (HI _).out ?_;rintro e w1 ⟨rfl,hb1⟩
  have R1:=R0.below hb1 R0.lt
  have hW1:=hW.trans (hb1.mono hW.size)
  have c0:w1.cell? ⟨w.heap.size+1,0,none⟩=some (.int .i64 0):=R1.cell 0
  have c1:w1.cell? ⟨w.heap.size+1,1,none⟩=some (.int .i64 0):=R1.cell 1
  have f0:w1.frozen? ⟨w.heap.size+1,0,none⟩=false:=R1.frozen 0
  have f1:w1.frozen? ⟨w.heap.size+1,1,none⟩=false:=R1.frozen 1
  have hs:=hW1.size
  go_wp2
  refine bodyPost_ret (v:=.tuple #[.agg #[.int .i64 0,.int .i64 0],.int .i64 3]) (by simp [results,Tryz.results194,go_sem,c0,c1]) rfl ⟨by rw [hR.out],(by repeat first | with_reducible (first | exact hW1 | apply below_drewN' | apply Below.drew | refine Below.alloc ?_ ?_ _ | refine Below.setCell ?_ ?_ _) | exact hW1 | omega | (simp <;> omega) | (have:=(hW1).size;first | omega | (simp <;> omega)))⟩
 | true =>
  have hR:Hid (limR ⟨a,b⟩=(⟨a,b⟩,0)):=if_pos hf
  simp only [hf] at hI
  have HI:=fun W=>Lib.hid (hI W)
  clear hI hf
  go_enter Tryz.func194,Tryz.ntmps194
  go_wp2_with fail
  generalize ((w.alloc (.cells #[.int .i64 a,.int .i64 b] 51)).alloc (.cells #[.int .i64 0,.int .i64 0] 51))=W at *
  refine Calls.mono (HI _).out ?_;rintro e w1 ⟨rfl,hb1⟩
  have X1:=X0.below hb1 X0.lt
  have R1:=R0.below hb1 R0.lt
  have hW1:=hW.trans (hb1.mono hW.size)
  have x0:w1.cell? ⟨w.heap.size,0,none⟩=some (.int .i64 a):=X1.cell 0
  have x1:w1.cell? ⟨w.heap.size,1,none⟩=some (.int .i64 b):=X1.cell 1
  have c0:w1.cell? ⟨w.heap.size+1,0,none⟩=some (.int .i64 0):=R1.cell 0
  have c1:w1.cell? ⟨w.heap.size+1,1,none⟩=some (.int .i64 0):=R1.cell 1
  have f0:w1.frozen? ⟨w.heap.size+1,0,none⟩=false:=R1.frozen 0
  have f1:w1.frozen? ⟨w.heap.size+1,1,none⟩=false:=R1.frozen 1
  have hs:=hW1.size
  go_wp2
  refine bodyPost_ret (v:=.tuple #[.agg #[.int .i64 a,.int .i64 b],.int .i64 0]) (by simp [results,Tryz.results194,go_sem,c0,c1]) rfl ⟨by rw [hR.out],(by repeat first | with_reducible (first | exact hW1 | apply below_drewN' | apply Below.drew | refine Below.alloc ?_ ?_ _ | refine Below.setCell ?_ ?_ _) | exact hW1 | omega | (simp <;> omega) | (have:=(hW1).size;first | omega | (simp <;> omega)))⟩
theorem l02Result_c (a b:Int) (w:World):Calls Tryz.prog 191 #[.agg #[.int .i64 a,.int .i64 b]] w fun e w'=>e=.returned (.tuple #[.agg #[.int .i64 (limR ⟨a,b⟩).1.digits,.int .i64 (limR ⟨a,b⟩).1.tens],.int .i64 (limR ⟨a,b⟩).2])∧Below w.heap.size w w':=by
 have hI:=fun W=>specIsFigure_c ⟨a,b⟩ W
 unfold Figure.agg at hI
 have hW:Below w.heap.size w ((w.alloc (.cells #[.int .i64 a,.int .i64 b] 51)).alloc (.cells #[.int .i64 0,.int .i64 0] 51)):=(by repeat first | with_reducible (first | exact Below.refl _ _ | apply below_drewN' | apply Below.drew | refine Below.alloc ?_ ?_ _ | refine Below.setCell ?_ ?_ _) | exact Below.refl _ _ | omega | (simp <;> omega) | (have:=(Below.refl _ _).size;first | omega | (simp <;> omega)))
 have X0:=(Blk.new w 51 #[.int .i64 a,.int .i64 b]).alloc (.cells #[.int .i64 0,.int .i64 0] 51)
 have R0:=Blk.new' (w.alloc (.cells #[.int .i64 a,.int .i64 b] 51)) 51 #[.int .i64 0,.int .i64 0] (g:=w.heap.size+1) (by simp)
 cases hf:figOK ⟨a,b⟩ with
 | false =>
  have hR:Hid (limR ⟨a,b⟩=(⟨0,0⟩,3)):=if_neg (by rw [hf];simp)
  simp only [hf] at hI
  have HI:=fun W=>Lib.hid (hI W)
  clear hI hf
  go_enter Tryz.func191,Tryz.ntmps191
  go_wp2_with fail
  generalize ((w.alloc (.cells #[.int .i64 a,.int .i64 b] 51)).alloc (.cells #[.int .i64 0,.int .i64 0] 51))=W at *
  refine Calls.mono (HI _).out ?_;rintro e w1 ⟨rfl,hb1⟩
  have R1:=R0.below hb1 R0.lt
  have hW1:=hW.trans (hb1.mono hW.size)
  have c0:w1.cell? ⟨w.heap.size+1,0,none⟩=some (.int .i64 0):=R1.cell 0
  have c1:w1.cell? ⟨w.heap.size+1,1,none⟩=some (.int .i64 0):=R1.cell 1
  have f0:w1.frozen? ⟨w.heap.size+1,0,none⟩=false:=R1.frozen 0
  have f1:w1.frozen? ⟨w.heap.size+1,1,none⟩=false:=R1.frozen 1
  have hs:=hW1.size
  go_wp2
  refine bodyPost_ret (v:=.tuple #[.agg #[.int .i64 0,.int .i64 0],.int .i64 3]) (by simp [results,Tryz.results191,go_sem,c0,c1]) rfl ⟨by rw [hR.out],(by repeat first | with_reducible (first | exact hW1 | apply below_drewN' | apply Below.drew | refine Below.alloc ?_ ?_ _ | refine Below.setCell ?_ ?_ _) | exact hW1 | omega | (simp <;> omega) | (have:=(hW1).size;first | omega | (simp <;> omega)))⟩
 | true =>
  have hR:Hid (limR ⟨a,b⟩=(⟨a,b⟩,0)):=if_pos hf
  simp only [hf] at hI
  have HI:=fun W=>Lib.hid (hI W)
  clear hI hf
  go_enter Tryz.func191,Tryz.ntmps191
  go_wp2_with fail
  generalize ((w.alloc (.cells #[.int .i64 a,.int .i64 b] 51)).alloc (.cells #[.int .i64 0,.int .i64 0] 51))=W at *
  refine Calls.mono (HI _).out ?_;rintro e w1 ⟨rfl,hb1⟩
  have X1:=X0.below hb1 X0.lt
  have R1:=R0.below hb1 R0.lt
  have hW1:=hW.trans (hb1.mono hW.size)
  have x0:w1.cell? ⟨w.heap.size,0,none⟩=some (.int .i64 a):=X1.cell 0
  have x1:w1.cell? ⟨w.heap.size,1,none⟩=some (.int .i64 b):=X1.cell 1
  have c0:w1.cell? ⟨w.heap.size+1,0,none⟩=some (.int .i64 0):=R1.cell 0
  have c1:w1.cell? ⟨w.heap.size+1,1,none⟩=some (.int .i64 0):=R1.cell 1
  have f0:w1.frozen? ⟨w.heap.size+1,0,none⟩=false:=R1.frozen 0
  have f1:w1.frozen? ⟨w.heap.size+1,1,none⟩=false:=R1.frozen 1
  have hs:=hW1.size
  go_wp2
  refine bodyPost_ret (v:=.tuple #[.agg #[.int .i64 a,.int .i64 b],.int .i64 0]) (by simp [results,Tryz.results191,go_sem,c0,c1]) rfl ⟨by rw [hR.out],(by repeat first | with_reducible (first | exact hW1 | apply below_drewN' | apply Below.drew | refine Below.alloc ?_ ?_ _ | refine Below.setCell ?_ ?_ _) | exact hW1 | omega | (simp <;> omega) | (have:=(hW1).size;first | omega | (simp <;> omega)))⟩
end Go.Proofs.YtednjmldjbndhaaGreat
