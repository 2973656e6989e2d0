/- Move: the structure, the laws' copies and comparisons of it. No condition beyond the length. The units of errors on ScaleC, and the number of settings of moves: the program's and the reference's. Conditions: the length and the errors are in range. slices.ContainsFunc at []impl.Move, at a predicate that only computes. Moves: equality of figures and of moves, as the program computes it. No condition. The usual plan of a chain: plain. No program. The codes of a rule, a chain and errors, the program's and the reference's. No condition beyond the lists' lengths. -/
import Derived.StillTailTactics
import Derived.Shelf.Abstract
import Derived.Laws.StructEq
import Derived.Test.YtednjmldjbndhaaGreatKGr1
import Derived.Test.YtednjmldjbndhaaGreatKGr3
import Derived.Test.YtednjmldjbndhaaGreatKGr4
set_option linter.unusedSimpArgs false
set_option linter.unusedVariables false
set_option maxRecDepth 100000
set_option maxHeartbeats 8000000
namespace Go.Proofs.YtednjmldjbndhaaGreat
open Go.RowKit
@[ext] structure Move where
 kind:Int
 scale:Int
 digits:Int
 tens:Int
deriving DecidableEq
def Move.cells (s:Move):List Value:=[.int .i64 s.kind,.int .i64 s.scale,.int .i64 s.digits,.int .i64 s.tens]
def Move.agg (s:Move):Value:=.agg #[.int .i64 s.kind,.int .i64 s.scale,.int .i64 s.digits,.int .i64 s.tens]

theorem info_Move:(Tryz.prog.info? 75).map (fun i=>(i.zero,i.size,i.bytes))=some (some (.agg #[.int .i64 0,.int .i64 0,.int .i64 0,.int .i64 0]),4,32):=by kernel_rfl

end Go.Proofs.YtednjmldjbndhaaGreat
namespace Go.Proofs.YtednjmldjbndhaaGreat
open Go.RowKit
def totE (p q r:Int):Int:=2 * p+q+r
def unitsC (L p q r:Int):Int:=-(-(totE p q r * 1048576) / L)
theorem errors_bd {p q r:Int} (h:errorsB p q r=true):(0 ≤ p∧p ≤ 200)∧(0 ≤ q∧q ≤ 200)∧(0 ≤ r∧r ≤ 200):=by
 simp only [errorsB,Bool.and_eq_true] at h
 exact ⟨inB_true.1 h.1.1,inB_true.1 h.1.2,inB_true.1 h.2⟩
theorem totalError_c (p q r:Int) (w:World) (h1:0 ≤ p∧p ≤ 200) (h2:0 ≤ q∧q ≤ 200) (h3:0 ≤ r∧r ≤ 200) :
  Calls Tryz.prog 226 #[.agg #[.int .i64 p,.int .i64 q,.int .i64 r]] w fun e w'=>e=.returned (.int .i64 (totE p q r))∧Below w.heap.size w w':=by
 unfold totE
 go_enter Tryz.func226,Tryz.ntmps226
 go_wp2
 go_ret
 exact ⟨rfl,(by repeat first | with_reducible (first | exact Below.refl _ _ | apply below_drewN' | apply Below.drew | refine Below.alloc ?_ ?_ _ | refine Below.setCell ?_ ?_ _) | exact Below.refl _ _ | omega | (simp <;> omega) | (have:=(Below.refl _ _).size;first | omega | (simp <;> omega)))⟩
theorem l10Total_c (p q r:Int) (w:World) (h1:0 ≤ p∧p ≤ 200) (h2:0 ≤ q∧q ≤ 200) (h3:0 ≤ r∧r ≤ 200) :
  Calls Tryz.prog 231 #[.agg #[.int .i64 p,.int .i64 q,.int .i64 r]] w fun e w'=>e=.returned (.int .i64 (totE p q r))∧Below w.heap.size w w':=by
 unfold totE
 go_enter Tryz.func231,Tryz.ntmps231
 go_wp2
 go_ret
 exact ⟨rfl,(by repeat first | with_reducible (first | exact Below.refl _ _ | apply below_drewN' | apply Below.drew | refine Below.alloc ?_ ?_ _ | refine Below.setCell ?_ ?_ _) | exact Below.refl _ _ | omega | (simp <;> omega) | (have:=(Below.refl _ _).size;first | omega | (simp <;> omega)))⟩
theorem decadesC_c (w:World):Calls Tryz.prog 143 #[.int .i64 0] w fun e w'=>e=.returned (.int .i64 1)∧Below w.heap.size w w':=by
 go_enter Tryz.func143,Tryz.ntmps143
 go_wp2
 go_ret
 exact ⟨rfl,(by repeat first | with_reducible (first | exact Below.refl _ _ | apply below_drewN' | apply Below.drew | refine Below.alloc ?_ ?_ _ | refine Below.setCell ?_ ?_ _) | exact Below.refl _ _ | omega | (simp <;> omega) | (have:=(Below.refl _ _).size;first | omega | (simp <;> omega)))⟩
theorem l05DecadesC_c (w:World):Calls Tryz.prog 232 #[.int .i64 0] w fun e w'=>e=.returned (.int .i64 1)∧Below w.heap.size w w':=by
 go_enter Tryz.func232,Tryz.ntmps232
 go_wp2
 go_ret
 exact ⟨rfl,(by repeat first | with_reducible (first | exact Below.refl _ _ | apply below_drewN' | apply Below.drew | refine Below.alloc ?_ ?_ _ | refine Below.setCell ?_ ?_ _) | exact Below.refl _ _ | omega | (simp <;> omega) | (have:=(Below.refl _ _).size;first | omega | (simp <;> omega)))⟩
theorem errorUnitsC_c (L p q r:Int) (w:World) (hL:1 ≤ L∧L ≤ 100000) (h1:0 ≤ p∧p ≤ 200) (h2:0 ≤ q∧q ≤ 200) (h3:0 ≤ r∧r ≤ 200) :
  Calls Tryz.prog 201 #[.int .i64 0,.int .i64 L,.agg #[.int .i64 p,.int .i64 q,.int .i64 r]] w fun e w'=>e=.returned (.int .i64 (unitsC L p q r))∧Below w.heap.size w w':=by
 have HT:=fun W=>Lib.hid (totalError_c p q r W h1 h2 h3)
 have ht:0 ≤ totE p q r∧totE p q r ≤ 800:=by unfold totE;omega
 unfold unitsC
 generalize totE p q r=t at *
 have HU:=fun W=>Lib.hid (up_c (t * 1048576) L W (by omega) (by omega))
 have HD:=fun W=>Lib.hid (decadesC_c W)
 go_enter Tryz.func201,Tryz.ntmps201
 go_wp2_with fail
 refine (HT _).out.mono ?_;rintro e w1 ⟨rfl,hb1⟩
 have hB1:Below w.heap.size w w1:=((Below.refl _ _).alloc (Nat.le_refl _) _).trans (hb1.mono (by simp))
 go_wp2_with fail
 refine (HD _).out.mono ?_;rintro e w2 ⟨rfl,hb2⟩
 have hB2:=hB1.trans (hb2.mono hB1.size)
 go_wp2_with fail
 refine (HU _).out.mono ?_;rintro e w3 ⟨rfl,rfl⟩
 go_wp2
 go_ret
 exact ⟨rfl,hB2⟩
theorem l10UnitsC_c (L p q r:Int) (w:World) (hL:1 ≤ L∧L ≤ 100000) (h1:0 ≤ p∧p ≤ 200) (h2:0 ≤ q∧q ≤ 200) (h3:0 ≤ r∧r ≤ 200) :
  Calls Tryz.prog 215 #[.int .i64 0,.int .i64 L,.agg #[.int .i64 p,.int .i64 q,.int .i64 r]] w fun e w'=>e=.returned (.int .i64 (unitsC L p q r))∧Below w.heap.size w w':=by
 have HT:=fun W=>Lib.hid (l10Total_c p q r W h1 h2 h3)
 have ht:0 ≤ totE p q r∧totE p q r ≤ 800:=by unfold totE;omega
 unfold unitsC
 generalize totE p q r=t at *
 have HU:=fun W=>Lib.hid (l01Ceil_c (t * 1048576) L W (by omega) (by omega))
 have HD:=fun W=>Lib.hid (l05DecadesC_c W)
 go_enter Tryz.func215,Tryz.ntmps215
 go_wp2_with fail
 refine (HT _).out.mono ?_;rintro e w1 ⟨rfl,hb1⟩
 have hB1:Below w.heap.size w w1:=((Below.refl _ _).alloc (Nat.le_refl _) _).trans (hb1.mono (by simp))
 go_wp2_with fail
 refine (HD _).out.mono ?_;rintro e w2 ⟨rfl,hb2⟩
 have hB2:=hB1.trans (hb2.mono hB1.size)
 go_wp2_with fail
 refine (HU _).out.mono ?_;rintro e w3 ⟨rfl,rfl⟩
 go_wp2
 go_ret
 exact ⟨rfl,hB2⟩
def setTo (l:List Move) (k:Nat):Nat:=((l.take k).filter fun m=>decide (m.kind ≤ 2)).length
theorem setTo_succ (l:List Move) {k:Nat} (hk:k < l.length):setTo l (k+1)=setTo l k+(if l[k].kind ≤ 2 then 1 else 0):=by
 unfold setTo
 rw [List.take_succ_eq_append_getElem hk,List.filter_append,List.length_append]
 congr 1
 by_cases h:l[k].kind ≤ 2 <;> simp [h]
theorem setTo_le (l:List Move) (k:Nat):setTo l k ≤ k:=by
 unfold setTo
 exact Nat.le_trans (List.length_filter_le _ _) (by rw [List.length_take];omega)
theorem countSettings_c (A:Option Addr) (c:Nat) (l:List Move) (w:World) (hl:l.length ≤ 140737488351232) (hs:Sl w w.heap.size 4 A (l.map Move.cells)) :
  Calls Tryz.prog 200 #[.slice A l.length c] w fun e w'=>e=.returned (.int .i64 (setTo l l.length))∧Below w.heap.size w w':=by
 go_enter Tryz.func200,Tryz.ntmps200
 go_wp2_with fail
 go_loopw [3,8] (fun q i wr=>∃ k:Nat,k ≤ l.length∧i=.int .i64 k∧q=.int .i64 (setTo l k)∧Below w.heap.size w wr) (fun _ i _=>l.length - (intOf i).toNat)
 case atStart=>exact ⟨0,Nat.zero_le _,rfl,rfl,Below.refl _ _⟩
 case round =>
  obtain ⟨k,hk,rfl,rfl,hb⟩:=hrel
  by_cases hlt:k < l.length
  ·obtain ⟨b,off,rfl,hbB,hc⟩:=hs.at_ (i:=k) (by simpa using hlt)
   simp only [List.getElem_map] at hc
   have c0:wr.cell? ⟨b,off+k * 4,none⟩=some (.int .i64 l[k].kind):=by rw [hb.cell hbB];exact hc 0 _ rfl
   have c1:wr.cell? ⟨b,off+k * 4+1,none⟩=some (.int .i64 l[k].scale):=by rw [hb.cell hbB];exact hc 1 _ rfl
   have c2:wr.cell? ⟨b,off+k * 4+2,none⟩=some (.int .i64 l[k].digits):=by rw [hb.cell hbB];exact hc 2 _ rfl
   have c3:wr.cell? ⟨b,off+k * 4+3,none⟩=some (.int .i64 l[k].tens):=by rw [hb.cell hbB];exact hc 3 _ rfl
   clear hc
   have hnx:=setTo_succ l hlt
   have hle:=setTo_le l k
   have hz:=hb.size
   by_cases h2:l[k].kind ≤ 2
   ·rw [if_pos h2] at hnx
    have Hnx:=Lib.hid hnx;clear hnx
    generalize setTo l k=u at *
    go_wp2
    go_roundw
    case rel=>exact ⟨k+1,by omega,by go_num,by rw [Hnx.out];go_num,(by repeat first | with_reducible (first | exact hb | apply below_drewN' | apply Below.drew | refine Below.alloc ?_ ?_ _ | refine Below.setCell ?_ ?_ _) | exact hb | omega | (simp <;> omega) | (have:=(hb).size;first | omega | (simp <;> omega)))⟩
    case measure=>simp [intOf];omega
   ·rw [if_neg h2] at hnx
    have Hnx:=Lib.hid hnx;clear hnx
    generalize setTo l k=u at *
    go_wp2
    go_roundw
    case rel=>exact ⟨k+1,by omega,by go_num,by rw [Hnx.out];rfl,(by repeat first | with_reducible (first | exact hb | apply below_drewN' | apply Below.drew | refine Below.alloc ?_ ?_ _ | refine Below.setCell ?_ ?_ _) | exact hb | omega | (simp <;> omega) | (have:=(hb).size;first | omega | (simp <;> omega)))⟩
    case measure=>simp [intOf];omega
  ·have:k=l.length:=by omega
   subst this
   go_wp2
   go_ret
   exact ⟨rfl,hb⟩
end Go.Proofs.YtednjmldjbndhaaGreat
namespace Go.Proofs.YtednjmldjbndhaaGreat
open Go.RowKit
def PredMove (g:FuncId) (lb:Array Value) (p:Move→Bool) (w:World):Prop :=
 ∀ (x:Move) (W:World),Below w.heap.size w W→Calls Tryz.prog g (#[x.agg] ++ lb) W fun e w'=>e=.returned (.bool (p x))∧Below W.heap.size W w'
def IdxPostMove (p:Move→Bool) (l:List Move) (w:World) (e:Ending) (w':World):Prop :=
 ∃ r:Int,e=.returned (.int .i64 r)∧decide (0 ≤ r)=l.any p∧Below w.heap.size w w'
theorem indexFuncMove_c (A:Option Addr) (c:Nat) (l:List Move) (g:FuncId) (lb:Array Value) (p:Move→Bool) (w:World)
  (eg:∀ args w,(callFunc g args).run Tryz.prog w=.ok (.enter g args) w) (hp:PredMove g lb p w) (hl:l.length ≤ 140737488351232) (hs:Sl w w.heap.size 4 A (l.map Move.cells)) :
  Calls Tryz.prog 230 #[.slice A l.length c,.func (.func g) #[] lb] w (IdxPostMove p l w):=by
 go_enter Tryz.func230,Tryz.ntmps230
 go_wp2_with fail
 go_loopw [8] (fun i wr=>∃ k:Nat,k ≤ l.length∧i=.int .i64 k∧Below w.heap.size w wr∧Hid ((l.take k).any p=false)) (fun i _=>l.length - (intOf i).toNat)
 case atStart=>exact ⟨0,Nat.zero_le _,rfl,Below.refl _ _,(show (l.take 0).any p=false from by simp)⟩
 case round =>
  obtain ⟨k,hk,rfl,hb,hn⟩:=hrel
  by_cases hlt:k < l.length
  ·obtain ⟨b,off,rfl,hbB,hc⟩:=hs.at_ (i:=k) (by simpa using hlt)
   simp only [List.getElem_map] at hc
   have c0:wr.cell? ⟨b,off+k * 4,none⟩=some (.int .i64 l[k].kind):=by rw [hb.cell hbB];exact hc 0 _ rfl
   have c1:wr.cell? ⟨b,off+k * 4+1,none⟩=some (.int .i64 l[k].scale):=by rw [hb.cell hbB];exact hc 1 _ rfl
   have c2:wr.cell? ⟨b,off+k * 4+2,none⟩=some (.int .i64 l[k].digits):=by rw [hb.cell hbB];exact hc 2 _ rfl
   have c3:wr.cell? ⟨b,off+k * 4+3,none⟩=some (.int .i64 l[k].tens):=by rw [hb.cell hbB];exact hc 3 _ rfl
   clear hc
   have hcall:=hp l[k] wr hb
   have hnx:(l.take (k+1)).any p=((l.take k).any p || p l[k]):=by rw [List.take_succ_eq_append_getElem hlt,List.any_append];simp
   have hnx:=Lib.hid hnx
   clear hp
   cases hq:p l[k] with
   | true =>
    have hq':=Lib.hid hq
    rw [hq] at hcall
    have hcall:=Lib.hid hcall
    clear hq
    go_wp2_with (go_at_fn g;refine hcall.out.mono ?_;rintro e w1 ⟨rfl,hb1⟩)
    go_ret
    refine ⟨k,rfl,?_,hb.trans (hb1.mono hb.size)⟩
    rw [show l.any p=true from List.any_eq_true.2 ⟨l[k],List.getElem_mem hlt,hq'.out⟩]
    simp
   | false =>
    have hq':=Lib.hid hq
    rw [hq] at hcall
    have hcall:=Lib.hid hcall
    clear hq
    go_wp2_with (go_at_fn g;refine hcall.out.mono ?_;rintro e w1 ⟨rfl,hb1⟩)
    go_roundw
    case rel=>exact ⟨k+1,by omega,by go_num,hb.trans (hb1.mono hb.size),(show _=false from by rw [hnx.out,hn.out,hq'.out];rfl)⟩
    case measure=>simp [intOf];omega
  ·have:k=l.length:=by omega
   subst this
   go_wp2
   go_ret
   refine ⟨-1,rfl,?_,hb⟩
   have:=hn.out
   rw [List.take_length] at this
   rw [this]
   rfl
theorem containsFuncMove_c (A:Option Addr) (c:Nat) (l:List Move) (g:FuncId) (lb:Array Value) (p:Move→Bool) (w:World)
  (eg:∀ args w,(callFunc g args).run Tryz.prog w=.ok (.enter g args) w) (hp:PredMove g lb p w) (hl:l.length ≤ 140737488351232) (hs:Sl w w.heap.size 4 A (l.map Move.cells)) :
  Calls Tryz.prog 208 #[.slice A l.length c,.func (.func g) #[] lb] w fun e w'=>e=.returned (.bool (l.any p))∧Below w.heap.size w w':=by
 have H:=Lib.hid (indexFuncMove_c A c l g lb p w eg hp hl hs)
 clear hp hs eg
 go_enter Tryz.func208,Tryz.ntmps208
 go_wp2_with fail
 refine H.out.mono ?_
 rintro e w1 ⟨r,rfl,hr,hb⟩
 go_wp2
 go_ret
 exact ⟨rfl,hb⟩
end Go.Proofs.YtednjmldjbndhaaGreat
namespace Go.Proofs.YtednjmldjbndhaaGreat
open Go.RowKit
theorem eqFig (a b c d:Int) (w:World):Sem.run Tryz.prog (binOp .eql 51 (.agg #[.int .i64 a,.int .i64 b]) (.agg #[.int .i64 c,.int .i64 d])) w=.ok (.bool (decide (a=c) && decide (b=d))) w:=by
 have hS:Tryz.prog.underlying 51=some (.struct (Tryz.prog.fieldsOf 51)):=by kernel_rfl
 have hp:Tryz.prog.stoodInHeld 51=false:=by kernel_rfl
 have u3:=Tryz.underlying2
 have a3:=Tryz.isAgg2
 have z3:=Tryz.sizeOf2
 by_cases h1:a=c <;> by_cases h2:b=d
 all_goals
  rw [run_eql_struct,show (10000:Nat)=9999+1 from rfl,run_equalIn_agg w 9999 51 _ _ hS hp]
  simp only [Program.fieldsOf,Tryz.underlying51]
  go_simp
def moveB (m:Move):Bool:=(inB m.kind 0 2 && (scaleB m.scale && figOK ⟨m.digits,m.tens⟩)) || (inB m.kind 3 6 && (decide (m.scale=0) && (decide (m.digits=0) && decide (m.tens=0))))
theorem moveB_lo {m:Move} (h:0 ≤ m.kind∧m.kind ≤ 2):moveB m=(scaleB m.scale && figOK ⟨m.digits,m.tens⟩):=by
 unfold moveB
 rw [inB_true.2 h,show inB m.kind 3 6=false from by cases hx:inB m.kind 3 6;rfl;have:=inB_true.1 hx;omega]
 simp
theorem moveB_hi {m:Move} (h:3 ≤ m.kind∧m.kind ≤ 6):moveB m=(decide (m.scale=0) && (decide (m.digits=0) && decide (m.tens=0))):=by
 unfold moveB
 rw [inB_true.2 h,show inB m.kind 0 2=false from by cases hx:inB m.kind 0 2;rfl;have:=inB_true.1 hx;omega]
 simp
theorem moveB_out {m:Move} (h:m.kind < 0 ∨ 6 < m.kind):moveB m=false:=by
 unfold moveB
 rw [show inB m.kind 3 6=false from by cases hx:inB m.kind 3 6;rfl;have:=inB_true.1 hx;omega,show inB m.kind 0 2=false from by cases hx:inB m.kind 0 2;rfl;have:=inB_true.1 hx;omega]
 rfl
theorem l12Is_c (k s a b:Int) (w:World):Calls Tryz.prog 202 #[.agg #[.int .i64 k,.int .i64 s,.int .i64 a,.int .i64 b]] w fun e w'=>e=.returned (.bool (moveB ⟨k,s,a,b⟩))∧Below w.heap.size w w':=by
 have hGt:Tryz.prog.eqGuardType Tryz.prog.depth 51=false:=by kernel_rfl
 have HS:=fun W=>Lib.hid (l10Scale_c s W)
 have HF:=fun W=>specIsFigure_c ⟨a,b⟩ W
 unfold Figure.agg at HF
 have HF:=fun W=>Lib.hid (HF W)
 have HQ:=fun W=>eqFig a b 0 0 W
 by_cases h0:0 ≤ k∧k ≤ 2
 ·have HR:=Lib.hid (moveB_lo (m:=⟨k,s,a,b⟩) h0)
  simp only at HR
  generalize scaleB s=u at *
  generalize figOK ⟨a,b⟩=v at *
  have hk:k=0 ∨ k=1 ∨ k=2:=by omega
  clear h0 HQ
  rcases hk with rfl | rfl | rfl
  all_goals
   cases u
   ·go_enter Tryz.func202,Tryz.ntmps202
    go_wp2_with (first | (go_at_call 168;refine Calls.mono (HS _) ?_;rintro e w1 ⟨rfl,rfl⟩))
    go_ret
    exact ⟨by rw [HR.out];rfl,(by repeat first | with_reducible (first | exact Below.refl _ _ | apply below_drewN' | apply Below.drew | refine Below.alloc ?_ ?_ _ | refine Below.setCell ?_ ?_ _) | exact Below.refl _ _ | omega | (simp <;> omega) | (have:=(Below.refl _ _).size;first | omega | (simp <;> omega)))⟩
   ·go_enter Tryz.func202,Tryz.ntmps202
    go_wp2_with (first | (go_at_call 168;refine Calls.mono (HS _) ?_;rintro e w1 ⟨rfl,rfl⟩))
    refine Calls.mono (HF _) ?_;rintro e w1 ⟨rfl,hb1⟩
    go_wp2
    go_ret
    exact ⟨by rw [HR.out];rfl,((Below.refl _ _).alloc (Nat.le_refl _) _).trans (hb1.mono (by simp))⟩
 ·by_cases h3:3 ≤ k∧k ≤ 6
  ·have HR:=Lib.hid (moveB_hi (m:=⟨k,s,a,b⟩) h3)
   simp only at HR
   generalize (decide (a=0) && decide (b=0))=v at *
   have hk:k=3 ∨ k=4 ∨ k=5 ∨ k=6:=by omega
   clear h0 h3 HS HF
   by_cases hs:s=0
   ·subst hs
    rcases hk with rfl | rfl | rfl | rfl
    all_goals
     go_enter Tryz.func202,Tryz.ntmps202
     go_wp2
     go_ret
     exact ⟨by rw [HR.out];cases v <;> rfl,(by repeat first | with_reducible (first | exact Below.refl _ _ | apply below_drewN' | apply Below.drew | refine Below.alloc ?_ ?_ _ | refine Below.setCell ?_ ?_ _) | exact Below.refl _ _ | omega | (simp <;> omega) | (have:=(Below.refl _ _).size;first | omega | (simp <;> omega)))⟩
   ·rw [decide_eq_false hs] at HR
    rcases hk with rfl | rfl | rfl | rfl
    all_goals
     go_enter Tryz.func202,Tryz.ntmps202
     go_wp2
     go_ret
     exact ⟨by rw [HR.out];rfl,(by repeat first | with_reducible (first | exact Below.refl _ _ | apply below_drewN' | apply Below.drew | refine Below.alloc ?_ ?_ _ | refine Below.setCell ?_ ?_ _) | exact Below.refl _ _ | omega | (simp <;> omega) | (have:=(Below.refl _ _).size;first | omega | (simp <;> omega)))⟩
  ·have HR:=Lib.hid (moveB_out (m:=⟨k,s,a,b⟩) (by simp only;omega))
   have e0:(k == 0)=false:=by simp;omega
   have e1:(k == 1)=false:=by simp;omega
   have e2:(k == 2)=false:=by simp;omega
   have e3:(k == 3)=false:=by simp;omega
   have e4:(k == 4)=false:=by simp;omega
   have e5:(k == 5)=false:=by simp;omega
   have e6:(k == 6)=false:=by simp;omega
   clear h0 h3 HS HF HQ
   go_enter Tryz.func202,Tryz.ntmps202
   go_wp2
   go_ret
   exact ⟨by rw [HR.out];rfl,(by repeat first | with_reducible (first | exact Below.refl _ _ | apply below_drewN' | apply Below.drew | refine Below.alloc ?_ ?_ _ | refine Below.setCell ?_ ?_ _) | exact Below.refl _ _ | omega | (simp <;> omega) | (have:=(Below.refl _ _).size;first | omega | (simp <;> omega)))⟩
end Go.Proofs.YtednjmldjbndhaaGreat
namespace Go.Proofs.YtednjmldjbndhaaGreat
theorem pointC_bd {m:Int} (h:1000 ≤ m∧m ≤ 9999):0 ≤ pointC m∧pointC m ≤ 1048576:=by
 have h1:=logLow_bd (x:=m * 100000) (by omega)
 have h2:=logHigh_bd (x:=m * 100000) (by omega)
 unfold pointC
 omega
def moveS (sh cu k pt:Int):Int × Int :=
 if k=0 then (sh,pt) else if k=1 then (sh,pt+sh) else if k=2 then (cu - pt,cu) else if k=3 then (cu,cu) else if k=4 then (cu - 1048576,cu) else if k=5 then (sh,sh) else (sh,sh+1048576)
def setB (sh cu:Int):Bool:=inB sh (-1048576) 1048576 && inB cu 0 1048576
theorem setB_true {sh cu:Int}:setB sh cu=true ↔ (-1048576 ≤ sh∧sh ≤ 1048576)∧0 ≤ cu∧cu ≤ 1048576:=by
 unfold setB
 rw [Bool.and_eq_true,inB_true,inB_true]
def hasS (l1 l2:List Int) (k s:Int):Bool:=if k=0 then decide (s ∈ l1) else decide (s ∈ l2)
def moveR (l1 l2:List Int) (sh cu k s pt:Int):(Int × Int) × Bool :=
 if decide (k ≤ 2) && !hasS l1 l2 k s then ((0,0),false) else (moveS sh cu k pt,setB (moveS sh cu k pt).1 (moveS sh cu k pt).2)
structure PS where
 sh:Int
 cu:Int
 ms:List Move
 en:Bool
def mvP (p:PS) (k d t:Int) (en:Bool):PS:=⟨(moveS p.sh p.cu k (pointC d)).1,(moveS p.sh p.cu k (pointC d)).2,p.ms ++ [⟨k,0,d,t⟩],en⟩
def underP (p:PS):PS:=if p.en then (if 0 ≤ p.sh then mvP p 5 0 0 false else mvP p 6 0 0 false) else p
def fitsB (x d:Int):Bool:=inB (x+pointC d) 0 1048576
def termP (p:PS) (t:Term):PS :=
 if t.div then mvP (underP p) 2 t.digits t.tens true
 else if p.en && fitsB p.sh t.digits then mvP p 1 t.digits t.tens false
 else mvP (mvP (underP p) (if fitsB (underP p).cu t.digits then 3 else 4) 0 0 false) 1 t.digits t.tens false
def headP (t:Term):PS:=mvP ⟨0,0,[],false⟩ 0 t.digits t.tens false
def foldP (p:PS) (l:List Term) (k:Nat):PS:=((l.take k).drop 1).foldl termP p
def usualP:List Term→PS
 | []=>⟨0,0,[],false⟩
 | t :: l=>underP (l.foldl termP (headP t))
theorem foldP_one (p:PS) (l:List Term):foldP p l 1=p:=by
 unfold foldP
 rw [List.drop_eq_nil_of_le (by rw [List.length_take];omega)]
 rfl
theorem foldP_succ (p:PS) (l:List Term) {k:Nat} (h1:1 ≤ k) (hk:k < l.length):foldP p l (k+1)=termP (foldP p l k) l[k]:=by
 unfold foldP
 rw [List.take_succ_eq_append_getElem hk,List.drop_append_of_le_length (by rw [List.length_take];omega),List.foldl_append]
 rfl
theorem usualP_eq {l:List Term} (h:0 < l.length):usualP l=underP (foldP (headP l[0]) l l.length):=by
 match l,h with
 | t :: l,h =>
  unfold usualP foldP
  rw [List.take_length]
  rfl
def okP (p:PS):Prop:=((-1048576 ≤ p.sh∧p.sh ≤ 1048576)∧0 ≤ p.cu∧p.cu ≤ 1048576)∧p.ms.all moveB=true
theorem moveB_fig {k d t:Int} (hk:0 ≤ k∧k ≤ 2) (hf:figOK ⟨d,t⟩=true):moveB ⟨k,0,d,t⟩=true:=by
 rw [moveB_lo hk]
 simp only
 rw [hf]
 decide
theorem moveB_bare {k:Int} (hk:3 ≤ k∧k ≤ 6):moveB ⟨k,0,0,0⟩=true:=by
 rw [moveB_hi hk]
 rfl
theorem okP_mv {p:PS} {k d t:Int} {en:Bool} (h:okP p) (hs:((-1048576 ≤ (moveS p.sh p.cu k (pointC d)).1∧(moveS p.sh p.cu k (pointC d)).1 ≤ 1048576)∧0 ≤ (moveS p.sh p.cu k (pointC d)).2∧(moveS p.sh p.cu k (pointC d)).2 ≤ 1048576))
  (hm:moveB ⟨k,0,d,t⟩=true):okP (mvP p k d t en):=by
 refine ⟨hs,?_⟩
 unfold mvP
 simp only [List.all_append,h.2,Bool.true_and,List.all_cons,List.all_nil,hm]
theorem okP_under {p:PS} (h:okP p):okP (underP p):=by
 have h0:=h.1
 unfold underP
 cases p.en with
 | false=>exact h
 | true =>
  simp only [if_true]
  by_cases h5:0 ≤ p.sh
  ·rw [if_pos h5]
   refine okP_mv h ?_ (moveB_bare (by omega))
   simp [moveS];omega
  ·rw [if_neg h5]
   refine okP_mv h ?_ (moveB_bare (by omega))
   simp [moveS];omega
theorem under_en (p:PS):(underP p).en=false:=by
 unfold underP
 cases h:p.en with
 | false=>simpa using h
 | true=>simp only [if_true];split <;> rfl
theorem under_len (p:PS):(underP p).ms.length ≤ p.ms.length+1:=by
 unfold underP
 split
 ·split <;> simp [mvP]
 ·omega
theorem fitsB_true {x d:Int}:fitsB x d=true ↔ 0 ≤ x+pointC d∧x+pointC d ≤ 1048576:=inB_true
theorem okP_term {p:PS} {t:Term} (h:okP p) (ht:termOK t=true):okP (termP p t):=by
 have hb:=term_bd ht
 have hp:=pointC_bd hb.1
 have hu:=okP_under h
 have hu0:=hu.1
 have h0:=h.1
 unfold termP
 cases t.div with
 | true =>
  simp only [if_true]
  refine okP_mv hu ?_ (moveB_fig (by omega) ht)
  simp [moveS];omega
 | false =>
  simp only [Bool.false_eq_true,if_false]
  cases hf:p.en && fitsB p.sh t.digits with
  | true =>
   simp only [if_true]
   rw [Bool.and_eq_true,fitsB_true] at hf
   refine okP_mv h ?_ (moveB_fig (by omega) ht)
   simp [moveS];omega
  | false =>
   simp only [Bool.false_eq_true,if_false]
   cases hg:fitsB (underP p).cu t.digits with
   | true =>
    rw [fitsB_true] at hg
    simp only [if_true]
    have h3:okP (mvP (underP p) 3 0 0 false):=okP_mv hu (by simp [moveS];omega) (moveB_bare (by omega))
    refine okP_mv h3 ?_ (moveB_fig (by omega) ht)
    simp [moveS,mvP];omega
   | false =>
    have hg':¬ (0 ≤ (underP p).cu+pointC t.digits∧(underP p).cu+pointC t.digits ≤ 1048576):=by rw [← fitsB_true,hg];simp
    simp only [Bool.false_eq_true,if_false]
    have h3:okP (mvP (underP p) 4 0 0 false):=okP_mv hu (by simp [moveS];omega) (moveB_bare (by omega))
    refine okP_mv h3 ?_ (moveB_fig (by omega) ht)
    simp [moveS,mvP];omega
theorem term_len (p:PS) (t:Term):(termP p t).ms.length ≤ p.ms.length+3:=by
 have:=under_len p
 unfold termP
 split
 ·simp [mvP];omega
 ·split
  ·simp [mvP]
  ·simp [mvP];omega
theorem okP_head {t:Term} (ht:termOK t=true):okP (headP t):=by
 have hb:=term_bd ht
 have hp:=pointC_bd hb.1
 refine okP_mv (p:=⟨0,0,[],false⟩) ⟨by simp only;omega,rfl⟩ ?_ (moveB_fig (by omega) ht)
 simp [moveS];omega
theorem okP_fold {l:List Term} (hall:l.all termOK=true) {k:Nat} (h1:1 ≤ k) (hk:k ≤ l.length):okP (foldP (headP (l[0]'(by omega))) l k)∧(foldP (headP (l[0]'(by omega))) l k).ms.length ≤ 3 * k:=by
 induction k with
 | zero=>omega
 | succ k ih =>
  by_cases h0:k=0
  ·subst h0
   rw [foldP_one]
   exact ⟨okP_head (List.all_eq_true.1 hall _ (List.getElem_mem _)),by simp [headP,mvP]⟩
  ·obtain ⟨i1,i2⟩:=ih (by omega) (by omega)
   rw [foldP_succ _ _ (by omega) (by omega)]
   refine ⟨okP_term i1 (List.all_eq_true.1 hall _ (List.getElem_mem _)),?_⟩
   have:=term_len (foldP (headP (l[0]'(by omega))) l k) (l[k]'(by omega))
   omega
theorem usual_ok {l:List Term} (h:0 < l.length) (h6:l.length ≤ 6) (hall:l.all termOK=true):okP (usualP l)∧(usualP l).ms.length ≤ 19:=by
 obtain ⟨i1,i2⟩:=okP_fold hall h (Nat.le_refl _)
 rw [usualP_eq h]
 refine ⟨okP_under i1,?_⟩
 have:=under_len (foldP (headP l[0]) l l.length)
 omega
theorem chainB_parts {l:List Term} (h:chainB l=true):0 < l.length∧l.length ≤ 6∧l.all termOK=true∧firstDiv l=false:=by
 unfold chainB at h
 simp only [Bool.and_eq_true,Bool.not_eq_true',inB_true] at h
 exact ⟨by omega,by omega,h.1,h.2.2⟩
end Go.Proofs.YtednjmldjbndhaaGreat
namespace Go.Proofs.YtednjmldjbndhaaGreat
open Go.RowKit
def planCode (L:Int) (l1 l2:List Int) (l3:List Term):Int:=if ruleB L l1 l2 && chainB l3 then (if decide ((0:Int) ∈ l1) && decide ((0:Int) ∈ l2) then 0 else 5) else 1
def boundCode (L:Int) (l1 l2:List Int) (l3:List Term) (p q r:Int):Int:=if errorsB p q r then planCode L l1 l2 l3 else 1
theorem hasScaleStock_c (L:Int) (A1:Option Addr) (c1:Nat) (l1:List Int) (v:Value) (x:Int) (w:World) (h1:l1.length ≤ 1048576) (hs1:Sl w w.heap.size 1 A1 (l1.map ic)) :
  Calls Tryz.prog 139 #[.agg #[.int .i64 L,.slice A1 l1.length c1,v],.bool false,.int .i64 x] w fun e w'=>e=.returned (.bool (decide (x ∈ l1)))∧Below w.heap.size w w':=by
 have H:=fun W h=>Lib.hid (containsInt_c A1 c1 l1 x W (by omega) h)
 go_enter Tryz.func139,Tryz.ntmps139
 go_wp2_with (go_at_call 167;refine (H _ ((hs1.below ((by repeat first | with_reducible (first | exact Below.refl _ _ | apply below_drewN' | apply Below.drew | refine Below.alloc ?_ ?_ _ | refine Below.setCell ?_ ?_ _) | exact Below.refl _ _ | omega | (simp <;> omega) | (have:=(Below.refl _ _).size;first | omega | (simp <;> omega))))).more (by simp))).out.mono ?_;rintro e w1 ⟨rfl,rfl⟩)
 go_ret
 exact ⟨rfl,(by repeat first | with_reducible (first | exact Below.refl _ _ | apply below_drewN' | apply Below.drew | refine Below.alloc ?_ ?_ _ | refine Below.setCell ?_ ?_ _) | exact Below.refl _ _ | omega | (simp <;> omega) | (have:=(Below.refl _ _).size;first | omega | (simp <;> omega)))⟩
theorem hasScaleSlide_c (L:Int) (v:Value) (A2:Option Addr) (c2:Nat) (l2:List Int) (x:Int) (w:World) (h2:l2.length ≤ 1048576) (hs2:Sl w w.heap.size 1 A2 (l2.map ic)) :
  Calls Tryz.prog 139 #[.agg #[.int .i64 L,v,.slice A2 l2.length c2],.bool true,.int .i64 x] w fun e w'=>e=.returned (.bool (decide (x ∈ l2)))∧Below w.heap.size w w':=by
 have H:=fun W h=>Lib.hid (containsInt_c A2 c2 l2 x W (by omega) h)
 go_enter Tryz.func139,Tryz.ntmps139
 go_wp2_with (go_at_call 167;refine (H _ ((hs2.below ((by repeat first | with_reducible (first | exact Below.refl _ _ | apply below_drewN' | apply Below.drew | refine Below.alloc ?_ ?_ _ | refine Below.setCell ?_ ?_ _) | exact Below.refl _ _ | omega | (simp <;> omega) | (have:=(Below.refl _ _).size;first | omega | (simp <;> omega))))).more (by simp))).out.mono ?_;rintro e w1 ⟨rfl,rfl⟩)
 go_ret
 exact ⟨rfl,(by repeat first | with_reducible (first | exact Below.refl _ _ | apply below_drewN' | apply Below.drew | refine Below.alloc ?_ ?_ _ | refine Below.setCell ?_ ?_ _) | exact Below.refl _ _ | omega | (simp <;> omega) | (have:=(Below.refl _ _).size;first | omega | (simp <;> omega)))⟩
theorem checkPlan_c (L:Int) (A1:Option Addr) (c1:Nat) (l1:List Int) (A2:Option Addr) (c2:Nat) (l2:List Int) (A3:Option Addr) (c3:Nat) (l3:List Term) (w:World) (h1:l1.length ≤ 1048576) (h2:l2.length ≤ 1048576) (h3:l3.length ≤ 1048576) (k1:l1.length ≤ c1) (k2:l2.length ≤ c2)
  (hs1:Sl w w.heap.size 1 A1 (l1.map ic)) (hs2:Sl w w.heap.size 1 A2 (l2.map ic)) (hs3:Sl w w.heap.size 3 A3 (l3.map Term.cells)) :
  Calls Tryz.prog 83 #[.agg #[.int .i64 L,.slice A1 l1.length c1,.slice A2 l2.length c2],.slice A3 l3.length c3] w fun e w'=>e=.returned (.int .i64 (planCode L l1 l2 l3))∧Below w.heap.size w w':=by
 have HR:=fun W h h'=>Lib.hid (implIsRule_c L A1 c1 l1 A2 c2 l2 W h1 h2 k1 k2 h h')
 have HC:=fun W h=>Lib.hid (implIsChain_c A3 c3 l3 W (by omega) h)
 have HA:=fun W h=>Lib.hid (hasScaleStock_c L A1 c1 l1 (.slice A2 l2.length c2) 0 W h1 h)
 have HB:=fun W h=>Lib.hid (hasScaleSlide_c L (.slice A1 l1.length c1) A2 c2 l2 0 W h2 h)
 have s1:=Lib.hid hs1
 have s2:=Lib.hid hs2
 have s3:=Lib.hid hs3
 clear hs1 hs2 hs3
 unfold planCode
 generalize ruleB L l1 l2=a at *
 generalize chainB l3=b at *
 generalize decide ((0:Int) ∈ l1)=d at *
 generalize decide ((0:Int) ∈ l2)=f at *
 have hW:Below w.heap.size w (w.alloc (.cells #[.int .i64 L,.slice A1 l1.length c1,.slice A2 l2.length c2] 26)):=(Below.refl _ _).alloc (Nat.le_refl _) _
 have hz:(w.alloc (.cells #[.int .i64 L,.slice A1 l1.length c1,.slice A2 l2.length c2] 26)).heap.size=w.heap.size+1:=by simp
 have B0:=Blk.new w 26 #[.int .i64 L,.slice A1 l1.length c1,.slice A2 l2.length c2]
 go_enter Tryz.func83,Tryz.ntmps83
 go_wp2_with fail
 generalize w.alloc (.cells #[.int .i64 L,.slice A1 l1.length c1,.slice A2 l2.length c2] 26)=W at *
 have hWs:=hW.size
 refine (HR _ ((s1.out.below hW).more hWs) ((s2.out.below hW).more hWs)).out.mono ?_;rintro e w1 ⟨rfl,hb1⟩
 have hW1:=hW.trans (hb1.mono hWs)
 have hWs1:=hW1.size
 have B1:=B0.below hb1 (by omega)
 cases a with
 | false =>
  go_wp2
  go_ret
  exact ⟨rfl,hW1⟩
 | true =>
  go_wp2_with fail
  refine (HC _ ((s3.out.below hW1).more hWs1)).out.mono ?_;rintro e w2 ⟨rfl,hb2⟩
  have hW2:=hW1.trans (hb2.mono hWs1)
  have hWs2:=hW2.size
  have B2:=B1.below hb2 B1.lt
  have y0:w2.cell? ⟨w.heap.size,0,none⟩=some (.int .i64 L):=B2.cell 0
  have y1:w2.cell? ⟨w.heap.size,1,none⟩=some (.slice A1 l1.length c1):=B2.cell 1
  have y2:w2.cell? ⟨w.heap.size,2,none⟩=some (.slice A2 l2.length c2):=B2.cell 2
  cases b with
  | false =>
   go_wp2
   go_ret
   exact ⟨rfl,hW2⟩
  | true =>
   go_wp2_with fail
   refine (HA _ ((s1.out.below hW2).more hWs2)).out.mono ?_;rintro e w3 ⟨rfl,hb3⟩
   have hW3:=hW2.trans (hb3.mono hWs2)
   have hWs3:=hW3.size
   have B3:=B2.below hb3 B2.lt
   have z0:w3.cell? ⟨w.heap.size,0,none⟩=some (.int .i64 L):=B3.cell 0
   have z1:w3.cell? ⟨w.heap.size,1,none⟩=some (.slice A1 l1.length c1):=B3.cell 1
   have z2:w3.cell? ⟨w.heap.size,2,none⟩=some (.slice A2 l2.length c2):=B3.cell 2
   cases d with
   | false =>
    go_wp2
    go_ret
    exact ⟨rfl,hW3⟩
   | true =>
    go_wp2_with fail
    refine (HB _ ((s2.out.below hW3).more hWs3)).out.mono ?_;rintro e w4 ⟨rfl,hb4⟩
    have hW4:=hW3.trans (hb4.mono hWs3)
    cases f
    all_goals
     go_wp2
     go_ret
     exact ⟨rfl,hW4⟩
theorem l14Code_c (L:Int) (A1:Option Addr) (c1:Nat) (l1:List Int) (A2:Option Addr) (c2:Nat) (l2:List Int) (A3:Option Addr) (c3:Nat) (l3:List Term) (w:World) (h1:l1.length ≤ 1048576) (h2:l2.length ≤ 1048576) (h3:l3.length ≤ 1048576) (k1:l1.length ≤ c1) (k2:l2.length ≤ c2)
  (hs1:Sl w w.heap.size 1 A1 (l1.map ic)) (hs2:Sl w w.heap.size 1 A2 (l2.map ic)) (hs3:Sl w w.heap.size 3 A3 (l3.map Term.cells)) :
  Calls Tryz.prog 124 #[.agg #[.int .i64 L,.slice A1 l1.length c1,.slice A2 l2.length c2],.slice A3 l3.length c3] w fun e w'=>e=.returned (.int .i64 (planCode L l1 l2 l3))∧Below w.heap.size w w':=by
 have HR:=fun W h h'=>Lib.hid (specIsRule_c L A1 c1 l1 A2 c2 l2 W h1 h2 k1 k2 h h')
 have HC:=fun W h=>Lib.hid (specIsChain_c A3 c3 l3 W (by omega) h)
 have HA:=fun W h=>Lib.hid (l01Has_c A1 c1 l1 0 W (by omega) h)
 have HB:=fun W h=>Lib.hid (l01Has_c A2 c2 l2 0 W (by omega) h)
 have s1:=Lib.hid hs1
 have s2:=Lib.hid hs2
 have s3:=Lib.hid hs3
 clear hs1 hs2 hs3
 unfold planCode
 generalize ruleB L l1 l2=a at *
 generalize chainB l3=b at *
 generalize decide ((0:Int) ∈ l1)=d at *
 generalize decide ((0:Int) ∈ l2)=f at *
 have hW:Below w.heap.size w (w.alloc (.cells #[.int .i64 L,.slice A1 l1.length c1,.slice A2 l2.length c2] 26)):=(Below.refl _ _).alloc (Nat.le_refl _) _
 have hz:(w.alloc (.cells #[.int .i64 L,.slice A1 l1.length c1,.slice A2 l2.length c2] 26)).heap.size=w.heap.size+1:=by simp
 have B0:=Blk.new w 26 #[.int .i64 L,.slice A1 l1.length c1,.slice A2 l2.length c2]
 go_enter Tryz.func124,Tryz.ntmps124
 go_wp2_with fail
 generalize w.alloc (.cells #[.int .i64 L,.slice A1 l1.length c1,.slice A2 l2.length c2] 26)=W at *
 have hWs:=hW.size
 refine (HR _ ((s1.out.below hW).more hWs) ((s2.out.below hW).more hWs)).out.mono ?_;rintro e w1 ⟨rfl,hb1⟩
 have hW1:=hW.trans (hb1.mono hWs)
 have hWs1:=hW1.size
 have B1:=B0.below hb1 (by omega)
 cases a with
 | false =>
  go_wp2
  go_ret
  exact ⟨rfl,hW1⟩
 | true =>
  go_wp2_with fail
  refine (HC _ ((s3.out.below hW1).more hWs1)).out.mono ?_;rintro e w2 ⟨rfl,hb2⟩
  have hW2:=hW1.trans (hb2.mono hWs1)
  have hWs2:=hW2.size
  have B2:=B1.below hb2 B1.lt
  have y0:w2.cell? ⟨w.heap.size,0,none⟩=some (.int .i64 L):=B2.cell 0
  have y1:w2.cell? ⟨w.heap.size,1,none⟩=some (.slice A1 l1.length c1):=B2.cell 1
  have y2:w2.cell? ⟨w.heap.size,2,none⟩=some (.slice A2 l2.length c2):=B2.cell 2
  cases b with
  | false =>
   go_wp2
   go_ret
   exact ⟨rfl,hW2⟩
  | true =>
   go_wp2_with fail
   refine (HA _ ((s1.out.below hW2).more hWs2)).out.mono ?_;rintro e w3 ⟨rfl,rfl⟩
   have hb3:=Below.refl w2.heap.size w2
   have hW3:=hW2.trans (hb3.mono hWs2)
   have hWs3:=hW3.size
   have B3:=B2.below hb3 B2.lt
   have z0:w2.cell? ⟨w.heap.size,0,none⟩=some (.int .i64 L):=B3.cell 0
   have z1:w2.cell? ⟨w.heap.size,1,none⟩=some (.slice A1 l1.length c1):=B3.cell 1
   have z2:w2.cell? ⟨w.heap.size,2,none⟩=some (.slice A2 l2.length c2):=B3.cell 2
   cases d with
   | false =>
    go_wp2
    go_ret
    exact ⟨rfl,hW3⟩
   | true =>
    go_wp2_with fail
    refine (HB _ ((s2.out.below hW3).more hWs3)).out.mono ?_;rintro e w4 ⟨rfl,rfl⟩
    have hW4:=hW3
    cases f
    all_goals
     go_wp2
     go_ret
     exact ⟨rfl,hW4⟩
theorem checkBound_c (L:Int) (A1:Option Addr) (c1:Nat) (l1:List Int) (A2:Option Addr) (c2:Nat) (l2:List Int) (A3:Option Addr) (c3:Nat) (l3:List Term) (p q r:Int) (w:World) (h1:l1.length ≤ 1048576) (h2:l2.length ≤ 1048576) (h3:l3.length ≤ 1048576) (k1:l1.length ≤ c1) (k2:l2.length ≤ c2)
  (hs1:Sl w w.heap.size 1 A1 (l1.map ic)) (hs2:Sl w w.heap.size 1 A2 (l2.map ic)) (hs3:Sl w w.heap.size 3 A3 (l3.map Term.cells)) :
  Calls Tryz.prog 122 #[.agg #[.int .i64 L,.slice A1 l1.length c1,.slice A2 l2.length c2],.slice A3 l3.length c3,.agg #[.int .i64 p,.int .i64 q,.int .i64 r]] w fun e w'=>e=.returned (.int .i64 (boundCode L l1 l2 l3 p q r))∧Below w.heap.size w w':=by
 have HE:=fun W=>Lib.hid (implAreErrors_c p q r W)
 have HP:=fun W h h' h''=>Lib.hid (checkPlan_c L A1 c1 l1 A2 c2 l2 A3 c3 l3 W h1 h2 h3 k1 k2 h h' h'')
 have s1:=Lib.hid hs1
 have s2:=Lib.hid hs2
 have s3:=Lib.hid hs3
 clear hs1 hs2 hs3
 unfold boundCode
 generalize errorsB p q r=a at *
 generalize planCode L l1 l2 l3=b at *
 go_enter Tryz.func122,Tryz.ntmps122
 go_wp2_with fail
 refine (HE _).out.mono ?_;rintro e w1 ⟨rfl,hb1⟩
 have hW1:Below w.heap.size w w1:=Below.trans ((by repeat first | with_reducible (first | exact Below.refl _ _ | apply below_drewN' | apply Below.drew | refine Below.alloc ?_ ?_ _ | refine Below.setCell ?_ ?_ _) | exact Below.refl _ _ | omega | (simp <;> omega) | (have:=(Below.refl _ _).size;first | omega | (simp <;> omega)))) (hb1.mono (by simp <;> omega))
 have B1:=((Blk.new w 26 #[.int .i64 L,.slice A1 l1.length c1,.slice A2 l2.length c2]).alloc (.cells #[.int .i64 p,.int .i64 q,.int .i64 r] 29)).below hb1 (by simp <;> omega)
 have y0:w1.cell? ⟨w.heap.size,0,none⟩=some (.int .i64 L):=B1.cell 0
 have y1:w1.cell? ⟨w.heap.size,1,none⟩=some (.slice A1 l1.length c1):=B1.cell 1
 have y2:w1.cell? ⟨w.heap.size,2,none⟩=some (.slice A2 l2.length c2):=B1.cell 2
 have hWs:=hW1.size
 cases a with
 | false =>
  go_wp2
  go_ret
  exact ⟨rfl,hW1⟩
 | true =>
  go_wp2_with fail
  refine (HP _ ((s1.out.below hW1).more hWs) ((s2.out.below hW1).more hWs) ((s3.out.below hW1).more hWs)).out.mono ?_;rintro e w2 ⟨rfl,hb2⟩
  go_wp2
  go_ret
  exact ⟨rfl,hW1.trans (hb2.mono hWs)⟩
theorem l15Code_c (L:Int) (A1:Option Addr) (c1:Nat) (l1:List Int) (A2:Option Addr) (c2:Nat) (l2:List Int) (A3:Option Addr) (c3:Nat) (l3:List Term) (p q r:Int) (w:World) (h1:l1.length ≤ 1048576) (h2:l2.length ≤ 1048576) (h3:l3.length ≤ 1048576) (k1:l1.length ≤ c1) (k2:l2.length ≤ c2)
  (hs1:Sl w w.heap.size 1 A1 (l1.map ic)) (hs2:Sl w w.heap.size 1 A2 (l2.map ic)) (hs3:Sl w w.heap.size 3 A3 (l3.map Term.cells)) :
  Calls Tryz.prog 136 #[.agg #[.int .i64 L,.slice A1 l1.length c1,.slice A2 l2.length c2],.slice A3 l3.length c3,.agg #[.int .i64 p,.int .i64 q,.int .i64 r]] w fun e w'=>e=.returned (.int .i64 (boundCode L l1 l2 l3 p q r))∧Below w.heap.size w w':=by
 have HE:=fun W=>Lib.hid (specAreErrors_c p q r W)
 have HP:=fun W h h' h''=>Lib.hid (l14Code_c L A1 c1 l1 A2 c2 l2 A3 c3 l3 W h1 h2 h3 k1 k2 h h' h'')
 have s1:=Lib.hid hs1
 have s2:=Lib.hid hs2
 have s3:=Lib.hid hs3
 clear hs1 hs2 hs3
 unfold boundCode
 generalize errorsB p q r=a at *
 generalize planCode L l1 l2 l3=b at *
 go_enter Tryz.func136,Tryz.ntmps136
 go_wp2_with fail
 refine (HE _).out.mono ?_;rintro e w1 ⟨rfl,hb1⟩
 have hW1:Below w.heap.size w w1:=Below.trans ((by repeat first | with_reducible (first | exact Below.refl _ _ | apply below_drewN' | apply Below.drew | refine Below.alloc ?_ ?_ _ | refine Below.setCell ?_ ?_ _) | exact Below.refl _ _ | omega | (simp <;> omega) | (have:=(Below.refl _ _).size;first | omega | (simp <;> omega)))) (hb1.mono (by simp <;> omega))
 have B1:=((Blk.new w 26 #[.int .i64 L,.slice A1 l1.length c1,.slice A2 l2.length c2]).alloc (.cells #[.int .i64 p,.int .i64 q,.int .i64 r] 29)).below hb1 (by simp <;> omega)
 have y0:w1.cell? ⟨w.heap.size,0,none⟩=some (.int .i64 L):=B1.cell 0
 have y1:w1.cell? ⟨w.heap.size,1,none⟩=some (.slice A1 l1.length c1):=B1.cell 1
 have y2:w1.cell? ⟨w.heap.size,2,none⟩=some (.slice A2 l2.length c2):=B1.cell 2
 have hWs:=hW1.size
 cases a with
 | false =>
  go_wp2
  go_ret
  exact ⟨rfl,hW1⟩
 | true =>
  go_wp2_with fail
  refine (HP _ ((s1.out.below hW1).more hWs) ((s2.out.below hW1).more hWs) ((s3.out.below hW1).more hWs)).out.mono ?_;rintro e w2 ⟨rfl,hb2⟩
  go_wp2
  go_ret
  exact ⟨rfl,hW1.trans (hb2.mono hWs)⟩
end Go.Proofs.YtednjmldjbndhaaGreat
