/- Moves: equality of moves, as the program computes it. No condition. Whether moves are valid: the program's and the reference's. Conditions: the list's length. Answers: whether they are valid. Conditions: the lists' lengths. The step of an answer: how many of its moves are the usual plan's. Conditions: the lists' lengths; the exercise is valid. StepOf of the program and of the reference. Conditions: the lists' lengths. Laws over an exercise and an answer: the walk. Conditions: what an argument always is. NextMove of the program and of the reference. Conditions: the lists' lengths. FnExactNextMove's walk. Conditions: what an argument always is. -/
import Derived.Test.YtgkobjpoeajkdaaGreatCfMove
import Derived.Test.YtgkobjpoeajkdaaGreatMoveIs
import Derived.Laws.StructEq
import Derived.Test.YtgkobjpoeajkdaaGreatCount
import Derived.Test.YtgkobjpoeajkdaaGreatExer
import Derived.Test.YtgkobjpoeajkdaaGreatNest2
import Derived.Shelf.Abstract
import Derived.Test.YtgkobjpoeajkdaaGreatUsual
import Derived.Test.YtgkobjpoeajkdaaGreatSpecUs
import Derived.BigQuiet
import Derived.Test.YtgkobjpoeajkdaaGreatExLaw0
namespace Go.Proofs.YtgkobjpoeajkdaaGreat
open Go.RowKit
/-- one field more -/
theorem eqFields_more {P : Program} {w : World} {d : Nat} {xs ys : Array Value} {f : Field} {fs : List Field} {x y : Value} {r s : Bool} (hn : f.name ≠ "_") (hx : (part f.type xs f.offset).run P w = .ok x w) (hy : (part f.type ys f.offset).run P w = .ok y w)
    (hr : (Op.equalIn d f.type x y).run P w = .ok r w) (hs : (Op.eqFields d xs ys fs).run P w = .ok s w) : (Op.eqFields d xs ys (f :: fs)).run P w = .ok (r && s) w := by
  simp only [Op.eqFields, hn, ne_eq, not_false_eq_true, if_true, Sem.run_bind, hx, hy, hr, Result.andThen_ok]
  cases r
  · simp
  · simp [hs]
theorem eqFields_none {P : Program} {w : World} {d : Nat} {xs ys : Array Value} : (Op.eqFields d xs ys []).run P w = .ok true w := by simp [Op.eqFields]
theorem part_int (xs : Array Value) (o : Nat) (a : Int) (w : World) (h : xs[o]? = some (.int .i64 a)) : (part 2 xs o).run Tryz.prog w = .ok (.int .i64 a) w := by
  have u3 := Tryz.underlying2
  have a3 := Tryz.isAgg2
  have z3 := Tryz.sizeOf2
  go_simp
theorem eq_int (n : Nat) (a b : Int) (w : World) : (Op.equalIn (n + 1) 2 (.int .i64 a) (.int .i64 b)).run Tryz.prog w = .ok (decide (a = b)) w := by
  have u3 := Tryz.underlying2
  have a3 := Tryz.isAgg2
  have z3 := Tryz.sizeOf2
  by_cases h : a = b
  all_goals go_simp
theorem part_fig (a b c d : Value) (w : World) : (part 65 #[a, b, c, d] 2).run Tryz.prog w = .ok (.agg #[c, d]) w := by
  have a4 := Tryz.isAgg65
  have z4 := Tryz.sizeOf65
  go_simp
theorem eq_fig (n : Nat) (a b c d : Int) (w : World) : (Op.equalIn (n + 2) 65 (.agg #[.int .i64 a, .int .i64 b]) (.agg #[.int .i64 c, .int .i64 d])).run Tryz.prog w = .ok (decide (a = c) && (decide (b = d) && true)) w := by
  have hS2 : Tryz.prog.underlying 65 = some (.struct (Tryz.prog.fieldsOf 65)) := by kernel_rfl
  have hp2 : Tryz.prog.stoodInHeld 65 = false := by kernel_rfl
  rw [run_equalIn_agg w (n + 1) 65 _ _ hS2 hp2]
  simp only [Program.fieldsOf, Tryz.underlying65]
  exact eqFields_more (by decide) (part_int _ _ _ _ rfl) (part_int _ _ _ _ rfl) (eq_int _ _ _ _) (eqFields_more (by decide) (part_int _ _ _ _ rfl) (part_int _ _ _ _ rfl) (eq_int _ _ _ _) eqFields_none)
set_option maxRecDepth 100000 in
theorem eqMov (k a b c k' a' b' c' : Int) (w : World) : Sem.run Tryz.prog (binOp .eql 72 (.agg #[.int .i64 k, .int .i64 a, .int .i64 b, .int .i64 c]) (.agg #[.int .i64 k', .int .i64 a', .int .i64 b', .int .i64 c'])) w = .ok (.bool (decide (k = k') && (decide (a = a') && ((decide (b = b') && (decide (c = c') && true)) && true)))) w := by
  have hS : Tryz.prog.underlying 72 = some (.struct (Tryz.prog.fieldsOf 72)) := by kernel_rfl
  have hp : Tryz.prog.stoodInHeld 72 = false := by kernel_rfl
  rw [run_eql_struct, show (10000 : Nat) = 9997 + 1 + 1 + 1 from rfl, run_equalIn_agg w (9997 + 1 + 1) 72 _ _ hS hp]
  simp only [Program.fieldsOf, Tryz.underlying72]
  have H := eqFields_more (P := Tryz.prog) (w := w) (d := 9997 + 1 + 1) (xs := #[.int .i64 k, .int .i64 a, .int .i64 b, .int .i64 c]) (ys := #[.int .i64 k', .int .i64 a', .int .i64 b', .int .i64 c']) (f := ⟨"Kind", 2, 0, false, "", "", 0⟩) (fs := _) (by decide) (part_int _ _ _ _ rfl) (part_int _ _ _ _ rfl) (eq_int _ _ _ _) (eqFields_more (f := ⟨"Scale", 2, 1, false, "", "", 8⟩) (fs := _) (by decide) (part_int _ _ _ _ rfl) (part_int _ _ _ _ rfl) (eq_int _ _ _ _) (eqFields_more (f := ⟨"Figure", 65, 2, false, "", "", 16⟩) (by decide) (part_fig _ _ _ _ _) (part_fig _ _ _ _ _) (eq_fig 9997 _ _ _ _ _) eqFields_none))
  rw [H]
  rfl
end Go.Proofs.YtgkobjpoeajkdaaGreat
namespace Go.Proofs.YtgkobjpoeajkdaaGreat
open Go.RowKit
set_option maxRecDepth 100000 in
set_option maxHeartbeats 1000000 in
theorem isMove_c (k s a b : Int) (w : World) : Calls Tryz.prog 239 #[.agg #[.int .i64 k, .int .i64 s, .int .i64 a, .int .i64 b]] w fun e w' => e = .returned (.bool (moveB ⟨k, s, a, b⟩)) ∧ Below w.heap.size w w' := by
  have hGt : Tryz.prog.eqGuardType Tryz.prog.depth 72 = false := by kernel_rfl
  have HS := fun W => Lib.hid (implIsScale_c s W)
  have HF0 := fun W => implIsFigure_c ⟨a, b⟩ W
  unfold Figure.agg at HF0
  have HF := fun W => Lib.hid (HF0 W)
  clear HF0
  have HQ := fun W => eqMov k s a b k 0 0 0 W
  have hW : Below w.heap.size w (w.alloc (.cells #[.int .i64 k, .int .i64 s, .int .i64 a, .int .i64 b] 72)) := (by repeat (first | with_reducible exact Below.refl _ _ | with_reducible apply below_drewN' | with_reducible apply Below.drew | (with_reducible refine Below.alloc ?_ (by first | omega | (simp; omega) | simp) _) | (with_reducible refine Below.setCell ?_ (by first | omega | (simp; omega) | simp) _) | exact Below.refl _ _))
  by_cases h0 : 0 ≤ k ∧ k ≤ 2
  · have HR0 := moveB_lo (m := ⟨k, s, a, b⟩) h0
    simp only at HR0
    have hsc : scaleB s = (inB s 0 5 && !(decide (s = 5))) := by unfold scaleB; rfl
    rw [hsc] at HR0
    have HR := Lib.hid HR0
    clear HR0
    generalize figOK ⟨a, b⟩ = v at *
    have HN0 := fun W => within_c k 0 2 W
    simp only [inB_true.2 h0] at HN0
    have HN := fun W => Lib.hid (HN0 W)
    clear h0 HQ hsc HN0
    cases hu : inB s 0 5 with
    | false =>
      rw [hu] at HR
      simp only [hu] at HS
      clear hu
      skip
      all_goals
        go_enter Tryz.func239, Tryz.ntmps239
        go_wp2_with (first | (go_at_call 78; refine Calls.mono (HN _).out ?_; rintro e w1 ⟨rfl, rfl⟩) | (go_at_call 184; refine Calls.mono (HS _).out ?_; rintro e w1 ⟨rfl, rfl⟩))
        go_ret
        exact ⟨by rw [HR.out]; rfl, (by repeat (first | with_reducible exact hW | with_reducible apply below_drewN' | with_reducible apply Below.drew | (with_reducible refine Below.alloc ?_ (by first | omega | (simp; omega) | simp) _) | (with_reducible refine Below.setCell ?_ (by first | omega | (simp; omega) | simp) _) | exact hW))⟩
    | true =>
      rw [hu] at HR
      simp only [hu] at HS
      clear hu
      by_cases h5 : s = 5
      · subst h5
        skip
        all_goals
          go_enter Tryz.func239, Tryz.ntmps239
          go_wp2_with (first | (go_at_call 78; refine Calls.mono (HN _).out ?_; rintro e w1 ⟨rfl, rfl⟩) | (go_at_call 184; refine Calls.mono (HS _).out ?_; rintro e w1 ⟨rfl, rfl⟩))
          go_ret
          exact ⟨by rw [HR.out]; rfl, (by repeat (first | with_reducible exact hW | with_reducible apply below_drewN' | with_reducible apply Below.drew | (with_reducible refine Below.alloc ?_ (by first | omega | (simp; omega) | simp) _) | (with_reducible refine Below.setCell ?_ (by first | omega | (simp; omega) | simp) _) | exact hW))⟩
      · have h5' : decide (s = 5) = false := decide_eq_false h5
        have h5b : (s != 5) = true := by simpa using h5
        rw [h5'] at HR
        skip
        all_goals
          go_enter Tryz.func239, Tryz.ntmps239
          go_wp2_with (first | (go_at_call 78; refine Calls.mono (HN _).out ?_; rintro e w1 ⟨rfl, rfl⟩) | (go_at_call 184; refine Calls.mono (HS _).out ?_; rintro e w1 ⟨rfl, rfl⟩) | (go_at_call 189; refine Calls.mono (HF _).out ?_; rintro e w1 ⟨rfl, hb1⟩; have hW1 := hW.trans (hb1.mono hW.size)))
          go_ret
          exact ⟨by rw [HR.out]; cases v <;> rfl, (by repeat (first | with_reducible exact hW1 | with_reducible apply below_drewN' | with_reducible apply Below.drew | (with_reducible refine Below.alloc ?_ (by first | omega | (simp; omega) | simp) _) | (with_reducible refine Below.setCell ?_ (by first | omega | (simp; omega) | simp) _) | exact hW1))⟩
  · by_cases h3 : 3 ≤ k ∧ k ≤ 6
    · have HR := Lib.hid (moveB_hi (m := ⟨k, s, a, b⟩) h3)
      simp only at HR
      have hk : k = 3 ∨ k = 4 ∨ k = 5 ∨ k = 6 := by omega
      clear h0 h3 HS HF
      rcases hk with rfl | rfl | rfl | rfl
      all_goals
        go_enter Tryz.func239, Tryz.ntmps239
        go_wp2
        go_ret
        exact ⟨by rw [HR.out]; simp, (by repeat (first | with_reducible exact hW | with_reducible apply below_drewN' | with_reducible apply Below.drew | (with_reducible refine Below.alloc ?_ (by first | omega | (simp; omega) | simp) _) | (with_reducible refine Below.setCell ?_ (by first | omega | (simp; omega) | simp) _) | exact hW))⟩
    · have hk : k < 0 ∨ 6 < k := by omega
      have HR := Lib.hid (moveB_out (m := ⟨k, s, a, b⟩) hk)
      have hz : (¬ 0 ≤ k ∧ ¬ 3 ≤ k) ∨ (¬ k ≤ 2 ∧ ¬ k ≤ 6) := by omega
      clear h0 h3 HS HF HQ hk
      rcases hz with ⟨h1, h2⟩ | ⟨h1, h2⟩
      all_goals
        go_enter Tryz.func239, Tryz.ntmps239
        go_wp2
        go_ret
        exact ⟨by rw [HR.out]; rfl, (by repeat (first | with_reducible exact hW | with_reducible apply below_drewN' | with_reducible apply Below.drew | (with_reducible refine Below.alloc ?_ (by first | omega | (simp; omega) | simp) _) | (with_reducible refine Below.setCell ?_ (by first | omega | (simp; omega) | simp) _) | exact hW))⟩
theorem movePred (w : World) : PredMove 238 #[] (fun m => !moveB m) w := by
  intro m W _
  have H := fun W => Lib.hid (isMove_c m.kind m.scale m.digits m.tens W)
  obtain ⟨k, s, a, b⟩ := m
  unfold Move.agg
  simp only at H ⊢
  have hW : Below W.heap.size W (W.alloc (.cells #[.int .i64 k, .int .i64 s, .int .i64 a, .int .i64 b] 72)) := (by repeat (first | with_reducible exact Below.refl _ _ | with_reducible apply below_drewN' | with_reducible apply Below.drew | (with_reducible refine Below.alloc ?_ (by first | omega | (simp; omega) | simp) _) | (with_reducible refine Below.setCell ?_ (by first | omega | (simp; omega) | simp) _) | exact Below.refl _ _))
  generalize moveB ⟨k, s, a, b⟩ = mb at *
  go_enter Tryz.func238, Tryz.ntmps238
  go_wp2_with (go_at_call 239; refine Calls.mono (H _).out ?_; rintro e w1 ⟨rfl, hb1⟩; have hW1 := hW.trans (hb1.mono hW.size))
  go_ret
  exact ⟨rfl, (by repeat (first | with_reducible exact hW1 | with_reducible apply below_drewN' | with_reducible apply Below.drew | (with_reducible refine Below.alloc ?_ (by first | omega | (simp; omega) | simp) _) | (with_reducible refine Below.setCell ?_ (by first | omega | (simp; omega) | simp) _) | exact hW1))⟩
set_option maxRecDepth 100000 in
theorem allMoves_c (A : Option Addr) (c : Nat) (l : List Move) (w : World) (hl : l.length ≤ 140737488351232) (hs : Sl w w.heap.size 4 A (l.map Move.cells)) :
    Calls Tryz.prog 199 #[.slice A l.length c] w fun e w' => e = .returned (.bool (l.all moveB)) ∧ Below w.heap.size w w' := by
  have hcall := containsFuncMove_c A c l 238 #[] (fun t => !moveB t) w (enters_of Tryz.func238 (by kernel_rfl) rfl) (movePred w) hl hs
  have hall : l.any (fun t => !moveB t) = !(l.all moveB) := by rw [List.any_eq_not_all_not]; simp
  rw [hall] at hcall
  have HC := Lib.hid hcall
  clear hcall hall
  generalize l.all moveB = b at *
  go_enter Tryz.func199, Tryz.ntmps199
  go_wp2_with fail
  refine Calls.mono HC.out ?_; rintro e w1 ⟨rfl, hb1⟩
  go_wp2
  go_ret
  exact ⟨by simp, (by repeat (first | with_reducible exact hb1 | with_reducible apply below_drewN' | with_reducible apply Below.drew | (with_reducible refine Below.alloc ?_ (by first | omega | (simp; omega) | simp) _) | (with_reducible refine Below.setCell ?_ (by first | omega | (simp; omega) | simp) _) | exact hb1))⟩
/-- whether a list of moves is valid -/
def movesB (l : List Move) : Bool := decide (l.length ≤ 30) && l.all moveB
theorem movesCode_eq (l : List Move) : (movesCode l == 0) = movesB l := by
  unfold movesCode movesB
  cases l.all moveB
  · simp
  · by_cases h : 30 < l.length
    · simp [h]
    · simp [h]; omega
theorem areMoves_c (A : Option Addr) (c : Nat) (l : List Move) (w : World) (hl : l.length ≤ 140737488351232) (hs : Sl w w.heap.size 4 A (l.map Move.cells)) :
    Calls Tryz.prog 188 #[.slice A l.length c] w fun e w' => e = .returned (.bool (movesB l)) ∧ Below w.heap.size w w' := by
  have HC := Lib.hid (allMoves_c A c l w hl hs)
  unfold movesB
  by_cases h : l.length ≤ 30
  · have h' : (l.length : Int) ≤ 30 := by omega
    rw [decide_eq_true h]
    generalize l.all moveB = b at *
    go_enter Tryz.func188, Tryz.ntmps188
    go_wp2_with fail
    refine Calls.mono HC.out ?_; rintro e w1 ⟨rfl, hb1⟩
    go_wp2
    go_ret
    exact ⟨by simp, (by repeat (first | with_reducible exact hb1 | with_reducible apply below_drewN' | with_reducible apply Below.drew | (with_reducible refine Below.alloc ?_ (by first | omega | (simp; omega) | simp) _) | (with_reducible refine Below.setCell ?_ (by first | omega | (simp; omega) | simp) _) | exact hb1))⟩
  · have h' : ¬ (l.length : Int) ≤ 30 := by omega
    rw [decide_eq_false h]
    go_enter Tryz.func188, Tryz.ntmps188
    go_wp2_with fail
    go_wp2
    go_ret
    exact ⟨by simp, (by repeat (first | with_reducible exact Below.refl _ _ | with_reducible apply below_drewN' | with_reducible apply Below.drew | (with_reducible refine Below.alloc ?_ (by first | omega | (simp; omega) | simp) _) | (with_reducible refine Below.setCell ?_ (by first | omega | (simp; omega) | simp) _) | exact Below.refl _ _))⟩
theorem specAreMoves_c (A : Option Addr) (c : Nat) (l : List Move) (w : World) (hl : l.length ≤ 140737488351232) (hs : Sl w w.heap.size 4 A (l.map Move.cells)) :
    Calls Tryz.prog 133 #[.slice A l.length c] w fun e w' => e = .returned (.bool (movesB l)) ∧ Below w.heap.size w w' := by
  have HC := Lib.hid (l12Code_c A c l w hl hs)
  have HR := Lib.hid (movesCode_eq l)
  generalize movesCode l = b at *
  go_enter Tryz.func133, Tryz.ntmps133
  go_wp2_with fail
  refine Calls.mono HC.out ?_; rintro e w1 ⟨rfl, hb1⟩
  go_wp2
  go_ret
  exact ⟨by rw [← HR.out]; rfl, (by repeat (first | with_reducible exact hb1 | with_reducible apply below_drewN' | with_reducible apply Below.drew | (with_reducible refine Below.alloc ?_ (by first | omega | (simp; omega) | simp) _) | (with_reducible refine Below.setCell ?_ (by first | omega | (simp; omega) | simp) _) | exact hb1))⟩
end Go.Proofs.YtgkobjpoeajkdaaGreat
namespace Go.Proofs.YtgkobjpoeajkdaaGreat
open Go.RowKit
/-- an answer's moves, as they lie in w -/
structure AnIn (w : World) (A : Option Addr) (c : Nat) (l : List Move) : Prop where
  n : l.length ≤ 1048576
  k : l.length ≤ c
  s : Sl w w.heap.size 4 A (l.map Move.cells)
theorem AnIn.later {w W : World} {A : Option Addr} {c : Nat} {l : List Move} (E : AnIn w A c l) (hW : Below w.heap.size w W) : AnIn W A c l := ⟨E.n, E.k, (E.s.below hW).more hW.size⟩
structure AnR where
  A : Option Addr
  c : Nat
  l : List Move
  a : Int
  b : Int
def AnR.cells (e : AnR) : List Value := [.slice e.A e.l.length e.c, .int .i64 e.a, .int .i64 e.b]
def AnR.agg (e : AnR) : Value := .agg #[.slice e.A e.l.length e.c, .int .i64 e.a, .int .i64 e.b]
def AnR.In (e : AnR) (w : World) : Prop := AnIn w e.A e.c e.l
/-- whether an answer is valid -/
def ansB (l : List Move) (a b : Int) : Bool := movesB l && figOK ⟨a, b⟩
def AnR.ok (e : AnR) : Bool := ansB e.l e.a e.b
structure AnsIn (w : World) (A : Option Addr) (es : List AnR) : Prop where
  n : es.length ≤ 1048576
  s : Sl w w.heap.size 3 A (es.map AnR.cells)
  i : ∀ e ∈ es, e.In w
theorem AnsIn.later {w W : World} {A : Option Addr} {es : List AnR} (h : AnsIn w A es) (hW : Below w.heap.size w W) : AnsIn W A es := ⟨h.n, (h.s.below hW).more hW.size, fun e he => AnIn.later (h.i e he) hW⟩
set_option maxRecDepth 100000 in
theorem isAnswer_c (A : Option Addr) (c : Nat) (l : List Move) (a b : Int) (w : World) (E : AnIn w A c l) :
    Calls Tryz.prog 138 #[.agg #[.slice A l.length c, .int .i64 a, .int .i64 b]] w fun e w' => e = .returned (.bool (ansB l a b)) ∧ Below w.heap.size w w' := by
  have hW : Below w.heap.size w (w.alloc (.cells #[.slice A l.length c, .int .i64 a, .int .i64 b] 67)) := (by repeat (first | with_reducible exact Below.refl _ _ | with_reducible apply below_drewN' | with_reducible apply Below.drew | (with_reducible refine Below.alloc ?_ (by first | omega | (simp; omega) | simp) _) | (with_reducible refine Below.setCell ?_ (by first | omega | (simp; omega) | simp) _) | exact Below.refl _ _))
  have HM := Lib.hid (areMoves_c A c l _ (by have := E.n; omega) (E.later hW).s)
  have HF0 := fun W => implIsFigure_c ⟨a, b⟩ W
  unfold Figure.agg at HF0
  have HF := fun W => Lib.hid (HF0 W)
  clear HF0 E
  have B1 := Blk.new w 67 #[.slice A l.length c, .int .i64 a, .int .i64 b]
  unfold ansB
  generalize figOK ⟨a, b⟩ = v at *
  generalize movesB l = u at *
  go_enter Tryz.func138, Tryz.ntmps138
  go_wp2_with fail
  refine Calls.mono HM.out ?_; rintro e w1 ⟨rfl, hb1⟩
  have C1 := B1.below hb1 B1.lt
  have y1 : w1.cell? ⟨w.heap.size, 1, none⟩ = some (.int .i64 a) := C1.cell 1
  have y2 : w1.cell? ⟨w.heap.size, 2, none⟩ = some (.int .i64 b) := C1.cell 2
  have hW1 := hW.trans (hb1.mono hW.size)
  clear HM hW B1 C1 hb1
  cases u
  · go_wp2
    go_ret
    exact ⟨rfl, (by repeat (first | with_reducible exact hW1 | with_reducible apply below_drewN' | with_reducible apply Below.drew | (with_reducible refine Below.alloc ?_ (by first | omega | (simp; omega) | simp) _) | (with_reducible refine Below.setCell ?_ (by first | omega | (simp; omega) | simp) _) | exact hW1))⟩
  · go_wp2_with (go_at_call 189; refine Calls.mono (HF _).out ?_; rintro e w2 ⟨rfl, hb2⟩; have hW2 := hW1.trans (hb2.mono hW1.size))
    go_ret
    exact ⟨rfl, (by repeat (first | with_reducible exact hW2 | with_reducible apply below_drewN' | with_reducible apply Below.drew | (with_reducible refine Below.alloc ?_ (by first | omega | (simp; omega) | simp) _) | (with_reducible refine Below.setCell ?_ (by first | omega | (simp; omega) | simp) _) | exact hW2))⟩
set_option maxRecDepth 100000 in
theorem l31Answer_c (A : Option Addr) (c : Nat) (l : List Move) (a b : Int) (w : World) (E : AnIn w A c l) :
    Calls Tryz.prog 86 #[.agg #[.slice A l.length c, .int .i64 a, .int .i64 b]] w fun e w' => e = .returned (.bool (ansB l a b)) ∧ Below w.heap.size w w' := by
  have hW : Below w.heap.size w (w.alloc (.cells #[.slice A l.length c, .int .i64 a, .int .i64 b] 67)) := (by repeat (first | with_reducible exact Below.refl _ _ | with_reducible apply below_drewN' | with_reducible apply Below.drew | (with_reducible refine Below.alloc ?_ (by first | omega | (simp; omega) | simp) _) | (with_reducible refine Below.setCell ?_ (by first | omega | (simp; omega) | simp) _) | exact Below.refl _ _))
  have HM := Lib.hid (specAreMoves_c A c l _ (by have := E.n; omega) (E.later hW).s)
  have HF0 := fun W => specIsFigure_c ⟨a, b⟩ W
  unfold Figure.agg at HF0
  have HF := fun W => Lib.hid (HF0 W)
  clear HF0 E
  have B1 := Blk.new w 67 #[.slice A l.length c, .int .i64 a, .int .i64 b]
  unfold ansB
  generalize figOK ⟨a, b⟩ = v at *
  generalize movesB l = u at *
  go_enter Tryz.func86, Tryz.ntmps86
  go_wp2_with fail
  refine Calls.mono HM.out ?_; rintro e w1 ⟨rfl, hb1⟩
  have C1 := B1.below hb1 B1.lt
  have y1 : w1.cell? ⟨w.heap.size, 1, none⟩ = some (.int .i64 a) := C1.cell 1
  have y2 : w1.cell? ⟨w.heap.size, 2, none⟩ = some (.int .i64 b) := C1.cell 2
  have hW1 := hW.trans (hb1.mono hW.size)
  clear HM hW B1 C1 hb1
  cases u
  · go_wp2
    go_ret
    exact ⟨rfl, (by repeat (first | with_reducible exact hW1 | with_reducible apply below_drewN' | with_reducible apply Below.drew | (with_reducible refine Below.alloc ?_ (by first | omega | (simp; omega) | simp) _) | (with_reducible refine Below.setCell ?_ (by first | omega | (simp; omega) | simp) _) | exact hW1))⟩
  · go_wp2_with (go_at_call 134; refine Calls.mono (HF _).out ?_; rintro e w2 ⟨rfl, hb2⟩; have hW2 := hW1.trans (hb2.mono hW1.size))
    go_ret
    exact ⟨rfl, (by repeat (first | with_reducible exact hW2 | with_reducible apply below_drewN' | with_reducible apply Below.drew | (with_reducible refine Below.alloc ?_ (by first | omega | (simp; omega) | simp) _) | (with_reducible refine Below.setCell ?_ (by first | omega | (simp; omega) | simp) _) | exact hW2))⟩
def PredAn (g : FuncId) (lb : Array Value) (o : AnR → Bool) (es : List AnR) (w : World) : Prop :=
  ∀ (x : AnR) (W : World), x ∈ es → Below w.heap.size w W → Calls Tryz.prog g (#[x.agg] ++ lb) W fun e w' => e = .returned (.bool (o x)) ∧ Below W.heap.size W w'
def IdxPostAn (o : AnR → Bool) (l : List AnR) (w : World) (e : Ending) (w' : World) : Prop :=
  ∃ r : Int, e = .returned (.int .i64 r) ∧ decide (0 ≤ r) = l.any o ∧ Below w.heap.size w w'
set_option maxRecDepth 100000 in
theorem indexFuncAn_c (A : Option Addr) (c : Nat) (l : List AnR) (g : FuncId) (lb : Array Value) (o : AnR → Bool) (w : World)
    (eg : ∀ args w, (callFunc g args).run Tryz.prog w = .ok (.enter g args) w) (hp : PredAn g lb o l w) (E : AnsIn w A l) :
    Calls Tryz.prog 187 #[.slice A l.length c, .func (.func g) #[] lb] w (IdxPostAn o l w) := by
  have hl := E.n
  have hs := E.s
  clear E
  go_enter Tryz.func187, Tryz.ntmps187
  go_wp2_with fail
  go_loopw [8] (fun i wr => ∃ k : Nat, k ≤ l.length ∧ i = .int .i64 k ∧ Below w.heap.size w wr ∧ Hid ((l.take k).any o = false)) (fun i _ => l.length - (intOf i).toNat)
  case atStart => exact ⟨0, Nat.zero_le _, rfl, Below.refl _ _, (show (l.take 0).any o = false from by simp)⟩
  case round =>
    obtain ⟨k, hk, rfl, hb, hn⟩ := hrel
    by_cases hlt : k < l.length
    · obtain ⟨b, off, rfl, hbB, hc⟩ := hs.at_ (i := k) (by simpa using hlt)
      simp only [List.getElem_map] at hc
      have c0 : wr.cell? ⟨b, off + k * 3, none⟩ = some (.slice l[k].A l[k].l.length l[k].c) := by rw [hb.cell hbB]; exact hc 0 _ rfl
      have c1 : wr.cell? ⟨b, off + k * 3 + 1, none⟩ = some (.int .i64 l[k].a) := by rw [hb.cell hbB]; exact hc 1 _ rfl
      have c2 : wr.cell? ⟨b, off + k * 3 + 2, none⟩ = some (.int .i64 l[k].b) := by rw [hb.cell hbB]; exact hc 2 _ rfl
      clear hc
      have hcall := hp l[k] wr (List.getElem_mem hlt) hb
      unfold AnR.agg at hcall
      have hnx : (l.take (k + 1)).any o = ((l.take k).any o || o l[k]) := by rw [List.take_succ_eq_append_getElem hlt, List.any_append]; simp
      have hnx := Lib.hid hnx
      have hmem : Hid (l[k] ∈ l) := List.getElem_mem hlt
      clear hp
      generalize l[k] = ek at *
      cases hq : o ek with
      | true =>
        have hq' := Lib.hid hq
        rw [hq] at hcall
        have hcall := Lib.hid hcall
        clear hq
        go_wp2_with (go_at_fn g; refine hcall.out.mono ?_; rintro e w1 ⟨rfl, hb1⟩)
        go_ret
        refine ⟨k, rfl, ?_, hb.trans (hb1.mono hb.size)⟩
        rw [show l.any o = true from List.any_eq_true.2 ⟨ek, hmem.out, hq'.out⟩]
        simp
      | false =>
        have hq' := Lib.hid hq
        rw [hq] at hcall
        have hcall := Lib.hid hcall
        clear hq
        go_wp2_with (go_at_fn g; refine hcall.out.mono ?_; rintro e w1 ⟨rfl, hb1⟩)
        go_roundw
        case rel => exact ⟨k + 1, by omega, by go_num, hb.trans (hb1.mono hb.size), (show _ = false from by rw [hnx.out, hn.out, hq'.out]; rfl)⟩
        case measure => simp [intOf]; omega
    · have : k = l.length := by omega
      subst this
      go_wp2
      go_ret
      refine ⟨-1, rfl, ?_, hb⟩
      have := hn.out
      rw [List.take_length] at this
      rw [this]
      rfl
theorem containsFuncAn_c (A : Option Addr) (c : Nat) (l : List AnR) (g : FuncId) (lb : Array Value) (o : AnR → Bool) (w : World)
    (eg : ∀ args w, (callFunc g args).run Tryz.prog w = .ok (.enter g args) w) (hp : PredAn g lb o l w) (E : AnsIn w A l) :
    Calls Tryz.prog 136 #[.slice A l.length c, .func (.func g) #[] lb] w fun e w' => e = .returned (.bool (l.any o)) ∧ Below w.heap.size w w' := by
  have H := Lib.hid (indexFuncAn_c A c l g lb o w eg hp E)
  clear hp E eg
  go_enter Tryz.func136, Tryz.ntmps136
  go_wp2_with fail
  refine H.out.mono ?_
  rintro e w1 ⟨r, rfl, hr, hb⟩
  go_wp2
  go_ret
  exact ⟨rfl, hb⟩
set_option maxRecDepth 100000 in
theorem ansPred (es : List AnR) (w : World) (hi : ∀ e ∈ es, e.In w) : PredAn 137 #[] (fun e => !e.ok) es w := by
  intro x W hx hW
  have HX := fun (W' : World) (h : Below W.heap.size W W') => Lib.hid (isAnswer_c x.A x.c x.l x.a x.b W' (AnIn.later (AnIn.later (hi x hx) hW) h))
  clear hi hx hW
  obtain ⟨A, c, l, a, b⟩ := x
  show Calls _ _ _ _ _
  unfold AnR.agg AnR.ok
  simp only at HX ⊢
  have hW : Below W.heap.size W (W.alloc (.cells #[.slice A l.length c, .int .i64 a, .int .i64 b] 67)) := (by repeat (first | with_reducible exact Below.refl _ _ | with_reducible apply below_drewN' | with_reducible apply Below.drew | (with_reducible refine Below.alloc ?_ (by first | omega | (simp; omega) | simp) _) | (with_reducible refine Below.setCell ?_ (by first | omega | (simp; omega) | simp) _) | exact Below.refl _ _))
  generalize ansB l a b = bb at *
  go_enter Tryz.func137, Tryz.ntmps137
  go_wp2_with fail
  generalize W.alloc (.cells #[.slice A l.length c, .int .i64 a, .int .i64 b] 67) = W1 at *
  refine Calls.mono (HX W1 hW).out ?_; rintro e w1 ⟨rfl, hb1⟩
  have hv := hW.trans (hb1.mono hW.size)
  go_wp2
  go_ret
  exact ⟨rfl, (by repeat (first | with_reducible exact hv | with_reducible apply below_drewN' | with_reducible apply Below.drew | (with_reducible refine Below.alloc ?_ (by first | omega | (simp; omega) | simp) _) | (with_reducible refine Below.setCell ?_ (by first | omega | (simp; omega) | simp) _) | exact hv))⟩
set_option maxRecDepth 100000 in
theorem checkAnswer_c (L : Int) (A1 : Option Addr) (c1 : Nat) (l1 : List Int) (A2 : Option Addr) (c2 : Nat) (l2 : List Int) (A3 : Option Addr) (c3 : Nat) (l3 : List Term) (p q r : Int) (A : Option Addr) (c : Nat) (es : List AnR) (w : World) (E : ExIn w A1 c1 l1 A2 c2 l2 A3 c3 l3) (F : AnsIn w A es) :
    Calls Tryz.prog 90 #[.agg #[.int .i64 L, .slice A1 l1.length c1, .slice A2 l2.length c2, .slice A3 l3.length c3, .int .i64 p, .int .i64 q, .int .i64 r], .slice A es.length c] w fun e w' => e = .returned (.int .i64 (if (exB L l1 l2 l3 p q r && es.all AnR.ok) = true then 0 else 1)) ∧ Below w.heap.size w w' := by
  have hW : Below w.heap.size w (w.alloc (.cells #[.int .i64 L, .slice A1 l1.length c1, .slice A2 l2.length c2, .slice A3 l3.length c3, .int .i64 p, .int .i64 q, .int .i64 r] 36)) := (by repeat (first | with_reducible exact Below.refl _ _ | with_reducible apply below_drewN' | with_reducible apply Below.drew | (with_reducible refine Below.alloc ?_ (by first | omega | (simp; omega) | simp) _) | (with_reducible refine Below.setCell ?_ (by first | omega | (simp; omega) | simp) _) | exact Below.refl _ _))
  have HX := Lib.hid (implIsExercise_c L A1 c1 l1 A2 c2 l2 A3 c3 l3 p q r _ (E.later hW))
  have hall : es.any (fun e => !e.ok) = !(es.all AnR.ok) := by rw [List.any_eq_not_all_not]; simp
  have HC : Hid (∀ W, Below w.heap.size w W → Calls Tryz.prog 136 #[.slice A es.length c, .func (.func 137) #[] #[]] W fun e w' => e = .returned (.bool (!(es.all AnR.ok))) ∧ Below W.heap.size W w') := fun W hW => by
    have F' := F.later hW
    have hcall := containsFuncAn_c A c es 137 #[] (fun e => !e.ok) W (enters_of Tryz.func137 (by kernel_rfl) rfl) (ansPred es W F'.i) F'
    rw [hall] at hcall
    exact hcall
  clear E F hall
  generalize es.all AnR.ok = v at *
  generalize exB L l1 l2 l3 p q r = u at *
  cases u
  · go_enter Tryz.func90, Tryz.ntmps90
    go_wp2_with fail
    refine Calls.mono HX.out ?_; rintro e w1 ⟨rfl, hb1⟩
    have hW1 := hW.trans (hb1.mono hW.size)
    go_wp2
    go_ret
    exact ⟨rfl, (by repeat (first | with_reducible exact hW1 | with_reducible apply below_drewN' | with_reducible apply Below.drew | (with_reducible refine Below.alloc ?_ (by first | omega | (simp; omega) | simp) _) | (with_reducible refine Below.setCell ?_ (by first | omega | (simp; omega) | simp) _) | exact hW1))⟩
  · cases v
    all_goals
      go_enter Tryz.func90, Tryz.ntmps90
      go_wp2_with fail
      refine Calls.mono HX.out ?_; rintro e w1 ⟨rfl, hb1⟩
      have hW1 := hW.trans (hb1.mono hW.size)
      go_wp2_with fail
      refine Calls.mono (HC.out _ hW1) ?_; rintro e w2 ⟨rfl, hb2⟩
      have hW2 := hW1.trans (hb2.mono hW1.size)
      go_wp2
      go_ret
      exact ⟨rfl, (by repeat (first | with_reducible exact hW2 | with_reducible apply below_drewN' | with_reducible apply Below.drew | (with_reducible refine Below.alloc ?_ (by first | omega | (simp; omega) | simp) _) | (with_reducible refine Below.setCell ?_ (by first | omega | (simp; omega) | simp) _) | exact hW2))⟩
end Go.Proofs.YtgkobjpoeajkdaaGreat
namespace Go.Proofs.YtgkobjpoeajkdaaGreat
open Go.RowKit
/-- how many moves at the head of both lists are alike -/
def stepN : List Move → List Move → Nat
  | x :: xs, y :: ys => if x = y then stepN xs ys + 1 else 0
  | _, _ => 0
theorem stepN_eq : ∀ {ms l : List Move} {k : Nat}, k ≤ ms.length → k ≤ l.length → (∀ j, j < k → ms[j]? = l[j]?) → (k = ms.length ∨ k = l.length ∨ ∃ x y, ms[k]? = some x ∧ l[k]? = some y ∧ x ≠ y) → stepN ms l = k
  | [], l, k, h1, _, _, _ => by
    have : k = 0 := by simpa using h1
    subst this
    unfold stepN
    cases l <;> rfl
  | x :: xs, [], k, _, h2, _, _ => by
    have : k = 0 := by simpa using h2
    subst this
    rfl
  | x :: xs, y :: ys, 0, _, _, _, he => by
    unfold stepN
    rcases he with he | he | ⟨a, b, ha, hb, hn⟩
    · simp at he
    · simp at he
    · simp at ha hb
      subst ha
      subst hb
      rw [if_neg hn]
  | x :: xs, y :: ys, k + 1, h1, h2, h, he => by
    have h0 := h 0 (by omega)
    simp at h0
    unfold stepN
    rw [if_pos h0, stepN_eq (k := k) (by simpa using h1) (by simpa using h2) (fun j hj => by have := h (j + 1) (by omega); simpa using this) (by simpa using he)]
theorem stepN_le : ∀ {ms l : List Move}, stepN ms l ≤ ms.length ∧ stepN ms l ≤ l.length
  | [], l => by unfold stepN; cases l <;> simp
  | x :: xs, [] => by simp [stepN]
  | x :: xs, y :: ys => by
    unfold stepN
    have := stepN_le (ms := xs) (l := ys)
    split
    · simp; omega
    · simp
theorem mvEq_eq (x y : Move) : (decide (x.kind = y.kind) && (decide (x.scale = y.scale) && ((decide (x.digits = y.digits) && (decide (x.tens = y.tens) && true)) && true))) = decide (x = y) := by
  obtain ⟨a, b, c, d⟩ := x
  obtain ⟨a', b', c', d'⟩ := y
  rw [Bool.eq_iff_iff]
  simp
theorem ex_usual {w : World} {L : Int} {A1 : Option Addr} {c1 : Nat} {l1 : List Int} {A2 : Option Addr} {c2 : Nat} {l2 : List Int} {A3 : Option Addr} {c3 : Nat} {l3 : List Term} {p q r : Int} (h : exB L l1 l2 l3 p q r = true) (E : ExIn w A1 c1 l1 A2 c2 l2 A3 c3 l3) : RuleIn w A1 l1 A2 l2 ∧ 0 < l3.length ∧ l3.length ≤ 6 ∧ l3.all termOK = true := by
  unfold exB at h
  have hc : exCode L l1 l2 l3 p q r = 0 := by simpa using h
  by_cases hb : boundCode L l1 l2 l3 p q r = 0
  · obtain ⟨b1, b2, b3, b4, b5⟩ := bound_parts hb
    obtain ⟨k1, k2, k3, k4⟩ := chainB_parts b2
    exact ⟨ExIn.rule E b3 b4, k1, k2, k3⟩
  · rw [(ex_bad hb).2.2] at hc
    exact absurd hc hb
set_option maxRecDepth 100000 in
set_option maxHeartbeats 2000000 in
theorem stepOf_c (L : Int) (A1 : Option Addr) (c1 : Nat) (l1 : List Int) (A2 : Option Addr) (c2 : Nat) (l2 : List Int) (A3 : Option Addr) (c3 : Nat) (l3 : List Term) (p q r : Int) (A : Option Addr) (c : Nat) (l : List Move) (a b : Int) (w : World) (E : ExIn w A1 c1 l1 A2 c2 l2 A3 c3 l3) (hx : exB L l1 l2 l3 p q r = true) (F : AnIn w A c l) :
    Calls Tryz.prog 91 #[.agg #[.int .i64 L, .slice A1 l1.length c1, .slice A2 l2.length c2, .slice A3 l3.length c3, .int .i64 p, .int .i64 q, .int .i64 r], .agg #[.slice A l.length c, .int .i64 a, .int .i64 b]] w fun e w' => (∃ A' c', e = .returned (.tuple #[.int .i64 (stepN (usualP l3).ms l), .slice A' (usualP l3).ms.length c']) ∧ (usualP l3).ms.length ≤ c' ∧ Sl w' w'.heap.size 4 A' ((usualP l3).ms.map Move.cells)) ∧ Below w.heap.size w w' := by
  have hGt : Tryz.prog.eqGuardType Tryz.prog.depth 72 = false := by kernel_rfl
  have hW0 : Below w.heap.size w ((w.alloc (.cells #[.int .i64 L, .slice A1 l1.length c1, .slice A2 l2.length c2, .slice A3 l3.length c3, .int .i64 p, .int .i64 q, .int .i64 r] 36)).alloc (.cells #[.slice A l.length c, .int .i64 a, .int .i64 b] 67)) := (by repeat (first | with_reducible exact Below.refl _ _ | with_reducible apply below_drewN' | with_reducible apply Below.drew | (with_reducible refine Below.alloc ?_ (by first | omega | (simp; omega) | simp) _) | (with_reducible refine Below.setCell ?_ (by first | omega | (simp; omega) | simp) _) | exact Below.refl _ _))
  have B0 := Blk.new' (w.alloc (.cells #[.int .i64 L, .slice A1 l1.length c1, .slice A2 l2.length c2, .slice A3 l3.length c3, .int .i64 p, .int .i64 q, .int .i64 r] 36)) 67 #[.slice A l.length c, .int .i64 a, .int .i64 b] (g := w.heap.size + 1) (by simp)
  obtain ⟨R, r1, r2, r3⟩ := ex_usual hx E
  have hms : (usualP l3).ms.length ≤ 19 := (usual_ok r1 r2 r3).2
  have HU := Lib.hid (usualPlan_c L A1 c1 l1 A2 c2 l2 A3 c3 l3 _ (R.later hW0) r1 r2 E.k3 r3 (E.later hW0).s3)
  have hl := F.n
  have F0 := F.later hW0
  clear E R r1 r2 r3 hx F
  generalize (usualP l3).ms = ms at *
  go_enter Tryz.func91, Tryz.ntmps91
  go_wp2_with fail
  generalize ((w.alloc (.cells #[.int .i64 L, .slice A1 l1.length c1, .slice A2 l2.length c2, .slice A3 l3.length c3, .int .i64 p, .int .i64 q, .int .i64 r] 36)).alloc (.cells #[.slice A l.length c, .int .i64 a, .int .i64 b] 67)) = W at *
  refine Calls.mono HU.out ?_; rintro e w1 ⟨A', c', rfl, hO, hb1⟩; have hs' := hO.sl; have hk' := hO.le_cap; clear hO
  have hW1 := hW0.trans (hb1.mono hW0.size)
  have B1 := B0.below hb1 B0.lt
  have F1 := F0.later hb1
  clear HU hW0 B0 F0 hb1
  have hba : Below w1.heap.size w1 (w1.alloc (.cells #[.int .i64 (usualP l3).sh, .int .i64 (usualP l3).cu] 110)) := (Below.refl _ _).alloc (Nat.le_refl _) _
  have hW2 := hW1.trans (hba.mono hW1.size)
  have B2 := B1.below hba B1.lt
  have hs' := (hs'.below hba).more hba.size
  have F2 := F1.later hba
  clear hW1 B1 F1 hba
  go_wp2_with fail
  generalize w1.alloc (.cells #[.int .i64 (usualP l3).sh, .int .i64 (usualP l3).cu] 110) = w2 at *
  have hs := F2.s
  have hgB := B2.lt
  have y0 : w2.cell? ⟨w.heap.size + 1, 0, none⟩ = some (.slice A l.length c) := B2.cell 0
  clear B2 F2
  go_loopw [8] (fun i wr => ∃ k : Nat, k ≤ ms.length ∧ k ≤ l.length ∧ i = .int .i64 k ∧ Below w2.heap.size w2 wr ∧ Hid (∀ j, j < k → ms[j]? = l[j]?)) (fun i _ => ms.length - (intOf i).toNat)
  case atStart => exact ⟨0, Nat.zero_le _, Nat.zero_le _, rfl, Below.refl _ _, fun j h => by omega⟩
  case round =>
    obtain ⟨k, hk1, hk2, rfl, hb, hn⟩ := hrel
    have x0 : wr.cell? ⟨w.heap.size + 1, 0, none⟩ = some (.slice A l.length c) := by rw [hb.cell hgB]; exact y0
    have hWr := hW2.trans (hb.mono hW2.size)
    have k0 : (0 : Int) ≤ (k : Int) := by omega
    have HSr : Sl wr wr.heap.size 4 A' (ms.map Move.cells) := (hs'.below hb).more hb.size
    by_cases h1 : k < ms.length
    · have i1 : (k : Int) < (ms.length : Int) := by omega
      by_cases h2 : k < l.length
      · have i2 : (k : Int) < (l.length : Int) := by omega
        obtain ⟨b2, off2, rfl, b2B, hc2⟩ := hs.at_ (i := k) (by simpa using h2)
        obtain ⟨b1, off1, rfl, b1B, hc1⟩ := hs'.at_ (i := k) (by simpa using h1)
        simp only [List.getElem_map] at hc1 hc2
        have m0 : wr.cell? ⟨b1, off1 + k * 4, none⟩ = some (.int .i64 ms[k].kind) := by rw [hb.cell b1B]; exact hc1 0 _ rfl
        have m1 : wr.cell? ⟨b1, off1 + k * 4 + 1, none⟩ = some (.int .i64 ms[k].scale) := by rw [hb.cell b1B]; exact hc1 1 _ rfl
        have m2 : wr.cell? ⟨b1, off1 + k * 4 + 2, none⟩ = some (.int .i64 ms[k].digits) := by rw [hb.cell b1B]; exact hc1 2 _ rfl
        have m3 : wr.cell? ⟨b1, off1 + k * 4 + 3, none⟩ = some (.int .i64 ms[k].tens) := by rw [hb.cell b1B]; exact hc1 3 _ rfl
        have n0 : wr.cell? ⟨b2, off2 + k * 4, none⟩ = some (.int .i64 l[k].kind) := by rw [hb.cell b2B]; exact hc2 0 _ rfl
        have n1 : wr.cell? ⟨b2, off2 + k * 4 + 1, none⟩ = some (.int .i64 l[k].scale) := by rw [hb.cell b2B]; exact hc2 1 _ rfl
        have n2 : wr.cell? ⟨b2, off2 + k * 4 + 2, none⟩ = some (.int .i64 l[k].digits) := by rw [hb.cell b2B]; exact hc2 2 _ rfl
        have n3 : wr.cell? ⟨b2, off2 + k * 4 + 3, none⟩ = some (.int .i64 l[k].tens) := by rw [hb.cell b2B]; exact hc2 3 _ rfl
        clear hc1 hc2
        have HQ := fun W => eqMov ms[k].kind ms[k].scale ms[k].digits ms[k].tens l[k].kind l[k].scale l[k].digits l[k].tens W
        rw [mvEq_eq] at HQ
        have e1 : Hid (ms[k]? = some ms[k]) := List.getElem?_eq_getElem h1
        have e2 : Hid (l[k]? = some l[k]) := List.getElem?_eq_getElem h2
        generalize ms[k] = x at *
        generalize l[k] = y at *
        by_cases he : x = y
        · have hN : Hid (∀ j, j < k + 1 → ms[j]? = l[j]?) := fun j hj => by
            by_cases hjk : j < k
            · exact hn.out j hjk
            · obtain rfl : j = k := by omega
              rw [e1.out, e2.out, he]
          rw [decide_eq_true he] at HQ
          clear he e1 e2
          go_wp2_with fail
          go_quiet (fail)
          go_wp2
          go_roundw
          case rel => exact ⟨k + 1, by omega, by omega, by go_num, (by first | exact below_drewN' hb _ | exact hb.drew), hN⟩
          case measure => simp [intOf]; omega
        · have hst : Hid (stepN ms l = k) := stepN_eq hk1 hk2 hn.out (.inr (.inr ⟨x, y, e1.out, e2.out, he⟩))
          rw [decide_eq_false he] at HQ
          clear he e1 e2
          go_wp2_with fail
          go_quiet (fail)
          go_wp2
          refine bodyPost_ret (v := .tuple #[.int .i64 k, .slice _ ms.length c']) (by simp [results, Tryz.results91, go_sem]; rfl) rfl ⟨⟨_, c', by rw [hst.out], hk', by first | exact HSr | exact HSr.drewN _⟩, (by repeat (first | with_reducible exact hWr | with_reducible apply below_drewN' | with_reducible apply Below.drew | (with_reducible refine Below.alloc ?_ (by first | omega | (simp; omega) | simp) _) | (with_reducible refine Below.setCell ?_ (by first | omega | (simp; omega) | simp) _) | exact hWr))⟩
      · have hst : Hid (stepN ms l = k) := stepN_eq hk1 hk2 hn.out (.inr (.inl (by omega)))
        have hd2 : decide ((k : Int) < (l.length : Int)) = false := decide_eq_false (by omega)
        go_wp2_with fail
        go_quiet (fail)
        go_wp2
        refine bodyPost_ret (v := .tuple #[.int .i64 k, .slice _ ms.length c']) (by simp [results, Tryz.results91, go_sem]; rfl) rfl ⟨⟨_, c', by rw [hst.out], hk', by first | exact HSr | exact HSr.drewN _⟩, (by repeat (first | with_reducible exact hWr | with_reducible apply below_drewN' | with_reducible apply Below.drew | (with_reducible refine Below.alloc ?_ (by first | omega | (simp; omega) | simp) _) | (with_reducible refine Below.setCell ?_ (by first | omega | (simp; omega) | simp) _) | exact hWr))⟩
    · have hst : Hid (stepN ms l = k) := stepN_eq hk1 hk2 hn.out (.inl (by omega))
      have hd1 : decide ((k : Int) < (ms.length : Int)) = false := decide_eq_false (by omega)
      go_wp2_with fail
      go_quiet (fail)
      go_wp2
      refine bodyPost_ret (v := .tuple #[.int .i64 k, .slice _ ms.length c']) (by simp [results, Tryz.results91, go_sem]; rfl) rfl ⟨⟨_, c', by rw [hst.out], hk', by first | exact HSr | exact HSr.drewN _⟩, (by repeat (first | with_reducible exact hWr | with_reducible apply below_drewN' | with_reducible apply Below.drew | (with_reducible refine Below.alloc ?_ (by first | omega | (simp; omega) | simp) _) | (with_reducible refine Below.setCell ?_ (by first | omega | (simp; omega) | simp) _) | exact hWr))⟩
set_option maxRecDepth 100000 in
set_option maxHeartbeats 2000000 in
theorem l31Step_c (L : Int) (A1 : Option Addr) (c1 : Nat) (l1 : List Int) (A2 : Option Addr) (c2 : Nat) (l2 : List Int) (A3 : Option Addr) (c3 : Nat) (l3 : List Term) (p q r : Int) (A : Option Addr) (c : Nat) (l : List Move) (a b : Int) (w : World) (E : ExIn w A1 c1 l1 A2 c2 l2 A3 c3 l3) (hx : exB L l1 l2 l3 p q r = true) (F : AnIn w A c l) :
    Calls Tryz.prog 87 #[.agg #[.int .i64 L, .slice A1 l1.length c1, .slice A2 l2.length c2, .slice A3 l3.length c3, .int .i64 p, .int .i64 q, .int .i64 r], .agg #[.slice A l.length c, .int .i64 a, .int .i64 b]] w fun e w' => e = .returned (.int .i64 (stepN (usualP l3).ms l)) ∧ Below w.heap.size w w' := by
  have hGt : Tryz.prog.eqGuardType Tryz.prog.depth 72 = false := by kernel_rfl
  have hW0 : Below w.heap.size w ((w.alloc (.cells #[.int .i64 L, .slice A1 l1.length c1, .slice A2 l2.length c2, .slice A3 l3.length c3, .int .i64 p, .int .i64 q, .int .i64 r] 36)).alloc (.cells #[.slice A l.length c, .int .i64 a, .int .i64 b] 67)) := (by repeat (first | with_reducible exact Below.refl _ _ | with_reducible apply below_drewN' | with_reducible apply Below.drew | (with_reducible refine Below.alloc ?_ (by first | omega | (simp; omega) | simp) _) | (with_reducible refine Below.setCell ?_ (by first | omega | (simp; omega) | simp) _) | exact Below.refl _ _))
  have B0 := Blk.new' (w.alloc (.cells #[.int .i64 L, .slice A1 l1.length c1, .slice A2 l2.length c2, .slice A3 l3.length c3, .int .i64 p, .int .i64 q, .int .i64 r] 36)) 67 #[.slice A l.length c, .int .i64 a, .int .i64 b] (g := w.heap.size + 1) (by simp)
  obtain ⟨R, r1, r2, r3⟩ := ex_usual hx E
  have hms : (usualP l3).ms.length ≤ 19 := (usual_ok r1 r2 r3).2
  have HU := Lib.hid (l14Usual_c L A1 c1 l1 A2 c2 l2 A3 c3 l3 _ (R.later hW0) r1 r2 r3 (E.later hW0).s3)
  have hl := F.n
  have F0 := F.later hW0
  clear E R r1 r2 r3 hx F
  generalize (usualP l3).ms = ms at *
  go_enter Tryz.func87, Tryz.ntmps87
  go_wp2_with fail
  generalize ((w.alloc (.cells #[.int .i64 L, .slice A1 l1.length c1, .slice A2 l2.length c2, .slice A3 l3.length c3, .int .i64 p, .int .i64 q, .int .i64 r] 36)).alloc (.cells #[.slice A l.length c, .int .i64 a, .int .i64 b] 67)) = W at *
  refine Calls.mono HU.out ?_; rintro e w1 ⟨A', c', rfl, hs', hb1⟩
  have hW1 := hW0.trans (hb1.mono hW0.size)
  have B1 := B0.below hb1 B0.lt
  have F1 := F0.later hb1
  clear HU hW0 B0 F0 hb1
  have hW2 := hW1
  have B2 := B1
  have F2 := F1
  clear hW1 B1 F1
  generalize w1 = w2 at *
  go_wp2_with fail
  have hs := F2.s
  have hgB := B2.lt
  have y0 : w2.cell? ⟨w.heap.size + 1, 0, none⟩ = some (.slice A l.length c) := B2.cell 0
  clear B2 F2
  go_loopw [6] (fun i wr => ∃ k : Nat, k ≤ ms.length ∧ k ≤ l.length ∧ i = .int .i64 k ∧ Below w2.heap.size w2 wr ∧ Hid (∀ j, j < k → ms[j]? = l[j]?)) (fun i _ => ms.length - (intOf i).toNat)
  case atStart => exact ⟨0, Nat.zero_le _, Nat.zero_le _, rfl, Below.refl _ _, fun j h => by omega⟩
  case round =>
    obtain ⟨k, hk1, hk2, rfl, hb, hn⟩ := hrel
    have x0 : wr.cell? ⟨w.heap.size + 1, 0, none⟩ = some (.slice A l.length c) := by rw [hb.cell hgB]; exact y0
    have hWr := hW2.trans (hb.mono hW2.size)
    have k0 : (0 : Int) ≤ (k : Int) := by omega
    have HSr : Sl wr wr.heap.size 4 A' (ms.map Move.cells) := (hs'.below hb).more hb.size
    by_cases h1 : k < ms.length
    · have i1 : (k : Int) < (ms.length : Int) := by omega
      by_cases h2 : k < l.length
      · have i2 : (k : Int) < (l.length : Int) := by omega
        obtain ⟨b2, off2, rfl, b2B, hc2⟩ := hs.at_ (i := k) (by simpa using h2)
        obtain ⟨b1, off1, rfl, b1B, hc1⟩ := hs'.at_ (i := k) (by simpa using h1)
        simp only [List.getElem_map] at hc1 hc2
        have m0 : wr.cell? ⟨b1, off1 + k * 4, none⟩ = some (.int .i64 ms[k].kind) := by rw [hb.cell b1B]; exact hc1 0 _ rfl
        have m1 : wr.cell? ⟨b1, off1 + k * 4 + 1, none⟩ = some (.int .i64 ms[k].scale) := by rw [hb.cell b1B]; exact hc1 1 _ rfl
        have m2 : wr.cell? ⟨b1, off1 + k * 4 + 2, none⟩ = some (.int .i64 ms[k].digits) := by rw [hb.cell b1B]; exact hc1 2 _ rfl
        have m3 : wr.cell? ⟨b1, off1 + k * 4 + 3, none⟩ = some (.int .i64 ms[k].tens) := by rw [hb.cell b1B]; exact hc1 3 _ rfl
        have n0 : wr.cell? ⟨b2, off2 + k * 4, none⟩ = some (.int .i64 l[k].kind) := by rw [hb.cell b2B]; exact hc2 0 _ rfl
        have n1 : wr.cell? ⟨b2, off2 + k * 4 + 1, none⟩ = some (.int .i64 l[k].scale) := by rw [hb.cell b2B]; exact hc2 1 _ rfl
        have n2 : wr.cell? ⟨b2, off2 + k * 4 + 2, none⟩ = some (.int .i64 l[k].digits) := by rw [hb.cell b2B]; exact hc2 2 _ rfl
        have n3 : wr.cell? ⟨b2, off2 + k * 4 + 3, none⟩ = some (.int .i64 l[k].tens) := by rw [hb.cell b2B]; exact hc2 3 _ rfl
        clear hc1 hc2
        have HQ := fun W => eqMov ms[k].kind ms[k].scale ms[k].digits ms[k].tens l[k].kind l[k].scale l[k].digits l[k].tens W
        rw [mvEq_eq] at HQ
        have e1 : Hid (ms[k]? = some ms[k]) := List.getElem?_eq_getElem h1
        have e2 : Hid (l[k]? = some l[k]) := List.getElem?_eq_getElem h2
        generalize ms[k] = x at *
        generalize l[k] = y at *
        by_cases he : x = y
        · have hN : Hid (∀ j, j < k + 1 → ms[j]? = l[j]?) := fun j hj => by
            by_cases hjk : j < k
            · exact hn.out j hjk
            · obtain rfl : j = k := by omega
              rw [e1.out, e2.out, he]
          rw [decide_eq_true he] at HQ
          clear he e1 e2
          go_wp2_with fail
          go_quiet (fail)
          go_wp2
          go_roundw
          case rel => exact ⟨k + 1, by omega, by omega, by go_num, (by first | exact below_drewN' hb _ | exact hb.drew), hN⟩
          case measure => simp [intOf]; omega
        · have hst : Hid (stepN ms l = k) := stepN_eq hk1 hk2 hn.out (.inr (.inr ⟨x, y, e1.out, e2.out, he⟩))
          rw [decide_eq_false he] at HQ
          clear he e1 e2
          go_wp2_with fail
          go_quiet (fail)
          go_wp2
          (go_ret; exact ⟨by rw [hst.out]; rfl, (by repeat (first | with_reducible exact hWr | with_reducible apply below_drewN' | with_reducible apply Below.drew | (with_reducible refine Below.alloc ?_ (by first | omega | (simp; omega) | simp) _) | (with_reducible refine Below.setCell ?_ (by first | omega | (simp; omega) | simp) _) | exact hWr))⟩)
      · have hst : Hid (stepN ms l = k) := stepN_eq hk1 hk2 hn.out (.inr (.inl (by omega)))
        have hd2 : decide ((k : Int) < (l.length : Int)) = false := decide_eq_false (by omega)
        go_wp2_with fail
        go_quiet (fail)
        go_wp2
        (go_ret; exact ⟨by rw [hst.out]; rfl, (by repeat (first | with_reducible exact hWr | with_reducible apply below_drewN' | with_reducible apply Below.drew | (with_reducible refine Below.alloc ?_ (by first | omega | (simp; omega) | simp) _) | (with_reducible refine Below.setCell ?_ (by first | omega | (simp; omega) | simp) _) | exact hWr))⟩)
    · have hst : Hid (stepN ms l = k) := stepN_eq hk1 hk2 hn.out (.inl (by omega))
      have hd1 : decide ((k : Int) < (ms.length : Int)) = false := decide_eq_false (by omega)
      go_wp2_with fail
      go_quiet (fail)
      go_wp2
      (go_ret; exact ⟨by rw [hst.out]; rfl, (by repeat (first | with_reducible exact hWr | with_reducible apply below_drewN' | with_reducible apply Below.drew | (with_reducible refine Below.alloc ?_ (by first | omega | (simp; omega) | simp) _) | (with_reducible refine Below.setCell ?_ (by first | omega | (simp; omega) | simp) _) | exact hWr))⟩)
end Go.Proofs.YtgkobjpoeajkdaaGreat
namespace Go.Proofs.YtgkobjpoeajkdaaGreat
open Go.RowKit
theorem check1_c (L : Int) (A1 : Option Addr) (c1 : Nat) (l1 : List Int) (A2 : Option Addr) (c2 : Nat) (l2 : List Int) (A3 : Option Addr) (c3 : Nat) (l3 : List Term) (p q r : Int) (A : Option Addr) (c : Nat) (l : List Move) (a b : Int) (w : World) (E : ExIn w A1 c1 l1 A2 c2 l2 A3 c3 l3) (F : AnIn w A c l) (g : Nat) (B : Blk w g 67 #[.slice A l.length c, .int .i64 a, .int .i64 b]) :
    Calls Tryz.prog 90 #[.agg #[.int .i64 L, .slice A1 l1.length c1, .slice A2 l2.length c2, .slice A3 l3.length c3, .int .i64 p, .int .i64 q, .int .i64 r], .slice (some ⟨g, 0, none⟩) 1 1] w fun e w' => e = .returned (.int .i64 (if (exB L l1 l2 l3 p q r && ansB l a b) = true then 0 else 1)) ∧ Below w.heap.size w w' := by
  have H := checkAnswer_c L A1 c1 l1 A2 c2 l2 A3 c3 l3 p q r (some ⟨g, 0, none⟩) 1 [⟨A, c, l, a, b⟩] w E ⟨by simp, (Sl.of_blk B [[.slice A l.length c, .int .i64 a, .int .i64 b]] rfl (by simp)).more B.lt, fun e he => by
    obtain rfl : e = ⟨A, c, l, a, b⟩ := by simpa using he
    exact F⟩
  rw [show [(⟨A, c, l, a, b⟩ : AnR)].all AnR.ok = ansB l a b from by simp [AnR.ok]] at H
  exact H
set_option maxRecDepth 100000 in
set_option maxHeartbeats 2000000 in
theorem implStepOf_c (L : Int) (A1 : Option Addr) (c1 : Nat) (l1 : List Int) (A2 : Option Addr) (c2 : Nat) (l2 : List Int) (A3 : Option Addr) (c3 : Nat) (l3 : List Term) (p q r : Int) (A : Option Addr) (c : Nat) (l : List Move) (a b : Int) (w : World) (E : ExIn w A1 c1 l1 A2 c2 l2 A3 c3 l3) (F : AnIn w A c l) :
    Calls Tryz.prog 35 #[.agg #[.int .i64 L, .slice A1 l1.length c1, .slice A2 l2.length c2, .slice A3 l3.length c3, .int .i64 p, .int .i64 q, .int .i64 r], .agg #[.slice A l.length c, .int .i64 a, .int .i64 b]] w fun e w' => e = .returned (.tuple #[.int .i64 (if (exB L l1 l2 l3 p q r && ansB l a b) = true then (stepN (usualP l3).ms l : Int) else 0), .int .i64 (if (exB L l1 l2 l3 p q r && ansB l a b) = true then 0 else 1)]) ∧ Below w.heap.size w w' := by
  have hW : Below w.heap.size w (((w.alloc (.cells #[.int .i64 L, .slice A1 l1.length c1, .slice A2 l2.length c2, .slice A3 l3.length c3, .int .i64 p, .int .i64 q, .int .i64 r] 36)).alloc (.cells #[.slice A l.length c, .int .i64 a, .int .i64 b] 67)).alloc (.cells #[.slice A l.length c, .int .i64 a, .int .i64 b] 67)) := (by repeat (first | with_reducible exact Below.refl _ _ | with_reducible apply below_drewN' | with_reducible apply Below.drew | (with_reducible refine Below.alloc ?_ (by first | omega | (simp; omega) | simp) _) | (with_reducible refine Below.setCell ?_ (by first | omega | (simp; omega) | simp) _) | exact Below.refl _ _))
  have X0 := ((Blk.new w 36 #[.int .i64 L, .slice A1 l1.length c1, .slice A2 l2.length c2, .slice A3 l3.length c3, .int .i64 p, .int .i64 q, .int .i64 r]).alloc (.cells #[.slice A l.length c, .int .i64 a, .int .i64 b] 67)).alloc (.cells #[.slice A l.length c, .int .i64 a, .int .i64 b] 67)
  have B0 := (Blk.new' (w.alloc (.cells #[.int .i64 L, .slice A1 l1.length c1, .slice A2 l2.length c2, .slice A3 l3.length c3, .int .i64 p, .int .i64 q, .int .i64 r] 36)) 67 #[.slice A l.length c, .int .i64 a, .int .i64 b] (g := w.heap.size + 1) (by simp)).alloc (.cells #[.slice A l.length c, .int .i64 a, .int .i64 b] 67)
  have C0 := Blk.new' ((w.alloc (.cells #[.int .i64 L, .slice A1 l1.length c1, .slice A2 l2.length c2, .slice A3 l3.length c3, .int .i64 p, .int .i64 q, .int .i64 r] 36)).alloc (.cells #[.slice A l.length c, .int .i64 a, .int .i64 b] 67)) 67 #[.slice A l.length c, .int .i64 a, .int .i64 b] (g := w.heap.size + 1 + 1) (by simp)
  have HK := Lib.hid (check1_c L A1 c1 l1 A2 c2 l2 A3 c3 l3 p q r A c l a b _ (E.later hW) (F.later hW) (w.heap.size + 1 + 1) C0)
  have HS : Hid (exB L l1 l2 l3 p q r = true → ∀ W, Below w.heap.size w W → _) := fun hx W hW => stepOf_c L A1 c1 l1 A2 c2 l2 A3 c3 l3 p q r A c l a b W (E.later hW) hx (F.later hW)
  have hx : Hid ((exB L l1 l2 l3 p q r && ansB l a b) = true → exB L l1 l2 l3 p q r = true) := fun h => (Bool.and_eq_true _ _ ▸ h : _ ∧ _).1
  clear C0 E F
  generalize (exB L l1 l2 l3 p q r && ansB l a b) = ok at *
  generalize exB L l1 l2 l3 p q r = xb at *
  cases ok with
  | false =>
    simp only [Bool.false_eq_true, if_false] at HK ⊢
    have HK := Lib.hid HK.out
    go_enter Tryz.func35, Tryz.ntmps35
    go_wp2_with fail
    refine Calls.mono HK.out ?_; rintro e w1 ⟨rfl, hb1⟩
    have hW1 := hW.trans (hb1.mono hW.size)
    go_wp2
    refine bodyPost_ret (v := .tuple #[.int .i64 0, .int .i64 1]) (by simp [results, Tryz.results35, go_sem]) rfl ⟨rfl, (by repeat (first | with_reducible exact hW1 | with_reducible apply below_drewN' | with_reducible apply Below.drew | (with_reducible refine Below.alloc ?_ (by first | omega | (simp; omega) | simp) _) | (with_reducible refine Below.setCell ?_ (by first | omega | (simp; omega) | simp) _) | exact hW1))⟩
  | true =>
    simp only [if_true] at HK ⊢
    have HS := Lib.hid (HS.out (hx.out rfl))
    generalize (usualP l3).ms = ms at *
    go_enter Tryz.func35, Tryz.ntmps35
    go_wp2_with fail
    generalize (((w.alloc (.cells #[.int .i64 L, .slice A1 l1.length c1, .slice A2 l2.length c2, .slice A3 l3.length c3, .int .i64 p, .int .i64 q, .int .i64 r] 36)).alloc (.cells #[.slice A l.length c, .int .i64 a, .int .i64 b] 67)).alloc (.cells #[.slice A l.length c, .int .i64 a, .int .i64 b] 67)) = W at *
    refine Calls.mono HK.out ?_; rintro e w1 ⟨rfl, hb1⟩
    have hW1 := hW.trans (hb1.mono hW.size)
    have X1 := X0.below hb1 X0.lt
    have B1 := B0.below hb1 B0.lt
    have hcall := Lib.hid (HS.out w1 hW1)
    have y0 : w1.cell? ⟨w.heap.size, 0, none⟩ = some (.int .i64 L) := X1.cell 0
    have y1 : w1.cell? ⟨w.heap.size, 1, none⟩ = some (.slice A1 l1.length c1) := X1.cell 1
    have y2 : w1.cell? ⟨w.heap.size, 2, none⟩ = some (.slice A2 l2.length c2) := X1.cell 2
    have y3 : w1.cell? ⟨w.heap.size, 3, none⟩ = some (.slice A3 l3.length c3) := X1.cell 3
    have y4 : w1.cell? ⟨w.heap.size, 4, none⟩ = some (.int .i64 p) := X1.cell 4
    have y5 : w1.cell? ⟨w.heap.size, 5, none⟩ = some (.int .i64 q) := X1.cell 5
    have y6 : w1.cell? ⟨w.heap.size, 6, none⟩ = some (.int .i64 r) := X1.cell 6
    have z0 : w1.cell? ⟨w.heap.size + 1, 0, none⟩ = some (.slice A l.length c) := B1.cell 0
    have z1 : w1.cell? ⟨w.heap.size + 1, 1, none⟩ = some (.int .i64 a) := B1.cell 1
    have z2 : w1.cell? ⟨w.heap.size + 1, 2, none⟩ = some (.int .i64 b) := B1.cell 2
    clear HK X0 B0 hb1 hW HS
    go_wp2_with fail
    refine Calls.mono hcall.out ?_; rintro e w2 ⟨⟨A', c', rfl, _, _⟩, hb2⟩
    have hW2 := hW1.trans (hb2.mono hW1.size)
    go_wp2
    refine bodyPost_ret (v := .tuple #[.int .i64 (stepN ms l), .int .i64 0]) (by simp [results, Tryz.results35, go_sem]) rfl ⟨rfl, (by repeat (first | with_reducible exact hW2 | with_reducible apply below_drewN' | with_reducible apply Below.drew | (with_reducible refine Below.alloc ?_ (by first | omega | (simp; omega) | simp) _) | (with_reducible refine Below.setCell ?_ (by first | omega | (simp; omega) | simp) _) | exact hW2))⟩
set_option maxRecDepth 100000 in
set_option maxHeartbeats 2000000 in
theorem specStepOf_c (L : Int) (A1 : Option Addr) (c1 : Nat) (l1 : List Int) (A2 : Option Addr) (c2 : Nat) (l2 : List Int) (A3 : Option Addr) (c3 : Nat) (l3 : List Term) (p q r : Int) (A : Option Addr) (c : Nat) (l : List Move) (a b : Int) (w : World) (E : ExIn w A1 c1 l1 A2 c2 l2 A3 c3 l3) (F : AnIn w A c l) :
    Calls Tryz.prog 33 #[.agg #[.int .i64 L, .slice A1 l1.length c1, .slice A2 l2.length c2, .slice A3 l3.length c3, .int .i64 p, .int .i64 q, .int .i64 r], .agg #[.slice A l.length c, .int .i64 a, .int .i64 b]] w fun e w' => e = .returned (.tuple #[.int .i64 (if (exB L l1 l2 l3 p q r && ansB l a b) = true then (stepN (usualP l3).ms l : Int) else 0), .int .i64 (if (exB L l1 l2 l3 p q r && ansB l a b) = true then 0 else 1)]) ∧ Below w.heap.size w w' := by
  have hW : Below w.heap.size w ((w.alloc (.cells #[.int .i64 L, .slice A1 l1.length c1, .slice A2 l2.length c2, .slice A3 l3.length c3, .int .i64 p, .int .i64 q, .int .i64 r] 36)).alloc (.cells #[.slice A l.length c, .int .i64 a, .int .i64 b] 67)) := (by repeat (first | with_reducible exact Below.refl _ _ | with_reducible apply below_drewN' | with_reducible apply Below.drew | (with_reducible refine Below.alloc ?_ (by first | omega | (simp; omega) | simp) _) | (with_reducible refine Below.setCell ?_ (by first | omega | (simp; omega) | simp) _) | exact Below.refl _ _))
  have X0 := (Blk.new w 36 #[.int .i64 L, .slice A1 l1.length c1, .slice A2 l2.length c2, .slice A3 l3.length c3, .int .i64 p, .int .i64 q, .int .i64 r]).alloc (.cells #[.slice A l.length c, .int .i64 a, .int .i64 b] 67)
  have B0 := Blk.new' (w.alloc (.cells #[.int .i64 L, .slice A1 l1.length c1, .slice A2 l2.length c2, .slice A3 l3.length c3, .int .i64 p, .int .i64 q, .int .i64 r] 36)) 67 #[.slice A l.length c, .int .i64 a, .int .i64 b] (g := w.heap.size + 1) (by simp)
  have HX := Lib.hid (specIsExercise_c L A1 c1 l1 A2 c2 l2 A3 c3 l3 p q r _ (E.later hW))
  have HA : Hid (∀ W, Below w.heap.size w W → _) := fun W hW => l31Answer_c A c l a b W (F.later hW)
  have HS : Hid (exB L l1 l2 l3 p q r = true → ∀ W, Below w.heap.size w W → _) := fun hx W hW => l31Step_c L A1 c1 l1 A2 c2 l2 A3 c3 l3 p q r A c l a b W (E.later hW) hx (F.later hW)
  clear E F
  generalize ansB l a b = ab at *
  generalize exB L l1 l2 l3 p q r = xb at *
  cases xb with
  | false =>
    clear HS HA
    simp only [Bool.false_and, Bool.false_eq_true, if_false]
    go_enter Tryz.func33, Tryz.ntmps33
    go_wp2_with fail
    refine Calls.mono HX.out ?_; rintro e w1 ⟨rfl, hb1⟩
    have hW1 := hW.trans (hb1.mono hW.size)
    go_wp2
    refine bodyPost_ret (v := .tuple #[.int .i64 0, .int .i64 1]) (by simp [results, Tryz.results33, go_sem]) rfl ⟨rfl, (by repeat (first | with_reducible exact hW1 | with_reducible apply below_drewN' | with_reducible apply Below.drew | (with_reducible refine Below.alloc ?_ (by first | omega | (simp; omega) | simp) _) | (with_reducible refine Below.setCell ?_ (by first | omega | (simp; omega) | simp) _) | exact hW1))⟩
  | true =>
    have HT := Lib.hid (HS.out rfl)
    clear HS
    simp only [Bool.true_and]
    generalize (usualP l3).ms = ms at *
    cases ab with
    | false =>
      simp only [Bool.false_eq_true, if_false]
      go_enter Tryz.func33, Tryz.ntmps33
      go_wp2_with fail
      generalize ((w.alloc (.cells #[.int .i64 L, .slice A1 l1.length c1, .slice A2 l2.length c2, .slice A3 l3.length c3, .int .i64 p, .int .i64 q, .int .i64 r] 36)).alloc (.cells #[.slice A l.length c, .int .i64 a, .int .i64 b] 67)) = W at *
      refine Calls.mono HX.out ?_; rintro e w1 ⟨rfl, hb1⟩
      have hW1 := hW.trans (hb1.mono hW.size)
      have X1 := X0.below hb1 X0.lt
      have B1 := B0.below hb1 B0.lt
      have hcall := Lib.hid (HA.out w1 hW1)
      have y0 : w1.cell? ⟨w.heap.size, 0, none⟩ = some (.int .i64 L) := X1.cell 0
      have y1 : w1.cell? ⟨w.heap.size, 1, none⟩ = some (.slice A1 l1.length c1) := X1.cell 1
      have y2 : w1.cell? ⟨w.heap.size, 2, none⟩ = some (.slice A2 l2.length c2) := X1.cell 2
      have y3 : w1.cell? ⟨w.heap.size, 3, none⟩ = some (.slice A3 l3.length c3) := X1.cell 3
      have y4 : w1.cell? ⟨w.heap.size, 4, none⟩ = some (.int .i64 p) := X1.cell 4
      have y5 : w1.cell? ⟨w.heap.size, 5, none⟩ = some (.int .i64 q) := X1.cell 5
      have y6 : w1.cell? ⟨w.heap.size, 6, none⟩ = some (.int .i64 r) := X1.cell 6
      have z0 : w1.cell? ⟨w.heap.size + 1, 0, none⟩ = some (.slice A l.length c) := B1.cell 0
      have z1 : w1.cell? ⟨w.heap.size + 1, 1, none⟩ = some (.int .i64 a) := B1.cell 1
      have z2 : w1.cell? ⟨w.heap.size + 1, 2, none⟩ = some (.int .i64 b) := B1.cell 2
      clear HX X0 B0 hb1 hW HT HA
      go_wp2_with fail
      refine Calls.mono hcall.out ?_; rintro e w2 ⟨rfl, hb2⟩
      have hW2 := hW1.trans (hb2.mono hW1.size)
      go_wp2
      refine bodyPost_ret (v := .tuple #[.int .i64 0, .int .i64 1]) (by simp [results, Tryz.results33, go_sem]) rfl ⟨rfl, (by repeat (first | with_reducible exact hW2 | with_reducible apply below_drewN' | with_reducible apply Below.drew | (with_reducible refine Below.alloc ?_ (by first | omega | (simp; omega) | simp) _) | (with_reducible refine Below.setCell ?_ (by first | omega | (simp; omega) | simp) _) | exact hW2))⟩
    | true =>
      simp only [if_true]
      go_enter Tryz.func33, Tryz.ntmps33
      go_wp2_with fail
      generalize ((w.alloc (.cells #[.int .i64 L, .slice A1 l1.length c1, .slice A2 l2.length c2, .slice A3 l3.length c3, .int .i64 p, .int .i64 q, .int .i64 r] 36)).alloc (.cells #[.slice A l.length c, .int .i64 a, .int .i64 b] 67)) = W at *
      refine Calls.mono HX.out ?_; rintro e w1 ⟨rfl, hb1⟩
      have hW1 := hW.trans (hb1.mono hW.size)
      have X1 := X0.below hb1 X0.lt
      have B1 := B0.below hb1 B0.lt
      have hcall := Lib.hid (HA.out w1 hW1)
      have y0 : w1.cell? ⟨w.heap.size, 0, none⟩ = some (.int .i64 L) := X1.cell 0
      have y1 : w1.cell? ⟨w.heap.size, 1, none⟩ = some (.slice A1 l1.length c1) := X1.cell 1
      have y2 : w1.cell? ⟨w.heap.size, 2, none⟩ = some (.slice A2 l2.length c2) := X1.cell 2
      have y3 : w1.cell? ⟨w.heap.size, 3, none⟩ = some (.slice A3 l3.length c3) := X1.cell 3
      have y4 : w1.cell? ⟨w.heap.size, 4, none⟩ = some (.int .i64 p) := X1.cell 4
      have y5 : w1.cell? ⟨w.heap.size, 5, none⟩ = some (.int .i64 q) := X1.cell 5
      have y6 : w1.cell? ⟨w.heap.size, 6, none⟩ = some (.int .i64 r) := X1.cell 6
      have z0 : w1.cell? ⟨w.heap.size + 1, 0, none⟩ = some (.slice A l.length c) := B1.cell 0
      have z1 : w1.cell? ⟨w.heap.size + 1, 1, none⟩ = some (.int .i64 a) := B1.cell 1
      have z2 : w1.cell? ⟨w.heap.size + 1, 2, none⟩ = some (.int .i64 b) := B1.cell 2
      clear HX X0 B0 hb1 hW HA
      go_wp2_with fail
      refine Calls.mono hcall.out ?_; rintro e w2 ⟨rfl, hb2⟩
      have hW2 := hW1.trans (hb2.mono hW1.size)
      have X2 := X1.below hb2 X1.lt
      have B2 := B1.below hb2 B1.lt
      have hcall := Lib.hid (HT.out w2 hW2)
      clear y0 y1 y2 y3 y4 y5 y6 z0 z1 z2 hb2 X1 B1 HT
      have y0 : w2.cell? ⟨w.heap.size, 0, none⟩ = some (.int .i64 L) := X2.cell 0
      have y1 : w2.cell? ⟨w.heap.size, 1, none⟩ = some (.slice A1 l1.length c1) := X2.cell 1
      have y2 : w2.cell? ⟨w.heap.size, 2, none⟩ = some (.slice A2 l2.length c2) := X2.cell 2
      have y3 : w2.cell? ⟨w.heap.size, 3, none⟩ = some (.slice A3 l3.length c3) := X2.cell 3
      have y4 : w2.cell? ⟨w.heap.size, 4, none⟩ = some (.int .i64 p) := X2.cell 4
      have y5 : w2.cell? ⟨w.heap.size, 5, none⟩ = some (.int .i64 q) := X2.cell 5
      have y6 : w2.cell? ⟨w.heap.size, 6, none⟩ = some (.int .i64 r) := X2.cell 6
      have z0 : w2.cell? ⟨w.heap.size + 1, 0, none⟩ = some (.slice A l.length c) := B2.cell 0
      have z1 : w2.cell? ⟨w.heap.size + 1, 1, none⟩ = some (.int .i64 a) := B2.cell 1
      have z2 : w2.cell? ⟨w.heap.size + 1, 2, none⟩ = some (.int .i64 b) := B2.cell 2
      go_wp2_with fail
      refine Calls.mono hcall.out ?_; rintro e w3 ⟨rfl, hb3⟩
      have hW3 := hW2.trans (hb3.mono hW2.size)
      go_wp2
      refine bodyPost_ret (v := .tuple #[.int .i64 (stepN ms l), .int .i64 0]) (by simp [results, Tryz.results33, go_sem]) rfl ⟨rfl, (by repeat (first | with_reducible exact hW3 | with_reducible apply below_drewN' | with_reducible apply Below.drew | (with_reducible refine Below.alloc ?_ (by first | omega | (simp; omega) | simp) _) | (with_reducible refine Below.setCell ?_ (by first | omega | (simp; omega) | simp) _) | exact hW3))⟩
end Go.Proofs.YtgkobjpoeajkdaaGreat
namespace Go.Proofs.YtgkobjpoeajkdaaGreat
open Go.RowKit
set_option maxRecDepth 100000 in
theorem szAn_c (A : Option Addr) (n c : Nat) (a b : Int) (left : Int) (w : World) (hn : n ≤ 140737488351232) (hl : 0 ≤ left ∧ left ≤ 1048576) :
    Calls Tryz.prog 32 #[.agg #[.slice A n c, .int .i64 a, .int .i64 b], .int .i64 left] w (SzPost left (n ≤ 1048576) w) := by
  have hW : Below w.heap.size w (w.alloc (.cells #[.slice A n c, .int .i64 a, .int .i64 b] 61)) := (by repeat (first | with_reducible exact Below.refl _ _ | with_reducible apply below_drewN' | with_reducible apply Below.drew | (with_reducible refine Below.alloc ?_ (by first | omega | (simp; omega) | simp) _) | (with_reducible refine Below.setCell ?_ (by first | omega | (simp; omega) | simp) _) | exact Below.refl _ _))
  have H := fun W => Lib.hid (szMoveS_c A n c left W hn hl)
  by_cases h : left < n
  · simp only [if_pos h] at H
    go_enter Tryz.func32, Tryz.ntmps32
    go_wp2_with (go_at_call 85; refine Calls.mono (H _).out ?_; rintro e w2 ⟨rfl, rfl⟩)
    go_ret
    exact ⟨⟨-1, rfl, .inl (by omega)⟩, (by repeat (first | with_reducible exact hW | with_reducible apply below_drewN' | with_reducible apply Below.drew | (with_reducible refine Below.alloc ?_ (by first | omega | (simp; omega) | simp) _) | (with_reducible refine Below.setCell ?_ (by first | omega | (simp; omega) | simp) _) | exact hW))⟩
  · simp only [if_neg h] at H
    have hm : ¬ left - n < 0 := by omega
    go_enter Tryz.func32, Tryz.ntmps32
    go_wp2_with (go_at_call 85; refine Calls.mono (H _).out ?_; rintro e w2 ⟨rfl, rfl⟩)
    go_ret
    exact ⟨⟨left - n, rfl, .inr ⟨by omega, by omega, by omega⟩⟩, (by repeat (first | with_reducible exact hW | with_reducible apply below_drewN' | with_reducible apply Below.drew | (with_reducible refine Below.alloc ?_ (by first | omega | (simp; omega) | simp) _) | (with_reducible refine Below.setCell ?_ (by first | omega | (simp; omega) | simp) _) | exact hW))⟩
/-- an answer's moves, their length open -/
structure AnLaid (w : World) (A : Option Addr) (c : Nat) (l : List Move) : Prop where
  z : l.length ≤ 140737488351232
  k : l.length ≤ c
  s : Sl w w.heap.size 4 A (l.map Move.cells)
def AnCopy (l : List Move) (a b : Int) (v : Value) (w : World) (base : Nat) : Prop := ∃ B d, v = .agg #[.slice B l.length d, .int .i64 a, .int .i64 b] ∧ AnIn w B d l ∧ Own w base 72 4 (.slice B l.length d) (l.map Move.cells)
theorem AnCopy.below {l : List Move} {a b : Int} {v : Value} {w w' : World} {base : Nat} (h : AnCopy l a b v w base) (hb : Below w.heap.size w w') : AnCopy l a b v w' base := by
  obtain ⟨B, d, h1, h2, h3⟩ := h
  exact ⟨B, d, h1, h2.later hb, h3.below hb⟩
theorem AnCopy.weak {l : List Move} {a b : Int} {v : Value} {w : World} {base base' : Nat} (h : AnCopy l a b v w base) (hb : base' ≤ base) : AnCopy l a b v w base' := by
  obtain ⟨B, d, h1, h2, h3⟩ := h
  exact ⟨B, d, h1, h2, h3.mono hb⟩
theorem toAn_c (A : Option Addr) (c : Nat) (l : List Move) (a b : Int) (w : World) (F : AnIn w A c l) :
    Calls Tryz.prog 34 #[.agg #[.slice A l.length c, .int .i64 a, .int .i64 b]] w fun e w' => (∃ v, e = .returned v ∧ AnCopy l a b v w' w.heap.size) ∧ Below w.heap.size w w' :=
  (toAnswer_c A c l a b w F.n F.s).mono fun _ _ ⟨B, d, he, ho, hb⟩ => ⟨⟨_, he, B, d, rfl, ⟨F.n, ho.le_cap, ho.sl⟩, ho⟩, hb⟩
theorem eqAn_c (A A' : Option Addr) (c c' : Nat) (l : List Move) (a b : Int) (w : World) (F : AnIn w A c l) (F' : AnIn w A' c' l) :
    Calls Tryz.prog 36 #[.agg #[.slice A l.length c, .int .i64 a, .int .i64 b], .agg #[.slice A' l.length c', .int .i64 a, .int .i64 b]] w fun e w' => e = .returned (.bool true) ∧ Below w.heap.size w w' :=
  eqAnswer_c A c A' c' l a b w F.n F.s F'.s
/-- while 'spec.F(toExercise(aX), toAnswer(aA))' runs -/
structure TwS (w1 : World) (b1 b2 : Bool) (Q1 Q2 : Value → World → Prop) (x1 x2 : Value) (v : World) : Prop where
  hb : Below w1.heap.size w1 v
  q1 : b1 = true → Q1 x1 v
  q2 : b2 = true → Q2 x2 v
set_option maxRecDepth 100000 in
set_option maxHeartbeats 4000000 in
theorem lawStepOf_c (L : Int) (A1 : Option Addr) (c1 : Nat) (l1 : List Int) (A2 : Option Addr) (c2 : Nat) (l2 : List Int) (A3 : Option Addr) (c3 : Nat) (l3 : List Term) (p q r : Int) (A : Option Addr) (c : Nat) (l : List Move) (a b : Int) (w : World) (X : ExLaid w A1 c1 l1 A2 c2 l2 A3 c3 l3) (Y : AnLaid w A c l) :
    Calls Tryz.prog 6 #[.agg #[.int .i64 L, .slice A1 l1.length c1, .slice A2 l2.length c2, .slice A3 l3.length c3, .int .i64 p, .int .i64 q, .int .i64 r], .agg #[.slice A l.length c, .int .i64 a, .int .i64 b]] w fun e w' => e = .returned (.bool true) ∧ Below w.heap.size w w' := by
  have HZ := fun W => Lib.hid (szExercise_c L A1 l1.length c1 A2 l2.length c2 A3 l3.length c3 p q r 1048576 W X.z1 X.z2 X.z3 (by omega))
  have HZA := fun left W (h : 0 ≤ left ∧ left ≤ 1048576) => Lib.hid (szAn_c A l.length c a b left W Y.z h)
  have hW : Below w.heap.size w ((w.alloc (.cells #[.int .i64 L, .slice A1 l1.length c1, .slice A2 l2.length c2, .slice A3 l3.length c3, .int .i64 p, .int .i64 q, .int .i64 r] 29)).alloc (.cells #[.slice A l.length c, .int .i64 a, .int .i64 b] 61)) := (by repeat (first | with_reducible exact Below.refl _ _ | with_reducible apply below_drewN' | with_reducible apply Below.drew | (with_reducible refine Below.alloc ?_ (by first | omega | (simp; omega) | simp) _) | (with_reducible refine Below.setCell ?_ (by first | omega | (simp; omega) | simp) _) | exact Below.refl _ _))
  have X0 := (Blk.new w 29 #[.int .i64 L, .slice A1 l1.length c1, .slice A2 l2.length c2, .slice A3 l3.length c3, .int .i64 p, .int .i64 q, .int .i64 r]).alloc (.cells #[.slice A l.length c, .int .i64 a, .int .i64 b] 61)
  have Y0 := Blk.new' (w.alloc (.cells #[.int .i64 L, .slice A1 l1.length c1, .slice A2 l2.length c2, .slice A3 l3.length c3, .int .i64 p, .int .i64 q, .int .i64 r] 29)) 61 #[.slice A l.length c, .int .i64 a, .int .i64 b] (g := w.heap.size + 1) (by simp)
  have X := Lib.hid X
  have Y := Lib.hid Y
  go_enter Tryz.func6, Tryz.ntmps6
  go_wp2_with fail
  generalize ((w.alloc (.cells #[.int .i64 L, .slice A1 l1.length c1, .slice A2 l2.length c2, .slice A3 l3.length c3, .int .i64 p, .int .i64 q, .int .i64 r] 29)).alloc (.cells #[.slice A l.length c, .int .i64 a, .int .i64 b] 61)) = W at *
  refine Calls.mono (HZ W).out ?_; rintro e w1 ⟨⟨v, rfl, hv⟩, hb1⟩
  have hW1 := hW.trans (hb1.mono hW.size)
  have X1 := X0.below hb1 X0.lt
  have Y1 := Y0.below hb1 Y0.lt
  clear hW X0 Y0 hb1 HZ
  rcases hv with hv | ⟨hv0, hv1, hlen⟩
  · go_wp2
    go_ret
    exact ⟨rfl, (by repeat (first | with_reducible exact hW1 | with_reducible apply below_drewN' | with_reducible apply Below.drew | (with_reducible refine Below.alloc ?_ (by first | omega | (simp; omega) | simp) _) | (with_reducible refine Below.setCell ?_ (by first | omega | (simp; omega) | simp) _) | exact hW1))⟩
  have hvn : ¬ v < 0 := by omega
  have E := Lib.hid (X.out.ex hlen)
  have HZA := HZA v w1 ⟨hv0, hv1⟩
  clear X hlen
  have z0 : w1.cell? ⟨w.heap.size + 1, 0, none⟩ = some (.slice A l.length c) := Y1.cell 0
  have z1 : w1.cell? ⟨w.heap.size + 1, 1, none⟩ = some (.int .i64 a) := Y1.cell 1
  have z2 : w1.cell? ⟨w.heap.size + 1, 2, none⟩ = some (.int .i64 b) := Y1.cell 2
  go_wp2_with fail
  refine Calls.mono HZA.out ?_; rintro e w2 ⟨⟨v', rfl, hv'⟩, hb2⟩
  have hW2 := hW1.trans (hb2.mono hW1.size)
  have X2 := X1.below hb2 X1.lt
  have Y2 := Y1.below hb2 Y1.lt
  clear z0 z1 z2 hW1 X1 Y1 hb2 HZA
  rcases hv' with hv' | ⟨hv0', hv1', hlen⟩
  · go_wp2
    go_ret
    exact ⟨rfl, (by repeat (first | with_reducible exact hW2 | with_reducible apply below_drewN' | with_reducible apply Below.drew | (with_reducible refine Below.alloc ?_ (by first | omega | (simp; omega) | simp) _) | (with_reducible refine Below.setCell ?_ (by first | omega | (simp; omega) | simp) _) | exact hW2))⟩
  have hvn' : ¬ v' < 0 := by omega
  have F : Hid (AnIn w A c l) := ⟨hlen, Y.out.k, Y.out.s⟩
  clear Y hlen
  have HT := fun (W : World) (hW : Below w.heap.size w W) => Lib.hid (toEx_c L A1 c1 l1 A2 c2 l2 A3 c3 l3 p q r W (E.out.later hW))
  unfold exAgg at HT
  have HT := Lib.hid HT
  have HU := fun (W : World) (hW : Below w.heap.size w W) => Lib.hid (toAn_c A c l a b W (F.out.later hW))
  have HU := Lib.hid HU
  have HSp := fun (B1 : Option Addr) d1 B2 d2 B3 d3 B d W (E' : ExIn W B1 d1 l1 B2 d2 l2 B3 d3 l3) (F' : AnIn W B d l) => Lib.hid (specStepOf_c L B1 d1 l1 B2 d2 l2 B3 d3 l3 p q r B d l a b W E' F')
  have HIm := fun (B1 : Option Addr) d1 B2 d2 B3 d3 B d W (E' : ExIn W B1 d1 l1 B2 d2 l2 B3 d3 l3) (F' : AnIn W B d l) => Lib.hid (implStepOf_c L B1 d1 l1 B2 d2 l2 B3 d3 l3 p q r B d l a b W E' F')
  have HSp := Lib.hid HSp
  have HIm := Lib.hid HIm
  generalize (if (exB L l1 l2 l3 p q r && ansB l a b) = true then (stepN (usualP l3).ms l : Int) else 0) = g0 at *
  generalize (if (exB L l1 l2 l3 p q r && ansB l a b) = true then (0 : Int) else 1) = g1 at *
  go_wp2_with fail
  refine wp_region_all (fun a0 fL bA v => ∃ v23 v24 v25 v26 v27 v22 v28 v29 v6 v7 : Value, bA = (((((((((a0.put (some 23) v23).put (some 24) v24).put (some 25) v25).put (some 26) v26).put (some 27) v27).put (some 22) v22).put (some 28) v28).put (some 29) v29).put (some 6) v6).put (some 7) v7 ∧ (TwS w2 (fL 1) (fL 3) (fun x v => ExCopy L l1 l2 l3 p q r x v w2.heap.size) (fun x v => AnCopy l a b x v w2.heap.size) v24 v26 v) ∧ (fL 0 = true → v23 = .agg #[.int .i64 L, .slice A1 l1.length c1, .slice A2 l2.length c2, .slice A3 l3.length c3, .int .i64 p, .int .i64 q, .int .i64 r]) ∧ (fL 1 = true → True) ∧ (fL 2 = true → v25 = .agg #[.slice A l.length c, .int .i64 a, .int .i64 b]) ∧ (fL 3 = true → True) ∧ (fL 4 = true → v27 = .tuple #[.int .i64 g0, .int .i64 g1]) ∧ (fL 5 = true → v22 = .tuple #[.int .i64 g0, .int .i64 g1]) ∧ (fL 6 = true → v28 = .int .i64 g0) ∧ (fL 7 = true → v29 = .int .i64 g1) ∧ (fL 8 = true → v6 = .int .i64 g0) ∧ (fL 9 = true → v7 = .int .i64 g1)) (by kernel_rfl) (by decide +kernel) ?_ ?_ ?_
  · exact ⟨undef, undef, undef, undef, undef, undef, undef, undef, undef, undef, by simp only [Act.put, List.setIfInBounds_toArray, List.set_cons_zero, List.set_cons_succ], ⟨(Below.refl _ _).drew, nofun, nofun⟩, nofun, nofun, nofun, nofun, nofun, nofun, nofun, nofun, nofun, nofun⟩
  · rintro fL bA v ⟨v23, v24, v25, v26, v27, v22, v28, v29, v6, v7, rfl, hS, q0, q1, q2, q3, q4, q5, q6, q7, q8, q9⟩ i hi hf o ho hall
    simp only [Act.put, List.setIfInBounds_toArray, List.set_cons_zero, List.set_cons_succ]
    simp only [List.length_cons, List.length_nil] at hi
    have hn : i = 0 ∨ i = 1 ∨ i = 2 ∨ i = 3 ∨ i = 4 ∨ i = 5 ∨ i = 6 ∨ i = 7 ∨ i = 8 ∨ i = 9 := by omega
    clear hi
    rcases hn with rfl | rfl | rfl | rfl | rfl | rfl | rfl | rfl | rfl | rfl
    · obtain rfl := Option.some.inj ho
      have FF := X2.below hS.hb X2.lt
      have y0 : v.cell? ⟨w.heap.size, 0, none⟩ = some (.int .i64 L) := FF.cell 0
      have y1 : v.cell? ⟨w.heap.size, 1, none⟩ = some (.slice A1 l1.length c1) := FF.cell 1
      have y2 : v.cell? ⟨w.heap.size, 2, none⟩ = some (.slice A2 l2.length c2) := FF.cell 2
      have y3 : v.cell? ⟨w.heap.size, 3, none⟩ = some (.slice A3 l3.length c3) := FF.cell 3
      have y4 : v.cell? ⟨w.heap.size, 4, none⟩ = some (.int .i64 p) := FF.cell 4
      have y5 : v.cell? ⟨w.heap.size, 5, none⟩ = some (.int .i64 q) := FF.cell 5
      have y6 : v.cell? ⟨w.heap.size, 6, none⟩ = some (.int .i64 r) := FF.cell 6
      clear hall ho
      refine wpOp_step rfl (fun K hK => ?_)
      go_simp
      exact hK _ _ ⟨_, _, _, _, _, _, _, _, _, _, rfl, hS, fun _ => rfl, fun _ => trivial, q2, fun _ => trivial, q4, q5, q6, q7, q8, q9⟩
    · obtain rfl := Option.some.inj ho
      obtain rfl := q0 (hall ⟨0, .data⟩ (by simp) rfl)
      clear hall ho
      refine wpOp_step rfl (fun K hK => ?_)
      go_simp
      refine Calls.mono (HT.out v (hW2.trans (hS.hb.mono hW2.size))).out ?_; rintro e w7 ⟨⟨u, rfl, hu⟩, hb7⟩
      go_simp
      exact hK _ _ ⟨_, _, _, _, _, _, _, _, _, _, rfl, ⟨hS.hb.trans (hb7.mono hS.hb.size), fun _ => hu.weak hS.hb.size, fun e => (hS.q2 e).below hb7⟩, fun _ => rfl, fun _ => trivial, q2, fun _ => trivial, q4, q5, q6, q7, q8, q9⟩
    · obtain rfl := Option.some.inj ho
      have FF := Y2.below hS.hb Y2.lt
      have z0 : v.cell? ⟨w.heap.size + 1, 0, none⟩ = some (.slice A l.length c) := FF.cell 0
      have z1 : v.cell? ⟨w.heap.size + 1, 1, none⟩ = some (.int .i64 a) := FF.cell 1
      have z2 : v.cell? ⟨w.heap.size + 1, 2, none⟩ = some (.int .i64 b) := FF.cell 2
      clear hall ho
      refine wpOp_step rfl (fun K hK => ?_)
      go_simp
      exact hK _ _ ⟨_, _, _, _, _, _, _, _, _, _, rfl, hS, q0, fun _ => trivial, fun _ => rfl, fun _ => trivial, q4, q5, q6, q7, q8, q9⟩
    · obtain rfl := Option.some.inj ho
      obtain rfl := q2 (hall ⟨2, .data⟩ (by simp) rfl)
      clear hall ho
      refine wpOp_step rfl (fun K hK => ?_)
      go_simp
      refine Calls.mono (HU.out v (hW2.trans (hS.hb.mono hW2.size))).out ?_; rintro e w7 ⟨⟨u, rfl, hu⟩, hb7⟩
      go_simp
      exact hK _ _ ⟨_, _, _, _, _, _, _, _, _, _, rfl, ⟨hS.hb.trans (hb7.mono hS.hb.size), fun e => (hS.q1 e).below hb7, fun _ => hu.weak hS.hb.size⟩, q0, fun _ => trivial, fun _ => rfl, fun _ => trivial, q4, q5, q6, q7, q8, q9⟩
    · obtain rfl := Option.some.inj ho
      have e1 : fL 1 = true := hall ⟨1, .data⟩ (by simp) rfl
      have e3 : fL 3 = true := hall ⟨3, .data⟩ (by simp) rfl
      clear hall ho
      refine wpOp_step rfl (fun K hK => ?_)
      obtain ⟨H1, h1, H2, h2, H3, h3, rfl, EH, _, _, _⟩ := hS.q1 e1
      obtain ⟨H, h, rfl, FH, _⟩ := hS.q2 e3
      unfold exAgg
      go_simp
      refine Calls.mono (HSp.out H1 h1 H2 h2 H3 h3 H h v EH FH).out ?_; rintro e w7 ⟨rfl, hb7⟩
      go_simp
      exact hK _ _ ⟨_, _, _, _, _, _, _, _, _, _, rfl, ⟨hS.hb.trans (hb7.mono hS.hb.size), fun e => (hS.q1 e).below hb7, fun e => (hS.q2 e).below hb7⟩, q0, fun _ => trivial, q2, fun _ => trivial, fun _ => rfl, q5, q6, q7, q8, q9⟩
    · obtain rfl := Option.some.inj ho
      obtain rfl := q4 (hall ⟨4, .data⟩ (by simp) rfl)
      clear hall ho
      refine wpOp_step rfl (fun K hK => ?_)
      go_simp
      exact hK _ _ ⟨_, _, _, _, _, _, _, _, _, _, rfl, hS, q0, fun _ => trivial, q2, fun _ => trivial, fun _ => rfl, fun _ => rfl, q6, q7, q8, q9⟩
    · obtain rfl := Option.some.inj ho
      obtain rfl := q5 (hall ⟨5, .data⟩ (by simp) rfl)
      clear hall ho
      refine wpOp_step rfl (fun K hK => ?_)
      go_simp
      exact hK _ _ ⟨_, _, _, _, _, _, _, _, _, _, rfl, hS, q0, fun _ => trivial, q2, fun _ => trivial, q4, fun _ => rfl, fun _ => rfl, q7, q8, q9⟩
    · obtain rfl := Option.some.inj ho
      obtain rfl := q5 (hall ⟨5, .data⟩ (by simp) rfl)
      clear hall ho
      refine wpOp_step rfl (fun K hK => ?_)
      go_simp
      exact hK _ _ ⟨_, _, _, _, _, _, _, _, _, _, rfl, hS, q0, fun _ => trivial, q2, fun _ => trivial, q4, fun _ => rfl, q6, fun _ => rfl, q8, q9⟩
    · obtain rfl := Option.some.inj ho
      obtain rfl := q6 (hall ⟨6, .data⟩ (by simp) rfl)
      clear hall ho
      refine wpOp_step rfl (fun K hK => ?_)
      go_simp
      exact hK _ _ ⟨_, _, _, _, _, _, _, _, _, _, rfl, hS, q0, fun _ => trivial, q2, fun _ => trivial, q4, q5, fun _ => rfl, q7, fun _ => rfl, q9⟩
    · obtain rfl := Option.some.inj ho
      obtain rfl := q7 (hall ⟨7, .data⟩ (by simp) rfl)
      clear hall ho
      refine wpOp_step rfl (fun K hK => ?_)
      go_simp
      exact hK _ _ ⟨_, _, _, _, _, _, _, _, _, _, rfl, hS, q0, fun _ => trivial, q2, fun _ => trivial, q4, q5, q6, fun _ => rfl, q8, fun _ => rfl⟩
  · rintro fL bA v ⟨v23, v24, v25, v26, v27, v22, v28, v29, v6, v7, rfl, hS, q0, q1, q2, q3, q4, q5, q6, q7, q8, q9⟩ hall
    simp only [Act.put, List.setIfInBounds_toArray, List.set_cons_zero, List.set_cons_succ]
    simp only [List.length_cons, List.length_nil] at hall
    obtain rfl := q0 (hall 0 (by omega))
    have e1 : fL 1 = true := hall 1 (by omega)
    obtain rfl := q2 (hall 2 (by omega))
    have e3 : fL 3 = true := hall 3 (by omega)
    obtain rfl := q4 (hall 4 (by omega))
    obtain rfl := q5 (hall 5 (by omega))
    obtain rfl := q6 (hall 6 (by omega))
    obtain rfl := q7 (hall 7 (by omega))
    obtain rfl := q8 (hall 8 (by omega))
    obtain rfl := q9 (hall 9 (by omega))
    clear hall
    have hW3 := hW2.trans (hS.hb.mono hW2.size)
    have X3 := X2.below hS.hb X2.lt
    have Y3 := Y2.below hS.hb Y2.lt
    clear hS HSp hW2 X2 Y2
    have y0 : v.cell? ⟨w.heap.size, 0, none⟩ = some (.int .i64 L) := X3.cell 0
    have y1 : v.cell? ⟨w.heap.size, 1, none⟩ = some (.slice A1 l1.length c1) := X3.cell 1
    have y2 : v.cell? ⟨w.heap.size, 2, none⟩ = some (.slice A2 l2.length c2) := X3.cell 2
    have y3 : v.cell? ⟨w.heap.size, 3, none⟩ = some (.slice A3 l3.length c3) := X3.cell 3
    have y4 : v.cell? ⟨w.heap.size, 4, none⟩ = some (.int .i64 p) := X3.cell 4
    have y5 : v.cell? ⟨w.heap.size, 5, none⟩ = some (.int .i64 q) := X3.cell 5
    have y6 : v.cell? ⟨w.heap.size, 6, none⟩ = some (.int .i64 r) := X3.cell 6
    go_wp2_with fail
    refine Calls.mono (HT.out v hW3).out ?_; rintro e w4 ⟨⟨v4, rfl, G1, k1, G2, k2, G3, k3, rfl, E4, _, _, _⟩, hb4⟩
    have hW4 := hW3.trans (hb4.mono hW3.size)
    have X4 := X3.below hb4 X3.lt
    have Y4 := Y3.below hb4 Y3.lt
    clear y0 y1 y2 y3 y4 y5 y6 hb4 X3 Y3 hW3
    unfold exAgg
    have hba : Below w4.heap.size w4 (w4.alloc (.cells #[.int .i64 L, .slice G1 l1.length k1, .slice G2 l2.length k2, .slice G3 l3.length k3, .int .i64 p, .int .i64 q, .int .i64 r] 36)) := (Below.refl _ _).alloc (Nat.le_refl _) _
    have E7 := E4.later hba
    have X7 := X4.below hba X4.lt
    have Y7 := Y4.below hba Y4.lt
    have K7 := Blk.new w4 36 #[.int .i64 L, .slice G1 l1.length k1, .slice G2 l2.length k2, .slice G3 l3.length k3, .int .i64 p, .int .i64 q, .int .i64 r]
    have hW7 := hW4.trans (hba.mono hW4.size)
    have z0 : (w4.alloc (.cells #[.int .i64 L, .slice G1 l1.length k1, .slice G2 l2.length k2, .slice G3 l3.length k3, .int .i64 p, .int .i64 q, .int .i64 r] 36)).cell? ⟨w.heap.size + 1, 0, none⟩ = some (.slice A l.length c) := Y7.cell 0
    have z1 : (w4.alloc (.cells #[.int .i64 L, .slice G1 l1.length k1, .slice G2 l2.length k2, .slice G3 l3.length k3, .int .i64 p, .int .i64 q, .int .i64 r] 36)).cell? ⟨w.heap.size + 1, 1, none⟩ = some (.int .i64 a) := Y7.cell 1
    have z2 : (w4.alloc (.cells #[.int .i64 L, .slice G1 l1.length k1, .slice G2 l2.length k2, .slice G3 l3.length k3, .int .i64 p, .int .i64 q, .int .i64 r] 36)).cell? ⟨w.heap.size + 1, 2, none⟩ = some (.int .i64 b) := Y7.cell 2
    clear E4 X4 Y4 hW4 hba
    go_wp2_with fail
    generalize w4.alloc (.cells #[.int .i64 L, .slice G1 l1.length k1, .slice G2 l2.length k2, .slice G3 l3.length k3, .int .i64 p, .int .i64 q, .int .i64 r] 36) = w7 at *
    generalize w4.heap.size = gx at *
    refine Calls.mono (HU.out w7 hW7).out ?_; rintro e w8 ⟨⟨v8, rfl, H, h, rfl, F8, _⟩, hb8⟩
    have hW8 := hW7.trans (hb8.mono hW7.size)
    have X8 := X7.below hb8 X7.lt
    have Y8 := Y7.below hb8 Y7.lt
    have K8 := K7.below hb8 K7.lt
    have E8 := E7.later hb8
    clear z0 z1 z2 hW7 X7 Y7 K7 E7 hb8
    have hbc : Below w8.heap.size w8 (w8.alloc (.cells #[.slice H l.length h, .int .i64 a, .int .i64 b] 67)) := (Below.refl _ _).alloc (Nat.le_refl _) _
    have hcall := HIm.out G1 k1 G2 k2 G3 k3 H h _ (E8.later hbc) (F8.later hbc)
    have K9 := K8.below hbc K8.lt
    have y0 : (w8.alloc (.cells #[.slice H l.length h, .int .i64 a, .int .i64 b] 67)).cell? ⟨gx, 0, none⟩ = some (.int .i64 L) := K9.cell 0
    have y1 : (w8.alloc (.cells #[.slice H l.length h, .int .i64 a, .int .i64 b] 67)).cell? ⟨gx, 1, none⟩ = some (.slice G1 l1.length k1) := K9.cell 1
    have y2 : (w8.alloc (.cells #[.slice H l.length h, .int .i64 a, .int .i64 b] 67)).cell? ⟨gx, 2, none⟩ = some (.slice G2 l2.length k2) := K9.cell 2
    have y3 : (w8.alloc (.cells #[.slice H l.length h, .int .i64 a, .int .i64 b] 67)).cell? ⟨gx, 3, none⟩ = some (.slice G3 l3.length k3) := K9.cell 3
    have y4 : (w8.alloc (.cells #[.slice H l.length h, .int .i64 a, .int .i64 b] 67)).cell? ⟨gx, 4, none⟩ = some (.int .i64 p) := K9.cell 4
    have y5 : (w8.alloc (.cells #[.slice H l.length h, .int .i64 a, .int .i64 b] 67)).cell? ⟨gx, 5, none⟩ = some (.int .i64 q) := K9.cell 5
    have y6 : (w8.alloc (.cells #[.slice H l.length h, .int .i64 a, .int .i64 b] 67)).cell? ⟨gx, 6, none⟩ = some (.int .i64 r) := K9.cell 6
    go_wp2_with fail
    have E9 := E8.later hbc
    have F9 := F8.later hbc
    have X9 := X8.below hbc X8.lt
    have Y9 := Y8.below hbc Y8.lt
    have M9 := Blk.new w8 67 #[.slice H l.length h, .int .i64 a, .int .i64 b]
    have hW9 := hW8.trans (hbc.mono hW8.size)
    clear y0 y1 y2 y3 y4 y5 y6 E8 F8 X8 Y8 K8 hW8 hbc
    generalize w8.alloc (.cells #[.slice H l.length h, .int .i64 a, .int .i64 b] 67) = w9 at *
    generalize w8.heap.size = ga at *
    refine Calls.mono hcall.out ?_; rintro e w10 ⟨rfl, hb10⟩
    have E10 := Lib.hid (E9.later hb10)
    have F10 := Lib.hid (F9.later hb10)
    have X10 := X9.below hb10 X9.lt
    have Y10 := Y9.below hb10 Y9.lt
    have K10 := K9.below hb10 K9.lt
    have M10 := M9.below hb10 M9.lt
    have hW10 := hW9.trans (hb10.mono hW9.size)
    clear E9 F9 X9 Y9 K9 M9 hW9 hb10 hcall HIm
    go_wp2_with fail
    refine wp_region_sink 4 (fun a0 fL bA v => ∃ v48 v49 v50 v51 : Value, bA = (((a0.put (some 48) v48).put (some 49) v49).put (some 50) v50).put (some 51) v51 ∧ (EqS w10 (fL 2) (fun x v => ExCopy L l1 l2 l3 p q r x v w10.heap.size) v50 v) ∧ (fL 0 = true → v48 = .agg #[.int .i64 L, .slice G1 l1.length k1, .slice G2 l2.length k2, .slice G3 l3.length k3, .int .i64 p, .int .i64 q, .int .i64 r]) ∧ (fL 1 = true → v49 = .agg #[.int .i64 L, .slice A1 l1.length c1, .slice A2 l2.length c2, .slice A3 l3.length c3, .int .i64 p, .int .i64 q, .int .i64 r]) ∧ (fL 2 = true → True) ∧ (fL 3 = true → v51 = .bool true)) (by kernel_rfl) (by decide +kernel) ?_ ?_ ?_
    · exact ⟨undef, undef, undef, undef, by simp only [Act.put, List.setIfInBounds_toArray, List.set_cons_zero, List.set_cons_succ], ⟨(Below.refl _ _).drew, nofun⟩, nofun, nofun, nofun, nofun⟩
    · rintro fL bA v ⟨v48, v49, v50, v51, rfl, hS, q0, q1, q2, q3⟩ i hi hf o ho hall
      simp only [Act.put, List.setIfInBounds_toArray, List.set_cons_zero, List.set_cons_succ]
      have hn : i = 0 ∨ i = 1 ∨ i = 2 ∨ i = 3 := by omega
      clear hi
      rcases hn with rfl | rfl | rfl | rfl
      · obtain rfl := Option.some.inj ho
        have FF := K10.below hS.hb K10.lt
        have y0 : v.cell? ⟨gx, 0, none⟩ = some (.int .i64 L) := FF.cell 0
        have y1 : v.cell? ⟨gx, 1, none⟩ = some (.slice G1 l1.length k1) := FF.cell 1
        have y2 : v.cell? ⟨gx, 2, none⟩ = some (.slice G2 l2.length k2) := FF.cell 2
        have y3 : v.cell? ⟨gx, 3, none⟩ = some (.slice G3 l3.length k3) := FF.cell 3
        have y4 : v.cell? ⟨gx, 4, none⟩ = some (.int .i64 p) := FF.cell 4
        have y5 : v.cell? ⟨gx, 5, none⟩ = some (.int .i64 q) := FF.cell 5
        have y6 : v.cell? ⟨gx, 6, none⟩ = some (.int .i64 r) := FF.cell 6
        clear hall ho
        refine wpOp_step rfl (fun K hK => ?_)
        go_simp
        exact hK _ _ ⟨_, _, _, _, rfl, hS, fun _ => rfl, q1, fun _ => trivial, q3⟩
      · obtain rfl := Option.some.inj ho
        have FF := X10.below hS.hb X10.lt
        have y0 : v.cell? ⟨w.heap.size, 0, none⟩ = some (.int .i64 L) := FF.cell 0
        have y1 : v.cell? ⟨w.heap.size, 1, none⟩ = some (.slice A1 l1.length c1) := FF.cell 1
        have y2 : v.cell? ⟨w.heap.size, 2, none⟩ = some (.slice A2 l2.length c2) := FF.cell 2
        have y3 : v.cell? ⟨w.heap.size, 3, none⟩ = some (.slice A3 l3.length c3) := FF.cell 3
        have y4 : v.cell? ⟨w.heap.size, 4, none⟩ = some (.int .i64 p) := FF.cell 4
        have y5 : v.cell? ⟨w.heap.size, 5, none⟩ = some (.int .i64 q) := FF.cell 5
        have y6 : v.cell? ⟨w.heap.size, 6, none⟩ = some (.int .i64 r) := FF.cell 6
        clear hall ho
        refine wpOp_step rfl (fun K hK => ?_)
        go_simp
        exact hK _ _ ⟨_, _, _, _, rfl, hS, q0, fun _ => rfl, fun _ => trivial, q3⟩
      · obtain rfl := Option.some.inj ho
        obtain rfl := q1 (hall ⟨1, .data⟩ (by simp) rfl)
        clear hall ho
        refine wpOp_step rfl (fun K hK => ?_)
        go_simp
        refine Calls.mono (HT.out v (hW10.trans (hS.hb.mono hW10.size))).out ?_; rintro e w11 ⟨⟨u, rfl, hu⟩, hb11⟩
        go_simp
        exact hK _ _ ⟨_, _, _, _, rfl, ⟨hS.hb.trans (hb11.mono hS.hb.size), fun _ => hu.weak hS.hb.size⟩, q0, fun _ => rfl, fun _ => trivial, q3⟩
      · obtain rfl := Option.some.inj ho
        obtain rfl := q0 (hall ⟨0, .data⟩ (by simp) rfl)
        have e2 : fL 2 = true := hall ⟨2, .data⟩ (by simp) rfl
        clear hall ho
        refine wpOp_step rfl (fun K hK => ?_)
        obtain ⟨H1, h1, H2, h2, H3, h3, rfl, EH, _, _, _⟩ := hS.q e2
        unfold exAgg
        go_simp
        refine Calls.mono (eqEx_c L G1 k1 H1 h1 l1 G2 k2 H2 h2 l2 G3 k3 H3 h3 l3 p q r v (E10.out.later hS.hb) EH) ?_; rintro e w11 ⟨rfl, hb11⟩
        go_simp
        exact hK _ _ ⟨_, _, _, _, rfl, ⟨hS.hb.trans (hb11.mono hS.hb.size), fun e => (hS.q e).below hb11⟩, fun _ => rfl, q1, fun _ => trivial, fun _ => rfl⟩
    · rintro fL bA v ⟨v48, v49, v50, v51, rfl, hS, q0, q1, q2, q3⟩ hall
      simp only [Act.put, List.setIfInBounds_toArray, List.set_cons_zero, List.set_cons_succ]
      obtain rfl := q0 (hall 0 (by omega))
      obtain rfl := q1 (hall 1 (by omega))
      have e2 : fL 2 = true := hall 2 (by omega)
      obtain rfl := q3 (hall 3 (by omega))
      clear hall
      simp only [List.drop_succ_cons, List.drop_zero]
      have hW12 := hW10.trans (hS.hb.mono hW10.size)
      have F12 := Lib.hid (F10.out.later hS.hb)
      have Y12 := Y10.below hS.hb Y10.lt
      have M12 := M10.below hS.hb M10.lt
      clear hS hW10 E10 F10 X10 Y10 K10 M10 HT
      generalize v = w12 at *
      go_wp2_with fail
      refine wp_region_sink 4 (fun a0 fL bA v => ∃ v53 v54 v55 v56 : Value, bA = (((a0.put (some 53) v53).put (some 54) v54).put (some 55) v55).put (some 56) v56 ∧ (EqS w12 (fL 2) (fun x v => AnCopy l a b x v w12.heap.size) v55 v) ∧ (fL 0 = true → v53 = .agg #[.slice H l.length h, .int .i64 a, .int .i64 b]) ∧ (fL 1 = true → v54 = .agg #[.slice A l.length c, .int .i64 a, .int .i64 b]) ∧ (fL 2 = true → True) ∧ (fL 3 = true → v56 = .bool true)) (by kernel_rfl) (by decide +kernel) ?_ ?_ ?_
      · exact ⟨undef, undef, undef, undef, by simp only [Act.put, List.setIfInBounds_toArray, List.set_cons_zero, List.set_cons_succ], ⟨(Below.refl _ _).drew, nofun⟩, nofun, nofun, nofun, nofun⟩
      · rintro fL bA v ⟨v53, v54, v55, v56, rfl, hS, q0, q1, q2, q3⟩ i hi hf o ho hall
        simp only [Act.put, List.setIfInBounds_toArray, List.set_cons_zero, List.set_cons_succ]
        have hn : i = 0 ∨ i = 1 ∨ i = 2 ∨ i = 3 := by omega
        clear hi
        rcases hn with rfl | rfl | rfl | rfl
        · obtain rfl := Option.some.inj ho
          have FF := M12.below hS.hb M12.lt
          have y0 : v.cell? ⟨ga, 0, none⟩ = some (.slice H l.length h) := FF.cell 0
          have y1 : v.cell? ⟨ga, 1, none⟩ = some (.int .i64 a) := FF.cell 1
          have y2 : v.cell? ⟨ga, 2, none⟩ = some (.int .i64 b) := FF.cell 2
          clear hall ho
          refine wpOp_step rfl (fun K hK => ?_)
          go_simp
          exact hK _ _ ⟨_, _, _, _, rfl, hS, fun _ => rfl, q1, fun _ => trivial, q3⟩
        · obtain rfl := Option.some.inj ho
          have FF := Y12.below hS.hb Y12.lt
          have y0 : v.cell? ⟨w.heap.size + 1, 0, none⟩ = some (.slice A l.length c) := FF.cell 0
          have y1 : v.cell? ⟨w.heap.size + 1, 1, none⟩ = some (.int .i64 a) := FF.cell 1
          have y2 : v.cell? ⟨w.heap.size + 1, 2, none⟩ = some (.int .i64 b) := FF.cell 2
          clear hall ho
          refine wpOp_step rfl (fun K hK => ?_)
          go_simp
          exact hK _ _ ⟨_, _, _, _, rfl, hS, q0, fun _ => rfl, fun _ => trivial, q3⟩
        · obtain rfl := Option.some.inj ho
          obtain rfl := q1 (hall ⟨1, .data⟩ (by simp) rfl)
          clear hall ho
          refine wpOp_step rfl (fun K hK => ?_)
          go_simp
          refine Calls.mono (HU.out v (hW12.trans (hS.hb.mono hW12.size))).out ?_; rintro e w13 ⟨⟨u, rfl, hu⟩, hb13⟩
          go_simp
          exact hK _ _ ⟨_, _, _, _, rfl, ⟨hS.hb.trans (hb13.mono hS.hb.size), fun _ => hu.weak hS.hb.size⟩, q0, fun _ => rfl, fun _ => trivial, q3⟩
        · obtain rfl := Option.some.inj ho
          obtain rfl := q0 (hall ⟨0, .data⟩ (by simp) rfl)
          have e2 : fL 2 = true := hall ⟨2, .data⟩ (by simp) rfl
          clear hall ho
          refine wpOp_step rfl (fun K hK => ?_)
          obtain ⟨B, d, rfl, FH, _⟩ := hS.q e2
          go_simp
          refine Calls.mono (eqAn_c H B h d l a b v (F12.out.later hS.hb) FH) ?_; rintro e w13 ⟨rfl, hb13⟩
          go_simp
          exact hK _ _ ⟨_, _, _, _, rfl, ⟨hS.hb.trans (hb13.mono hS.hb.size), fun e => (hS.q e).below hb13⟩, fun _ => rfl, q1, fun _ => trivial, fun _ => rfl⟩
      · rintro fL bA v ⟨v53, v54, v55, v56, rfl, hS, q0, q1, q2, q3⟩ hall
        simp only [Act.put, List.setIfInBounds_toArray, List.set_cons_zero, List.set_cons_succ]
        obtain rfl := q0 (hall 0 (by omega))
        obtain rfl := q1 (hall 1 (by omega))
        have e2 : fL 2 = true := hall 2 (by omega)
        obtain rfl := q3 (hall 3 (by omega))
        clear hall
        simp only [List.drop_succ_cons, List.drop_zero]
        have hbv := hW12.trans (hS.hb.mono hW12.size)
        go_wp2
        go_ret
        exact ⟨rfl, (by repeat (first | with_reducible exact hbv | with_reducible apply below_drewN' | with_reducible apply Below.drew | (with_reducible refine Below.alloc ?_ (by first | omega | (simp; omega) | simp) _) | (with_reducible refine Below.setCell ?_ (by first | omega | (simp; omega) | simp) _) | exact hbv))⟩
end Go.Proofs.YtgkobjpoeajkdaaGreat
namespace Go.Proofs.YtgkobjpoeajkdaaGreat
open Go.RowKit
/-- the next move -/
def nextP (ms l : List Move) : Move × Int := if stepN ms l < l.length then (⟨0, 0, 0, 0⟩, 5) else if stepN ms l = ms.length then (⟨0, 0, 0, 0⟩, 4) else (ms[stepN ms l]?.getD ⟨0, 0, 0, 0⟩, 0)
def nmRes (ok : Bool) (ms l : List Move) : Move × Int := if ok = true then nextP ms l else (⟨0, 0, 0, 0⟩, 1)
def nmV (x : Move × Int) : Value := .tuple #[.agg #[.int .i64 x.1.kind, .int .i64 x.1.scale, .int .i64 x.1.digits, .int .i64 x.1.tens], .int .i64 x.2]
set_option maxRecDepth 100000 in
set_option maxHeartbeats 2000000 in
theorem implNextMove_c (L : Int) (A1 : Option Addr) (c1 : Nat) (l1 : List Int) (A2 : Option Addr) (c2 : Nat) (l2 : List Int) (A3 : Option Addr) (c3 : Nat) (l3 : List Term) (p q r : Int) (A : Option Addr) (c : Nat) (l : List Move) (a b : Int) (w : World) (E : ExIn w A1 c1 l1 A2 c2 l2 A3 c3 l3) (F : AnIn w A c l) :
    Calls Tryz.prog 38 #[.agg #[.int .i64 L, .slice A1 l1.length c1, .slice A2 l2.length c2, .slice A3 l3.length c3, .int .i64 p, .int .i64 q, .int .i64 r], .agg #[.slice A l.length c, .int .i64 a, .int .i64 b]] w fun e w' => e = .returned (nmV (nmRes (exB L l1 l2 l3 p q r && ansB l a b) (usualP l3).ms l)) ∧ Below w.heap.size w w' := by
  have hW : Below w.heap.size w ((((w.alloc (.cells #[.int .i64 L, .slice A1 l1.length c1, .slice A2 l2.length c2, .slice A3 l3.length c3, .int .i64 p, .int .i64 q, .int .i64 r] 36)).alloc (.cells #[.slice A l.length c, .int .i64 a, .int .i64 b] 67)).alloc (.cells #[.int .i64 0, .int .i64 0, .int .i64 0, .int .i64 0] 72)).alloc (.cells #[.slice A l.length c, .int .i64 a, .int .i64 b] 67)) := (by repeat (first | with_reducible exact Below.refl _ _ | with_reducible apply below_drewN' | with_reducible apply Below.drew | (with_reducible refine Below.alloc ?_ (by first | omega | (simp; omega) | simp) _) | (with_reducible refine Below.setCell ?_ (by first | omega | (simp; omega) | simp) _) | exact Below.refl _ _))
  have X0 := (((Blk.new w 36 #[.int .i64 L, .slice A1 l1.length c1, .slice A2 l2.length c2, .slice A3 l3.length c3, .int .i64 p, .int .i64 q, .int .i64 r]).alloc (.cells #[.slice A l.length c, .int .i64 a, .int .i64 b] 67)).alloc (.cells #[.int .i64 0, .int .i64 0, .int .i64 0, .int .i64 0] 72)).alloc (.cells #[.slice A l.length c, .int .i64 a, .int .i64 b] 67)
  have B0 := ((Blk.new' (w.alloc (.cells #[.int .i64 L, .slice A1 l1.length c1, .slice A2 l2.length c2, .slice A3 l3.length c3, .int .i64 p, .int .i64 q, .int .i64 r] 36)) 67 #[.slice A l.length c, .int .i64 a, .int .i64 b] (g := w.heap.size + 1) (by simp)).alloc (.cells #[.int .i64 0, .int .i64 0, .int .i64 0, .int .i64 0] 72)).alloc (.cells #[.slice A l.length c, .int .i64 a, .int .i64 b] 67)
  have R0 := (Blk.new' ((w.alloc (.cells #[.int .i64 L, .slice A1 l1.length c1, .slice A2 l2.length c2, .slice A3 l3.length c3, .int .i64 p, .int .i64 q, .int .i64 r] 36)).alloc (.cells #[.slice A l.length c, .int .i64 a, .int .i64 b] 67)) 72 #[.int .i64 0, .int .i64 0, .int .i64 0, .int .i64 0] (g := w.heap.size + 1 + 1) (by simp)).alloc (.cells #[.slice A l.length c, .int .i64 a, .int .i64 b] 67)
  have C0 := Blk.new' (((w.alloc (.cells #[.int .i64 L, .slice A1 l1.length c1, .slice A2 l2.length c2, .slice A3 l3.length c3, .int .i64 p, .int .i64 q, .int .i64 r] 36)).alloc (.cells #[.slice A l.length c, .int .i64 a, .int .i64 b] 67)).alloc (.cells #[.int .i64 0, .int .i64 0, .int .i64 0, .int .i64 0] 72)) 67 #[.slice A l.length c, .int .i64 a, .int .i64 b] (g := w.heap.size + 1 + 1 + 1) (by simp)
  have HK := Lib.hid (check1_c L A1 c1 l1 A2 c2 l2 A3 c3 l3 p q r A c l a b _ (E.later hW) (F.later hW) (w.heap.size + 1 + 1 + 1) C0)
  have HS : Hid (exB L l1 l2 l3 p q r = true → ∀ W, Below w.heap.size w W → _) := fun hx W hW => stepOf_c L A1 c1 l1 A2 c2 l2 A3 c3 l3 p q r A c l a b W (E.later hW) hx (F.later hW)
  have hx : Hid ((exB L l1 l2 l3 p q r && ansB l a b) = true → exB L l1 l2 l3 p q r = true ∧ (usualP l3).ms.length ≤ 19) := fun h => by
    have h1 := (Bool.and_eq_true _ _ ▸ h : _ ∧ _).1
    obtain ⟨R, r1, r2, r3⟩ := ex_usual h1 E
    exact ⟨h1, (usual_ok r1 r2 r3).2⟩
  have hll := F.n
  clear C0 E F
  generalize (exB L l1 l2 l3 p q r && ansB l a b) = ok at *
  generalize exB L l1 l2 l3 p q r = xb at *
  generalize (usualP l3).ms = ms at *
  cases ok with
  | false =>
    have hres : Hid (nmRes false ms l = (⟨0, 0, 0, 0⟩, 1)) := rfl
    simp only [Bool.false_eq_true, if_false] at HK
    have HK := Lib.hid HK.out
    go_enter Tryz.func38, Tryz.ntmps38
    go_wp2_with fail
    generalize ((((w.alloc (.cells #[.int .i64 L, .slice A1 l1.length c1, .slice A2 l2.length c2, .slice A3 l3.length c3, .int .i64 p, .int .i64 q, .int .i64 r] 36)).alloc (.cells #[.slice A l.length c, .int .i64 a, .int .i64 b] 67)).alloc (.cells #[.int .i64 0, .int .i64 0, .int .i64 0, .int .i64 0] 72)).alloc (.cells #[.slice A l.length c, .int .i64 a, .int .i64 b] 67)) = W at *
    refine Calls.mono HK.out ?_; rintro e w1 ⟨rfl, hb1⟩
    have hW1 := hW.trans (hb1.mono hW.size)
    have R1 := R0.below hb1 R0.lt
    have r0 : w1.cell? ⟨w.heap.size + 1 + 1, 0, none⟩ = some (.int .i64 0) := R1.cell 0
    have f0 : w1.frozen? ⟨w.heap.size + 1 + 1, 0, none⟩ = false := R1.frozen 0
    have r1 : w1.cell? ⟨w.heap.size + 1 + 1, 1, none⟩ = some (.int .i64 0) := R1.cell 1
    have f1 : w1.frozen? ⟨w.heap.size + 1 + 1, 1, none⟩ = false := R1.frozen 1
    have r2 : w1.cell? ⟨w.heap.size + 1 + 1, 2, none⟩ = some (.int .i64 0) := R1.cell 2
    have f2 : w1.frozen? ⟨w.heap.size + 1 + 1, 2, none⟩ = false := R1.frozen 2
    have r3 : w1.cell? ⟨w.heap.size + 1 + 1, 3, none⟩ = some (.int .i64 0) := R1.cell 3
    have f3 : w1.frozen? ⟨w.heap.size + 1 + 1, 3, none⟩ = false := R1.frozen 3
    clear HK X0 B0 R0 hW hb1 HS hx
    go_wp2
    refine bodyPost_ret (v := .tuple #[.agg #[.int .i64 0, .int .i64 0, .int .i64 0, .int .i64 0], .int .i64 1]) (by simp [results, Tryz.results38, go_sem, r0, r1, r2, r3]) rfl ⟨by rw [hres.out]; rfl, (by repeat (first | with_reducible exact hW1 | with_reducible apply below_drewN' | with_reducible apply Below.drew | (with_reducible refine Below.alloc ?_ (by first | omega | (simp; omega) | simp) _) | (with_reducible refine Below.setCell ?_ (by first | omega | (simp; omega) | simp) _) | exact hW1))⟩
  | true =>
    simp only [if_true] at HK
    obtain ⟨hx1, hms⟩ := hx.out rfl
    have HT := Lib.hid (HS.out hx1)
    clear HS hx hx1
    go_enter Tryz.func38, Tryz.ntmps38
    go_wp2_with fail
    generalize ((((w.alloc (.cells #[.int .i64 L, .slice A1 l1.length c1, .slice A2 l2.length c2, .slice A3 l3.length c3, .int .i64 p, .int .i64 q, .int .i64 r] 36)).alloc (.cells #[.slice A l.length c, .int .i64 a, .int .i64 b] 67)).alloc (.cells #[.int .i64 0, .int .i64 0, .int .i64 0, .int .i64 0] 72)).alloc (.cells #[.slice A l.length c, .int .i64 a, .int .i64 b] 67)) = W at *
    refine Calls.mono HK.out ?_; rintro e w1 ⟨rfl, hb1⟩
    have hW1 := hW.trans (hb1.mono hW.size)
    have X1 := X0.below hb1 X0.lt
    have B1 := B0.below hb1 B0.lt
    have R1 := R0.below hb1 R0.lt
    have hcall := Lib.hid (HT.out w1 hW1)
    have y0 : w1.cell? ⟨w.heap.size, 0, none⟩ = some (.int .i64 L) := X1.cell 0
    have y1 : w1.cell? ⟨w.heap.size, 1, none⟩ = some (.slice A1 l1.length c1) := X1.cell 1
    have y2 : w1.cell? ⟨w.heap.size, 2, none⟩ = some (.slice A2 l2.length c2) := X1.cell 2
    have y3 : w1.cell? ⟨w.heap.size, 3, none⟩ = some (.slice A3 l3.length c3) := X1.cell 3
    have y4 : w1.cell? ⟨w.heap.size, 4, none⟩ = some (.int .i64 p) := X1.cell 4
    have y5 : w1.cell? ⟨w.heap.size, 5, none⟩ = some (.int .i64 q) := X1.cell 5
    have y6 : w1.cell? ⟨w.heap.size, 6, none⟩ = some (.int .i64 r) := X1.cell 6
    have z0 : w1.cell? ⟨w.heap.size + 1, 0, none⟩ = some (.slice A l.length c) := B1.cell 0
    have z1 : w1.cell? ⟨w.heap.size + 1, 1, none⟩ = some (.int .i64 a) := B1.cell 1
    have z2 : w1.cell? ⟨w.heap.size + 1, 2, none⟩ = some (.int .i64 b) := B1.cell 2
    clear HK X0 B0 R0 hb1 hW HT
    go_wp2_with fail
    refine Calls.mono hcall.out ?_; rintro e w2 ⟨⟨A', c', rfl, hk', hs'⟩, hb2⟩
    have hW2 := hW1.trans (hb2.mono hW1.size)
    have B2 := B1.below hb2 B1.lt
    have R2 := R1.below hb2 R1.lt
    clear y0 y1 y2 y3 y4 y5 y6 z0 z1 z2 hcall hW1 hb2 X1 B1 R1
    have z0 : w2.cell? ⟨w.heap.size + 1, 0, none⟩ = some (.slice A l.length c) := B2.cell 0
    have r0 : w2.cell? ⟨w.heap.size + 1 + 1, 0, none⟩ = some (.int .i64 0) := R2.cell 0
    have f0 : w2.frozen? ⟨w.heap.size + 1 + 1, 0, none⟩ = false := R2.frozen 0
    have r1 : w2.cell? ⟨w.heap.size + 1 + 1, 1, none⟩ = some (.int .i64 0) := R2.cell 1
    have f1 : w2.frozen? ⟨w.heap.size + 1 + 1, 1, none⟩ = false := R2.frozen 1
    have r2 : w2.cell? ⟨w.heap.size + 1 + 1, 2, none⟩ = some (.int .i64 0) := R2.cell 2
    have f2 : w2.frozen? ⟨w.heap.size + 1 + 1, 2, none⟩ = false := R2.frozen 2
    have r3 : w2.cell? ⟨w.heap.size + 1 + 1, 3, none⟩ = some (.int .i64 0) := R2.cell 3
    have f3 : w2.frozen? ⟨w.heap.size + 1 + 1, 3, none⟩ = false := R2.frozen 3
    clear B2 R2
    have Hn := Lib.hid (stepN_le (ms := ms) (l := l))
    have hP : Hid (nmRes true ms l = nextP ms l) := rfl
    by_cases h1 : stepN ms l < l.length
    · have hres : Hid (nmRes true ms l = (⟨0, 0, 0, 0⟩, 5)) := hP.out.trans (if_pos h1)
      have h1I : ((stepN ms l : Nat) : Int) < (l.length : Int) := by omega
      generalize stepN ms l = n at *
      go_wp2
      refine bodyPost_ret (v := .tuple #[.agg #[.int .i64 0, .int .i64 0, .int .i64 0, .int .i64 0], .int .i64 5]) (by simp [results, Tryz.results38, go_sem, r0, r1, r2, r3]) rfl ⟨by rw [hres.out]; rfl, (by repeat (first | with_reducible exact hW2 | with_reducible apply below_drewN' | with_reducible apply Below.drew | (with_reducible refine Below.alloc ?_ (by first | omega | (simp; omega) | simp) _) | (with_reducible refine Below.setCell ?_ (by first | omega | (simp; omega) | simp) _) | exact hW2))⟩
    · have h1I : ¬ ((stepN ms l : Nat) : Int) < (l.length : Int) := by omega
      by_cases h2 : stepN ms l = ms.length
      · have hres : Hid (nmRes true ms l = (⟨0, 0, 0, 0⟩, 4)) := hP.out.trans ((if_neg h1).trans (if_pos h2))
        have h2I : ((stepN ms l : Nat) : Int) = (ms.length : Int) := by omega
        clear h2
        generalize stepN ms l = n at *
        go_wp2
        refine bodyPost_ret (v := .tuple #[.agg #[.int .i64 0, .int .i64 0, .int .i64 0, .int .i64 0], .int .i64 4]) (by simp [results, Tryz.results38, go_sem, r0, r1, r2, r3]) rfl ⟨by rw [hres.out]; rfl, (by repeat (first | with_reducible exact hW2 | with_reducible apply below_drewN' | with_reducible apply Below.drew | (with_reducible refine Below.alloc ?_ (by first | omega | (simp; omega) | simp) _) | (with_reducible refine Below.setCell ?_ (by first | omega | (simp; omega) | simp) _) | exact hW2))⟩
      · have hlt : stepN ms l < ms.length := by have := Hn.out; omega
        have hres : Hid (nmRes true ms l = (ms[stepN ms l], 0)) := hP.out.trans ((if_neg h1).trans ((if_neg h2).trans (by rw [List.getElem?_eq_getElem hlt]; rfl)))
        have h2I : ¬ ((stepN ms l : Nat) : Int) = (ms.length : Int) := by omega
        have h3I : ((stepN ms l : Nat) : Int) < (ms.length : Int) := by omega
        obtain ⟨bb, off, rfl, bbB, hc⟩ := hs'.at_ (i := stepN ms l) (by simpa using hlt)
        simp only [List.getElem_map] at hc
        have m0 : w2.cell? ⟨bb, off + stepN ms l * 4, none⟩ = some (.int .i64 ms[stepN ms l].kind) := hc 0 _ rfl
        have m1 : w2.cell? ⟨bb, off + stepN ms l * 4 + 1, none⟩ = some (.int .i64 ms[stepN ms l].scale) := hc 1 _ rfl
        have m2 : w2.cell? ⟨bb, off + stepN ms l * 4 + 2, none⟩ = some (.int .i64 ms[stepN ms l].digits) := hc 2 _ rfl
        have m3 : w2.cell? ⟨bb, off + stepN ms l * 4 + 3, none⟩ = some (.int .i64 ms[stepN ms l].tens) := hc 3 _ rfl
        clear hc
        generalize ms[stepN ms l] = x at *
        generalize stepN ms l = n at *
        obtain ⟨x0, x1, x2, x3⟩ := x
        simp only at m0 m1 m2 m3
        go_wp2
        refine bodyPost_ret (v := .tuple #[.agg #[.int .i64 x0, .int .i64 x1, .int .i64 x2, .int .i64 x3], .int .i64 0]) (by simp [results, Tryz.results38, go_sem, r0, r1, r2, r3]) rfl ⟨by rw [hres.out]; rfl, (by repeat (first | with_reducible exact hW2 | with_reducible apply below_drewN' | with_reducible apply Below.drew | (with_reducible refine Below.alloc ?_ (by first | omega | (simp; omega) | simp) _) | (with_reducible refine Below.setCell ?_ (by first | omega | (simp; omega) | simp) _) | exact hW2))⟩
set_option maxRecDepth 100000 in
set_option maxHeartbeats 2000000 in
theorem specNextMove_c (L : Int) (A1 : Option Addr) (c1 : Nat) (l1 : List Int) (A2 : Option Addr) (c2 : Nat) (l2 : List Int) (A3 : Option Addr) (c3 : Nat) (l3 : List Term) (p q r : Int) (A : Option Addr) (c : Nat) (l : List Move) (a b : Int) (w : World) (E : ExIn w A1 c1 l1 A2 c2 l2 A3 c3 l3) (F : AnIn w A c l) :
    Calls Tryz.prog 37 #[.agg #[.int .i64 L, .slice A1 l1.length c1, .slice A2 l2.length c2, .slice A3 l3.length c3, .int .i64 p, .int .i64 q, .int .i64 r], .agg #[.slice A l.length c, .int .i64 a, .int .i64 b]] w fun e w' => e = .returned (nmV (nmRes (exB L l1 l2 l3 p q r && ansB l a b) (usualP l3).ms l)) ∧ Below w.heap.size w w' := by
  have hW : Below w.heap.size w (((w.alloc (.cells #[.int .i64 L, .slice A1 l1.length c1, .slice A2 l2.length c2, .slice A3 l3.length c3, .int .i64 p, .int .i64 q, .int .i64 r] 36)).alloc (.cells #[.slice A l.length c, .int .i64 a, .int .i64 b] 67)).alloc (.cells #[.int .i64 0, .int .i64 0, .int .i64 0, .int .i64 0] 72)) := (by repeat (first | with_reducible exact Below.refl _ _ | with_reducible apply below_drewN' | with_reducible apply Below.drew | (with_reducible refine Below.alloc ?_ (by first | omega | (simp; omega) | simp) _) | (with_reducible refine Below.setCell ?_ (by first | omega | (simp; omega) | simp) _) | exact Below.refl _ _))
  have X0 := ((Blk.new w 36 #[.int .i64 L, .slice A1 l1.length c1, .slice A2 l2.length c2, .slice A3 l3.length c3, .int .i64 p, .int .i64 q, .int .i64 r]).alloc (.cells #[.slice A l.length c, .int .i64 a, .int .i64 b] 67)).alloc (.cells #[.int .i64 0, .int .i64 0, .int .i64 0, .int .i64 0] 72)
  have B0 := (Blk.new' (w.alloc (.cells #[.int .i64 L, .slice A1 l1.length c1, .slice A2 l2.length c2, .slice A3 l3.length c3, .int .i64 p, .int .i64 q, .int .i64 r] 36)) 67 #[.slice A l.length c, .int .i64 a, .int .i64 b] (g := w.heap.size + 1) (by simp)).alloc (.cells #[.int .i64 0, .int .i64 0, .int .i64 0, .int .i64 0] 72)
  have R0 := Blk.new' ((w.alloc (.cells #[.int .i64 L, .slice A1 l1.length c1, .slice A2 l2.length c2, .slice A3 l3.length c3, .int .i64 p, .int .i64 q, .int .i64 r] 36)).alloc (.cells #[.slice A l.length c, .int .i64 a, .int .i64 b] 67)) 72 #[.int .i64 0, .int .i64 0, .int .i64 0, .int .i64 0] (g := w.heap.size + 1 + 1) (by simp)
  have HX := Lib.hid (specIsExercise_c L A1 c1 l1 A2 c2 l2 A3 c3 l3 p q r _ (E.later hW))
  have HA : Hid (∀ W, Below w.heap.size w W → _) := fun W hW => l31Answer_c A c l a b W (F.later hW)
  have HS : Hid (exB L l1 l2 l3 p q r = true → ∀ W, Below w.heap.size w W → _) := fun hx W hW => l31Step_c L A1 c1 l1 A2 c2 l2 A3 c3 l3 p q r A c l a b W (E.later hW) hx (F.later hW)
  have HU : Hid (exB L l1 l2 l3 p q r = true → (usualP l3).ms.length ≤ 19 ∧ ∀ W, Below w.heap.size w W → Calls Tryz.prog 66 #[.agg #[.int .i64 L, .slice A1 l1.length c1, .slice A2 l2.length c2], .slice A3 l3.length c3] W (ListPost (usualP l3).ms W)) := fun hx => by
    obtain ⟨R, r1, r2, r3⟩ := ex_usual hx E
    exact ⟨(usual_ok r1 r2 r3).2, fun W hW => l14Usual_c L A1 c1 l1 A2 c2 l2 A3 c3 l3 W (R.later hW) r1 r2 r3 (E.later hW).s3⟩
  have hll := F.n
  clear E F
  generalize ansB l a b = ab at *
  generalize exB L l1 l2 l3 p q r = xb at *
  generalize (usualP l3).ms = ms at *
  cases xb with
  | false =>
    have hres : Hid (nmRes (false && ab) ms l = (⟨0, 0, 0, 0⟩, 1)) := rfl
    clear HS HA HU
    go_enter Tryz.func37, Tryz.ntmps37
    go_wp2_with fail
    generalize (((w.alloc (.cells #[.int .i64 L, .slice A1 l1.length c1, .slice A2 l2.length c2, .slice A3 l3.length c3, .int .i64 p, .int .i64 q, .int .i64 r] 36)).alloc (.cells #[.slice A l.length c, .int .i64 a, .int .i64 b] 67)).alloc (.cells #[.int .i64 0, .int .i64 0, .int .i64 0, .int .i64 0] 72)) = W at *
    refine Calls.mono HX.out ?_; rintro e w1 ⟨rfl, hb1⟩
    have hW1 := hW.trans (hb1.mono hW.size)
    have R1 := R0.below hb1 R0.lt
    have r0 : w1.cell? ⟨w.heap.size + 1 + 1, 0, none⟩ = some (.int .i64 0) := R1.cell 0
    have f0 : w1.frozen? ⟨w.heap.size + 1 + 1, 0, none⟩ = false := R1.frozen 0
    have r1 : w1.cell? ⟨w.heap.size + 1 + 1, 1, none⟩ = some (.int .i64 0) := R1.cell 1
    have f1 : w1.frozen? ⟨w.heap.size + 1 + 1, 1, none⟩ = false := R1.frozen 1
    have r2 : w1.cell? ⟨w.heap.size + 1 + 1, 2, none⟩ = some (.int .i64 0) := R1.cell 2
    have f2 : w1.frozen? ⟨w.heap.size + 1 + 1, 2, none⟩ = false := R1.frozen 2
    have r3 : w1.cell? ⟨w.heap.size + 1 + 1, 3, none⟩ = some (.int .i64 0) := R1.cell 3
    have f3 : w1.frozen? ⟨w.heap.size + 1 + 1, 3, none⟩ = false := R1.frozen 3
    clear HX X0 B0 R0 hW hb1
    go_wp2
    refine bodyPost_ret (v := .tuple #[.agg #[.int .i64 0, .int .i64 0, .int .i64 0, .int .i64 0], .int .i64 1]) (by simp [results, Tryz.results37, go_sem, r0, r1, r2, r3]) rfl ⟨by rw [hres.out]; rfl, (by repeat (first | with_reducible exact hW1 | with_reducible apply below_drewN' | with_reducible apply Below.drew | (with_reducible refine Below.alloc ?_ (by first | omega | (simp; omega) | simp) _) | (with_reducible refine Below.setCell ?_ (by first | omega | (simp; omega) | simp) _) | exact hW1))⟩
  | true =>
    have HT := Lib.hid (HS.out rfl)
    have HV := Lib.hid (HU.out rfl)
    clear HS HU
    cases ab with
    | false =>
      have hres : Hid (nmRes (true && false) ms l = (⟨0, 0, 0, 0⟩, 1)) := rfl
      go_enter Tryz.func37, Tryz.ntmps37
      go_wp2_with fail
      generalize (((w.alloc (.cells #[.int .i64 L, .slice A1 l1.length c1, .slice A2 l2.length c2, .slice A3 l3.length c3, .int .i64 p, .int .i64 q, .int .i64 r] 36)).alloc (.cells #[.slice A l.length c, .int .i64 a, .int .i64 b] 67)).alloc (.cells #[.int .i64 0, .int .i64 0, .int .i64 0, .int .i64 0] 72)) = W at *
      refine Calls.mono HX.out ?_; rintro e w1 ⟨rfl, hb1⟩
      have hW1 := hW.trans (hb1.mono hW.size)
      have X1 := X0.below hb1 X0.lt
      have B1 := B0.below hb1 B0.lt
      have R1 := R0.below hb1 R0.lt
      have hcall := Lib.hid (HA.out w1 hW1)
      have y0 : w1.cell? ⟨w.heap.size, 0, none⟩ = some (.int .i64 L) := X1.cell 0
      have y1 : w1.cell? ⟨w.heap.size, 1, none⟩ = some (.slice A1 l1.length c1) := X1.cell 1
      have y2 : w1.cell? ⟨w.heap.size, 2, none⟩ = some (.slice A2 l2.length c2) := X1.cell 2
      have y3 : w1.cell? ⟨w.heap.size, 3, none⟩ = some (.slice A3 l3.length c3) := X1.cell 3
      have y4 : w1.cell? ⟨w.heap.size, 4, none⟩ = some (.int .i64 p) := X1.cell 4
      have y5 : w1.cell? ⟨w.heap.size, 5, none⟩ = some (.int .i64 q) := X1.cell 5
      have y6 : w1.cell? ⟨w.heap.size, 6, none⟩ = some (.int .i64 r) := X1.cell 6
      have z0 : w1.cell? ⟨w.heap.size + 1, 0, none⟩ = some (.slice A l.length c) := B1.cell 0
      have z1 : w1.cell? ⟨w.heap.size + 1, 1, none⟩ = some (.int .i64 a) := B1.cell 1
      have z2 : w1.cell? ⟨w.heap.size + 1, 2, none⟩ = some (.int .i64 b) := B1.cell 2
      clear HX X0 B0 R0 hb1 hW HT HV HA
      go_wp2_with fail
      refine Calls.mono hcall.out ?_; rintro e w2 ⟨rfl, hb2⟩
      have hW2 := hW1.trans (hb2.mono hW1.size)
      have R2 := R1.below hb2 R1.lt
      have r0 : w2.cell? ⟨w.heap.size + 1 + 1, 0, none⟩ = some (.int .i64 0) := R2.cell 0
      have f0 : w2.frozen? ⟨w.heap.size + 1 + 1, 0, none⟩ = false := R2.frozen 0
      have r1 : w2.cell? ⟨w.heap.size + 1 + 1, 1, none⟩ = some (.int .i64 0) := R2.cell 1
      have f1 : w2.frozen? ⟨w.heap.size + 1 + 1, 1, none⟩ = false := R2.frozen 1
      have r2 : w2.cell? ⟨w.heap.size + 1 + 1, 2, none⟩ = some (.int .i64 0) := R2.cell 2
      have f2 : w2.frozen? ⟨w.heap.size + 1 + 1, 2, none⟩ = false := R2.frozen 2
      have r3 : w2.cell? ⟨w.heap.size + 1 + 1, 3, none⟩ = some (.int .i64 0) := R2.cell 3
      have f3 : w2.frozen? ⟨w.heap.size + 1 + 1, 3, none⟩ = false := R2.frozen 3
      clear y0 y1 y2 y3 y4 y5 y6 z0 z1 z2 hcall hW1 hb2 X1 B1 R1 R2
      go_wp2
      refine bodyPost_ret (v := .tuple #[.agg #[.int .i64 0, .int .i64 0, .int .i64 0, .int .i64 0], .int .i64 1]) (by simp [results, Tryz.results37, go_sem, r0, r1, r2, r3]) rfl ⟨by rw [hres.out]; rfl, (by repeat (first | with_reducible exact hW2 | with_reducible apply below_drewN' | with_reducible apply Below.drew | (with_reducible refine Below.alloc ?_ (by first | omega | (simp; omega) | simp) _) | (with_reducible refine Below.setCell ?_ (by first | omega | (simp; omega) | simp) _) | exact hW2))⟩
    | true =>
      obtain ⟨hms, HV⟩ := HV.out
      have HV := Lib.hid HV
      go_enter Tryz.func37, Tryz.ntmps37
      go_wp2_with fail
      generalize (((w.alloc (.cells #[.int .i64 L, .slice A1 l1.length c1, .slice A2 l2.length c2, .slice A3 l3.length c3, .int .i64 p, .int .i64 q, .int .i64 r] 36)).alloc (.cells #[.slice A l.length c, .int .i64 a, .int .i64 b] 67)).alloc (.cells #[.int .i64 0, .int .i64 0, .int .i64 0, .int .i64 0] 72)) = W at *
      refine Calls.mono HX.out ?_; rintro e w1 ⟨rfl, hb1⟩
      have hW1 := hW.trans (hb1.mono hW.size)
      have X1 := X0.below hb1 X0.lt
      have B1 := B0.below hb1 B0.lt
      have R1 := R0.below hb1 R0.lt
      have hcall := Lib.hid (HA.out w1 hW1)
      have y0 : w1.cell? ⟨w.heap.size, 0, none⟩ = some (.int .i64 L) := X1.cell 0
      have y1 : w1.cell? ⟨w.heap.size, 1, none⟩ = some (.slice A1 l1.length c1) := X1.cell 1
      have y2 : w1.cell? ⟨w.heap.size, 2, none⟩ = some (.slice A2 l2.length c2) := X1.cell 2
      have y3 : w1.cell? ⟨w.heap.size, 3, none⟩ = some (.slice A3 l3.length c3) := X1.cell 3
      have y4 : w1.cell? ⟨w.heap.size, 4, none⟩ = some (.int .i64 p) := X1.cell 4
      have y5 : w1.cell? ⟨w.heap.size, 5, none⟩ = some (.int .i64 q) := X1.cell 5
      have y6 : w1.cell? ⟨w.heap.size, 6, none⟩ = some (.int .i64 r) := X1.cell 6
      have z0 : w1.cell? ⟨w.heap.size + 1, 0, none⟩ = some (.slice A l.length c) := B1.cell 0
      have z1 : w1.cell? ⟨w.heap.size + 1, 1, none⟩ = some (.int .i64 a) := B1.cell 1
      have z2 : w1.cell? ⟨w.heap.size + 1, 2, none⟩ = some (.int .i64 b) := B1.cell 2
      clear HX X0 B0 R0 hb1 hW HA
      go_wp2_with fail
      refine Calls.mono hcall.out ?_; rintro e w2 ⟨rfl, hb2⟩
      have hW2 := hW1.trans (hb2.mono hW1.size)
      have X2 := X1.below hb2 X1.lt
      have B2 := B1.below hb2 B1.lt
      have R2 := R1.below hb2 R1.lt
      have hcall := Lib.hid (HT.out w2 hW2)
      clear y0 y1 y2 y3 y4 y5 y6 z0 z1 z2 hW1 hb2 X1 B1 R1 HT
      have y0 : w2.cell? ⟨w.heap.size, 0, none⟩ = some (.int .i64 L) := X2.cell 0
      have y1 : w2.cell? ⟨w.heap.size, 1, none⟩ = some (.slice A1 l1.length c1) := X2.cell 1
      have y2 : w2.cell? ⟨w.heap.size, 2, none⟩ = some (.slice A2 l2.length c2) := X2.cell 2
      have y3 : w2.cell? ⟨w.heap.size, 3, none⟩ = some (.slice A3 l3.length c3) := X2.cell 3
      have y4 : w2.cell? ⟨w.heap.size, 4, none⟩ = some (.int .i64 p) := X2.cell 4
      have y5 : w2.cell? ⟨w.heap.size, 5, none⟩ = some (.int .i64 q) := X2.cell 5
      have y6 : w2.cell? ⟨w.heap.size, 6, none⟩ = some (.int .i64 r) := X2.cell 6
      have z0 : w2.cell? ⟨w.heap.size + 1, 0, none⟩ = some (.slice A l.length c) := B2.cell 0
      have z1 : w2.cell? ⟨w.heap.size + 1, 1, none⟩ = some (.int .i64 a) := B2.cell 1
      have z2 : w2.cell? ⟨w.heap.size + 1, 2, none⟩ = some (.int .i64 b) := B2.cell 2
      go_wp2_with fail
      refine Calls.mono hcall.out ?_; rintro e w3 ⟨rfl, hb3⟩
      have hW3 := hW2.trans (hb3.mono hW2.size)
      have X3 := X2.below hb3 X2.lt
      have B3 := B2.below hb3 B2.lt
      have R3 := R2.below hb3 R2.lt
      have hcall := Lib.hid (HV.out w3 hW3)
      clear y0 y1 y2 y3 y4 y5 y6 z0 z1 z2 hW2 hb3 X2 B2 R2 HV
      have y0 : w3.cell? ⟨w.heap.size, 0, none⟩ = some (.int .i64 L) := X3.cell 0
      have y1 : w3.cell? ⟨w.heap.size, 1, none⟩ = some (.slice A1 l1.length c1) := X3.cell 1
      have y2 : w3.cell? ⟨w.heap.size, 2, none⟩ = some (.slice A2 l2.length c2) := X3.cell 2
      have y3 : w3.cell? ⟨w.heap.size, 3, none⟩ = some (.slice A3 l3.length c3) := X3.cell 3
      have y4 : w3.cell? ⟨w.heap.size, 4, none⟩ = some (.int .i64 p) := X3.cell 4
      have y5 : w3.cell? ⟨w.heap.size, 5, none⟩ = some (.int .i64 q) := X3.cell 5
      have y6 : w3.cell? ⟨w.heap.size, 6, none⟩ = some (.int .i64 r) := X3.cell 6
      have z0 : w3.cell? ⟨w.heap.size + 1, 0, none⟩ = some (.slice A l.length c) := B3.cell 0
      have z1 : w3.cell? ⟨w.heap.size + 1, 1, none⟩ = some (.int .i64 a) := B3.cell 1
      have z2 : w3.cell? ⟨w.heap.size + 1, 2, none⟩ = some (.int .i64 b) := B3.cell 2
      go_wp2_with fail
      refine Calls.mono hcall.out ?_; rintro e w4 ⟨A', c', rfl, hs', hb4⟩
      have hW4 := hW3.trans (hb4.mono hW3.size)
      have B4 := B3.below hb4 B3.lt
      have R4 := R3.below hb4 R3.lt
      clear y0 y1 y2 y3 y4 y5 y6 z0 z1 z2 hcall hW3 hb4 X3 B3 R3
      have z0 : w4.cell? ⟨w.heap.size + 1, 0, none⟩ = some (.slice A l.length c) := B4.cell 0
      have r0 : w4.cell? ⟨w.heap.size + 1 + 1, 0, none⟩ = some (.int .i64 0) := R4.cell 0
      have f0 : w4.frozen? ⟨w.heap.size + 1 + 1, 0, none⟩ = false := R4.frozen 0
      have r1 : w4.cell? ⟨w.heap.size + 1 + 1, 1, none⟩ = some (.int .i64 0) := R4.cell 1
      have f1 : w4.frozen? ⟨w.heap.size + 1 + 1, 1, none⟩ = false := R4.frozen 1
      have r2 : w4.cell? ⟨w.heap.size + 1 + 1, 2, none⟩ = some (.int .i64 0) := R4.cell 2
      have f2 : w4.frozen? ⟨w.heap.size + 1 + 1, 2, none⟩ = false := R4.frozen 2
      have r3 : w4.cell? ⟨w.heap.size + 1 + 1, 3, none⟩ = some (.int .i64 0) := R4.cell 3
      have f3 : w4.frozen? ⟨w.heap.size + 1 + 1, 3, none⟩ = false := R4.frozen 3
      clear B4 R4
      have Hn := Lib.hid (stepN_le (ms := ms) (l := l))
      have hP : Hid (nmRes (true && true) ms l = nextP ms l) := rfl
      by_cases h1 : stepN ms l < l.length
      · have hres : Hid (nmRes (true && true) ms l = (⟨0, 0, 0, 0⟩, 5)) := hP.out.trans (if_pos h1)
        have h1I : ((stepN ms l : Nat) : Int) < (l.length : Int) := by omega
        generalize stepN ms l = n at *
        go_wp2
        refine bodyPost_ret (v := .tuple #[.agg #[.int .i64 0, .int .i64 0, .int .i64 0, .int .i64 0], .int .i64 5]) (by simp [results, Tryz.results37, go_sem, r0, r1, r2, r3]) rfl ⟨by rw [hres.out]; rfl, (by repeat (first | with_reducible exact hW4 | with_reducible apply below_drewN' | with_reducible apply Below.drew | (with_reducible refine Below.alloc ?_ (by first | omega | (simp; omega) | simp) _) | (with_reducible refine Below.setCell ?_ (by first | omega | (simp; omega) | simp) _) | exact hW4))⟩
      · have h1I : ¬ ((stepN ms l : Nat) : Int) < (l.length : Int) := by omega
        by_cases h2 : stepN ms l = ms.length
        · have hres : Hid (nmRes (true && true) ms l = (⟨0, 0, 0, 0⟩, 4)) := hP.out.trans ((if_neg h1).trans (if_pos h2))
          have h2I : ((stepN ms l : Nat) : Int) = (ms.length : Int) := by omega
          clear h2
          generalize stepN ms l = n at *
          go_wp2
          refine bodyPost_ret (v := .tuple #[.agg #[.int .i64 0, .int .i64 0, .int .i64 0, .int .i64 0], .int .i64 4]) (by simp [results, Tryz.results37, go_sem, r0, r1, r2, r3]) rfl ⟨by rw [hres.out]; rfl, (by repeat (first | with_reducible exact hW4 | with_reducible apply below_drewN' | with_reducible apply Below.drew | (with_reducible refine Below.alloc ?_ (by first | omega | (simp; omega) | simp) _) | (with_reducible refine Below.setCell ?_ (by first | omega | (simp; omega) | simp) _) | exact hW4))⟩
        · have hlt : stepN ms l < ms.length := by have := Hn.out; omega
          have hres : Hid (nmRes (true && true) ms l = (ms[stepN ms l], 0)) := hP.out.trans ((if_neg h1).trans ((if_neg h2).trans (by rw [List.getElem?_eq_getElem hlt]; rfl)))
          have h2I : ¬ ((stepN ms l : Nat) : Int) = (ms.length : Int) := by omega
          have h3I : ((stepN ms l : Nat) : Int) < (ms.length : Int) := by omega
          obtain ⟨bb, off, rfl, bbB, hc⟩ := hs'.at_ (i := stepN ms l) (by simpa using hlt)
          simp only [List.getElem_map] at hc
          have m0 : w4.cell? ⟨bb, off + stepN ms l * 4, none⟩ = some (.int .i64 ms[stepN ms l].kind) := hc 0 _ rfl
          have m1 : w4.cell? ⟨bb, off + stepN ms l * 4 + 1, none⟩ = some (.int .i64 ms[stepN ms l].scale) := hc 1 _ rfl
          have m2 : w4.cell? ⟨bb, off + stepN ms l * 4 + 2, none⟩ = some (.int .i64 ms[stepN ms l].digits) := hc 2 _ rfl
          have m3 : w4.cell? ⟨bb, off + stepN ms l * 4 + 3, none⟩ = some (.int .i64 ms[stepN ms l].tens) := hc 3 _ rfl
          clear hc
          generalize ms[stepN ms l] = x at *
          generalize stepN ms l = n at *
          obtain ⟨x0, x1, x2, x3⟩ := x
          simp only at m0 m1 m2 m3
          go_wp2
          refine bodyPost_ret (v := .tuple #[.agg #[.int .i64 x0, .int .i64 x1, .int .i64 x2, .int .i64 x3], .int .i64 0]) (by simp [results, Tryz.results37, go_sem, r0, r1, r2, r3]) rfl ⟨by rw [hres.out]; rfl, (by repeat (first | with_reducible exact hW4 | with_reducible apply below_drewN' | with_reducible apply Below.drew | (with_reducible refine Below.alloc ?_ (by first | omega | (simp; omega) | simp) _) | (with_reducible refine Below.setCell ?_ (by first | omega | (simp; omega) | simp) _) | exact hW4))⟩
end Go.Proofs.YtgkobjpoeajkdaaGreat
namespace Go.Proofs.YtgkobjpoeajkdaaGreat
open Go.RowKit
section
variable {w1 v v' : World} {b1 b2 b4 b5 b6 b8 b9 : Bool} {Q1 Q2 : Value → World → Prop} {x1 x2 x6 u : Value} {m0 m1 m2 m3 : Int}
/-- while 'w0, w1 := spec.NextMove(toExercise(aX), toAnswer(aA))' runs; w0's block is made at any time -/
structure NxS (w1 : World) (b1 b2 b4 b5 b6 b8 b9 : Bool) (Q1 Q2 : Value → World → Prop) (x1 x2 x6 : Value) (m0 m1 m2 m3 : Int) (v : World) : Prop where
  hb : Below w1.heap.size w1 v
  q1 : b1 = true → b4 = false → Q1 x1 v
  q2 : b2 = true → b4 = false → Q2 x2 v
  k5 : b5 = true → b4 = true
  k6 : b6 = true → b5 = true
  k9 : b9 = true → b8 = true
  q8 : b8 = true → b9 = false → ∃ g, x6 = .pointer (some ⟨g, 0, none⟩) ∧ w1.heap.size ≤ g ∧ Blk v g 72 #[.int .i64 0, .int .i64 0, .int .i64 0, .int .i64 0]
  q9 : b9 = true → ∃ g, x6 = .pointer (some ⟨g, 0, none⟩) ∧ w1.heap.size ≤ g ∧ Blk v g 72 #[.int .i64 m0, .int .i64 m1, .int .i64 m2, .int .i64 m3]
theorem NxS.init : NxS w1 false false false false false false false Q1 Q2 x1 x2 x6 m0 m1 m2 m3 w1.drew := ⟨(Below.refl _ _).drew, nofun, nofun, nofun, nofun, nofun, nofun, nofun⟩
theorem NxS.blk8 (h : NxS w1 b1 b2 b4 b5 b6 b8 b9 Q1 Q2 x1 x2 x6 m0 m1 m2 m3 v) (hb : Below v.heap.size v v') : b8 = true → b9 = false → ∃ g, x6 = .pointer (some ⟨g, 0, none⟩) ∧ w1.heap.size ≤ g ∧ Blk v' g 72 #[.int .i64 0, .int .i64 0, .int .i64 0, .int .i64 0] := fun e f => by
  obtain ⟨g, h1, h2, h3⟩ := h.q8 e f
  exact ⟨g, h1, h2, h3.below hb h3.lt⟩
theorem NxS.blk9 (h : NxS w1 b1 b2 b4 b5 b6 b8 b9 Q1 Q2 x1 x2 x6 m0 m1 m2 m3 v) (hb : Below v.heap.size v v') : b9 = true → ∃ g, x6 = .pointer (some ⟨g, 0, none⟩) ∧ w1.heap.size ≤ g ∧ Blk v' g 72 #[.int .i64 m0, .int .i64 m1, .int .i64 m2, .int .i64 m3] := fun e => by
  obtain ⟨g, h1, h2, h3⟩ := h.q9 e
  exact ⟨g, h1, h2, h3.below hb h3.lt⟩
theorem NxS.c1 (h : NxS w1 b1 b2 b4 b5 b6 b8 b9 Q1 Q2 x1 x2 x6 m0 m1 m2 m3 v) (hb : Below v.heap.size v v') (hq2 : Q2 x2 v → Q2 x2 v') (hu : Q1 u v') : NxS w1 true b2 b4 b5 b6 b8 b9 Q1 Q2 u x2 x6 m0 m1 m2 m3 v' :=
  ⟨h.hb.trans (hb.mono h.hb.size), fun _ _ => hu, fun e f => hq2 (h.q2 e f), h.k5, h.k6, h.k9, h.blk8 hb, h.blk9 hb⟩
theorem NxS.c2 (h : NxS w1 b1 b2 b4 b5 b6 b8 b9 Q1 Q2 x1 x2 x6 m0 m1 m2 m3 v) (hb : Below v.heap.size v v') (hq1 : Q1 x1 v → Q1 x1 v') (hu : Q2 u v') : NxS w1 b1 true b4 b5 b6 b8 b9 Q1 Q2 x1 u x6 m0 m1 m2 m3 v' :=
  ⟨h.hb.trans (hb.mono h.hb.size), fun e f => hq1 (h.q1 e f), fun _ _ => hu, h.k5, h.k6, h.k9, h.blk8 hb, h.blk9 hb⟩
theorem NxS.c4 (h : NxS w1 b1 b2 b4 b5 b6 b8 b9 Q1 Q2 x1 x2 x6 m0 m1 m2 m3 v) (hb : Below v.heap.size v v') : NxS w1 b1 b2 true b5 b6 b8 b9 Q1 Q2 x1 x2 x6 m0 m1 m2 m3 v' :=
  ⟨h.hb.trans (hb.mono h.hb.size), nofun, nofun, fun _ => rfl, h.k6, h.k9, h.blk8 hb, h.blk9 hb⟩
theorem NxS.s5 (h : NxS w1 b1 b2 b4 b5 b6 b8 b9 Q1 Q2 x1 x2 x6 m0 m1 m2 m3 v) (h4 : b4 = true) : NxS w1 b1 b2 b4 true b6 b8 b9 Q1 Q2 x1 x2 x6 m0 m1 m2 m3 v :=
  ⟨h.hb, h.q1, h.q2, fun _ => h4, fun _ => rfl, h.k9, h.q8, h.q9⟩
theorem NxS.s6 (h : NxS w1 b1 b2 b4 b5 b6 b8 b9 Q1 Q2 x1 x2 x6 m0 m1 m2 m3 v) (h5 : b5 = true) : NxS w1 b1 b2 b4 b5 true b8 b9 Q1 Q2 x1 x2 x6 m0 m1 m2 m3 v :=
  ⟨h.hb, h.q1, h.q2, h.k5, fun _ => h5, h.k9, h.q8, h.q9⟩
theorem NxS.a8 (h : NxS w1 b1 b2 b4 b5 b6 b8 b9 Q1 Q2 x1 x2 x6 m0 m1 m2 m3 v) (h8 : b8 = false) (hq1 : ∀ o, Q1 x1 v → Q1 x1 (v.alloc o)) (hq2 : ∀ o, Q2 x2 v → Q2 x2 (v.alloc o)) :
    NxS w1 b1 b2 b4 b5 b6 true b9 Q1 Q2 x1 x2 (.pointer (some ⟨v.heap.size, 0, none⟩)) m0 m1 m2 m3 (v.alloc (.cells #[.int .i64 0, .int .i64 0, .int .i64 0, .int .i64 0] 72)) :=
  ⟨h.hb.alloc h.hb.size _, fun e f => hq1 _ (h.q1 e f), fun e f => hq2 _ (h.q2 e f), h.k5, h.k6, fun _ => rfl, fun _ _ => ⟨_, rfl, h.hb.size, Blk.new v _ _⟩, fun e => absurd (h.k9 e) (by rw [h8]; simp)⟩
theorem NxS.st {g : Nat} (h : NxS w1 b1 b2 b4 b5 b6 b8 b9 Q1 Q2 x1 x2 (.pointer (some ⟨g, 0, none⟩)) m0 m1 m2 m3 v) (h6 : b6 = true) (h8 : b8 = true) (hg : w1.heap.size ≤ g) (B : Blk v g 72 #[.int .i64 0, .int .i64 0, .int .i64 0, .int .i64 0]) :
    NxS w1 b1 b2 b4 b5 b6 b8 true Q1 Q2 x1 x2 (.pointer (some ⟨g, 0, none⟩)) m0 m1 m2 m3 ((((v.setCell ⟨g, 0, none⟩ (.int .i64 m0)).setCell ⟨g, 1, none⟩ (.int .i64 m1)).setCell ⟨g, 2, none⟩ (.int .i64 m2)).setCell ⟨g, 3, none⟩ (.int .i64 m3)) :=
  have h4 := h.k5 (h.k6 h6)
  ⟨(((h.hb.setCell hg _).setCell hg _).setCell hg _).setCell hg _, fun _ f => absurd h4 (by rw [f]; simp), fun _ f => absurd h4 (by rw [f]; simp), h.k5, h.k6, fun _ => h8, fun _ f => absurd f (by simp), fun _ => ⟨g, rfl, hg, (((B.set_ 0 _).set_ 1 _).set_ 2 _).set_ 3 _⟩⟩
end
set_option maxRecDepth 100000 in
set_option maxHeartbeats 4000000 in
theorem lawNextMove_c (L : Int) (A1 : Option Addr) (c1 : Nat) (l1 : List Int) (A2 : Option Addr) (c2 : Nat) (l2 : List Int) (A3 : Option Addr) (c3 : Nat) (l3 : List Term) (p q r : Int) (A : Option Addr) (c : Nat) (l : List Move) (a b : Int) (w : World) (X : ExLaid w A1 c1 l1 A2 c2 l2 A3 c3 l3) (Y : AnLaid w A c l) :
    Calls Tryz.prog 7 #[.agg #[.int .i64 L, .slice A1 l1.length c1, .slice A2 l2.length c2, .slice A3 l3.length c3, .int .i64 p, .int .i64 q, .int .i64 r], .agg #[.slice A l.length c, .int .i64 a, .int .i64 b]] w fun e w' => e = .returned (.bool true) ∧ Below w.heap.size w w' := by
  have HZ := fun W => Lib.hid (szExercise_c L A1 l1.length c1 A2 l2.length c2 A3 l3.length c3 p q r 1048576 W X.z1 X.z2 X.z3 (by omega))
  have HZA := fun left W (h : 0 ≤ left ∧ left ≤ 1048576) => Lib.hid (szAn_c A l.length c a b left W Y.z h)
  have hW : Below w.heap.size w ((w.alloc (.cells #[.int .i64 L, .slice A1 l1.length c1, .slice A2 l2.length c2, .slice A3 l3.length c3, .int .i64 p, .int .i64 q, .int .i64 r] 29)).alloc (.cells #[.slice A l.length c, .int .i64 a, .int .i64 b] 61)) := (by repeat (first | with_reducible exact Below.refl _ _ | with_reducible apply below_drewN' | with_reducible apply Below.drew | (with_reducible refine Below.alloc ?_ (by first | omega | (simp; omega) | simp) _) | (with_reducible refine Below.setCell ?_ (by first | omega | (simp; omega) | simp) _) | exact Below.refl _ _))
  have X0 := (Blk.new w 29 #[.int .i64 L, .slice A1 l1.length c1, .slice A2 l2.length c2, .slice A3 l3.length c3, .int .i64 p, .int .i64 q, .int .i64 r]).alloc (.cells #[.slice A l.length c, .int .i64 a, .int .i64 b] 61)
  have Y0 := Blk.new' (w.alloc (.cells #[.int .i64 L, .slice A1 l1.length c1, .slice A2 l2.length c2, .slice A3 l3.length c3, .int .i64 p, .int .i64 q, .int .i64 r] 29)) 61 #[.slice A l.length c, .int .i64 a, .int .i64 b] (g := w.heap.size + 1) (by simp)
  have X := Lib.hid X
  have Y := Lib.hid Y
  go_enter Tryz.func7, Tryz.ntmps7
  go_wp2_with fail
  generalize ((w.alloc (.cells #[.int .i64 L, .slice A1 l1.length c1, .slice A2 l2.length c2, .slice A3 l3.length c3, .int .i64 p, .int .i64 q, .int .i64 r] 29)).alloc (.cells #[.slice A l.length c, .int .i64 a, .int .i64 b] 61)) = W at *
  refine Calls.mono (HZ W).out ?_; rintro e w1 ⟨⟨v, rfl, hv⟩, hb1⟩
  have hW1 := hW.trans (hb1.mono hW.size)
  have X1 := X0.below hb1 X0.lt
  have Y1 := Y0.below hb1 Y0.lt
  clear hW X0 Y0 hb1 HZ
  rcases hv with hv | ⟨hv0, hv1, hlen⟩
  · go_wp2
    go_ret
    exact ⟨rfl, (by repeat (first | with_reducible exact hW1 | with_reducible apply below_drewN' | with_reducible apply Below.drew | (with_reducible refine Below.alloc ?_ (by first | omega | (simp; omega) | simp) _) | (with_reducible refine Below.setCell ?_ (by first | omega | (simp; omega) | simp) _) | exact hW1))⟩
  have hvn : ¬ v < 0 := by omega
  have E := Lib.hid (X.out.ex hlen)
  have HZA := HZA v w1 ⟨hv0, hv1⟩
  clear X hlen
  have z0 : w1.cell? ⟨w.heap.size + 1, 0, none⟩ = some (.slice A l.length c) := Y1.cell 0
  have z1 : w1.cell? ⟨w.heap.size + 1, 1, none⟩ = some (.int .i64 a) := Y1.cell 1
  have z2 : w1.cell? ⟨w.heap.size + 1, 2, none⟩ = some (.int .i64 b) := Y1.cell 2
  go_wp2_with fail
  refine Calls.mono HZA.out ?_; rintro e w2 ⟨⟨v', rfl, hv'⟩, hb2⟩
  have hW2 := hW1.trans (hb2.mono hW1.size)
  have X2 := X1.below hb2 X1.lt
  have Y2 := Y1.below hb2 Y1.lt
  clear z0 z1 z2 hW1 X1 Y1 hb2 HZA
  rcases hv' with hv' | ⟨hv0', hv1', hlen⟩
  · go_wp2
    go_ret
    exact ⟨rfl, (by repeat (first | with_reducible exact hW2 | with_reducible apply below_drewN' | with_reducible apply Below.drew | (with_reducible refine Below.alloc ?_ (by first | omega | (simp; omega) | simp) _) | (with_reducible refine Below.setCell ?_ (by first | omega | (simp; omega) | simp) _) | exact hW2))⟩
  have hvn' : ¬ v' < 0 := by omega
  have F : Hid (AnIn w A c l) := ⟨hlen, Y.out.k, Y.out.s⟩
  clear Y hlen
  have HT := fun (W : World) (hW : Below w.heap.size w W) => Lib.hid (toEx_c L A1 c1 l1 A2 c2 l2 A3 c3 l3 p q r W (E.out.later hW))
  unfold exAgg at HT
  have HT := Lib.hid HT
  have HU := fun (W : World) (hW : Below w.heap.size w W) => Lib.hid (toAn_c A c l a b W (F.out.later hW))
  have HU := Lib.hid HU
  have HSp := fun (B1 : Option Addr) d1 B2 d2 B3 d3 B d W (E' : ExIn W B1 d1 l1 B2 d2 l2 B3 d3 l3) (F' : AnIn W B d l) => Lib.hid (specNextMove_c L B1 d1 l1 B2 d2 l2 B3 d3 l3 p q r B d l a b W E' F')
  have HIm := fun (B1 : Option Addr) d1 B2 d2 B3 d3 B d W (E' : ExIn W B1 d1 l1 B2 d2 l2 B3 d3 l3) (F' : AnIn W B d l) => Lib.hid (implNextMove_c L B1 d1 l1 B2 d2 l2 B3 d3 l3 p q r B d l a b W E' F')
  generalize nmRes (exB L l1 l2 l3 p q r && ansB l a b) (usualP l3).ms l = res at *
  obtain ⟨⟨m0, m1, m2, m3⟩, g1⟩ := res
  unfold nmV at HSp HIm
  simp only at HSp HIm
  have HSp := Lib.hid HSp
  have HIm := Lib.hid HIm
  go_wp2_with fail
  refine wp_region_all (fun a0 fL bA v => ∃ v23 v24 v25 v26 v27 v22 v28 v29 v6 v7 : Value, bA = (((((((((a0.put (some 23) v23).put (some 24) v24).put (some 25) v25).put (some 26) v26).put (some 27) v27).put (some 22) v22).put (some 28) v28).put (some 29) v29).put (some 6) v6).put (some 7) v7 ∧ (NxS w2 (fL 1) (fL 3) (fL 4) (fL 5) (fL 6) (fL 8) (fL 9) (fun x v => ExCopy L l1 l2 l3 p q r x v w2.heap.size) (fun x v => AnCopy l a b x v w2.heap.size) v24 v26 v6 m0 m1 m2 m3 v) ∧ (fL 0 = true → v23 = .agg #[.int .i64 L, .slice A1 l1.length c1, .slice A2 l2.length c2, .slice A3 l3.length c3, .int .i64 p, .int .i64 q, .int .i64 r]) ∧ (fL 1 = true → True) ∧ (fL 2 = true → v25 = .agg #[.slice A l.length c, .int .i64 a, .int .i64 b]) ∧ (fL 3 = true → True) ∧ (fL 4 = true → v27 = .tuple #[.agg #[.int .i64 m0, .int .i64 m1, .int .i64 m2, .int .i64 m3], .int .i64 g1]) ∧ (fL 5 = true → v22 = .tuple #[.agg #[.int .i64 m0, .int .i64 m1, .int .i64 m2, .int .i64 m3], .int .i64 g1]) ∧ (fL 6 = true → v28 = .agg #[.int .i64 m0, .int .i64 m1, .int .i64 m2, .int .i64 m3]) ∧ (fL 7 = true → v29 = .int .i64 g1) ∧ (fL 8 = true → True) ∧ (fL 10 = true → v7 = .int .i64 g1)) (by kernel_rfl) (by decide +kernel) ?_ ?_ ?_
  · exact ⟨undef, undef, undef, undef, undef, undef, undef, undef, undef, undef, by simp only [Act.put, List.setIfInBounds_toArray, List.set_cons_zero, List.set_cons_succ], NxS.init, nofun, nofun, nofun, nofun, nofun, nofun, nofun, nofun, nofun, nofun⟩
  · rintro fL bA v ⟨v23, v24, v25, v26, v27, v22, v28, v29, v6, v7, rfl, hS, q0, q1, q2, q3, q4, q5, q6, q7, q8, q10⟩ i hi hf o ho hall
    simp only [Act.put, List.setIfInBounds_toArray, List.set_cons_zero, List.set_cons_succ]
    simp only [List.length_cons, List.length_nil] at hi
    have hn : i = 0 ∨ i = 1 ∨ i = 2 ∨ i = 3 ∨ i = 4 ∨ i = 5 ∨ i = 6 ∨ i = 7 ∨ i = 8 ∨ i = 9 ∨ i = 10 := by omega
    clear hi
    rcases hn with rfl | rfl | rfl | rfl | rfl | rfl | rfl | rfl | rfl | rfl | rfl
    · obtain rfl := Option.some.inj ho
      have FF := X2.below hS.hb X2.lt
      have y0 : v.cell? ⟨w.heap.size, 0, none⟩ = some (.int .i64 L) := FF.cell 0
      have y1 : v.cell? ⟨w.heap.size, 1, none⟩ = some (.slice A1 l1.length c1) := FF.cell 1
      have y2 : v.cell? ⟨w.heap.size, 2, none⟩ = some (.slice A2 l2.length c2) := FF.cell 2
      have y3 : v.cell? ⟨w.heap.size, 3, none⟩ = some (.slice A3 l3.length c3) := FF.cell 3
      have y4 : v.cell? ⟨w.heap.size, 4, none⟩ = some (.int .i64 p) := FF.cell 4
      have y5 : v.cell? ⟨w.heap.size, 5, none⟩ = some (.int .i64 q) := FF.cell 5
      have y6 : v.cell? ⟨w.heap.size, 6, none⟩ = some (.int .i64 r) := FF.cell 6
      clear hall ho
      refine wpOp_step rfl (fun K hK => ?_)
      go_simp
      exact hK _ _ ⟨_, _, _, _, _, _, _, _, _, _, rfl, hS, fun _ => rfl, fun _ => trivial, q2, fun _ => trivial, q4, q5, q6, q7, fun _ => trivial, q10⟩
    · obtain rfl := Option.some.inj ho
      obtain rfl := q0 (hall ⟨0, .data⟩ (by simp) rfl)
      clear hall ho
      refine wpOp_step rfl (fun K hK => ?_)
      go_simp
      refine Calls.mono (HT.out v (hW2.trans (hS.hb.mono hW2.size))).out ?_; rintro e w7 ⟨⟨u, rfl, hu⟩, hb7⟩
      go_simp
      exact hK _ _ ⟨_, _, _, _, _, _, _, _, _, _, rfl, hS.c1 hb7 (fun h => AnCopy.below h hb7) (hu.weak hS.hb.size), fun _ => rfl, fun _ => trivial, q2, fun _ => trivial, q4, q5, q6, q7, fun _ => trivial, q10⟩
    · obtain rfl := Option.some.inj ho
      have FF := Y2.below hS.hb Y2.lt
      have z0 : v.cell? ⟨w.heap.size + 1, 0, none⟩ = some (.slice A l.length c) := FF.cell 0
      have z1 : v.cell? ⟨w.heap.size + 1, 1, none⟩ = some (.int .i64 a) := FF.cell 1
      have z2 : v.cell? ⟨w.heap.size + 1, 2, none⟩ = some (.int .i64 b) := FF.cell 2
      clear hall ho
      refine wpOp_step rfl (fun K hK => ?_)
      go_simp
      exact hK _ _ ⟨_, _, _, _, _, _, _, _, _, _, rfl, hS, q0, fun _ => trivial, fun _ => rfl, fun _ => trivial, q4, q5, q6, q7, fun _ => trivial, q10⟩
    · obtain rfl := Option.some.inj ho
      obtain rfl := q2 (hall ⟨2, .data⟩ (by simp) rfl)
      clear hall ho
      refine wpOp_step rfl (fun K hK => ?_)
      go_simp
      refine Calls.mono (HU.out v (hW2.trans (hS.hb.mono hW2.size))).out ?_; rintro e w7 ⟨⟨u, rfl, hu⟩, hb7⟩
      go_simp
      exact hK _ _ ⟨_, _, _, _, _, _, _, _, _, _, rfl, hS.c2 hb7 (fun h => ExCopy.below h hb7) (hu.weak hS.hb.size), q0, fun _ => trivial, fun _ => rfl, fun _ => trivial, q4, q5, q6, q7, fun _ => trivial, q10⟩
    · obtain rfl := Option.some.inj ho
      have e1 : fL 1 = true := hall ⟨1, .data⟩ (by simp) rfl
      have e3 : fL 3 = true := hall ⟨3, .data⟩ (by simp) rfl
      clear hall ho
      refine wpOp_step rfl (fun K hK => ?_)
      obtain ⟨H1, h1, H2, h2, H3, h3, rfl, EH, _, _, _⟩ := hS.q1 e1 hf
      obtain ⟨H, h, rfl, FH, _⟩ := hS.q2 e3 hf
      unfold exAgg
      go_simp
      refine Calls.mono (HSp.out H1 h1 H2 h2 H3 h3 H h v EH FH).out ?_; rintro e w7 ⟨rfl, hb7⟩
      go_simp
      exact hK _ _ ⟨_, _, _, _, _, _, _, _, _, _, rfl, hS.c4 hb7, q0, fun _ => trivial, q2, fun _ => trivial, fun _ => rfl, q5, q6, q7, fun _ => trivial, q10⟩
    · obtain rfl := Option.some.inj ho
      obtain rfl := q4 (hall ⟨4, .data⟩ (by simp) rfl)
      have e4 := hall ⟨4, .data⟩ (by simp) rfl
      clear hall ho
      refine wpOp_step rfl (fun K hK => ?_)
      go_simp
      exact hK _ _ ⟨_, _, _, _, _, _, _, _, _, _, rfl, hS.s5 e4, q0, fun _ => trivial, q2, fun _ => trivial, fun _ => rfl, fun _ => rfl, q6, q7, fun _ => trivial, q10⟩
    · obtain rfl := Option.some.inj ho
      obtain rfl := q5 (hall ⟨5, .data⟩ (by simp) rfl)
      have e5 := hall ⟨5, .data⟩ (by simp) rfl
      clear hall ho
      refine wpOp_step rfl (fun K hK => ?_)
      go_simp
      exact hK _ _ ⟨_, _, _, _, _, _, _, _, _, _, rfl, hS.s6 e5, q0, fun _ => trivial, q2, fun _ => trivial, q4, fun _ => rfl, fun _ => rfl, q7, fun _ => trivial, q10⟩
    · obtain rfl := Option.some.inj ho
      obtain rfl := q5 (hall ⟨5, .data⟩ (by simp) rfl)
      clear hall ho
      refine wpOp_step rfl (fun K hK => ?_)
      go_simp
      exact hK _ _ ⟨_, _, _, _, _, _, _, _, _, _, rfl, hS, q0, fun _ => trivial, q2, fun _ => trivial, q4, fun _ => rfl, q6, fun _ => rfl, fun _ => trivial, q10⟩
    · obtain rfl := Option.some.inj ho
      clear hall ho
      refine wpOp_step rfl (fun K hK => ?_)
      go_simp
      exact hK _ _ ⟨_, _, _, _, _, _, _, _, _, _, rfl, hS.a8 hf (fun o h => ExCopy.below h ((Below.refl _ _).alloc (Nat.le_refl _) o)) (fun o h => AnCopy.below h ((Below.refl _ _).alloc (Nat.le_refl _) o)), q0, fun _ => trivial, q2, fun _ => trivial, q4, q5, q6, q7, fun _ => trivial, q10⟩
    · obtain rfl := Option.some.inj ho
      have e8 : fL 8 = true := hall ⟨8, .data⟩ (by simp) rfl
      obtain rfl := q6 (hall ⟨6, .data⟩ (by simp) rfl)
      have e6 := hall ⟨6, .data⟩ (by simp) rfl
      obtain ⟨g, rfl, hg, BB⟩ := hS.q8 e8 hf
      have c0' : v.cell? ⟨g, 0, none⟩ = some (.int .i64 0) := BB.cell 0
      have c1' : v.cell? ⟨g, 1, none⟩ = some (.int .i64 0) := BB.cell 1
      have c2' : v.cell? ⟨g, 2, none⟩ = some (.int .i64 0) := BB.cell 2
      have c3' : v.cell? ⟨g, 3, none⟩ = some (.int .i64 0) := BB.cell 3
      have f0' : v.frozen? ⟨g, 0, none⟩ = false := BB.frozen 0
      have f1' : v.frozen? ⟨g, 1, none⟩ = false := BB.frozen 1
      have f2' : v.frozen? ⟨g, 2, none⟩ = false := BB.frozen 2
      have f3' : v.frozen? ⟨g, 3, none⟩ = false := BB.frozen 3
      clear hall ho
      refine wpOp_step rfl (fun K hK => ?_)
      go_simp
      exact hK _ _ ⟨_, _, _, _, _, _, _, _, _, _, rfl, hS.st e6 e8 hg BB, q0, fun _ => trivial, q2, fun _ => trivial, q4, q5, fun _ => rfl, q7, fun _ => trivial, q10⟩
    · obtain rfl := Option.some.inj ho
      obtain rfl := q7 (hall ⟨7, .data⟩ (by simp) rfl)
      clear hall ho
      refine wpOp_step rfl (fun K hK => ?_)
      go_simp
      exact hK _ _ ⟨_, _, _, _, _, _, _, _, _, _, rfl, hS, q0, fun _ => trivial, q2, fun _ => trivial, q4, q5, q6, fun _ => rfl, fun _ => trivial, fun _ => rfl⟩
  · rintro fL bA v ⟨v23, v24, v25, v26, v27, v22, v28, v29, v6, v7, rfl, hS, q0, q1, q2, q3, q4, q5, q6, q7, q8, q10⟩ hall
    simp only [Act.put, List.setIfInBounds_toArray, List.set_cons_zero, List.set_cons_succ]
    simp only [List.length_cons, List.length_nil] at hall
    obtain rfl := q0 (hall 0 (by omega))
    have e1 : fL 1 = true := hall 1 (by omega)
    obtain rfl := q2 (hall 2 (by omega))
    have e3 : fL 3 = true := hall 3 (by omega)
    obtain rfl := q4 (hall 4 (by omega))
    obtain rfl := q5 (hall 5 (by omega))
    obtain rfl := q6 (hall 6 (by omega))
    obtain rfl := q7 (hall 7 (by omega))
    have e8 : fL 8 = true := hall 8 (by omega)
    obtain rfl := q10 (hall 10 (by omega))
    have e9 : fL 9 = true := hall 9 (by omega)
    clear hall
    have hW3 := hW2.trans (hS.hb.mono hW2.size)
    have X3 := X2.below hS.hb X2.lt
    have Y3 := Y2.below hS.hb Y2.lt
    obtain ⟨gm, rfl, _, N3⟩ := hS.q9 e9
    clear hS HSp hW2 X2 Y2 e9
    have y0 : v.cell? ⟨w.heap.size, 0, none⟩ = some (.int .i64 L) := X3.cell 0
    have y1 : v.cell? ⟨w.heap.size, 1, none⟩ = some (.slice A1 l1.length c1) := X3.cell 1
    have y2 : v.cell? ⟨w.heap.size, 2, none⟩ = some (.slice A2 l2.length c2) := X3.cell 2
    have y3 : v.cell? ⟨w.heap.size, 3, none⟩ = some (.slice A3 l3.length c3) := X3.cell 3
    have y4 : v.cell? ⟨w.heap.size, 4, none⟩ = some (.int .i64 p) := X3.cell 4
    have y5 : v.cell? ⟨w.heap.size, 5, none⟩ = some (.int .i64 q) := X3.cell 5
    have y6 : v.cell? ⟨w.heap.size, 6, none⟩ = some (.int .i64 r) := X3.cell 6
    go_wp2_with fail
    refine Calls.mono (HT.out v hW3).out ?_; rintro e w4 ⟨⟨v4, rfl, G1, k1, G2, k2, G3, k3, rfl, E4, _, _, _⟩, hb4⟩
    have hW4 := hW3.trans (hb4.mono hW3.size)
    have X4 := X3.below hb4 X3.lt
    have Y4 := Y3.below hb4 Y3.lt
    have N4 := N3.below hb4 N3.lt
    clear y0 y1 y2 y3 y4 y5 y6 hb4 X3 Y3 N3 hW3
    unfold exAgg
    have hba : Below w4.heap.size w4 (w4.alloc (.cells #[.int .i64 L, .slice G1 l1.length k1, .slice G2 l2.length k2, .slice G3 l3.length k3, .int .i64 p, .int .i64 q, .int .i64 r] 36)) := (Below.refl _ _).alloc (Nat.le_refl _) _
    have E7 := E4.later hba
    have X7 := X4.below hba X4.lt
    have Y7 := Y4.below hba Y4.lt
    have N7 := N4.below hba N4.lt
    have K7 := Blk.new w4 36 #[.int .i64 L, .slice G1 l1.length k1, .slice G2 l2.length k2, .slice G3 l3.length k3, .int .i64 p, .int .i64 q, .int .i64 r]
    have hW7 := hW4.trans (hba.mono hW4.size)
    have z0 : (w4.alloc (.cells #[.int .i64 L, .slice G1 l1.length k1, .slice G2 l2.length k2, .slice G3 l3.length k3, .int .i64 p, .int .i64 q, .int .i64 r] 36)).cell? ⟨w.heap.size + 1, 0, none⟩ = some (.slice A l.length c) := Y7.cell 0
    have z1 : (w4.alloc (.cells #[.int .i64 L, .slice G1 l1.length k1, .slice G2 l2.length k2, .slice G3 l3.length k3, .int .i64 p, .int .i64 q, .int .i64 r] 36)).cell? ⟨w.heap.size + 1, 1, none⟩ = some (.int .i64 a) := Y7.cell 1
    have z2 : (w4.alloc (.cells #[.int .i64 L, .slice G1 l1.length k1, .slice G2 l2.length k2, .slice G3 l3.length k3, .int .i64 p, .int .i64 q, .int .i64 r] 36)).cell? ⟨w.heap.size + 1, 2, none⟩ = some (.int .i64 b) := Y7.cell 2
    clear E4 X4 Y4 N4 hW4 hba
    go_wp2_with fail
    generalize w4.alloc (.cells #[.int .i64 L, .slice G1 l1.length k1, .slice G2 l2.length k2, .slice G3 l3.length k3, .int .i64 p, .int .i64 q, .int .i64 r] 36) = w7 at *
    generalize w4.heap.size = gx at *
    refine Calls.mono (HU.out w7 hW7).out ?_; rintro e w8 ⟨⟨v8, rfl, H, h, rfl, F8, _⟩, hb8⟩
    have hW8 := hW7.trans (hb8.mono hW7.size)
    have X8 := X7.below hb8 X7.lt
    have Y8 := Y7.below hb8 Y7.lt
    have N8 := N7.below hb8 N7.lt
    have K8 := K7.below hb8 K7.lt
    have E8 := E7.later hb8
    clear z0 z1 z2 hW7 X7 Y7 N7 K7 E7 hb8
    have hbc : Below w8.heap.size w8 (w8.alloc (.cells #[.slice H l.length h, .int .i64 a, .int .i64 b] 67)) := (Below.refl _ _).alloc (Nat.le_refl _) _
    have hcall := HIm.out G1 k1 G2 k2 G3 k3 H h _ (E8.later hbc) (F8.later hbc)
    have K9 := K8.below hbc K8.lt
    have y0 : (w8.alloc (.cells #[.slice H l.length h, .int .i64 a, .int .i64 b] 67)).cell? ⟨gx, 0, none⟩ = some (.int .i64 L) := K9.cell 0
    have y1 : (w8.alloc (.cells #[.slice H l.length h, .int .i64 a, .int .i64 b] 67)).cell? ⟨gx, 1, none⟩ = some (.slice G1 l1.length k1) := K9.cell 1
    have y2 : (w8.alloc (.cells #[.slice H l.length h, .int .i64 a, .int .i64 b] 67)).cell? ⟨gx, 2, none⟩ = some (.slice G2 l2.length k2) := K9.cell 2
    have y3 : (w8.alloc (.cells #[.slice H l.length h, .int .i64 a, .int .i64 b] 67)).cell? ⟨gx, 3, none⟩ = some (.slice G3 l3.length k3) := K9.cell 3
    have y4 : (w8.alloc (.cells #[.slice H l.length h, .int .i64 a, .int .i64 b] 67)).cell? ⟨gx, 4, none⟩ = some (.int .i64 p) := K9.cell 4
    have y5 : (w8.alloc (.cells #[.slice H l.length h, .int .i64 a, .int .i64 b] 67)).cell? ⟨gx, 5, none⟩ = some (.int .i64 q) := K9.cell 5
    have y6 : (w8.alloc (.cells #[.slice H l.length h, .int .i64 a, .int .i64 b] 67)).cell? ⟨gx, 6, none⟩ = some (.int .i64 r) := K9.cell 6
    go_wp2_with fail
    have E9 := E8.later hbc
    have F9 := F8.later hbc
    have X9 := X8.below hbc X8.lt
    have Y9 := Y8.below hbc Y8.lt
    have N9 := N8.below hbc N8.lt
    have M9 := Blk.new w8 67 #[.slice H l.length h, .int .i64 a, .int .i64 b]
    have hW9 := hW8.trans (hbc.mono hW8.size)
    clear y0 y1 y2 y3 y4 y5 y6 E8 F8 X8 Y8 N8 K8 hW8 hbc
    generalize w8.alloc (.cells #[.slice H l.length h, .int .i64 a, .int .i64 b] 67) = w9 at *
    generalize w8.heap.size = ga at *
    refine Calls.mono hcall.out ?_; rintro e w10 ⟨rfl, hb10⟩
    have E10 := Lib.hid (E9.later hb10)
    have F10 := Lib.hid (F9.later hb10)
    have X10 := X9.below hb10 X9.lt
    have Y10 := Y9.below hb10 Y9.lt
    have N10 := N9.below hb10 N9.lt
    have K10 := K9.below hb10 K9.lt
    have M10 := M9.below hb10 M9.lt
    have hW10 := hW9.trans (hb10.mono hW9.size)
    clear E9 F9 X9 Y9 N9 K9 M9 hW9 hb10 hcall HIm
    have hbd : Below w10.heap.size w10 (w10.alloc (.cells #[.int .i64 m0, .int .i64 m1, .int .i64 m2, .int .i64 m3] 72)) := (Below.refl _ _).alloc (Nat.le_refl _) _
    have NN := N10.below hbd N10.lt
    have n0 : (w10.alloc (.cells #[.int .i64 m0, .int .i64 m1, .int .i64 m2, .int .i64 m3] 72)).cell? ⟨gm, 0, none⟩ = some (.int .i64 m0) := NN.cell 0
    have n1 : (w10.alloc (.cells #[.int .i64 m0, .int .i64 m1, .int .i64 m2, .int .i64 m3] 72)).cell? ⟨gm, 1, none⟩ = some (.int .i64 m1) := NN.cell 1
    have n2 : (w10.alloc (.cells #[.int .i64 m0, .int .i64 m1, .int .i64 m2, .int .i64 m3] 72)).cell? ⟨gm, 2, none⟩ = some (.int .i64 m2) := NN.cell 2
    have n3 : (w10.alloc (.cells #[.int .i64 m0, .int .i64 m1, .int .i64 m2, .int .i64 m3] 72)).cell? ⟨gm, 3, none⟩ = some (.int .i64 m3) := NN.cell 3
    go_wp2_with fail
    have E12 := E10.out.later hbd
    have F12 := F10.out.later hbd
    have X12 := X10.below hbd X10.lt
    have Y12 := Y10.below hbd Y10.lt
    have K12 := K10.below hbd K10.lt
    have M12 := M10.below hbd M10.lt
    have hW12 := hW10.trans (hbd.mono hW10.size)
    clear n0 n1 n2 n3 NN N10 E10 F10 X10 Y10 K10 M10 hW10 hbd
    generalize (w10.alloc (.cells #[.int .i64 m0, .int .i64 m1, .int .i64 m2, .int .i64 m3] 72)) = w12 at *
    refine Calls.mono (eqMove_c m0 m1 m2 m3 _) ?_; rintro e w13 ⟨rfl, hb13⟩
    have E13 := Lib.hid (E12.later hb13)
    have F13 := Lib.hid (F12.later hb13)
    have X13 := X12.below hb13 X12.lt
    have Y13 := Y12.below hb13 Y12.lt
    have K13 := K12.below hb13 K12.lt
    have M13 := M12.below hb13 M12.lt
    have hW13 := hW12.trans (hb13.mono hW12.size)
    clear E12 F12 X12 Y12 K12 M12 hW12 hb13
    go_wp2_with fail
    refine wp_region_sink 4 (fun a0 fL bA v => ∃ v49 v50 v51 v52 : Value, bA = (((a0.put (some 49) v49).put (some 50) v50).put (some 51) v51).put (some 52) v52 ∧ (EqS w13 (fL 2) (fun x v => ExCopy L l1 l2 l3 p q r x v w13.heap.size) v51 v) ∧ (fL 0 = true → v49 = .agg #[.int .i64 L, .slice G1 l1.length k1, .slice G2 l2.length k2, .slice G3 l3.length k3, .int .i64 p, .int .i64 q, .int .i64 r]) ∧ (fL 1 = true → v50 = .agg #[.int .i64 L, .slice A1 l1.length c1, .slice A2 l2.length c2, .slice A3 l3.length c3, .int .i64 p, .int .i64 q, .int .i64 r]) ∧ (fL 2 = true → True) ∧ (fL 3 = true → v52 = .bool true)) (by kernel_rfl) (by decide +kernel) ?_ ?_ ?_
    · exact ⟨undef, undef, undef, undef, by simp only [Act.put, List.setIfInBounds_toArray, List.set_cons_zero, List.set_cons_succ], ⟨(Below.refl _ _).drew, nofun⟩, nofun, nofun, nofun, nofun⟩
    · rintro fL bA v ⟨v49, v50, v51, v52, rfl, hS, q0, q1, q2, q3⟩ i hi hf o ho hall
      simp only [Act.put, List.setIfInBounds_toArray, List.set_cons_zero, List.set_cons_succ]
      have hn : i = 0 ∨ i = 1 ∨ i = 2 ∨ i = 3 := by omega
      clear hi
      rcases hn with rfl | rfl | rfl | rfl
      · obtain rfl := Option.some.inj ho
        have FF := K13.below hS.hb K13.lt
        have y0 : v.cell? ⟨gx, 0, none⟩ = some (.int .i64 L) := FF.cell 0
        have y1 : v.cell? ⟨gx, 1, none⟩ = some (.slice G1 l1.length k1) := FF.cell 1
        have y2 : v.cell? ⟨gx, 2, none⟩ = some (.slice G2 l2.length k2) := FF.cell 2
        have y3 : v.cell? ⟨gx, 3, none⟩ = some (.slice G3 l3.length k3) := FF.cell 3
        have y4 : v.cell? ⟨gx, 4, none⟩ = some (.int .i64 p) := FF.cell 4
        have y5 : v.cell? ⟨gx, 5, none⟩ = some (.int .i64 q) := FF.cell 5
        have y6 : v.cell? ⟨gx, 6, none⟩ = some (.int .i64 r) := FF.cell 6
        clear hall ho
        refine wpOp_step rfl (fun K hK => ?_)
        go_simp
        exact hK _ _ ⟨_, _, _, _, rfl, hS, fun _ => rfl, q1, fun _ => trivial, q3⟩
      · obtain rfl := Option.some.inj ho
        have FF := X13.below hS.hb X13.lt
        have y0 : v.cell? ⟨w.heap.size, 0, none⟩ = some (.int .i64 L) := FF.cell 0
        have y1 : v.cell? ⟨w.heap.size, 1, none⟩ = some (.slice A1 l1.length c1) := FF.cell 1
        have y2 : v.cell? ⟨w.heap.size, 2, none⟩ = some (.slice A2 l2.length c2) := FF.cell 2
        have y3 : v.cell? ⟨w.heap.size, 3, none⟩ = some (.slice A3 l3.length c3) := FF.cell 3
        have y4 : v.cell? ⟨w.heap.size, 4, none⟩ = some (.int .i64 p) := FF.cell 4
        have y5 : v.cell? ⟨w.heap.size, 5, none⟩ = some (.int .i64 q) := FF.cell 5
        have y6 : v.cell? ⟨w.heap.size, 6, none⟩ = some (.int .i64 r) := FF.cell 6
        clear hall ho
        refine wpOp_step rfl (fun K hK => ?_)
        go_simp
        exact hK _ _ ⟨_, _, _, _, rfl, hS, q0, fun _ => rfl, fun _ => trivial, q3⟩
      · obtain rfl := Option.some.inj ho
        obtain rfl := q1 (hall ⟨1, .data⟩ (by simp) rfl)
        clear hall ho
        refine wpOp_step rfl (fun K hK => ?_)
        go_simp
        refine Calls.mono (HT.out v (hW13.trans (hS.hb.mono hW13.size))).out ?_; rintro e w11 ⟨⟨u, rfl, hu⟩, hb11⟩
        go_simp
        exact hK _ _ ⟨_, _, _, _, rfl, ⟨hS.hb.trans (hb11.mono hS.hb.size), fun _ => hu.weak hS.hb.size⟩, q0, fun _ => rfl, fun _ => trivial, q3⟩
      · obtain rfl := Option.some.inj ho
        obtain rfl := q0 (hall ⟨0, .data⟩ (by simp) rfl)
        have e2 : fL 2 = true := hall ⟨2, .data⟩ (by simp) rfl
        clear hall ho
        refine wpOp_step rfl (fun K hK => ?_)
        obtain ⟨H1, h1, H2, h2, H3, h3, rfl, EH, _, _, _⟩ := hS.q e2
        unfold exAgg
        go_simp
        refine Calls.mono (eqEx_c L G1 k1 H1 h1 l1 G2 k2 H2 h2 l2 G3 k3 H3 h3 l3 p q r v (E13.out.later hS.hb) EH) ?_; rintro e w11 ⟨rfl, hb11⟩
        go_simp
        exact hK _ _ ⟨_, _, _, _, rfl, ⟨hS.hb.trans (hb11.mono hS.hb.size), fun e => (hS.q e).below hb11⟩, fun _ => rfl, q1, fun _ => trivial, fun _ => rfl⟩
    · rintro fL bA v ⟨v49, v50, v51, v52, rfl, hS, q0, q1, q2, q3⟩ hall
      simp only [Act.put, List.setIfInBounds_toArray, List.set_cons_zero, List.set_cons_succ]
      obtain rfl := q0 (hall 0 (by omega))
      obtain rfl := q1 (hall 1 (by omega))
      have e2 : fL 2 = true := hall 2 (by omega)
      obtain rfl := q3 (hall 3 (by omega))
      clear hall
      simp only [List.drop_succ_cons, List.drop_zero]
      have hW15 := hW13.trans (hS.hb.mono hW13.size)
      have F15 := Lib.hid (F13.out.later hS.hb)
      have Y15 := Y13.below hS.hb Y13.lt
      have M15 := M13.below hS.hb M13.lt
      clear hS hW13 E13 F13 X13 Y13 K13 M13 HT
      generalize v = w15 at *
      go_wp2_with fail
      refine wp_region_sink 4 (fun a0 fL bA v => ∃ v54 v55 v56 v57 : Value, bA = (((a0.put (some 54) v54).put (some 55) v55).put (some 56) v56).put (some 57) v57 ∧ (EqS w15 (fL 2) (fun x v => AnCopy l a b x v w15.heap.size) v56 v) ∧ (fL 0 = true → v54 = .agg #[.slice H l.length h, .int .i64 a, .int .i64 b]) ∧ (fL 1 = true → v55 = .agg #[.slice A l.length c, .int .i64 a, .int .i64 b]) ∧ (fL 2 = true → True) ∧ (fL 3 = true → v57 = .bool true)) (by kernel_rfl) (by decide +kernel) ?_ ?_ ?_
      · exact ⟨undef, undef, undef, undef, by simp only [Act.put, List.setIfInBounds_toArray, List.set_cons_zero, List.set_cons_succ], ⟨(Below.refl _ _).drew, nofun⟩, nofun, nofun, nofun, nofun⟩
      · rintro fL bA v ⟨v54, v55, v56, v57, rfl, hS, q0, q1, q2, q3⟩ i hi hf o ho hall
        simp only [Act.put, List.setIfInBounds_toArray, List.set_cons_zero, List.set_cons_succ]
        have hn : i = 0 ∨ i = 1 ∨ i = 2 ∨ i = 3 := by omega
        clear hi
        rcases hn with rfl | rfl | rfl | rfl
        · obtain rfl := Option.some.inj ho
          have FF := M15.below hS.hb M15.lt
          have y0 : v.cell? ⟨ga, 0, none⟩ = some (.slice H l.length h) := FF.cell 0
          have y1 : v.cell? ⟨ga, 1, none⟩ = some (.int .i64 a) := FF.cell 1
          have y2 : v.cell? ⟨ga, 2, none⟩ = some (.int .i64 b) := FF.cell 2
          clear hall ho
          refine wpOp_step rfl (fun K hK => ?_)
          go_simp
          exact hK _ _ ⟨_, _, _, _, rfl, hS, fun _ => rfl, q1, fun _ => trivial, q3⟩
        · obtain rfl := Option.some.inj ho
          have FF := Y15.below hS.hb Y15.lt
          have y0 : v.cell? ⟨w.heap.size + 1, 0, none⟩ = some (.slice A l.length c) := FF.cell 0
          have y1 : v.cell? ⟨w.heap.size + 1, 1, none⟩ = some (.int .i64 a) := FF.cell 1
          have y2 : v.cell? ⟨w.heap.size + 1, 2, none⟩ = some (.int .i64 b) := FF.cell 2
          clear hall ho
          refine wpOp_step rfl (fun K hK => ?_)
          go_simp
          exact hK _ _ ⟨_, _, _, _, rfl, hS, q0, fun _ => rfl, fun _ => trivial, q3⟩
        · obtain rfl := Option.some.inj ho
          obtain rfl := q1 (hall ⟨1, .data⟩ (by simp) rfl)
          clear hall ho
          refine wpOp_step rfl (fun K hK => ?_)
          go_simp
          refine Calls.mono (HU.out v (hW15.trans (hS.hb.mono hW15.size))).out ?_; rintro e w16 ⟨⟨u, rfl, hu⟩, hb16⟩
          go_simp
          exact hK _ _ ⟨_, _, _, _, rfl, ⟨hS.hb.trans (hb16.mono hS.hb.size), fun _ => hu.weak hS.hb.size⟩, q0, fun _ => rfl, fun _ => trivial, q3⟩
        · obtain rfl := Option.some.inj ho
          obtain rfl := q0 (hall ⟨0, .data⟩ (by simp) rfl)
          have e2 : fL 2 = true := hall ⟨2, .data⟩ (by simp) rfl
          clear hall ho
          refine wpOp_step rfl (fun K hK => ?_)
          obtain ⟨B, d, rfl, FH, _⟩ := hS.q e2
          go_simp
          refine Calls.mono (eqAn_c H B h d l a b v (F15.out.later hS.hb) FH) ?_; rintro e w16 ⟨rfl, hb16⟩
          go_simp
          exact hK _ _ ⟨_, _, _, _, rfl, ⟨hS.hb.trans (hb16.mono hS.hb.size), fun e => (hS.q e).below hb16⟩, fun _ => rfl, q1, fun _ => trivial, fun _ => rfl⟩
      · rintro fL bA v ⟨v54, v55, v56, v57, rfl, hS, q0, q1, q2, q3⟩ hall
        simp only [Act.put, List.setIfInBounds_toArray, List.set_cons_zero, List.set_cons_succ]
        obtain rfl := q0 (hall 0 (by omega))
        obtain rfl := q1 (hall 1 (by omega))
        have e2 : fL 2 = true := hall 2 (by omega)
        obtain rfl := q3 (hall 3 (by omega))
        clear hall
        simp only [List.drop_succ_cons, List.drop_zero]
        have hbv := hW15.trans (hS.hb.mono hW15.size)
        go_wp2
        go_ret
        exact ⟨rfl, (by repeat (first | with_reducible exact hbv | with_reducible apply below_drewN' | with_reducible apply Below.drew | (with_reducible refine Below.alloc ?_ (by first | omega | (simp; omega) | simp) _) | (with_reducible refine Below.setCell ?_ (by first | omega | (simp; omega) | simp) _) | exact hbv))⟩
end Go.Proofs.YtgkobjpoeajkdaaGreat
