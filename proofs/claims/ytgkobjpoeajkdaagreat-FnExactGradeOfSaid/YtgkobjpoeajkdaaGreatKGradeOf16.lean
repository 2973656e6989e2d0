/- Whether moves are valid: the program's and the reference's. Conditions: the list's length. Answers: whether they are valid. Conditions: the lists' lengths. The step of an answer: how many of its moves are the usual plan's. Conditions: the lists' lengths; the exercise is valid. StepOf of the program and of the reference. Conditions: the lists' lengths. -/
import Derived.Shelf.Abstract
import Derived.BigQuiet
import Derived.Test.YtgkobjpoeajkdaaGreatKGradeOf8
import Derived.Test.YtgkobjpoeajkdaaGreatKGradeOf13
import Derived.Test.YtgkobjpoeajkdaaGreatKGradeOf14
import Derived.Test.YtgkobjpoeajkdaaGreatKGradeOf15
namespace Go.Proofs.YtgkobjpoeajkdaaGreat
open Go.RowKit
set_option maxRecDepth 100000 in
set_option maxHeartbeats 1000000 in
theorem isMove_c (k s a b : Int) (w : World) : Calls Tryz.prog 239 #[.agg #[.int .i64 k, .int .i64 s, .int .i64 a, .int .i64 b]] w fun e w' => e = .returned (.bool (moveB ⟨k, s, a, b⟩)) ∧ Below w.heap.size w w' := by
  have hGt : Tryz.prog.eqGuardType Tryz.prog.depth 72 = false := by kernel_rfl
  have HS := fun W => Lib.hid (implIsScale_c s W)
  have HF0 := fun W => implIsFigure_c ⟨a, b⟩ W
  unfold Figure.agg at HF0
  have HF := fun W => Lib.hid (HF0 W)
  clear HF0
  have HQ := fun W => eqMov k s a b k 0 0 0 W
  have hW : Below w.heap.size w (w.alloc (.cells #[.int .i64 k, .int .i64 s, .int .i64 a, .int .i64 b] 72)) := (by repeat (first | with_reducible exact Below.refl _ _ | with_reducible apply below_drewN' | with_reducible apply Below.drew | (with_reducible refine Below.alloc ?_ (by first | omega | (simp; omega) | simp) _) | (with_reducible refine Below.setCell ?_ (by first | omega | (simp; omega) | simp) _) | exact Below.refl _ _))
  by_cases h0 : 0 ≤ k ∧ k ≤ 2
  · have HR0 := moveB_lo (m := ⟨k, s, a, b⟩) h0
    simp only at HR0
    have hsc : scaleB s = (inB s 0 5 && !(decide (s = 5))) := by unfold scaleB; rfl
    rw [hsc] at HR0
    have HR := Lib.hid HR0
    clear HR0
    generalize figOK ⟨a, b⟩ = v at *
    have HN0 := fun W => within_c k 0 2 W
    simp only [inB_true.2 h0] at HN0
    have HN := fun W => Lib.hid (HN0 W)
    clear h0 HQ hsc HN0
    cases hu : inB s 0 5 with
    | false =>
      rw [hu] at HR
      simp only [hu] at HS
      clear hu
      skip
      all_goals
        go_enter Tryz.func239, Tryz.ntmps239
        go_wp2_with (first | (go_at_call 78; refine Calls.mono (HN _).out ?_; rintro e w1 ⟨rfl, rfl⟩) | (go_at_call 184; refine Calls.mono (HS _).out ?_; rintro e w1 ⟨rfl, rfl⟩))
        go_ret
        exact ⟨by rw [HR.out]; rfl, (by repeat (first | with_reducible exact hW | with_reducible apply below_drewN' | with_reducible apply Below.drew | (with_reducible refine Below.alloc ?_ (by first | omega | (simp; omega) | simp) _) | (with_reducible refine Below.setCell ?_ (by first | omega | (simp; omega) | simp) _) | exact hW))⟩
    | true =>
      rw [hu] at HR
      simp only [hu] at HS
      clear hu
      by_cases h5 : s = 5
      · subst h5
        skip
        all_goals
          go_enter Tryz.func239, Tryz.ntmps239
          go_wp2_with (first | (go_at_call 78; refine Calls.mono (HN _).out ?_; rintro e w1 ⟨rfl, rfl⟩) | (go_at_call 184; refine Calls.mono (HS _).out ?_; rintro e w1 ⟨rfl, rfl⟩))
          go_ret
          exact ⟨by rw [HR.out]; rfl, (by repeat (first | with_reducible exact hW | with_reducible apply below_drewN' | with_reducible apply Below.drew | (with_reducible refine Below.alloc ?_ (by first | omega | (simp; omega) | simp) _) | (with_reducible refine Below.setCell ?_ (by first | omega | (simp; omega) | simp) _) | exact hW))⟩
      · have h5' : decide (s = 5) = false := decide_eq_false h5
        have h5b : (s != 5) = true := by simpa using h5
        rw [h5'] at HR
        skip
        all_goals
          go_enter Tryz.func239, Tryz.ntmps239
          go_wp2_with (first | (go_at_call 78; refine Calls.mono (HN _).out ?_; rintro e w1 ⟨rfl, rfl⟩) | (go_at_call 184; refine Calls.mono (HS _).out ?_; rintro e w1 ⟨rfl, rfl⟩) | (go_at_call 189; refine Calls.mono (HF _).out ?_; rintro e w1 ⟨rfl, hb1⟩; have hW1 := hW.trans (hb1.mono hW.size)))
          go_ret
          exact ⟨by rw [HR.out]; cases v <;> rfl, (by repeat (first | with_reducible exact hW1 | with_reducible apply below_drewN' | with_reducible apply Below.drew | (with_reducible refine Below.alloc ?_ (by first | omega | (simp; omega) | simp) _) | (with_reducible refine Below.setCell ?_ (by first | omega | (simp; omega) | simp) _) | exact hW1))⟩
  · by_cases h3 : 3 ≤ k ∧ k ≤ 6
    · have HR := Lib.hid (moveB_hi (m := ⟨k, s, a, b⟩) h3)
      simp only at HR
      have hk : k = 3 ∨ k = 4 ∨ k = 5 ∨ k = 6 := by omega
      clear h0 h3 HS HF
      rcases hk with rfl | rfl | rfl | rfl
      all_goals
        go_enter Tryz.func239, Tryz.ntmps239
        go_wp2
        go_ret
        exact ⟨by rw [HR.out]; simp, (by repeat (first | with_reducible exact hW | with_reducible apply below_drewN' | with_reducible apply Below.drew | (with_reducible refine Below.alloc ?_ (by first | omega | (simp; omega) | simp) _) | (with_reducible refine Below.setCell ?_ (by first | omega | (simp; omega) | simp) _) | exact hW))⟩
    · have hk : k < 0 ∨ 6 < k := by omega
      have HR := Lib.hid (moveB_out (m := ⟨k, s, a, b⟩) hk)
      have hz : (¬ 0 ≤ k ∧ ¬ 3 ≤ k) ∨ (¬ k ≤ 2 ∧ ¬ k ≤ 6) := by omega
      clear h0 h3 HS HF HQ hk
      rcases hz with ⟨h1, h2⟩ | ⟨h1, h2⟩
      all_goals
        go_enter Tryz.func239, Tryz.ntmps239
        go_wp2
        go_ret
        exact ⟨by rw [HR.out]; rfl, (by repeat (first | with_reducible exact hW | with_reducible apply below_drewN' | with_reducible apply Below.drew | (with_reducible refine Below.alloc ?_ (by first | omega | (simp; omega) | simp) _) | (with_reducible refine Below.setCell ?_ (by first | omega | (simp; omega) | simp) _) | exact hW))⟩
theorem movePred (w : World) : PredMove 238 #[] (fun m => !moveB m) w := by
  intro m W _
  have H := fun W => Lib.hid (isMove_c m.kind m.scale m.digits m.tens W)
  obtain ⟨k, s, a, b⟩ := m
  unfold Move.agg
  simp only at H ⊢
  have hW : Below W.heap.size W (W.alloc (.cells #[.int .i64 k, .int .i64 s, .int .i64 a, .int .i64 b] 72)) := (by repeat (first | with_reducible exact Below.refl _ _ | with_reducible apply below_drewN' | with_reducible apply Below.drew | (with_reducible refine Below.alloc ?_ (by first | omega | (simp; omega) | simp) _) | (with_reducible refine Below.setCell ?_ (by first | omega | (simp; omega) | simp) _) | exact Below.refl _ _))
  generalize moveB ⟨k, s, a, b⟩ = mb at *
  go_enter Tryz.func238, Tryz.ntmps238
  go_wp2_with (go_at_call 239; refine Calls.mono (H _).out ?_; rintro e w1 ⟨rfl, hb1⟩; have hW1 := hW.trans (hb1.mono hW.size))
  go_ret
  exact ⟨rfl, (by repeat (first | with_reducible exact hW1 | with_reducible apply below_drewN' | with_reducible apply Below.drew | (with_reducible refine Below.alloc ?_ (by first | omega | (simp; omega) | simp) _) | (with_reducible refine Below.setCell ?_ (by first | omega | (simp; omega) | simp) _) | exact hW1))⟩
set_option maxRecDepth 100000 in
theorem allMoves_c (A : Option Addr) (c : Nat) (l : List Move) (w : World) (hl : l.length ≤ 140737488351232) (hs : Sl w w.heap.size 4 A (l.map Move.cells)) :
    Calls Tryz.prog 199 #[.slice A l.length c] w fun e w' => e = .returned (.bool (l.all moveB)) ∧ Below w.heap.size w w' := by
  have hcall := containsFuncMove_c A c l 238 #[] (fun t => !moveB t) w (enters_of Tryz.func238 (by kernel_rfl) rfl) (movePred w) hl hs
  have hall : l.any (fun t => !moveB t) = !(l.all moveB) := by rw [List.any_eq_not_all_not]; simp
  rw [hall] at hcall
  have HC := Lib.hid hcall
  clear hcall hall
  generalize l.all moveB = b at *
  go_enter Tryz.func199, Tryz.ntmps199
  go_wp2_with fail
  refine Calls.mono HC.out ?_; rintro e w1 ⟨rfl, hb1⟩
  go_wp2
  go_ret
  exact ⟨by simp, (by repeat (first | with_reducible exact hb1 | with_reducible apply below_drewN' | with_reducible apply Below.drew | (with_reducible refine Below.alloc ?_ (by first | omega | (simp; omega) | simp) _) | (with_reducible refine Below.setCell ?_ (by first | omega | (simp; omega) | simp) _) | exact hb1))⟩
/-- whether a list of moves is valid -/
def movesB (l : List Move) : Bool := decide (l.length ≤ 30) && l.all moveB
theorem movesCode_eq (l : List Move) : (movesCode l == 0) = movesB l := by
  unfold movesCode movesB
  cases l.all moveB
  · simp
  · by_cases h : 30 < l.length
    · simp [h]
    · simp [h]; omega
theorem areMoves_c (A : Option Addr) (c : Nat) (l : List Move) (w : World) (hl : l.length ≤ 140737488351232) (hs : Sl w w.heap.size 4 A (l.map Move.cells)) :
    Calls Tryz.prog 188 #[.slice A l.length c] w fun e w' => e = .returned (.bool (movesB l)) ∧ Below w.heap.size w w' := by
  have HC := Lib.hid (allMoves_c A c l w hl hs)
  unfold movesB
  by_cases h : l.length ≤ 30
  · have h' : (l.length : Int) ≤ 30 := by omega
    rw [decide_eq_true h]
    generalize l.all moveB = b at *
    go_enter Tryz.func188, Tryz.ntmps188
    go_wp2_with fail
    refine Calls.mono HC.out ?_; rintro e w1 ⟨rfl, hb1⟩
    go_wp2
    go_ret
    exact ⟨by simp, (by repeat (first | with_reducible exact hb1 | with_reducible apply below_drewN' | with_reducible apply Below.drew | (with_reducible refine Below.alloc ?_ (by first | omega | (simp; omega) | simp) _) | (with_reducible refine Below.setCell ?_ (by first | omega | (simp; omega) | simp) _) | exact hb1))⟩
  · have h' : ¬ (l.length : Int) ≤ 30 := by omega
    rw [decide_eq_false h]
    go_enter Tryz.func188, Tryz.ntmps188
    go_wp2_with fail
    go_wp2
    go_ret
    exact ⟨by simp, (by repeat (first | with_reducible exact Below.refl _ _ | with_reducible apply below_drewN' | with_reducible apply Below.drew | (with_reducible refine Below.alloc ?_ (by first | omega | (simp; omega) | simp) _) | (with_reducible refine Below.setCell ?_ (by first | omega | (simp; omega) | simp) _) | exact Below.refl _ _))⟩
theorem specAreMoves_c (A : Option Addr) (c : Nat) (l : List Move) (w : World) (hl : l.length ≤ 140737488351232) (hs : Sl w w.heap.size 4 A (l.map Move.cells)) :
    Calls Tryz.prog 133 #[.slice A l.length c] w fun e w' => e = .returned (.bool (movesB l)) ∧ Below w.heap.size w w' := by
  have HC := Lib.hid (l12Code_c A c l w hl hs)
  have HR := Lib.hid (movesCode_eq l)
  generalize movesCode l = b at *
  go_enter Tryz.func133, Tryz.ntmps133
  go_wp2_with fail
  refine Calls.mono HC.out ?_; rintro e w1 ⟨rfl, hb1⟩
  go_wp2
  go_ret
  exact ⟨by rw [← HR.out]; rfl, (by repeat (first | with_reducible exact hb1 | with_reducible apply below_drewN' | with_reducible apply Below.drew | (with_reducible refine Below.alloc ?_ (by first | omega | (simp; omega) | simp) _) | (with_reducible refine Below.setCell ?_ (by first | omega | (simp; omega) | simp) _) | exact hb1))⟩
end Go.Proofs.YtgkobjpoeajkdaaGreat
namespace Go.Proofs.YtgkobjpoeajkdaaGreat
open Go.RowKit
/-- an answer's moves, as they lie in w -/
structure AnIn (w : World) (A : Option Addr) (c : Nat) (l : List Move) : Prop where
  n : l.length ≤ 1048576
  k : l.length ≤ c
  s : Sl w w.heap.size 4 A (l.map Move.cells)
theorem AnIn.later {w W : World} {A : Option Addr} {c : Nat} {l : List Move} (E : AnIn w A c l) (hW : Below w.heap.size w W) : AnIn W A c l := ⟨E.n, E.k, (E.s.below hW).more hW.size⟩
structure AnR where
  A : Option Addr
  c : Nat
  l : List Move
  a : Int
  b : Int
def AnR.cells (e : AnR) : List Value := [.slice e.A e.l.length e.c, .int .i64 e.a, .int .i64 e.b]
def AnR.agg (e : AnR) : Value := .agg #[.slice e.A e.l.length e.c, .int .i64 e.a, .int .i64 e.b]
def AnR.In (e : AnR) (w : World) : Prop := AnIn w e.A e.c e.l
/-- whether an answer is valid -/
def ansB (l : List Move) (a b : Int) : Bool := movesB l && figOK ⟨a, b⟩
def AnR.ok (e : AnR) : Bool := ansB e.l e.a e.b
structure AnsIn (w : World) (A : Option Addr) (es : List AnR) : Prop where
  n : es.length ≤ 1048576
  s : Sl w w.heap.size 3 A (es.map AnR.cells)
  i : ∀ e ∈ es, e.In w
theorem AnsIn.later {w W : World} {A : Option Addr} {es : List AnR} (h : AnsIn w A es) (hW : Below w.heap.size w W) : AnsIn W A es := ⟨h.n, (h.s.below hW).more hW.size, fun e he => AnIn.later (h.i e he) hW⟩
set_option maxRecDepth 100000 in
theorem isAnswer_c (A : Option Addr) (c : Nat) (l : List Move) (a b : Int) (w : World) (E : AnIn w A c l) :
    Calls Tryz.prog 138 #[.agg #[.slice A l.length c, .int .i64 a, .int .i64 b]] w fun e w' => e = .returned (.bool (ansB l a b)) ∧ Below w.heap.size w w' := by
  have hW : Below w.heap.size w (w.alloc (.cells #[.slice A l.length c, .int .i64 a, .int .i64 b] 67)) := (by repeat (first | with_reducible exact Below.refl _ _ | with_reducible apply below_drewN' | with_reducible apply Below.drew | (with_reducible refine Below.alloc ?_ (by first | omega | (simp; omega) | simp) _) | (with_reducible refine Below.setCell ?_ (by first | omega | (simp; omega) | simp) _) | exact Below.refl _ _))
  have HM := Lib.hid (areMoves_c A c l _ (by have := E.n; omega) (E.later hW).s)
  have HF0 := fun W => implIsFigure_c ⟨a, b⟩ W
  unfold Figure.agg at HF0
  have HF := fun W => Lib.hid (HF0 W)
  clear HF0 E
  have B1 := Blk.new w 67 #[.slice A l.length c, .int .i64 a, .int .i64 b]
  unfold ansB
  generalize figOK ⟨a, b⟩ = v at *
  generalize movesB l = u at *
  go_enter Tryz.func138, Tryz.ntmps138
  go_wp2_with fail
  refine Calls.mono HM.out ?_; rintro e w1 ⟨rfl, hb1⟩
  have C1 := B1.below hb1 B1.lt
  have y1 : w1.cell? ⟨w.heap.size, 1, none⟩ = some (.int .i64 a) := C1.cell 1
  have y2 : w1.cell? ⟨w.heap.size, 2, none⟩ = some (.int .i64 b) := C1.cell 2
  have hW1 := hW.trans (hb1.mono hW.size)
  clear HM hW B1 C1 hb1
  cases u
  · go_wp2
    go_ret
    exact ⟨rfl, (by repeat (first | with_reducible exact hW1 | with_reducible apply below_drewN' | with_reducible apply Below.drew | (with_reducible refine Below.alloc ?_ (by first | omega | (simp; omega) | simp) _) | (with_reducible refine Below.setCell ?_ (by first | omega | (simp; omega) | simp) _) | exact hW1))⟩
  · go_wp2_with (go_at_call 189; refine Calls.mono (HF _).out ?_; rintro e w2 ⟨rfl, hb2⟩; have hW2 := hW1.trans (hb2.mono hW1.size))
    go_ret
    exact ⟨rfl, (by repeat (first | with_reducible exact hW2 | with_reducible apply below_drewN' | with_reducible apply Below.drew | (with_reducible refine Below.alloc ?_ (by first | omega | (simp; omega) | simp) _) | (with_reducible refine Below.setCell ?_ (by first | omega | (simp; omega) | simp) _) | exact hW2))⟩
set_option maxRecDepth 100000 in
theorem l31Answer_c (A : Option Addr) (c : Nat) (l : List Move) (a b : Int) (w : World) (E : AnIn w A c l) :
    Calls Tryz.prog 86 #[.agg #[.slice A l.length c, .int .i64 a, .int .i64 b]] w fun e w' => e = .returned (.bool (ansB l a b)) ∧ Below w.heap.size w w' := by
  have hW : Below w.heap.size w (w.alloc (.cells #[.slice A l.length c, .int .i64 a, .int .i64 b] 67)) := (by repeat (first | with_reducible exact Below.refl _ _ | with_reducible apply below_drewN' | with_reducible apply Below.drew | (with_reducible refine Below.alloc ?_ (by first | omega | (simp; omega) | simp) _) | (with_reducible refine Below.setCell ?_ (by first | omega | (simp; omega) | simp) _) | exact Below.refl _ _))
  have HM := Lib.hid (specAreMoves_c A c l _ (by have := E.n; omega) (E.later hW).s)
  have HF0 := fun W => specIsFigure_c ⟨a, b⟩ W
  unfold Figure.agg at HF0
  have HF := fun W => Lib.hid (HF0 W)
  clear HF0 E
  have B1 := Blk.new w 67 #[.slice A l.length c, .int .i64 a, .int .i64 b]
  unfold ansB
  generalize figOK ⟨a, b⟩ = v at *
  generalize movesB l = u at *
  go_enter Tryz.func86, Tryz.ntmps86
  go_wp2_with fail
  refine Calls.mono HM.out ?_; rintro e w1 ⟨rfl, hb1⟩
  have C1 := B1.below hb1 B1.lt
  have y1 : w1.cell? ⟨w.heap.size, 1, none⟩ = some (.int .i64 a) := C1.cell 1
  have y2 : w1.cell? ⟨w.heap.size, 2, none⟩ = some (.int .i64 b) := C1.cell 2
  have hW1 := hW.trans (hb1.mono hW.size)
  clear HM hW B1 C1 hb1
  cases u
  · go_wp2
    go_ret
    exact ⟨rfl, (by repeat (first | with_reducible exact hW1 | with_reducible apply below_drewN' | with_reducible apply Below.drew | (with_reducible refine Below.alloc ?_ (by first | omega | (simp; omega) | simp) _) | (with_reducible refine Below.setCell ?_ (by first | omega | (simp; omega) | simp) _) | exact hW1))⟩
  · go_wp2_with (go_at_call 134; refine Calls.mono (HF _).out ?_; rintro e w2 ⟨rfl, hb2⟩; have hW2 := hW1.trans (hb2.mono hW1.size))
    go_ret
    exact ⟨rfl, (by repeat (first | with_reducible exact hW2 | with_reducible apply below_drewN' | with_reducible apply Below.drew | (with_reducible refine Below.alloc ?_ (by first | omega | (simp; omega) | simp) _) | (with_reducible refine Below.setCell ?_ (by first | omega | (simp; omega) | simp) _) | exact hW2))⟩
def PredAn (g : FuncId) (lb : Array Value) (o : AnR → Bool) (es : List AnR) (w : World) : Prop :=
  ∀ (x : AnR) (W : World), x ∈ es → Below w.heap.size w W → Calls Tryz.prog g (#[x.agg] ++ lb) W fun e w' => e = .returned (.bool (o x)) ∧ Below W.heap.size W w'
def IdxPostAn (o : AnR → Bool) (l : List AnR) (w : World) (e : Ending) (w' : World) : Prop :=
  ∃ r : Int, e = .returned (.int .i64 r) ∧ decide (0 ≤ r) = l.any o ∧ Below w.heap.size w w'
set_option maxRecDepth 100000 in
theorem indexFuncAn_c (A : Option Addr) (c : Nat) (l : List AnR) (g : FuncId) (lb : Array Value) (o : AnR → Bool) (w : World)
    (eg : ∀ args w, (callFunc g args).run Tryz.prog w = .ok (.enter g args) w) (hp : PredAn g lb o l w) (E : AnsIn w A l) :
    Calls Tryz.prog 187 #[.slice A l.length c, .func (.func g) #[] lb] w (IdxPostAn o l w) := by
  have hl := E.n
  have hs := E.s
  clear E
  go_enter Tryz.func187, Tryz.ntmps187
  go_wp2_with fail
  go_loopw [8] (fun i wr => ∃ k : Nat, k ≤ l.length ∧ i = .int .i64 k ∧ Below w.heap.size w wr ∧ Hid ((l.take k).any o = false)) (fun i _ => l.length - (intOf i).toNat)
  case atStart => exact ⟨0, Nat.zero_le _, rfl, Below.refl _ _, (show (l.take 0).any o = false from by simp)⟩
  case round =>
    obtain ⟨k, hk, rfl, hb, hn⟩ := hrel
    by_cases hlt : k < l.length
    · obtain ⟨b, off, rfl, hbB, hc⟩ := hs.at_ (i := k) (by simpa using hlt)
      simp only [List.getElem_map] at hc
      have c0 : wr.cell? ⟨b, off + k * 3, none⟩ = some (.slice l[k].A l[k].l.length l[k].c) := by rw [hb.cell hbB]; exact hc 0 _ rfl
      have c1 : wr.cell? ⟨b, off + k * 3 + 1, none⟩ = some (.int .i64 l[k].a) := by rw [hb.cell hbB]; exact hc 1 _ rfl
      have c2 : wr.cell? ⟨b, off + k * 3 + 2, none⟩ = some (.int .i64 l[k].b) := by rw [hb.cell hbB]; exact hc 2 _ rfl
      clear hc
      have hcall := hp l[k] wr (List.getElem_mem hlt) hb
      unfold AnR.agg at hcall
      have hnx : (l.take (k + 1)).any o = ((l.take k).any o || o l[k]) := by rw [List.take_succ_eq_append_getElem hlt, List.any_append]; simp
      have hnx := Lib.hid hnx
      have hmem : Hid (l[k] ∈ l) := List.getElem_mem hlt
      clear hp
      generalize l[k] = ek at *
      cases hq : o ek with
      | true =>
        have hq' := Lib.hid hq
        rw [hq] at hcall
        have hcall := Lib.hid hcall
        clear hq
        go_wp2_with (go_at_fn g; refine hcall.out.mono ?_; rintro e w1 ⟨rfl, hb1⟩)
        go_ret
        refine ⟨k, rfl, ?_, hb.trans (hb1.mono hb.size)⟩
        rw [show l.any o = true from List.any_eq_true.2 ⟨ek, hmem.out, hq'.out⟩]
        simp
      | false =>
        have hq' := Lib.hid hq
        rw [hq] at hcall
        have hcall := Lib.hid hcall
        clear hq
        go_wp2_with (go_at_fn g; refine hcall.out.mono ?_; rintro e w1 ⟨rfl, hb1⟩)
        go_roundw
        case rel => exact ⟨k + 1, by omega, by go_num, hb.trans (hb1.mono hb.size), (show _ = false from by rw [hnx.out, hn.out, hq'.out]; rfl)⟩
        case measure => simp [intOf]; omega
    · have : k = l.length := by omega
      subst this
      go_wp2
      go_ret
      refine ⟨-1, rfl, ?_, hb⟩
      have := hn.out
      rw [List.take_length] at this
      rw [this]
      rfl
theorem containsFuncAn_c (A : Option Addr) (c : Nat) (l : List AnR) (g : FuncId) (lb : Array Value) (o : AnR → Bool) (w : World)
    (eg : ∀ args w, (callFunc g args).run Tryz.prog w = .ok (.enter g args) w) (hp : PredAn g lb o l w) (E : AnsIn w A l) :
    Calls Tryz.prog 136 #[.slice A l.length c, .func (.func g) #[] lb] w fun e w' => e = .returned (.bool (l.any o)) ∧ Below w.heap.size w w' := by
  have H := Lib.hid (indexFuncAn_c A c l g lb o w eg hp E)
  clear hp E eg
  go_enter Tryz.func136, Tryz.ntmps136
  go_wp2_with fail
  refine H.out.mono ?_
  rintro e w1 ⟨r, rfl, hr, hb⟩
  go_wp2
  go_ret
  exact ⟨rfl, hb⟩
set_option maxRecDepth 100000 in
theorem ansPred (es : List AnR) (w : World) (hi : ∀ e ∈ es, e.In w) : PredAn 137 #[] (fun e => !e.ok) es w := by
  intro x W hx hW
  have HX := fun (W' : World) (h : Below W.heap.size W W') => Lib.hid (isAnswer_c x.A x.c x.l x.a x.b W' (AnIn.later (AnIn.later (hi x hx) hW) h))
  clear hi hx hW
  obtain ⟨A, c, l, a, b⟩ := x
  show Calls _ _ _ _ _
  unfold AnR.agg AnR.ok
  simp only at HX ⊢
  have hW : Below W.heap.size W (W.alloc (.cells #[.slice A l.length c, .int .i64 a, .int .i64 b] 67)) := (by repeat (first | with_reducible exact Below.refl _ _ | with_reducible apply below_drewN' | with_reducible apply Below.drew | (with_reducible refine Below.alloc ?_ (by first | omega | (simp; omega) | simp) _) | (with_reducible refine Below.setCell ?_ (by first | omega | (simp; omega) | simp) _) | exact Below.refl _ _))
  generalize ansB l a b = bb at *
  go_enter Tryz.func137, Tryz.ntmps137
  go_wp2_with fail
  generalize W.alloc (.cells #[.slice A l.length c, .int .i64 a, .int .i64 b] 67) = W1 at *
  refine Calls.mono (HX W1 hW).out ?_; rintro e w1 ⟨rfl, hb1⟩
  have hv := hW.trans (hb1.mono hW.size)
  go_wp2
  go_ret
  exact ⟨rfl, (by repeat (first | with_reducible exact hv | with_reducible apply below_drewN' | with_reducible apply Below.drew | (with_reducible refine Below.alloc ?_ (by first | omega | (simp; omega) | simp) _) | (with_reducible refine Below.setCell ?_ (by first | omega | (simp; omega) | simp) _) | exact hv))⟩
set_option maxRecDepth 100000 in
theorem checkAnswer_c (L : Int) (A1 : Option Addr) (c1 : Nat) (l1 : List Int) (A2 : Option Addr) (c2 : Nat) (l2 : List Int) (A3 : Option Addr) (c3 : Nat) (l3 : List Term) (p q r : Int) (A : Option Addr) (c : Nat) (es : List AnR) (w : World) (E : ExIn w A1 c1 l1 A2 c2 l2 A3 c3 l3) (F : AnsIn w A es) :
    Calls Tryz.prog 90 #[.agg #[.int .i64 L, .slice A1 l1.length c1, .slice A2 l2.length c2, .slice A3 l3.length c3, .int .i64 p, .int .i64 q, .int .i64 r], .slice A es.length c] w fun e w' => e = .returned (.int .i64 (if (exB L l1 l2 l3 p q r && es.all AnR.ok) = true then 0 else 1)) ∧ Below w.heap.size w w' := by
  have hW : Below w.heap.size w (w.alloc (.cells #[.int .i64 L, .slice A1 l1.length c1, .slice A2 l2.length c2, .slice A3 l3.length c3, .int .i64 p, .int .i64 q, .int .i64 r] 36)) := (by repeat (first | with_reducible exact Below.refl _ _ | with_reducible apply below_drewN' | with_reducible apply Below.drew | (with_reducible refine Below.alloc ?_ (by first | omega | (simp; omega) | simp) _) | (with_reducible refine Below.setCell ?_ (by first | omega | (simp; omega) | simp) _) | exact Below.refl _ _))
  have HX := Lib.hid (implIsExercise_c L A1 c1 l1 A2 c2 l2 A3 c3 l3 p q r _ (E.later hW))
  have hall : es.any (fun e => !e.ok) = !(es.all AnR.ok) := by rw [List.any_eq_not_all_not]; simp
  have HC : Hid (∀ W, Below w.heap.size w W → Calls Tryz.prog 136 #[.slice A es.length c, .func (.func 137) #[] #[]] W fun e w' => e = .returned (.bool (!(es.all AnR.ok))) ∧ Below W.heap.size W w') := fun W hW => by
    have F' := F.later hW
    have hcall := containsFuncAn_c A c es 137 #[] (fun e => !e.ok) W (enters_of Tryz.func137 (by kernel_rfl) rfl) (ansPred es W F'.i) F'
    rw [hall] at hcall
    exact hcall
  clear E F hall
  generalize es.all AnR.ok = v at *
  generalize exB L l1 l2 l3 p q r = u at *
  cases u
  · go_enter Tryz.func90, Tryz.ntmps90
    go_wp2_with fail
    refine Calls.mono HX.out ?_; rintro e w1 ⟨rfl, hb1⟩
    have hW1 := hW.trans (hb1.mono hW.size)
    go_wp2
    go_ret
    exact ⟨rfl, (by repeat (first | with_reducible exact hW1 | with_reducible apply below_drewN' | with_reducible apply Below.drew | (with_reducible refine Below.alloc ?_ (by first | omega | (simp; omega) | simp) _) | (with_reducible refine Below.setCell ?_ (by first | omega | (simp; omega) | simp) _) | exact hW1))⟩
  · cases v
    all_goals
      go_enter Tryz.func90, Tryz.ntmps90
      go_wp2_with fail
      refine Calls.mono HX.out ?_; rintro e w1 ⟨rfl, hb1⟩
      have hW1 := hW.trans (hb1.mono hW.size)
      go_wp2_with fail
      refine Calls.mono (HC.out _ hW1) ?_; rintro e w2 ⟨rfl, hb2⟩
      have hW2 := hW1.trans (hb2.mono hW1.size)
      go_wp2
      go_ret
      exact ⟨rfl, (by repeat (first | with_reducible exact hW2 | with_reducible apply below_drewN' | with_reducible apply Below.drew | (with_reducible refine Below.alloc ?_ (by first | omega | (simp; omega) | simp) _) | (with_reducible refine Below.setCell ?_ (by first | omega | (simp; omega) | simp) _) | exact hW2))⟩
end Go.Proofs.YtgkobjpoeajkdaaGreat
namespace Go.Proofs.YtgkobjpoeajkdaaGreat
open Go.RowKit
/-- how many moves at the head of both lists are alike -/
def stepN : List Move → List Move → Nat
  | x :: xs, y :: ys => if x = y then stepN xs ys + 1 else 0
  | _, _ => 0
theorem stepN_eq : ∀ {ms l : List Move} {k : Nat}, k ≤ ms.length → k ≤ l.length → (∀ j, j < k → ms[j]? = l[j]?) → (k = ms.length ∨ k = l.length ∨ ∃ x y, ms[k]? = some x ∧ l[k]? = some y ∧ x ≠ y) → stepN ms l = k
  | [], l, k, h1, _, _, _ => by
    have : k = 0 := by simpa using h1
    subst this
    unfold stepN
    cases l <;> rfl
  | x :: xs, [], k, _, h2, _, _ => by
    have : k = 0 := by simpa using h2
    subst this
    rfl
  | x :: xs, y :: ys, 0, _, _, _, he => by
    unfold stepN
    rcases he with he | he | ⟨a, b, ha, hb, hn⟩
    · simp at he
    · simp at he
    · simp at ha hb
      subst ha
      subst hb
      rw [if_neg hn]
  | x :: xs, y :: ys, k + 1, h1, h2, h, he => by
    have h0 := h 0 (by omega)
    simp at h0
    unfold stepN
    rw [if_pos h0, stepN_eq (k := k) (by simpa using h1) (by simpa using h2) (fun j hj => by have := h (j + 1) (by omega); simpa using this) (by simpa using he)]
theorem stepN_le : ∀ {ms l : List Move}, stepN ms l ≤ ms.length ∧ stepN ms l ≤ l.length
  | [], l => by unfold stepN; cases l <;> simp
  | x :: xs, [] => by simp [stepN]
  | x :: xs, y :: ys => by
    unfold stepN
    have := stepN_le (ms := xs) (l := ys)
    split
    · simp; omega
    · simp
theorem mvEq_eq (x y : Move) : (decide (x.kind = y.kind) && (decide (x.scale = y.scale) && ((decide (x.digits = y.digits) && (decide (x.tens = y.tens) && true)) && true))) = decide (x = y) := by
  obtain ⟨a, b, c, d⟩ := x
  obtain ⟨a', b', c', d'⟩ := y
  rw [Bool.eq_iff_iff]
  simp
theorem ex_usual {w : World} {L : Int} {A1 : Option Addr} {c1 : Nat} {l1 : List Int} {A2 : Option Addr} {c2 : Nat} {l2 : List Int} {A3 : Option Addr} {c3 : Nat} {l3 : List Term} {p q r : Int} (h : exB L l1 l2 l3 p q r = true) (E : ExIn w A1 c1 l1 A2 c2 l2 A3 c3 l3) : RuleIn w A1 l1 A2 l2 ∧ 0 < l3.length ∧ l3.length ≤ 6 ∧ l3.all termOK = true := by
  unfold exB at h
  have hc : exCode L l1 l2 l3 p q r = 0 := by simpa using h
  by_cases hb : boundCode L l1 l2 l3 p q r = 0
  · obtain ⟨b1, b2, b3, b4, b5⟩ := bound_parts hb
    obtain ⟨k1, k2, k3, k4⟩ := chainB_parts b2
    exact ⟨ExIn.rule E b3 b4, k1, k2, k3⟩
  · rw [(ex_bad hb).2.2] at hc
    exact absurd hc hb
set_option maxRecDepth 100000 in
set_option maxHeartbeats 2000000 in
theorem stepOf_c (L : Int) (A1 : Option Addr) (c1 : Nat) (l1 : List Int) (A2 : Option Addr) (c2 : Nat) (l2 : List Int) (A3 : Option Addr) (c3 : Nat) (l3 : List Term) (p q r : Int) (A : Option Addr) (c : Nat) (l : List Move) (a b : Int) (w : World) (E : ExIn w A1 c1 l1 A2 c2 l2 A3 c3 l3) (hx : exB L l1 l2 l3 p q r = true) (F : AnIn w A c l) :
    Calls Tryz.prog 91 #[.agg #[.int .i64 L, .slice A1 l1.length c1, .slice A2 l2.length c2, .slice A3 l3.length c3, .int .i64 p, .int .i64 q, .int .i64 r], .agg #[.slice A l.length c, .int .i64 a, .int .i64 b]] w fun e w' => (∃ A' c', e = .returned (.tuple #[.int .i64 (stepN (usualP l3).ms l), .slice A' (usualP l3).ms.length c']) ∧ (usualP l3).ms.length ≤ c' ∧ Sl w' w'.heap.size 4 A' ((usualP l3).ms.map Move.cells)) ∧ Below w.heap.size w w' := by
  have hGt : Tryz.prog.eqGuardType Tryz.prog.depth 72 = false := by kernel_rfl
  have hW0 : Below w.heap.size w ((w.alloc (.cells #[.int .i64 L, .slice A1 l1.length c1, .slice A2 l2.length c2, .slice A3 l3.length c3, .int .i64 p, .int .i64 q, .int .i64 r] 36)).alloc (.cells #[.slice A l.length c, .int .i64 a, .int .i64 b] 67)) := (by repeat (first | with_reducible exact Below.refl _ _ | with_reducible apply below_drewN' | with_reducible apply Below.drew | (with_reducible refine Below.alloc ?_ (by first | omega | (simp; omega) | simp) _) | (with_reducible refine Below.setCell ?_ (by first | omega | (simp; omega) | simp) _) | exact Below.refl _ _))
  have B0 := Blk.new' (w.alloc (.cells #[.int .i64 L, .slice A1 l1.length c1, .slice A2 l2.length c2, .slice A3 l3.length c3, .int .i64 p, .int .i64 q, .int .i64 r] 36)) 67 #[.slice A l.length c, .int .i64 a, .int .i64 b] (g := w.heap.size + 1) (by simp)
  obtain ⟨R, r1, r2, r3⟩ := ex_usual hx E
  have hms : (usualP l3).ms.length ≤ 19 := (usual_ok r1 r2 r3).2
  have HU := Lib.hid (usualPlan_c L A1 c1 l1 A2 c2 l2 A3 c3 l3 _ (R.later hW0) r1 r2 E.k3 r3 (E.later hW0).s3)
  have hl := F.n
  have F0 := F.later hW0
  clear E R r1 r2 r3 hx F
  generalize (usualP l3).ms = ms at *
  go_enter Tryz.func91, Tryz.ntmps91
  go_wp2_with fail
  generalize ((w.alloc (.cells #[.int .i64 L, .slice A1 l1.length c1, .slice A2 l2.length c2, .slice A3 l3.length c3, .int .i64 p, .int .i64 q, .int .i64 r] 36)).alloc (.cells #[.slice A l.length c, .int .i64 a, .int .i64 b] 67)) = W at *
  refine Calls.mono HU.out ?_; rintro e w1 ⟨A', c', rfl, hO, hb1⟩; have hs' := hO.sl; have hk' := hO.le_cap; clear hO
  have hW1 := hW0.trans (hb1.mono hW0.size)
  have B1 := B0.below hb1 B0.lt
  have F1 := F0.later hb1
  clear HU hW0 B0 F0 hb1
  have hba : Below w1.heap.size w1 (w1.alloc (.cells #[.int .i64 (usualP l3).sh, .int .i64 (usualP l3).cu] 110)) := (Below.refl _ _).alloc (Nat.le_refl _) _
  have hW2 := hW1.trans (hba.mono hW1.size)
  have B2 := B1.below hba B1.lt
  have hs' := (hs'.below hba).more hba.size
  have F2 := F1.later hba
  clear hW1 B1 F1 hba
  go_wp2_with fail
  generalize w1.alloc (.cells #[.int .i64 (usualP l3).sh, .int .i64 (usualP l3).cu] 110) = w2 at *
  have hs := F2.s
  have hgB := B2.lt
  have y0 : w2.cell? ⟨w.heap.size + 1, 0, none⟩ = some (.slice A l.length c) := B2.cell 0
  clear B2 F2
  go_loopw [8] (fun i wr => ∃ k : Nat, k ≤ ms.length ∧ k ≤ l.length ∧ i = .int .i64 k ∧ Below w2.heap.size w2 wr ∧ Hid (∀ j, j < k → ms[j]? = l[j]?)) (fun i _ => ms.length - (intOf i).toNat)
  case atStart => exact ⟨0, Nat.zero_le _, Nat.zero_le _, rfl, Below.refl _ _, fun j h => by omega⟩
  case round =>
    obtain ⟨k, hk1, hk2, rfl, hb, hn⟩ := hrel
    have x0 : wr.cell? ⟨w.heap.size + 1, 0, none⟩ = some (.slice A l.length c) := by rw [hb.cell hgB]; exact y0
    have hWr := hW2.trans (hb.mono hW2.size)
    have k0 : (0 : Int) ≤ (k : Int) := by omega
    have HSr : Sl wr wr.heap.size 4 A' (ms.map Move.cells) := (hs'.below hb).more hb.size
    by_cases h1 : k < ms.length
    · have i1 : (k : Int) < (ms.length : Int) := by omega
      by_cases h2 : k < l.length
      · have i2 : (k : Int) < (l.length : Int) := by omega
        obtain ⟨b2, off2, rfl, b2B, hc2⟩ := hs.at_ (i := k) (by simpa using h2)
        obtain ⟨b1, off1, rfl, b1B, hc1⟩ := hs'.at_ (i := k) (by simpa using h1)
        simp only [List.getElem_map] at hc1 hc2
        have m0 : wr.cell? ⟨b1, off1 + k * 4, none⟩ = some (.int .i64 ms[k].kind) := by rw [hb.cell b1B]; exact hc1 0 _ rfl
        have m1 : wr.cell? ⟨b1, off1 + k * 4 + 1, none⟩ = some (.int .i64 ms[k].scale) := by rw [hb.cell b1B]; exact hc1 1 _ rfl
        have m2 : wr.cell? ⟨b1, off1 + k * 4 + 2, none⟩ = some (.int .i64 ms[k].digits) := by rw [hb.cell b1B]; exact hc1 2 _ rfl
        have m3 : wr.cell? ⟨b1, off1 + k * 4 + 3, none⟩ = some (.int .i64 ms[k].tens) := by rw [hb.cell b1B]; exact hc1 3 _ rfl
        have n0 : wr.cell? ⟨b2, off2 + k * 4, none⟩ = some (.int .i64 l[k].kind) := by rw [hb.cell b2B]; exact hc2 0 _ rfl
        have n1 : wr.cell? ⟨b2, off2 + k * 4 + 1, none⟩ = some (.int .i64 l[k].scale) := by rw [hb.cell b2B]; exact hc2 1 _ rfl
        have n2 : wr.cell? ⟨b2, off2 + k * 4 + 2, none⟩ = some (.int .i64 l[k].digits) := by rw [hb.cell b2B]; exact hc2 2 _ rfl
        have n3 : wr.cell? ⟨b2, off2 + k * 4 + 3, none⟩ = some (.int .i64 l[k].tens) := by rw [hb.cell b2B]; exact hc2 3 _ rfl
        clear hc1 hc2
        have HQ := fun W => eqMov ms[k].kind ms[k].scale ms[k].digits ms[k].tens l[k].kind l[k].scale l[k].digits l[k].tens W
        rw [mvEq_eq] at HQ
        have e1 : Hid (ms[k]? = some ms[k]) := List.getElem?_eq_getElem h1
        have e2 : Hid (l[k]? = some l[k]) := List.getElem?_eq_getElem h2
        generalize ms[k] = x at *
        generalize l[k] = y at *
        by_cases he : x = y
        · have hN : Hid (∀ j, j < k + 1 → ms[j]? = l[j]?) := fun j hj => by
            by_cases hjk : j < k
            · exact hn.out j hjk
            · obtain rfl : j = k := by omega
              rw [e1.out, e2.out, he]
          rw [decide_eq_true he] at HQ
          clear he e1 e2
          go_wp2_with fail
          go_quiet (fail)
          go_wp2
          go_roundw
          case rel => exact ⟨k + 1, by omega, by omega, by go_num, (by first | exact below_drewN' hb _ | exact hb.drew), hN⟩
          case measure => simp [intOf]; omega
        · have hst : Hid (stepN ms l = k) := stepN_eq hk1 hk2 hn.out (.inr (.inr ⟨x, y, e1.out, e2.out, he⟩))
          rw [decide_eq_false he] at HQ
          clear he e1 e2
          go_wp2_with fail
          go_quiet (fail)
          go_wp2
          refine bodyPost_ret (v := .tuple #[.int .i64 k, .slice _ ms.length c']) (by simp [results, Tryz.results91, go_sem]; rfl) rfl ⟨⟨_, c', by rw [hst.out], hk', by first | exact HSr | exact HSr.drewN _⟩, (by repeat (first | with_reducible exact hWr | with_reducible apply below_drewN' | with_reducible apply Below.drew | (with_reducible refine Below.alloc ?_ (by first | omega | (simp; omega) | simp) _) | (with_reducible refine Below.setCell ?_ (by first | omega | (simp; omega) | simp) _) | exact hWr))⟩
      · have hst : Hid (stepN ms l = k) := stepN_eq hk1 hk2 hn.out (.inr (.inl (by omega)))
        have hd2 : decide ((k : Int) < (l.length : Int)) = false := decide_eq_false (by omega)
        go_wp2_with fail
        go_quiet (fail)
        go_wp2
        refine bodyPost_ret (v := .tuple #[.int .i64 k, .slice _ ms.length c']) (by simp [results, Tryz.results91, go_sem]; rfl) rfl ⟨⟨_, c', by rw [hst.out], hk', by first | exact HSr | exact HSr.drewN _⟩, (by repeat (first | with_reducible exact hWr | with_reducible apply below_drewN' | with_reducible apply Below.drew | (with_reducible refine Below.alloc ?_ (by first | omega | (simp; omega) | simp) _) | (with_reducible refine Below.setCell ?_ (by first | omega | (simp; omega) | simp) _) | exact hWr))⟩
    · have hst : Hid (stepN ms l = k) := stepN_eq hk1 hk2 hn.out (.inl (by omega))
      have hd1 : decide ((k : Int) < (ms.length : Int)) = false := decide_eq_false (by omega)
      go_wp2_with fail
      go_quiet (fail)
      go_wp2
      refine bodyPost_ret (v := .tuple #[.int .i64 k, .slice _ ms.length c']) (by simp [results, Tryz.results91, go_sem]; rfl) rfl ⟨⟨_, c', by rw [hst.out], hk', by first | exact HSr | exact HSr.drewN _⟩, (by repeat (first | with_reducible exact hWr | with_reducible apply below_drewN' | with_reducible apply Below.drew | (with_reducible refine Below.alloc ?_ (by first | omega | (simp; omega) | simp) _) | (with_reducible refine Below.setCell ?_ (by first | omega | (simp; omega) | simp) _) | exact hWr))⟩
set_option maxRecDepth 100000 in
set_option maxHeartbeats 2000000 in
theorem l31Step_c (L : Int) (A1 : Option Addr) (c1 : Nat) (l1 : List Int) (A2 : Option Addr) (c2 : Nat) (l2 : List Int) (A3 : Option Addr) (c3 : Nat) (l3 : List Term) (p q r : Int) (A : Option Addr) (c : Nat) (l : List Move) (a b : Int) (w : World) (E : ExIn w A1 c1 l1 A2 c2 l2 A3 c3 l3) (hx : exB L l1 l2 l3 p q r = true) (F : AnIn w A c l) :
    Calls Tryz.prog 87 #[.agg #[.int .i64 L, .slice A1 l1.length c1, .slice A2 l2.length c2, .slice A3 l3.length c3, .int .i64 p, .int .i64 q, .int .i64 r], .agg #[.slice A l.length c, .int .i64 a, .int .i64 b]] w fun e w' => e = .returned (.int .i64 (stepN (usualP l3).ms l)) ∧ Below w.heap.size w w' := by
  have hGt : Tryz.prog.eqGuardType Tryz.prog.depth 72 = false := by kernel_rfl
  have hW0 : Below w.heap.size w ((w.alloc (.cells #[.int .i64 L, .slice A1 l1.length c1, .slice A2 l2.length c2, .slice A3 l3.length c3, .int .i64 p, .int .i64 q, .int .i64 r] 36)).alloc (.cells #[.slice A l.length c, .int .i64 a, .int .i64 b] 67)) := (by repeat (first | with_reducible exact Below.refl _ _ | with_reducible apply below_drewN' | with_reducible apply Below.drew | (with_reducible refine Below.alloc ?_ (by first | omega | (simp; omega) | simp) _) | (with_reducible refine Below.setCell ?_ (by first | omega | (simp; omega) | simp) _) | exact Below.refl _ _))
  have B0 := Blk.new' (w.alloc (.cells #[.int .i64 L, .slice A1 l1.length c1, .slice A2 l2.length c2, .slice A3 l3.length c3, .int .i64 p, .int .i64 q, .int .i64 r] 36)) 67 #[.slice A l.length c, .int .i64 a, .int .i64 b] (g := w.heap.size + 1) (by simp)
  obtain ⟨R, r1, r2, r3⟩ := ex_usual hx E
  have hms : (usualP l3).ms.length ≤ 19 := (usual_ok r1 r2 r3).2
  have HU := Lib.hid (l14Usual_c L A1 c1 l1 A2 c2 l2 A3 c3 l3 _ (R.later hW0) r1 r2 r3 (E.later hW0).s3)
  have hl := F.n
  have F0 := F.later hW0
  clear E R r1 r2 r3 hx F
  generalize (usualP l3).ms = ms at *
  go_enter Tryz.func87, Tryz.ntmps87
  go_wp2_with fail
  generalize ((w.alloc (.cells #[.int .i64 L, .slice A1 l1.length c1, .slice A2 l2.length c2, .slice A3 l3.length c3, .int .i64 p, .int .i64 q, .int .i64 r] 36)).alloc (.cells #[.slice A l.length c, .int .i64 a, .int .i64 b] 67)) = W at *
  refine Calls.mono HU.out ?_; rintro e w1 ⟨A', c', rfl, hs', hb1⟩
  have hW1 := hW0.trans (hb1.mono hW0.size)
  have B1 := B0.below hb1 B0.lt
  have F1 := F0.later hb1
  clear HU hW0 B0 F0 hb1
  have hW2 := hW1
  have B2 := B1
  have F2 := F1
  clear hW1 B1 F1
  generalize w1 = w2 at *
  go_wp2_with fail
  have hs := F2.s
  have hgB := B2.lt
  have y0 : w2.cell? ⟨w.heap.size + 1, 0, none⟩ = some (.slice A l.length c) := B2.cell 0
  clear B2 F2
  go_loopw [6] (fun i wr => ∃ k : Nat, k ≤ ms.length ∧ k ≤ l.length ∧ i = .int .i64 k ∧ Below w2.heap.size w2 wr ∧ Hid (∀ j, j < k → ms[j]? = l[j]?)) (fun i _ => ms.length - (intOf i).toNat)
  case atStart => exact ⟨0, Nat.zero_le _, Nat.zero_le _, rfl, Below.refl _ _, fun j h => by omega⟩
  case round =>
    obtain ⟨k, hk1, hk2, rfl, hb, hn⟩ := hrel
    have x0 : wr.cell? ⟨w.heap.size + 1, 0, none⟩ = some (.slice A l.length c) := by rw [hb.cell hgB]; exact y0
    have hWr := hW2.trans (hb.mono hW2.size)
    have k0 : (0 : Int) ≤ (k : Int) := by omega
    have HSr : Sl wr wr.heap.size 4 A' (ms.map Move.cells) := (hs'.below hb).more hb.size
    by_cases h1 : k < ms.length
    · have i1 : (k : Int) < (ms.length : Int) := by omega
      by_cases h2 : k < l.length
      · have i2 : (k : Int) < (l.length : Int) := by omega
        obtain ⟨b2, off2, rfl, b2B, hc2⟩ := hs.at_ (i := k) (by simpa using h2)
        obtain ⟨b1, off1, rfl, b1B, hc1⟩ := hs'.at_ (i := k) (by simpa using h1)
        simp only [List.getElem_map] at hc1 hc2
        have m0 : wr.cell? ⟨b1, off1 + k * 4, none⟩ = some (.int .i64 ms[k].kind) := by rw [hb.cell b1B]; exact hc1 0 _ rfl
        have m1 : wr.cell? ⟨b1, off1 + k * 4 + 1, none⟩ = some (.int .i64 ms[k].scale) := by rw [hb.cell b1B]; exact hc1 1 _ rfl
        have m2 : wr.cell? ⟨b1, off1 + k * 4 + 2, none⟩ = some (.int .i64 ms[k].digits) := by rw [hb.cell b1B]; exact hc1 2 _ rfl
        have m3 : wr.cell? ⟨b1, off1 + k * 4 + 3, none⟩ = some (.int .i64 ms[k].tens) := by rw [hb.cell b1B]; exact hc1 3 _ rfl
        have n0 : wr.cell? ⟨b2, off2 + k * 4, none⟩ = some (.int .i64 l[k].kind) := by rw [hb.cell b2B]; exact hc2 0 _ rfl
        have n1 : wr.cell? ⟨b2, off2 + k * 4 + 1, none⟩ = some (.int .i64 l[k].scale) := by rw [hb.cell b2B]; exact hc2 1 _ rfl
        have n2 : wr.cell? ⟨b2, off2 + k * 4 + 2, none⟩ = some (.int .i64 l[k].digits) := by rw [hb.cell b2B]; exact hc2 2 _ rfl
        have n3 : wr.cell? ⟨b2, off2 + k * 4 + 3, none⟩ = some (.int .i64 l[k].tens) := by rw [hb.cell b2B]; exact hc2 3 _ rfl
        clear hc1 hc2
        have HQ := fun W => eqMov ms[k].kind ms[k].scale ms[k].digits ms[k].tens l[k].kind l[k].scale l[k].digits l[k].tens W
        rw [mvEq_eq] at HQ
        have e1 : Hid (ms[k]? = some ms[k]) := List.getElem?_eq_getElem h1
        have e2 : Hid (l[k]? = some l[k]) := List.getElem?_eq_getElem h2
        generalize ms[k] = x at *
        generalize l[k] = y at *
        by_cases he : x = y
        · have hN : Hid (∀ j, j < k + 1 → ms[j]? = l[j]?) := fun j hj => by
            by_cases hjk : j < k
            · exact hn.out j hjk
            · obtain rfl : j = k := by omega
              rw [e1.out, e2.out, he]
          rw [decide_eq_true he] at HQ
          clear he e1 e2
          go_wp2_with fail
          go_quiet (fail)
          go_wp2
          go_roundw
          case rel => exact ⟨k + 1, by omega, by omega, by go_num, (by first | exact below_drewN' hb _ | exact hb.drew), hN⟩
          case measure => simp [intOf]; omega
        · have hst : Hid (stepN ms l = k) := stepN_eq hk1 hk2 hn.out (.inr (.inr ⟨x, y, e1.out, e2.out, he⟩))
          rw [decide_eq_false he] at HQ
          clear he e1 e2
          go_wp2_with fail
          go_quiet (fail)
          go_wp2
          (go_ret; exact ⟨by rw [hst.out]; rfl, (by repeat (first | with_reducible exact hWr | with_reducible apply below_drewN' | with_reducible apply Below.drew | (with_reducible refine Below.alloc ?_ (by first | omega | (simp; omega) | simp) _) | (with_reducible refine Below.setCell ?_ (by first | omega | (simp; omega) | simp) _) | exact hWr))⟩)
      · have hst : Hid (stepN ms l = k) := stepN_eq hk1 hk2 hn.out (.inr (.inl (by omega)))
        have hd2 : decide ((k : Int) < (l.length : Int)) = false := decide_eq_false (by omega)
        go_wp2_with fail
        go_quiet (fail)
        go_wp2
        (go_ret; exact ⟨by rw [hst.out]; rfl, (by repeat (first | with_reducible exact hWr | with_reducible apply below_drewN' | with_reducible apply Below.drew | (with_reducible refine Below.alloc ?_ (by first | omega | (simp; omega) | simp) _) | (with_reducible refine Below.setCell ?_ (by first | omega | (simp; omega) | simp) _) | exact hWr))⟩)
    · have hst : Hid (stepN ms l = k) := stepN_eq hk1 hk2 hn.out (.inl (by omega))
      have hd1 : decide ((k : Int) < (ms.length : Int)) = false := decide_eq_false (by omega)
      go_wp2_with fail
      go_quiet (fail)
      go_wp2
      (go_ret; exact ⟨by rw [hst.out]; rfl, (by repeat (first | with_reducible exact hWr | with_reducible apply below_drewN' | with_reducible apply Below.drew | (with_reducible refine Below.alloc ?_ (by first | omega | (simp; omega) | simp) _) | (with_reducible refine Below.setCell ?_ (by first | omega | (simp; omega) | simp) _) | exact hWr))⟩)
end Go.Proofs.YtgkobjpoeajkdaaGreat
namespace Go.Proofs.YtgkobjpoeajkdaaGreat
open Go.RowKit
theorem check1_c (L : Int) (A1 : Option Addr) (c1 : Nat) (l1 : List Int) (A2 : Option Addr) (c2 : Nat) (l2 : List Int) (A3 : Option Addr) (c3 : Nat) (l3 : List Term) (p q r : Int) (A : Option Addr) (c : Nat) (l : List Move) (a b : Int) (w : World) (E : ExIn w A1 c1 l1 A2 c2 l2 A3 c3 l3) (F : AnIn w A c l) (g : Nat) (B : Blk w g 67 #[.slice A l.length c, .int .i64 a, .int .i64 b]) :
    Calls Tryz.prog 90 #[.agg #[.int .i64 L, .slice A1 l1.length c1, .slice A2 l2.length c2, .slice A3 l3.length c3, .int .i64 p, .int .i64 q, .int .i64 r], .slice (some ⟨g, 0, none⟩) 1 1] w fun e w' => e = .returned (.int .i64 (if (exB L l1 l2 l3 p q r && ansB l a b) = true then 0 else 1)) ∧ Below w.heap.size w w' := by
  have H := checkAnswer_c L A1 c1 l1 A2 c2 l2 A3 c3 l3 p q r (some ⟨g, 0, none⟩) 1 [⟨A, c, l, a, b⟩] w E ⟨by simp, (Sl.of_blk B [[.slice A l.length c, .int .i64 a, .int .i64 b]] rfl (by simp)).more B.lt, fun e he => by
    obtain rfl : e = ⟨A, c, l, a, b⟩ := by simpa using he
    exact F⟩
  rw [show [(⟨A, c, l, a, b⟩ : AnR)].all AnR.ok = ansB l a b from by simp [AnR.ok]] at H
  exact H
set_option maxRecDepth 100000 in
set_option maxHeartbeats 2000000 in
theorem implStepOf_c (L : Int) (A1 : Option Addr) (c1 : Nat) (l1 : List Int) (A2 : Option Addr) (c2 : Nat) (l2 : List Int) (A3 : Option Addr) (c3 : Nat) (l3 : List Term) (p q r : Int) (A : Option Addr) (c : Nat) (l : List Move) (a b : Int) (w : World) (E : ExIn w A1 c1 l1 A2 c2 l2 A3 c3 l3) (F : AnIn w A c l) :
    Calls Tryz.prog 35 #[.agg #[.int .i64 L, .slice A1 l1.length c1, .slice A2 l2.length c2, .slice A3 l3.length c3, .int .i64 p, .int .i64 q, .int .i64 r], .agg #[.slice A l.length c, .int .i64 a, .int .i64 b]] w fun e w' => e = .returned (.tuple #[.int .i64 (if (exB L l1 l2 l3 p q r && ansB l a b) = true then (stepN (usualP l3).ms l : Int) else 0), .int .i64 (if (exB L l1 l2 l3 p q r && ansB l a b) = true then 0 else 1)]) ∧ Below w.heap.size w w' := by
  have hW : Below w.heap.size w (((w.alloc (.cells #[.int .i64 L, .slice A1 l1.length c1, .slice A2 l2.length c2, .slice A3 l3.length c3, .int .i64 p, .int .i64 q, .int .i64 r] 36)).alloc (.cells #[.slice A l.length c, .int .i64 a, .int .i64 b] 67)).alloc (.cells #[.slice A l.length c, .int .i64 a, .int .i64 b] 67)) := (by repeat (first | with_reducible exact Below.refl _ _ | with_reducible apply below_drewN' | with_reducible apply Below.drew | (with_reducible refine Below.alloc ?_ (by first | omega | (simp; omega) | simp) _) | (with_reducible refine Below.setCell ?_ (by first | omega | (simp; omega) | simp) _) | exact Below.refl _ _))
  have X0 := ((Blk.new w 36 #[.int .i64 L, .slice A1 l1.length c1, .slice A2 l2.length c2, .slice A3 l3.length c3, .int .i64 p, .int .i64 q, .int .i64 r]).alloc (.cells #[.slice A l.length c, .int .i64 a, .int .i64 b] 67)).alloc (.cells #[.slice A l.length c, .int .i64 a, .int .i64 b] 67)
  have B0 := (Blk.new' (w.alloc (.cells #[.int .i64 L, .slice A1 l1.length c1, .slice A2 l2.length c2, .slice A3 l3.length c3, .int .i64 p, .int .i64 q, .int .i64 r] 36)) 67 #[.slice A l.length c, .int .i64 a, .int .i64 b] (g := w.heap.size + 1) (by simp)).alloc (.cells #[.slice A l.length c, .int .i64 a, .int .i64 b] 67)
  have C0 := Blk.new' ((w.alloc (.cells #[.int .i64 L, .slice A1 l1.length c1, .slice A2 l2.length c2, .slice A3 l3.length c3, .int .i64 p, .int .i64 q, .int .i64 r] 36)).alloc (.cells #[.slice A l.length c, .int .i64 a, .int .i64 b] 67)) 67 #[.slice A l.length c, .int .i64 a, .int .i64 b] (g := w.heap.size + 1 + 1) (by simp)
  have HK := Lib.hid (check1_c L A1 c1 l1 A2 c2 l2 A3 c3 l3 p q r A c l a b _ (E.later hW) (F.later hW) (w.heap.size + 1 + 1) C0)
  have HS : Hid (exB L l1 l2 l3 p q r = true → ∀ W, Below w.heap.size w W → _) := fun hx W hW => stepOf_c L A1 c1 l1 A2 c2 l2 A3 c3 l3 p q r A c l a b W (E.later hW) hx (F.later hW)
  have hx : Hid ((exB L l1 l2 l3 p q r && ansB l a b) = true → exB L l1 l2 l3 p q r = true) := fun h => (Bool.and_eq_true _ _ ▸ h : _ ∧ _).1
  clear C0 E F
  generalize (exB L l1 l2 l3 p q r && ansB l a b) = ok at *
  generalize exB L l1 l2 l3 p q r = xb at *
  cases ok with
  | false =>
    simp only [Bool.false_eq_true, if_false] at HK ⊢
    have HK := Lib.hid HK.out
    go_enter Tryz.func35, Tryz.ntmps35
    go_wp2_with fail
    refine Calls.mono HK.out ?_; rintro e w1 ⟨rfl, hb1⟩
    have hW1 := hW.trans (hb1.mono hW.size)
    go_wp2
    refine bodyPost_ret (v := .tuple #[.int .i64 0, .int .i64 1]) (by simp [results, Tryz.results35, go_sem]) rfl ⟨rfl, (by repeat (first | with_reducible exact hW1 | with_reducible apply below_drewN' | with_reducible apply Below.drew | (with_reducible refine Below.alloc ?_ (by first | omega | (simp; omega) | simp) _) | (with_reducible refine Below.setCell ?_ (by first | omega | (simp; omega) | simp) _) | exact hW1))⟩
  | true =>
    simp only [if_true] at HK ⊢
    have HS := Lib.hid (HS.out (hx.out rfl))
    generalize (usualP l3).ms = ms at *
    go_enter Tryz.func35, Tryz.ntmps35
    go_wp2_with fail
    generalize (((w.alloc (.cells #[.int .i64 L, .slice A1 l1.length c1, .slice A2 l2.length c2, .slice A3 l3.length c3, .int .i64 p, .int .i64 q, .int .i64 r] 36)).alloc (.cells #[.slice A l.length c, .int .i64 a, .int .i64 b] 67)).alloc (.cells #[.slice A l.length c, .int .i64 a, .int .i64 b] 67)) = W at *
    refine Calls.mono HK.out ?_; rintro e w1 ⟨rfl, hb1⟩
    have hW1 := hW.trans (hb1.mono hW.size)
    have X1 := X0.below hb1 X0.lt
    have B1 := B0.below hb1 B0.lt
    have hcall := Lib.hid (HS.out w1 hW1)
    have y0 : w1.cell? ⟨w.heap.size, 0, none⟩ = some (.int .i64 L) := X1.cell 0
    have y1 : w1.cell? ⟨w.heap.size, 1, none⟩ = some (.slice A1 l1.length c1) := X1.cell 1
    have y2 : w1.cell? ⟨w.heap.size, 2, none⟩ = some (.slice A2 l2.length c2) := X1.cell 2
    have y3 : w1.cell? ⟨w.heap.size, 3, none⟩ = some (.slice A3 l3.length c3) := X1.cell 3
    have y4 : w1.cell? ⟨w.heap.size, 4, none⟩ = some (.int .i64 p) := X1.cell 4
    have y5 : w1.cell? ⟨w.heap.size, 5, none⟩ = some (.int .i64 q) := X1.cell 5
    have y6 : w1.cell? ⟨w.heap.size, 6, none⟩ = some (.int .i64 r) := X1.cell 6
    have z0 : w1.cell? ⟨w.heap.size + 1, 0, none⟩ = some (.slice A l.length c) := B1.cell 0
    have z1 : w1.cell? ⟨w.heap.size + 1, 1, none⟩ = some (.int .i64 a) := B1.cell 1
    have z2 : w1.cell? ⟨w.heap.size + 1, 2, none⟩ = some (.int .i64 b) := B1.cell 2
    clear HK X0 B0 hb1 hW HS
    go_wp2_with fail
    refine Calls.mono hcall.out ?_; rintro e w2 ⟨⟨A', c', rfl, _, _⟩, hb2⟩
    have hW2 := hW1.trans (hb2.mono hW1.size)
    go_wp2
    refine bodyPost_ret (v := .tuple #[.int .i64 (stepN ms l), .int .i64 0]) (by simp [results, Tryz.results35, go_sem]) rfl ⟨rfl, (by repeat (first | with_reducible exact hW2 | with_reducible apply below_drewN' | with_reducible apply Below.drew | (with_reducible refine Below.alloc ?_ (by first | omega | (simp; omega) | simp) _) | (with_reducible refine Below.setCell ?_ (by first | omega | (simp; omega) | simp) _) | exact hW2))⟩
set_option maxRecDepth 100000 in
set_option maxHeartbeats 2000000 in
theorem specStepOf_c (L : Int) (A1 : Option Addr) (c1 : Nat) (l1 : List Int) (A2 : Option Addr) (c2 : Nat) (l2 : List Int) (A3 : Option Addr) (c3 : Nat) (l3 : List Term) (p q r : Int) (A : Option Addr) (c : Nat) (l : List Move) (a b : Int) (w : World) (E : ExIn w A1 c1 l1 A2 c2 l2 A3 c3 l3) (F : AnIn w A c l) :
    Calls Tryz.prog 33 #[.agg #[.int .i64 L, .slice A1 l1.length c1, .slice A2 l2.length c2, .slice A3 l3.length c3, .int .i64 p, .int .i64 q, .int .i64 r], .agg #[.slice A l.length c, .int .i64 a, .int .i64 b]] w fun e w' => e = .returned (.tuple #[.int .i64 (if (exB L l1 l2 l3 p q r && ansB l a b) = true then (stepN (usualP l3).ms l : Int) else 0), .int .i64 (if (exB L l1 l2 l3 p q r && ansB l a b) = true then 0 else 1)]) ∧ Below w.heap.size w w' := by
  have hW : Below w.heap.size w ((w.alloc (.cells #[.int .i64 L, .slice A1 l1.length c1, .slice A2 l2.length c2, .slice A3 l3.length c3, .int .i64 p, .int .i64 q, .int .i64 r] 36)).alloc (.cells #[.slice A l.length c, .int .i64 a, .int .i64 b] 67)) := (by repeat (first | with_reducible exact Below.refl _ _ | with_reducible apply below_drewN' | with_reducible apply Below.drew | (with_reducible refine Below.alloc ?_ (by first | omega | (simp; omega) | simp) _) | (with_reducible refine Below.setCell ?_ (by first | omega | (simp; omega) | simp) _) | exact Below.refl _ _))
  have X0 := (Blk.new w 36 #[.int .i64 L, .slice A1 l1.length c1, .slice A2 l2.length c2, .slice A3 l3.length c3, .int .i64 p, .int .i64 q, .int .i64 r]).alloc (.cells #[.slice A l.length c, .int .i64 a, .int .i64 b] 67)
  have B0 := Blk.new' (w.alloc (.cells #[.int .i64 L, .slice A1 l1.length c1, .slice A2 l2.length c2, .slice A3 l3.length c3, .int .i64 p, .int .i64 q, .int .i64 r] 36)) 67 #[.slice A l.length c, .int .i64 a, .int .i64 b] (g := w.heap.size + 1) (by simp)
  have HX := Lib.hid (specIsExercise_c L A1 c1 l1 A2 c2 l2 A3 c3 l3 p q r _ (E.later hW))
  have HA : Hid (∀ W, Below w.heap.size w W → _) := fun W hW => l31Answer_c A c l a b W (F.later hW)
  have HS : Hid (exB L l1 l2 l3 p q r = true → ∀ W, Below w.heap.size w W → _) := fun hx W hW => l31Step_c L A1 c1 l1 A2 c2 l2 A3 c3 l3 p q r A c l a b W (E.later hW) hx (F.later hW)
  clear E F
  generalize ansB l a b = ab at *
  generalize exB L l1 l2 l3 p q r = xb at *
  cases xb with
  | false =>
    clear HS HA
    simp only [Bool.false_and, Bool.false_eq_true, if_false]
    go_enter Tryz.func33, Tryz.ntmps33
    go_wp2_with fail
    refine Calls.mono HX.out ?_; rintro e w1 ⟨rfl, hb1⟩
    have hW1 := hW.trans (hb1.mono hW.size)
    go_wp2
    refine bodyPost_ret (v := .tuple #[.int .i64 0, .int .i64 1]) (by simp [results, Tryz.results33, go_sem]) rfl ⟨rfl, (by repeat (first | with_reducible exact hW1 | with_reducible apply below_drewN' | with_reducible apply Below.drew | (with_reducible refine Below.alloc ?_ (by first | omega | (simp; omega) | simp) _) | (with_reducible refine Below.setCell ?_ (by first | omega | (simp; omega) | simp) _) | exact hW1))⟩
  | true =>
    have HT := Lib.hid (HS.out rfl)
    clear HS
    simp only [Bool.true_and]
    generalize (usualP l3).ms = ms at *
    cases ab with
    | false =>
      simp only [Bool.false_eq_true, if_false]
      go_enter Tryz.func33, Tryz.ntmps33
      go_wp2_with fail
      generalize ((w.alloc (.cells #[.int .i64 L, .slice A1 l1.length c1, .slice A2 l2.length c2, .slice A3 l3.length c3, .int .i64 p, .int .i64 q, .int .i64 r] 36)).alloc (.cells #[.slice A l.length c, .int .i64 a, .int .i64 b] 67)) = W at *
      refine Calls.mono HX.out ?_; rintro e w1 ⟨rfl, hb1⟩
      have hW1 := hW.trans (hb1.mono hW.size)
      have X1 := X0.below hb1 X0.lt
      have B1 := B0.below hb1 B0.lt
      have hcall := Lib.hid (HA.out w1 hW1)
      have y0 : w1.cell? ⟨w.heap.size, 0, none⟩ = some (.int .i64 L) := X1.cell 0
      have y1 : w1.cell? ⟨w.heap.size, 1, none⟩ = some (.slice A1 l1.length c1) := X1.cell 1
      have y2 : w1.cell? ⟨w.heap.size, 2, none⟩ = some (.slice A2 l2.length c2) := X1.cell 2
      have y3 : w1.cell? ⟨w.heap.size, 3, none⟩ = some (.slice A3 l3.length c3) := X1.cell 3
      have y4 : w1.cell? ⟨w.heap.size, 4, none⟩ = some (.int .i64 p) := X1.cell 4
      have y5 : w1.cell? ⟨w.heap.size, 5, none⟩ = some (.int .i64 q) := X1.cell 5
      have y6 : w1.cell? ⟨w.heap.size, 6, none⟩ = some (.int .i64 r) := X1.cell 6
      have z0 : w1.cell? ⟨w.heap.size + 1, 0, none⟩ = some (.slice A l.length c) := B1.cell 0
      have z1 : w1.cell? ⟨w.heap.size + 1, 1, none⟩ = some (.int .i64 a) := B1.cell 1
      have z2 : w1.cell? ⟨w.heap.size + 1, 2, none⟩ = some (.int .i64 b) := B1.cell 2
      clear HX X0 B0 hb1 hW HT HA
      go_wp2_with fail
      refine Calls.mono hcall.out ?_; rintro e w2 ⟨rfl, hb2⟩
      have hW2 := hW1.trans (hb2.mono hW1.size)
      go_wp2
      refine bodyPost_ret (v := .tuple #[.int .i64 0, .int .i64 1]) (by simp [results, Tryz.results33, go_sem]) rfl ⟨rfl, (by repeat (first | with_reducible exact hW2 | with_reducible apply below_drewN' | with_reducible apply Below.drew | (with_reducible refine Below.alloc ?_ (by first | omega | (simp; omega) | simp) _) | (with_reducible refine Below.setCell ?_ (by first | omega | (simp; omega) | simp) _) | exact hW2))⟩
    | true =>
      simp only [if_true]
      go_enter Tryz.func33, Tryz.ntmps33
      go_wp2_with fail
      generalize ((w.alloc (.cells #[.int .i64 L, .slice A1 l1.length c1, .slice A2 l2.length c2, .slice A3 l3.length c3, .int .i64 p, .int .i64 q, .int .i64 r] 36)).alloc (.cells #[.slice A l.length c, .int .i64 a, .int .i64 b] 67)) = W at *
      refine Calls.mono HX.out ?_; rintro e w1 ⟨rfl, hb1⟩
      have hW1 := hW.trans (hb1.mono hW.size)
      have X1 := X0.below hb1 X0.lt
      have B1 := B0.below hb1 B0.lt
      have hcall := Lib.hid (HA.out w1 hW1)
      have y0 : w1.cell? ⟨w.heap.size, 0, none⟩ = some (.int .i64 L) := X1.cell 0
      have y1 : w1.cell? ⟨w.heap.size, 1, none⟩ = some (.slice A1 l1.length c1) := X1.cell 1
      have y2 : w1.cell? ⟨w.heap.size, 2, none⟩ = some (.slice A2 l2.length c2) := X1.cell 2
      have y3 : w1.cell? ⟨w.heap.size, 3, none⟩ = some (.slice A3 l3.length c3) := X1.cell 3
      have y4 : w1.cell? ⟨w.heap.size, 4, none⟩ = some (.int .i64 p) := X1.cell 4
      have y5 : w1.cell? ⟨w.heap.size, 5, none⟩ = some (.int .i64 q) := X1.cell 5
      have y6 : w1.cell? ⟨w.heap.size, 6, none⟩ = some (.int .i64 r) := X1.cell 6
      have z0 : w1.cell? ⟨w.heap.size + 1, 0, none⟩ = some (.slice A l.length c) := B1.cell 0
      have z1 : w1.cell? ⟨w.heap.size + 1, 1, none⟩ = some (.int .i64 a) := B1.cell 1
      have z2 : w1.cell? ⟨w.heap.size + 1, 2, none⟩ = some (.int .i64 b) := B1.cell 2
      clear HX X0 B0 hb1 hW HA
      go_wp2_with fail
      refine Calls.mono hcall.out ?_; rintro e w2 ⟨rfl, hb2⟩
      have hW2 := hW1.trans (hb2.mono hW1.size)
      have X2 := X1.below hb2 X1.lt
      have B2 := B1.below hb2 B1.lt
      have hcall := Lib.hid (HT.out w2 hW2)
      clear y0 y1 y2 y3 y4 y5 y6 z0 z1 z2 hb2 X1 B1 HT
      have y0 : w2.cell? ⟨w.heap.size, 0, none⟩ = some (.int .i64 L) := X2.cell 0
      have y1 : w2.cell? ⟨w.heap.size, 1, none⟩ = some (.slice A1 l1.length c1) := X2.cell 1
      have y2 : w2.cell? ⟨w.heap.size, 2, none⟩ = some (.slice A2 l2.length c2) := X2.cell 2
      have y3 : w2.cell? ⟨w.heap.size, 3, none⟩ = some (.slice A3 l3.length c3) := X2.cell 3
      have y4 : w2.cell? ⟨w.heap.size, 4, none⟩ = some (.int .i64 p) := X2.cell 4
      have y5 : w2.cell? ⟨w.heap.size, 5, none⟩ = some (.int .i64 q) := X2.cell 5
      have y6 : w2.cell? ⟨w.heap.size, 6, none⟩ = some (.int .i64 r) := X2.cell 6
      have z0 : w2.cell? ⟨w.heap.size + 1, 0, none⟩ = some (.slice A l.length c) := B2.cell 0
      have z1 : w2.cell? ⟨w.heap.size + 1, 1, none⟩ = some (.int .i64 a) := B2.cell 1
      have z2 : w2.cell? ⟨w.heap.size + 1, 2, none⟩ = some (.int .i64 b) := B2.cell 2
      go_wp2_with fail
      refine Calls.mono hcall.out ?_; rintro e w3 ⟨rfl, hb3⟩
      have hW3 := hW2.trans (hb3.mono hW2.size)
      go_wp2
      refine bodyPost_ret (v := .tuple #[.int .i64 (stepN ms l), .int .i64 0]) (by simp [results, Tryz.results33, go_sem]) rfl ⟨rfl, (by repeat (first | with_reducible exact hW3 | with_reducible apply below_drewN' | with_reducible apply Below.drew | (with_reducible refine Below.alloc ?_ (by first | omega | (simp; omega) | simp) _) | (with_reducible refine Below.setCell ?_ (by first | omega | (simp; omega) | simp) _) | exact hW3))⟩
end Go.Proofs.YtgkobjpoeajkdaaGreat
