/- StepOf of the program and of the reference. Conditions: the lists' lengths. Laws over an exercise and an answer: the walk. Conditions: what an argument always is. Lists of answers: the laws' copies, comparison and size of them. Conditions: the lists' lengths. -/
import Derived.Test.YtgkobjpoeajkdaaGreatKScoreOf15
import Derived.Test.YtgkobjpoeajkdaaGreatKScoreOf16
namespace Go.Proofs.YtgkobjpoeajkdaaGreat
open Go.RowKit
theorem check1_c (L : Int) (A1 : Option Addr) (c1 : Nat) (l1 : List Int) (A2 : Option Addr) (c2 : Nat) (l2 : List Int) (A3 : Option Addr) (c3 : Nat) (l3 : List Term) (p q r : Int) (A : Option Addr) (c : Nat) (l : List Move) (a b : Int) (w : World) (E : ExIn w A1 c1 l1 A2 c2 l2 A3 c3 l3) (F : AnIn w A c l) (g : Nat) (B : Blk w g 67 #[.slice A l.length c, .int .i64 a, .int .i64 b]) :
    Calls Tryz.prog 90 #[.agg #[.int .i64 L, .slice A1 l1.length c1, .slice A2 l2.length c2, .slice A3 l3.length c3, .int .i64 p, .int .i64 q, .int .i64 r], .slice (some ⟨g, 0, none⟩) 1 1] w fun e w' => e = .returned (.int .i64 (if (exB L l1 l2 l3 p q r && ansB l a b) = true then 0 else 1)) ∧ Below w.heap.size w w' := by
  have H := checkAnswer_c L A1 c1 l1 A2 c2 l2 A3 c3 l3 p q r (some ⟨g, 0, none⟩) 1 [⟨A, c, l, a, b⟩] w E ⟨by simp, (Sl.of_blk B [[.slice A l.length c, .int .i64 a, .int .i64 b]] rfl (by simp)).more B.lt, fun e he => by
    obtain rfl : e = ⟨A, c, l, a, b⟩ := by simpa using he
    exact F⟩
  rw [show [(⟨A, c, l, a, b⟩ : AnR)].all AnR.ok = ansB l a b from by simp [AnR.ok]] at H
  exact H
set_option maxRecDepth 100000 in
set_option maxHeartbeats 2000000 in
theorem implStepOf_c (L : Int) (A1 : Option Addr) (c1 : Nat) (l1 : List Int) (A2 : Option Addr) (c2 : Nat) (l2 : List Int) (A3 : Option Addr) (c3 : Nat) (l3 : List Term) (p q r : Int) (A : Option Addr) (c : Nat) (l : List Move) (a b : Int) (w : World) (E : ExIn w A1 c1 l1 A2 c2 l2 A3 c3 l3) (F : AnIn w A c l) :
    Calls Tryz.prog 35 #[.agg #[.int .i64 L, .slice A1 l1.length c1, .slice A2 l2.length c2, .slice A3 l3.length c3, .int .i64 p, .int .i64 q, .int .i64 r], .agg #[.slice A l.length c, .int .i64 a, .int .i64 b]] w fun e w' => e = .returned (.tuple #[.int .i64 (if (exB L l1 l2 l3 p q r && ansB l a b) = true then (stepN (usualP l3).ms l : Int) else 0), .int .i64 (if (exB L l1 l2 l3 p q r && ansB l a b) = true then 0 else 1)]) ∧ Below w.heap.size w w' := by
  have hW : Below w.heap.size w (((w.alloc (.cells #[.int .i64 L, .slice A1 l1.length c1, .slice A2 l2.length c2, .slice A3 l3.length c3, .int .i64 p, .int .i64 q, .int .i64 r] 36)).alloc (.cells #[.slice A l.length c, .int .i64 a, .int .i64 b] 67)).alloc (.cells #[.slice A l.length c, .int .i64 a, .int .i64 b] 67)) := (by repeat (first | with_reducible exact Below.refl _ _ | with_reducible apply below_drewN' | with_reducible apply Below.drew | (with_reducible refine Below.alloc ?_ (by first | omega | (simp; omega) | simp) _) | (with_reducible refine Below.setCell ?_ (by first | omega | (simp; omega) | simp) _) | exact Below.refl _ _))
  have X0 := ((Blk.new w 36 #[.int .i64 L, .slice A1 l1.length c1, .slice A2 l2.length c2, .slice A3 l3.length c3, .int .i64 p, .int .i64 q, .int .i64 r]).alloc (.cells #[.slice A l.length c, .int .i64 a, .int .i64 b] 67)).alloc (.cells #[.slice A l.length c, .int .i64 a, .int .i64 b] 67)
  have B0 := (Blk.new' (w.alloc (.cells #[.int .i64 L, .slice A1 l1.length c1, .slice A2 l2.length c2, .slice A3 l3.length c3, .int .i64 p, .int .i64 q, .int .i64 r] 36)) 67 #[.slice A l.length c, .int .i64 a, .int .i64 b] (g := w.heap.size + 1) (by simp)).alloc (.cells #[.slice A l.length c, .int .i64 a, .int .i64 b] 67)
  have C0 := Blk.new' ((w.alloc (.cells #[.int .i64 L, .slice A1 l1.length c1, .slice A2 l2.length c2, .slice A3 l3.length c3, .int .i64 p, .int .i64 q, .int .i64 r] 36)).alloc (.cells #[.slice A l.length c, .int .i64 a, .int .i64 b] 67)) 67 #[.slice A l.length c, .int .i64 a, .int .i64 b] (g := w.heap.size + 1 + 1) (by simp)
  have HK := Lib.hid (check1_c L A1 c1 l1 A2 c2 l2 A3 c3 l3 p q r A c l a b _ (E.later hW) (F.later hW) (w.heap.size + 1 + 1) C0)
  have HS : Hid (exB L l1 l2 l3 p q r = true → ∀ W, Below w.heap.size w W → _) := fun hx W hW => stepOf_c L A1 c1 l1 A2 c2 l2 A3 c3 l3 p q r A c l a b W (E.later hW) hx (F.later hW)
  have hx : Hid ((exB L l1 l2 l3 p q r && ansB l a b) = true → exB L l1 l2 l3 p q r = true) := fun h => (Bool.and_eq_true _ _ ▸ h : _ ∧ _).1
  clear C0 E F
  generalize (exB L l1 l2 l3 p q r && ansB l a b) = ok at *
  generalize exB L l1 l2 l3 p q r = xb at *
  cases ok with
  | false =>
    simp only [Bool.false_eq_true, if_false] at HK ⊢
    have HK := Lib.hid HK.out
    go_enter Tryz.func35, Tryz.ntmps35
    go_wp2_with fail
    refine Calls.mono HK.out ?_; rintro e w1 ⟨rfl, hb1⟩
    have hW1 := hW.trans (hb1.mono hW.size)
    go_wp2
    refine bodyPost_ret (v := .tuple #[.int .i64 0, .int .i64 1]) (by simp [results, Tryz.results35, go_sem]) rfl ⟨rfl, (by repeat (first | with_reducible exact hW1 | with_reducible apply below_drewN' | with_reducible apply Below.drew | (with_reducible refine Below.alloc ?_ (by first | omega | (simp; omega) | simp) _) | (with_reducible refine Below.setCell ?_ (by first | omega | (simp; omega) | simp) _) | exact hW1))⟩
  | true =>
    simp only [if_true] at HK ⊢
    have HS := Lib.hid (HS.out (hx.out rfl))
    generalize (usualP l3).ms = ms at *
    go_enter Tryz.func35, Tryz.ntmps35
    go_wp2_with fail
    generalize (((w.alloc (.cells #[.int .i64 L, .slice A1 l1.length c1, .slice A2 l2.length c2, .slice A3 l3.length c3, .int .i64 p, .int .i64 q, .int .i64 r] 36)).alloc (.cells #[.slice A l.length c, .int .i64 a, .int .i64 b] 67)).alloc (.cells #[.slice A l.length c, .int .i64 a, .int .i64 b] 67)) = W at *
    refine Calls.mono HK.out ?_; rintro e w1 ⟨rfl, hb1⟩
    have hW1 := hW.trans (hb1.mono hW.size)
    have X1 := X0.below hb1 X0.lt
    have B1 := B0.below hb1 B0.lt
    have hcall := Lib.hid (HS.out w1 hW1)
    have y0 : w1.cell? ⟨w.heap.size, 0, none⟩ = some (.int .i64 L) := X1.cell 0
    have y1 : w1.cell? ⟨w.heap.size, 1, none⟩ = some (.slice A1 l1.length c1) := X1.cell 1
    have y2 : w1.cell? ⟨w.heap.size, 2, none⟩ = some (.slice A2 l2.length c2) := X1.cell 2
    have y3 : w1.cell? ⟨w.heap.size, 3, none⟩ = some (.slice A3 l3.length c3) := X1.cell 3
    have y4 : w1.cell? ⟨w.heap.size, 4, none⟩ = some (.int .i64 p) := X1.cell 4
    have y5 : w1.cell? ⟨w.heap.size, 5, none⟩ = some (.int .i64 q) := X1.cell 5
    have y6 : w1.cell? ⟨w.heap.size, 6, none⟩ = some (.int .i64 r) := X1.cell 6
    have z0 : w1.cell? ⟨w.heap.size + 1, 0, none⟩ = some (.slice A l.length c) := B1.cell 0
    have z1 : w1.cell? ⟨w.heap.size + 1, 1, none⟩ = some (.int .i64 a) := B1.cell 1
    have z2 : w1.cell? ⟨w.heap.size + 1, 2, none⟩ = some (.int .i64 b) := B1.cell 2
    clear HK X0 B0 hb1 hW HS
    go_wp2_with fail
    refine Calls.mono hcall.out ?_; rintro e w2 ⟨⟨A', c', rfl, _, _⟩, hb2⟩
    have hW2 := hW1.trans (hb2.mono hW1.size)
    go_wp2
    refine bodyPost_ret (v := .tuple #[.int .i64 (stepN ms l), .int .i64 0]) (by simp [results, Tryz.results35, go_sem]) rfl ⟨rfl, (by repeat (first | with_reducible exact hW2 | with_reducible apply below_drewN' | with_reducible apply Below.drew | (with_reducible refine Below.alloc ?_ (by first | omega | (simp; omega) | simp) _) | (with_reducible refine Below.setCell ?_ (by first | omega | (simp; omega) | simp) _) | exact hW2))⟩
set_option maxRecDepth 100000 in
set_option maxHeartbeats 2000000 in
theorem specStepOf_c (L : Int) (A1 : Option Addr) (c1 : Nat) (l1 : List Int) (A2 : Option Addr) (c2 : Nat) (l2 : List Int) (A3 : Option Addr) (c3 : Nat) (l3 : List Term) (p q r : Int) (A : Option Addr) (c : Nat) (l : List Move) (a b : Int) (w : World) (E : ExIn w A1 c1 l1 A2 c2 l2 A3 c3 l3) (F : AnIn w A c l) :
    Calls Tryz.prog 33 #[.agg #[.int .i64 L, .slice A1 l1.length c1, .slice A2 l2.length c2, .slice A3 l3.length c3, .int .i64 p, .int .i64 q, .int .i64 r], .agg #[.slice A l.length c, .int .i64 a, .int .i64 b]] w fun e w' => e = .returned (.tuple #[.int .i64 (if (exB L l1 l2 l3 p q r && ansB l a b) = true then (stepN (usualP l3).ms l : Int) else 0), .int .i64 (if (exB L l1 l2 l3 p q r && ansB l a b) = true then 0 else 1)]) ∧ Below w.heap.size w w' := by
  have hW : Below w.heap.size w ((w.alloc (.cells #[.int .i64 L, .slice A1 l1.length c1, .slice A2 l2.length c2, .slice A3 l3.length c3, .int .i64 p, .int .i64 q, .int .i64 r] 36)).alloc (.cells #[.slice A l.length c, .int .i64 a, .int .i64 b] 67)) := (by repeat (first | with_reducible exact Below.refl _ _ | with_reducible apply below_drewN' | with_reducible apply Below.drew | (with_reducible refine Below.alloc ?_ (by first | omega | (simp; omega) | simp) _) | (with_reducible refine Below.setCell ?_ (by first | omega | (simp; omega) | simp) _) | exact Below.refl _ _))
  have X0 := (Blk.new w 36 #[.int .i64 L, .slice A1 l1.length c1, .slice A2 l2.length c2, .slice A3 l3.length c3, .int .i64 p, .int .i64 q, .int .i64 r]).alloc (.cells #[.slice A l.length c, .int .i64 a, .int .i64 b] 67)
  have B0 := Blk.new' (w.alloc (.cells #[.int .i64 L, .slice A1 l1.length c1, .slice A2 l2.length c2, .slice A3 l3.length c3, .int .i64 p, .int .i64 q, .int .i64 r] 36)) 67 #[.slice A l.length c, .int .i64 a, .int .i64 b] (g := w.heap.size + 1) (by simp)
  have HX := Lib.hid (specIsExercise_c L A1 c1 l1 A2 c2 l2 A3 c3 l3 p q r _ (E.later hW))
  have HA : Hid (∀ W, Below w.heap.size w W → _) := fun W hW => l31Answer_c A c l a b W (F.later hW)
  have HS : Hid (exB L l1 l2 l3 p q r = true → ∀ W, Below w.heap.size w W → _) := fun hx W hW => l31Step_c L A1 c1 l1 A2 c2 l2 A3 c3 l3 p q r A c l a b W (E.later hW) hx (F.later hW)
  clear E F
  generalize ansB l a b = ab at *
  generalize exB L l1 l2 l3 p q r = xb at *
  cases xb with
  | false =>
    clear HS HA
    simp only [Bool.false_and, Bool.false_eq_true, if_false]
    go_enter Tryz.func33, Tryz.ntmps33
    go_wp2_with fail
    refine Calls.mono HX.out ?_; rintro e w1 ⟨rfl, hb1⟩
    have hW1 := hW.trans (hb1.mono hW.size)
    go_wp2
    refine bodyPost_ret (v := .tuple #[.int .i64 0, .int .i64 1]) (by simp [results, Tryz.results33, go_sem]) rfl ⟨rfl, (by repeat (first | with_reducible exact hW1 | with_reducible apply below_drewN' | with_reducible apply Below.drew | (with_reducible refine Below.alloc ?_ (by first | omega | (simp; omega) | simp) _) | (with_reducible refine Below.setCell ?_ (by first | omega | (simp; omega) | simp) _) | exact hW1))⟩
  | true =>
    have HT := Lib.hid (HS.out rfl)
    clear HS
    simp only [Bool.true_and]
    generalize (usualP l3).ms = ms at *
    cases ab with
    | false =>
      simp only [Bool.false_eq_true, if_false]
      go_enter Tryz.func33, Tryz.ntmps33
      go_wp2_with fail
      generalize ((w.alloc (.cells #[.int .i64 L, .slice A1 l1.length c1, .slice A2 l2.length c2, .slice A3 l3.length c3, .int .i64 p, .int .i64 q, .int .i64 r] 36)).alloc (.cells #[.slice A l.length c, .int .i64 a, .int .i64 b] 67)) = W at *
      refine Calls.mono HX.out ?_; rintro e w1 ⟨rfl, hb1⟩
      have hW1 := hW.trans (hb1.mono hW.size)
      have X1 := X0.below hb1 X0.lt
      have B1 := B0.below hb1 B0.lt
      have hcall := Lib.hid (HA.out w1 hW1)
      have y0 : w1.cell? ⟨w.heap.size, 0, none⟩ = some (.int .i64 L) := X1.cell 0
      have y1 : w1.cell? ⟨w.heap.size, 1, none⟩ = some (.slice A1 l1.length c1) := X1.cell 1
      have y2 : w1.cell? ⟨w.heap.size, 2, none⟩ = some (.slice A2 l2.length c2) := X1.cell 2
      have y3 : w1.cell? ⟨w.heap.size, 3, none⟩ = some (.slice A3 l3.length c3) := X1.cell 3
      have y4 : w1.cell? ⟨w.heap.size, 4, none⟩ = some (.int .i64 p) := X1.cell 4
      have y5 : w1.cell? ⟨w.heap.size, 5, none⟩ = some (.int .i64 q) := X1.cell 5
      have y6 : w1.cell? ⟨w.heap.size, 6, none⟩ = some (.int .i64 r) := X1.cell 6
      have z0 : w1.cell? ⟨w.heap.size + 1, 0, none⟩ = some (.slice A l.length c) := B1.cell 0
      have z1 : w1.cell? ⟨w.heap.size + 1, 1, none⟩ = some (.int .i64 a) := B1.cell 1
      have z2 : w1.cell? ⟨w.heap.size + 1, 2, none⟩ = some (.int .i64 b) := B1.cell 2
      clear HX X0 B0 hb1 hW HT HA
      go_wp2_with fail
      refine Calls.mono hcall.out ?_; rintro e w2 ⟨rfl, hb2⟩
      have hW2 := hW1.trans (hb2.mono hW1.size)
      go_wp2
      refine bodyPost_ret (v := .tuple #[.int .i64 0, .int .i64 1]) (by simp [results, Tryz.results33, go_sem]) rfl ⟨rfl, (by repeat (first | with_reducible exact hW2 | with_reducible apply below_drewN' | with_reducible apply Below.drew | (with_reducible refine Below.alloc ?_ (by first | omega | (simp; omega) | simp) _) | (with_reducible refine Below.setCell ?_ (by first | omega | (simp; omega) | simp) _) | exact hW2))⟩
    | true =>
      simp only [if_true]
      go_enter Tryz.func33, Tryz.ntmps33
      go_wp2_with fail
      generalize ((w.alloc (.cells #[.int .i64 L, .slice A1 l1.length c1, .slice A2 l2.length c2, .slice A3 l3.length c3, .int .i64 p, .int .i64 q, .int .i64 r] 36)).alloc (.cells #[.slice A l.length c, .int .i64 a, .int .i64 b] 67)) = W at *
      refine Calls.mono HX.out ?_; rintro e w1 ⟨rfl, hb1⟩
      have hW1 := hW.trans (hb1.mono hW.size)
      have X1 := X0.below hb1 X0.lt
      have B1 := B0.below hb1 B0.lt
      have hcall := Lib.hid (HA.out w1 hW1)
      have y0 : w1.cell? ⟨w.heap.size, 0, none⟩ = some (.int .i64 L) := X1.cell 0
      have y1 : w1.cell? ⟨w.heap.size, 1, none⟩ = some (.slice A1 l1.length c1) := X1.cell 1
      have y2 : w1.cell? ⟨w.heap.size, 2, none⟩ = some (.slice A2 l2.length c2) := X1.cell 2
      have y3 : w1.cell? ⟨w.heap.size, 3, none⟩ = some (.slice A3 l3.length c3) := X1.cell 3
      have y4 : w1.cell? ⟨w.heap.size, 4, none⟩ = some (.int .i64 p) := X1.cell 4
      have y5 : w1.cell? ⟨w.heap.size, 5, none⟩ = some (.int .i64 q) := X1.cell 5
      have y6 : w1.cell? ⟨w.heap.size, 6, none⟩ = some (.int .i64 r) := X1.cell 6
      have z0 : w1.cell? ⟨w.heap.size + 1, 0, none⟩ = some (.slice A l.length c) := B1.cell 0
      have z1 : w1.cell? ⟨w.heap.size + 1, 1, none⟩ = some (.int .i64 a) := B1.cell 1
      have z2 : w1.cell? ⟨w.heap.size + 1, 2, none⟩ = some (.int .i64 b) := B1.cell 2
      clear HX X0 B0 hb1 hW HA
      go_wp2_with fail
      refine Calls.mono hcall.out ?_; rintro e w2 ⟨rfl, hb2⟩
      have hW2 := hW1.trans (hb2.mono hW1.size)
      have X2 := X1.below hb2 X1.lt
      have B2 := B1.below hb2 B1.lt
      have hcall := Lib.hid (HT.out w2 hW2)
      clear y0 y1 y2 y3 y4 y5 y6 z0 z1 z2 hb2 X1 B1 HT
      have y0 : w2.cell? ⟨w.heap.size, 0, none⟩ = some (.int .i64 L) := X2.cell 0
      have y1 : w2.cell? ⟨w.heap.size, 1, none⟩ = some (.slice A1 l1.length c1) := X2.cell 1
      have y2 : w2.cell? ⟨w.heap.size, 2, none⟩ = some (.slice A2 l2.length c2) := X2.cell 2
      have y3 : w2.cell? ⟨w.heap.size, 3, none⟩ = some (.slice A3 l3.length c3) := X2.cell 3
      have y4 : w2.cell? ⟨w.heap.size, 4, none⟩ = some (.int .i64 p) := X2.cell 4
      have y5 : w2.cell? ⟨w.heap.size, 5, none⟩ = some (.int .i64 q) := X2.cell 5
      have y6 : w2.cell? ⟨w.heap.size, 6, none⟩ = some (.int .i64 r) := X2.cell 6
      have z0 : w2.cell? ⟨w.heap.size + 1, 0, none⟩ = some (.slice A l.length c) := B2.cell 0
      have z1 : w2.cell? ⟨w.heap.size + 1, 1, none⟩ = some (.int .i64 a) := B2.cell 1
      have z2 : w2.cell? ⟨w.heap.size + 1, 2, none⟩ = some (.int .i64 b) := B2.cell 2
      go_wp2_with fail
      refine Calls.mono hcall.out ?_; rintro e w3 ⟨rfl, hb3⟩
      have hW3 := hW2.trans (hb3.mono hW2.size)
      go_wp2
      refine bodyPost_ret (v := .tuple #[.int .i64 (stepN ms l), .int .i64 0]) (by simp [results, Tryz.results33, go_sem]) rfl ⟨rfl, (by repeat (first | with_reducible exact hW3 | with_reducible apply below_drewN' | with_reducible apply Below.drew | (with_reducible refine Below.alloc ?_ (by first | omega | (simp; omega) | simp) _) | (with_reducible refine Below.setCell ?_ (by first | omega | (simp; omega) | simp) _) | exact hW3))⟩
end Go.Proofs.YtgkobjpoeajkdaaGreat
namespace Go.Proofs.YtgkobjpoeajkdaaGreat
open Go.RowKit
set_option maxRecDepth 100000 in
theorem szAn_c (A : Option Addr) (n c : Nat) (a b : Int) (left : Int) (w : World) (hn : n ≤ 140737488351232) (hl : 0 ≤ left ∧ left ≤ 1048576) :
    Calls Tryz.prog 32 #[.agg #[.slice A n c, .int .i64 a, .int .i64 b], .int .i64 left] w (SzPost left (n ≤ 1048576) w) := by
  have hW : Below w.heap.size w (w.alloc (.cells #[.slice A n c, .int .i64 a, .int .i64 b] 61)) := (by repeat (first | with_reducible exact Below.refl _ _ | with_reducible apply below_drewN' | with_reducible apply Below.drew | (with_reducible refine Below.alloc ?_ (by first | omega | (simp; omega) | simp) _) | (with_reducible refine Below.setCell ?_ (by first | omega | (simp; omega) | simp) _) | exact Below.refl _ _))
  have H := fun W => Lib.hid (szMoveS_c A n c left W hn hl)
  by_cases h : left < n
  · simp only [if_pos h] at H
    go_enter Tryz.func32, Tryz.ntmps32
    go_wp2_with (go_at_call 85; refine Calls.mono (H _).out ?_; rintro e w2 ⟨rfl, rfl⟩)
    go_ret
    exact ⟨⟨-1, rfl, .inl (by omega)⟩, (by repeat (first | with_reducible exact hW | with_reducible apply below_drewN' | with_reducible apply Below.drew | (with_reducible refine Below.alloc ?_ (by first | omega | (simp; omega) | simp) _) | (with_reducible refine Below.setCell ?_ (by first | omega | (simp; omega) | simp) _) | exact hW))⟩
  · simp only [if_neg h] at H
    have hm : ¬ left - n < 0 := by omega
    go_enter Tryz.func32, Tryz.ntmps32
    go_wp2_with (go_at_call 85; refine Calls.mono (H _).out ?_; rintro e w2 ⟨rfl, rfl⟩)
    go_ret
    exact ⟨⟨left - n, rfl, .inr ⟨by omega, by omega, by omega⟩⟩, (by repeat (first | with_reducible exact hW | with_reducible apply below_drewN' | with_reducible apply Below.drew | (with_reducible refine Below.alloc ?_ (by first | omega | (simp; omega) | simp) _) | (with_reducible refine Below.setCell ?_ (by first | omega | (simp; omega) | simp) _) | exact hW))⟩
/-- an answer's moves, their length open -/
structure AnLaid (w : World) (A : Option Addr) (c : Nat) (l : List Move) : Prop where
  z : l.length ≤ 140737488351232
  k : l.length ≤ c
  s : Sl w w.heap.size 4 A (l.map Move.cells)
def AnCopy (l : List Move) (a b : Int) (v : Value) (w : World) (base : Nat) : Prop := ∃ B d, v = .agg #[.slice B l.length d, .int .i64 a, .int .i64 b] ∧ AnIn w B d l ∧ Own w base 72 4 (.slice B l.length d) (l.map Move.cells)
theorem AnCopy.below {l : List Move} {a b : Int} {v : Value} {w w' : World} {base : Nat} (h : AnCopy l a b v w base) (hb : Below w.heap.size w w') : AnCopy l a b v w' base := by
  obtain ⟨B, d, h1, h2, h3⟩ := h
  exact ⟨B, d, h1, h2.later hb, h3.below hb⟩
theorem AnCopy.weak {l : List Move} {a b : Int} {v : Value} {w : World} {base base' : Nat} (h : AnCopy l a b v w base) (hb : base' ≤ base) : AnCopy l a b v w base' := by
  obtain ⟨B, d, h1, h2, h3⟩ := h
  exact ⟨B, d, h1, h2, h3.mono hb⟩
theorem toAn_c (A : Option Addr) (c : Nat) (l : List Move) (a b : Int) (w : World) (F : AnIn w A c l) :
    Calls Tryz.prog 34 #[.agg #[.slice A l.length c, .int .i64 a, .int .i64 b]] w fun e w' => (∃ v, e = .returned v ∧ AnCopy l a b v w' w.heap.size) ∧ Below w.heap.size w w' :=
  (toAnswer_c A c l a b w F.n F.s).mono fun _ _ ⟨B, d, he, ho, hb⟩ => ⟨⟨_, he, B, d, rfl, ⟨F.n, ho.le_cap, ho.sl⟩, ho⟩, hb⟩
theorem eqAn_c (A A' : Option Addr) (c c' : Nat) (l : List Move) (a b : Int) (w : World) (F : AnIn w A c l) (F' : AnIn w A' c' l) :
    Calls Tryz.prog 36 #[.agg #[.slice A l.length c, .int .i64 a, .int .i64 b], .agg #[.slice A' l.length c', .int .i64 a, .int .i64 b]] w fun e w' => e = .returned (.bool true) ∧ Below w.heap.size w w' :=
  eqAnswer_c A c A' c' l a b w F.n F.s F'.s
/-- while 'spec.F(toExercise(aX), toAnswer(aA))' runs -/
structure TwS (w1 : World) (b1 b2 : Bool) (Q1 Q2 : Value → World → Prop) (x1 x2 : Value) (v : World) : Prop where
  hb : Below w1.heap.size w1 v
  q1 : b1 = true → Q1 x1 v
  q2 : b2 = true → Q2 x2 v
set_option maxRecDepth 100000 in
set_option maxHeartbeats 4000000 in
theorem lawStepOf_c (L : Int) (A1 : Option Addr) (c1 : Nat) (l1 : List Int) (A2 : Option Addr) (c2 : Nat) (l2 : List Int) (A3 : Option Addr) (c3 : Nat) (l3 : List Term) (p q r : Int) (A : Option Addr) (c : Nat) (l : List Move) (a b : Int) (w : World) (X : ExLaid w A1 c1 l1 A2 c2 l2 A3 c3 l3) (Y : AnLaid w A c l) :
    Calls Tryz.prog 6 #[.agg #[.int .i64 L, .slice A1 l1.length c1, .slice A2 l2.length c2, .slice A3 l3.length c3, .int .i64 p, .int .i64 q, .int .i64 r], .agg #[.slice A l.length c, .int .i64 a, .int .i64 b]] w fun e w' => e = .returned (.bool true) ∧ Below w.heap.size w w' := by
  have HZ := fun W => Lib.hid (szExercise_c L A1 l1.length c1 A2 l2.length c2 A3 l3.length c3 p q r 1048576 W X.z1 X.z2 X.z3 (by omega))
  have HZA := fun left W (h : 0 ≤ left ∧ left ≤ 1048576) => Lib.hid (szAn_c A l.length c a b left W Y.z h)
  have hW : Below w.heap.size w ((w.alloc (.cells #[.int .i64 L, .slice A1 l1.length c1, .slice A2 l2.length c2, .slice A3 l3.length c3, .int .i64 p, .int .i64 q, .int .i64 r] 29)).alloc (.cells #[.slice A l.length c, .int .i64 a, .int .i64 b] 61)) := (by repeat (first | with_reducible exact Below.refl _ _ | with_reducible apply below_drewN' | with_reducible apply Below.drew | (with_reducible refine Below.alloc ?_ (by first | omega | (simp; omega) | simp) _) | (with_reducible refine Below.setCell ?_ (by first | omega | (simp; omega) | simp) _) | exact Below.refl _ _))
  have X0 := (Blk.new w 29 #[.int .i64 L, .slice A1 l1.length c1, .slice A2 l2.length c2, .slice A3 l3.length c3, .int .i64 p, .int .i64 q, .int .i64 r]).alloc (.cells #[.slice A l.length c, .int .i64 a, .int .i64 b] 61)
  have Y0 := Blk.new' (w.alloc (.cells #[.int .i64 L, .slice A1 l1.length c1, .slice A2 l2.length c2, .slice A3 l3.length c3, .int .i64 p, .int .i64 q, .int .i64 r] 29)) 61 #[.slice A l.length c, .int .i64 a, .int .i64 b] (g := w.heap.size + 1) (by simp)
  have X := Lib.hid X
  have Y := Lib.hid Y
  go_enter Tryz.func6, Tryz.ntmps6
  go_wp2_with fail
  generalize ((w.alloc (.cells #[.int .i64 L, .slice A1 l1.length c1, .slice A2 l2.length c2, .slice A3 l3.length c3, .int .i64 p, .int .i64 q, .int .i64 r] 29)).alloc (.cells #[.slice A l.length c, .int .i64 a, .int .i64 b] 61)) = W at *
  refine Calls.mono (HZ W).out ?_; rintro e w1 ⟨⟨v, rfl, hv⟩, hb1⟩
  have hW1 := hW.trans (hb1.mono hW.size)
  have X1 := X0.below hb1 X0.lt
  have Y1 := Y0.below hb1 Y0.lt
  clear hW X0 Y0 hb1 HZ
  rcases hv with hv | ⟨hv0, hv1, hlen⟩
  · go_wp2
    go_ret
    exact ⟨rfl, (by repeat (first | with_reducible exact hW1 | with_reducible apply below_drewN' | with_reducible apply Below.drew | (with_reducible refine Below.alloc ?_ (by first | omega | (simp; omega) | simp) _) | (with_reducible refine Below.setCell ?_ (by first | omega | (simp; omega) | simp) _) | exact hW1))⟩
  have hvn : ¬ v < 0 := by omega
  have E := Lib.hid (X.out.ex hlen)
  have HZA := HZA v w1 ⟨hv0, hv1⟩
  clear X hlen
  have z0 : w1.cell? ⟨w.heap.size + 1, 0, none⟩ = some (.slice A l.length c) := Y1.cell 0
  have z1 : w1.cell? ⟨w.heap.size + 1, 1, none⟩ = some (.int .i64 a) := Y1.cell 1
  have z2 : w1.cell? ⟨w.heap.size + 1, 2, none⟩ = some (.int .i64 b) := Y1.cell 2
  go_wp2_with fail
  refine Calls.mono HZA.out ?_; rintro e w2 ⟨⟨v', rfl, hv'⟩, hb2⟩
  have hW2 := hW1.trans (hb2.mono hW1.size)
  have X2 := X1.below hb2 X1.lt
  have Y2 := Y1.below hb2 Y1.lt
  clear z0 z1 z2 hW1 X1 Y1 hb2 HZA
  rcases hv' with hv' | ⟨hv0', hv1', hlen⟩
  · go_wp2
    go_ret
    exact ⟨rfl, (by repeat (first | with_reducible exact hW2 | with_reducible apply below_drewN' | with_reducible apply Below.drew | (with_reducible refine Below.alloc ?_ (by first | omega | (simp; omega) | simp) _) | (with_reducible refine Below.setCell ?_ (by first | omega | (simp; omega) | simp) _) | exact hW2))⟩
  have hvn' : ¬ v' < 0 := by omega
  have F : Hid (AnIn w A c l) := ⟨hlen, Y.out.k, Y.out.s⟩
  clear Y hlen
  have HT := fun (W : World) (hW : Below w.heap.size w W) => Lib.hid (toEx_c L A1 c1 l1 A2 c2 l2 A3 c3 l3 p q r W (E.out.later hW))
  unfold exAgg at HT
  have HT := Lib.hid HT
  have HU := fun (W : World) (hW : Below w.heap.size w W) => Lib.hid (toAn_c A c l a b W (F.out.later hW))
  have HU := Lib.hid HU
  have HSp := fun (B1 : Option Addr) d1 B2 d2 B3 d3 B d W (E' : ExIn W B1 d1 l1 B2 d2 l2 B3 d3 l3) (F' : AnIn W B d l) => Lib.hid (specStepOf_c L B1 d1 l1 B2 d2 l2 B3 d3 l3 p q r B d l a b W E' F')
  have HIm := fun (B1 : Option Addr) d1 B2 d2 B3 d3 B d W (E' : ExIn W B1 d1 l1 B2 d2 l2 B3 d3 l3) (F' : AnIn W B d l) => Lib.hid (implStepOf_c L B1 d1 l1 B2 d2 l2 B3 d3 l3 p q r B d l a b W E' F')
  have HSp := Lib.hid HSp
  have HIm := Lib.hid HIm
  generalize (if (exB L l1 l2 l3 p q r && ansB l a b) = true then (stepN (usualP l3).ms l : Int) else 0) = g0 at *
  generalize (if (exB L l1 l2 l3 p q r && ansB l a b) = true then (0 : Int) else 1) = g1 at *
  go_wp2_with fail
  refine wp_region_all (fun a0 fL bA v => ∃ v23 v24 v25 v26 v27 v22 v28 v29 v6 v7 : Value, bA = (((((((((a0.put (some 23) v23).put (some 24) v24).put (some 25) v25).put (some 26) v26).put (some 27) v27).put (some 22) v22).put (some 28) v28).put (some 29) v29).put (some 6) v6).put (some 7) v7 ∧ (TwS w2 (fL 1) (fL 3) (fun x v => ExCopy L l1 l2 l3 p q r x v w2.heap.size) (fun x v => AnCopy l a b x v w2.heap.size) v24 v26 v) ∧ (fL 0 = true → v23 = .agg #[.int .i64 L, .slice A1 l1.length c1, .slice A2 l2.length c2, .slice A3 l3.length c3, .int .i64 p, .int .i64 q, .int .i64 r]) ∧ (fL 1 = true → True) ∧ (fL 2 = true → v25 = .agg #[.slice A l.length c, .int .i64 a, .int .i64 b]) ∧ (fL 3 = true → True) ∧ (fL 4 = true → v27 = .tuple #[.int .i64 g0, .int .i64 g1]) ∧ (fL 5 = true → v22 = .tuple #[.int .i64 g0, .int .i64 g1]) ∧ (fL 6 = true → v28 = .int .i64 g0) ∧ (fL 7 = true → v29 = .int .i64 g1) ∧ (fL 8 = true → v6 = .int .i64 g0) ∧ (fL 9 = true → v7 = .int .i64 g1)) (by kernel_rfl) (by decide +kernel) ?_ ?_ ?_
  · exact ⟨undef, undef, undef, undef, undef, undef, undef, undef, undef, undef, by simp only [Act.put, List.setIfInBounds_toArray, List.set_cons_zero, List.set_cons_succ], ⟨(Below.refl _ _).drew, nofun, nofun⟩, nofun, nofun, nofun, nofun, nofun, nofun, nofun, nofun, nofun, nofun⟩
  · rintro fL bA v ⟨v23, v24, v25, v26, v27, v22, v28, v29, v6, v7, rfl, hS, q0, q1, q2, q3, q4, q5, q6, q7, q8, q9⟩ i hi hf o ho hall
    simp only [Act.put, List.setIfInBounds_toArray, List.set_cons_zero, List.set_cons_succ]
    simp only [List.length_cons, List.length_nil] at hi
    have hn : i = 0 ∨ i = 1 ∨ i = 2 ∨ i = 3 ∨ i = 4 ∨ i = 5 ∨ i = 6 ∨ i = 7 ∨ i = 8 ∨ i = 9 := by omega
    clear hi
    rcases hn with rfl | rfl | rfl | rfl | rfl | rfl | rfl | rfl | rfl | rfl
    · obtain rfl := Option.some.inj ho
      have FF := X2.below hS.hb X2.lt
      have y0 : v.cell? ⟨w.heap.size, 0, none⟩ = some (.int .i64 L) := FF.cell 0
      have y1 : v.cell? ⟨w.heap.size, 1, none⟩ = some (.slice A1 l1.length c1) := FF.cell 1
      have y2 : v.cell? ⟨w.heap.size, 2, none⟩ = some (.slice A2 l2.length c2) := FF.cell 2
      have y3 : v.cell? ⟨w.heap.size, 3, none⟩ = some (.slice A3 l3.length c3) := FF.cell 3
      have y4 : v.cell? ⟨w.heap.size, 4, none⟩ = some (.int .i64 p) := FF.cell 4
      have y5 : v.cell? ⟨w.heap.size, 5, none⟩ = some (.int .i64 q) := FF.cell 5
      have y6 : v.cell? ⟨w.heap.size, 6, none⟩ = some (.int .i64 r) := FF.cell 6
      clear hall ho
      refine wpOp_step rfl (fun K hK => ?_)
      go_simp
      exact hK _ _ ⟨_, _, _, _, _, _, _, _, _, _, rfl, hS, fun _ => rfl, fun _ => trivial, q2, fun _ => trivial, q4, q5, q6, q7, q8, q9⟩
    · obtain rfl := Option.some.inj ho
      obtain rfl := q0 (hall ⟨0, .data⟩ (by simp) rfl)
      clear hall ho
      refine wpOp_step rfl (fun K hK => ?_)
      go_simp
      refine Calls.mono (HT.out v (hW2.trans (hS.hb.mono hW2.size))).out ?_; rintro e w7 ⟨⟨u, rfl, hu⟩, hb7⟩
      go_simp
      exact hK _ _ ⟨_, _, _, _, _, _, _, _, _, _, rfl, ⟨hS.hb.trans (hb7.mono hS.hb.size), fun _ => hu.weak hS.hb.size, fun e => (hS.q2 e).below hb7⟩, fun _ => rfl, fun _ => trivial, q2, fun _ => trivial, q4, q5, q6, q7, q8, q9⟩
    · obtain rfl := Option.some.inj ho
      have FF := Y2.below hS.hb Y2.lt
      have z0 : v.cell? ⟨w.heap.size + 1, 0, none⟩ = some (.slice A l.length c) := FF.cell 0
      have z1 : v.cell? ⟨w.heap.size + 1, 1, none⟩ = some (.int .i64 a) := FF.cell 1
      have z2 : v.cell? ⟨w.heap.size + 1, 2, none⟩ = some (.int .i64 b) := FF.cell 2
      clear hall ho
      refine wpOp_step rfl (fun K hK => ?_)
      go_simp
      exact hK _ _ ⟨_, _, _, _, _, _, _, _, _, _, rfl, hS, q0, fun _ => trivial, fun _ => rfl, fun _ => trivial, q4, q5, q6, q7, q8, q9⟩
    · obtain rfl := Option.some.inj ho
      obtain rfl := q2 (hall ⟨2, .data⟩ (by simp) rfl)
      clear hall ho
      refine wpOp_step rfl (fun K hK => ?_)
      go_simp
      refine Calls.mono (HU.out v (hW2.trans (hS.hb.mono hW2.size))).out ?_; rintro e w7 ⟨⟨u, rfl, hu⟩, hb7⟩
      go_simp
      exact hK _ _ ⟨_, _, _, _, _, _, _, _, _, _, rfl, ⟨hS.hb.trans (hb7.mono hS.hb.size), fun e => (hS.q1 e).below hb7, fun _ => hu.weak hS.hb.size⟩, q0, fun _ => trivial, fun _ => rfl, fun _ => trivial, q4, q5, q6, q7, q8, q9⟩
    · obtain rfl := Option.some.inj ho
      have e1 : fL 1 = true := hall ⟨1, .data⟩ (by simp) rfl
      have e3 : fL 3 = true := hall ⟨3, .data⟩ (by simp) rfl
      clear hall ho
      refine wpOp_step rfl (fun K hK => ?_)
      obtain ⟨H1, h1, H2, h2, H3, h3, rfl, EH, _, _, _⟩ := hS.q1 e1
      obtain ⟨H, h, rfl, FH, _⟩ := hS.q2 e3
      unfold exAgg
      go_simp
      refine Calls.mono (HSp.out H1 h1 H2 h2 H3 h3 H h v EH FH).out ?_; rintro e w7 ⟨rfl, hb7⟩
      go_simp
      exact hK _ _ ⟨_, _, _, _, _, _, _, _, _, _, rfl, ⟨hS.hb.trans (hb7.mono hS.hb.size), fun e => (hS.q1 e).below hb7, fun e => (hS.q2 e).below hb7⟩, q0, fun _ => trivial, q2, fun _ => trivial, fun _ => rfl, q5, q6, q7, q8, q9⟩
    · obtain rfl := Option.some.inj ho
      obtain rfl := q4 (hall ⟨4, .data⟩ (by simp) rfl)
      clear hall ho
      refine wpOp_step rfl (fun K hK => ?_)
      go_simp
      exact hK _ _ ⟨_, _, _, _, _, _, _, _, _, _, rfl, hS, q0, fun _ => trivial, q2, fun _ => trivial, fun _ => rfl, fun _ => rfl, q6, q7, q8, q9⟩
    · obtain rfl := Option.some.inj ho
      obtain rfl := q5 (hall ⟨5, .data⟩ (by simp) rfl)
      clear hall ho
      refine wpOp_step rfl (fun K hK => ?_)
      go_simp
      exact hK _ _ ⟨_, _, _, _, _, _, _, _, _, _, rfl, hS, q0, fun _ => trivial, q2, fun _ => trivial, q4, fun _ => rfl, fun _ => rfl, q7, q8, q9⟩
    · obtain rfl := Option.some.inj ho
      obtain rfl := q5 (hall ⟨5, .data⟩ (by simp) rfl)
      clear hall ho
      refine wpOp_step rfl (fun K hK => ?_)
      go_simp
      exact hK _ _ ⟨_, _, _, _, _, _, _, _, _, _, rfl, hS, q0, fun _ => trivial, q2, fun _ => trivial, q4, fun _ => rfl, q6, fun _ => rfl, q8, q9⟩
    · obtain rfl := Option.some.inj ho
      obtain rfl := q6 (hall ⟨6, .data⟩ (by simp) rfl)
      clear hall ho
      refine wpOp_step rfl (fun K hK => ?_)
      go_simp
      exact hK _ _ ⟨_, _, _, _, _, _, _, _, _, _, rfl, hS, q0, fun _ => trivial, q2, fun _ => trivial, q4, q5, fun _ => rfl, q7, fun _ => rfl, q9⟩
    · obtain rfl := Option.some.inj ho
      obtain rfl := q7 (hall ⟨7, .data⟩ (by simp) rfl)
      clear hall ho
      refine wpOp_step rfl (fun K hK => ?_)
      go_simp
      exact hK _ _ ⟨_, _, _, _, _, _, _, _, _, _, rfl, hS, q0, fun _ => trivial, q2, fun _ => trivial, q4, q5, q6, fun _ => rfl, q8, fun _ => rfl⟩
  · rintro fL bA v ⟨v23, v24, v25, v26, v27, v22, v28, v29, v6, v7, rfl, hS, q0, q1, q2, q3, q4, q5, q6, q7, q8, q9⟩ hall
    simp only [Act.put, List.setIfInBounds_toArray, List.set_cons_zero, List.set_cons_succ]
    simp only [List.length_cons, List.length_nil] at hall
    obtain rfl := q0 (hall 0 (by omega))
    have e1 : fL 1 = true := hall 1 (by omega)
    obtain rfl := q2 (hall 2 (by omega))
    have e3 : fL 3 = true := hall 3 (by omega)
    obtain rfl := q4 (hall 4 (by omega))
    obtain rfl := q5 (hall 5 (by omega))
    obtain rfl := q6 (hall 6 (by omega))
    obtain rfl := q7 (hall 7 (by omega))
    obtain rfl := q8 (hall 8 (by omega))
    obtain rfl := q9 (hall 9 (by omega))
    clear hall
    have hW3 := hW2.trans (hS.hb.mono hW2.size)
    have X3 := X2.below hS.hb X2.lt
    have Y3 := Y2.below hS.hb Y2.lt
    clear hS HSp hW2 X2 Y2
    have y0 : v.cell? ⟨w.heap.size, 0, none⟩ = some (.int .i64 L) := X3.cell 0
    have y1 : v.cell? ⟨w.heap.size, 1, none⟩ = some (.slice A1 l1.length c1) := X3.cell 1
    have y2 : v.cell? ⟨w.heap.size, 2, none⟩ = some (.slice A2 l2.length c2) := X3.cell 2
    have y3 : v.cell? ⟨w.heap.size, 3, none⟩ = some (.slice A3 l3.length c3) := X3.cell 3
    have y4 : v.cell? ⟨w.heap.size, 4, none⟩ = some (.int .i64 p) := X3.cell 4
    have y5 : v.cell? ⟨w.heap.size, 5, none⟩ = some (.int .i64 q) := X3.cell 5
    have y6 : v.cell? ⟨w.heap.size, 6, none⟩ = some (.int .i64 r) := X3.cell 6
    go_wp2_with fail
    refine Calls.mono (HT.out v hW3).out ?_; rintro e w4 ⟨⟨v4, rfl, G1, k1, G2, k2, G3, k3, rfl, E4, _, _, _⟩, hb4⟩
    have hW4 := hW3.trans (hb4.mono hW3.size)
    have X4 := X3.below hb4 X3.lt
    have Y4 := Y3.below hb4 Y3.lt
    clear y0 y1 y2 y3 y4 y5 y6 hb4 X3 Y3 hW3
    unfold exAgg
    have hba : Below w4.heap.size w4 (w4.alloc (.cells #[.int .i64 L, .slice G1 l1.length k1, .slice G2 l2.length k2, .slice G3 l3.length k3, .int .i64 p, .int .i64 q, .int .i64 r] 36)) := (Below.refl _ _).alloc (Nat.le_refl _) _
    have E7 := E4.later hba
    have X7 := X4.below hba X4.lt
    have Y7 := Y4.below hba Y4.lt
    have K7 := Blk.new w4 36 #[.int .i64 L, .slice G1 l1.length k1, .slice G2 l2.length k2, .slice G3 l3.length k3, .int .i64 p, .int .i64 q, .int .i64 r]
    have hW7 := hW4.trans (hba.mono hW4.size)
    have z0 : (w4.alloc (.cells #[.int .i64 L, .slice G1 l1.length k1, .slice G2 l2.length k2, .slice G3 l3.length k3, .int .i64 p, .int .i64 q, .int .i64 r] 36)).cell? ⟨w.heap.size + 1, 0, none⟩ = some (.slice A l.length c) := Y7.cell 0
    have z1 : (w4.alloc (.cells #[.int .i64 L, .slice G1 l1.length k1, .slice G2 l2.length k2, .slice G3 l3.length k3, .int .i64 p, .int .i64 q, .int .i64 r] 36)).cell? ⟨w.heap.size + 1, 1, none⟩ = some (.int .i64 a) := Y7.cell 1
    have z2 : (w4.alloc (.cells #[.int .i64 L, .slice G1 l1.length k1, .slice G2 l2.length k2, .slice G3 l3.length k3, .int .i64 p, .int .i64 q, .int .i64 r] 36)).cell? ⟨w.heap.size + 1, 2, none⟩ = some (.int .i64 b) := Y7.cell 2
    clear E4 X4 Y4 hW4 hba
    go_wp2_with fail
    generalize w4.alloc (.cells #[.int .i64 L, .slice G1 l1.length k1, .slice G2 l2.length k2, .slice G3 l3.length k3, .int .i64 p, .int .i64 q, .int .i64 r] 36) = w7 at *
    generalize w4.heap.size = gx at *
    refine Calls.mono (HU.out w7 hW7).out ?_; rintro e w8 ⟨⟨v8, rfl, H, h, rfl, F8, _⟩, hb8⟩
    have hW8 := hW7.trans (hb8.mono hW7.size)
    have X8 := X7.below hb8 X7.lt
    have Y8 := Y7.below hb8 Y7.lt
    have K8 := K7.below hb8 K7.lt
    have E8 := E7.later hb8
    clear z0 z1 z2 hW7 X7 Y7 K7 E7 hb8
    have hbc : Below w8.heap.size w8 (w8.alloc (.cells #[.slice H l.length h, .int .i64 a, .int .i64 b] 67)) := (Below.refl _ _).alloc (Nat.le_refl _) _
    have hcall := HIm.out G1 k1 G2 k2 G3 k3 H h _ (E8.later hbc) (F8.later hbc)
    have K9 := K8.below hbc K8.lt
    have y0 : (w8.alloc (.cells #[.slice H l.length h, .int .i64 a, .int .i64 b] 67)).cell? ⟨gx, 0, none⟩ = some (.int .i64 L) := K9.cell 0
    have y1 : (w8.alloc (.cells #[.slice H l.length h, .int .i64 a, .int .i64 b] 67)).cell? ⟨gx, 1, none⟩ = some (.slice G1 l1.length k1) := K9.cell 1
    have y2 : (w8.alloc (.cells #[.slice H l.length h, .int .i64 a, .int .i64 b] 67)).cell? ⟨gx, 2, none⟩ = some (.slice G2 l2.length k2) := K9.cell 2
    have y3 : (w8.alloc (.cells #[.slice H l.length h, .int .i64 a, .int .i64 b] 67)).cell? ⟨gx, 3, none⟩ = some (.slice G3 l3.length k3) := K9.cell 3
    have y4 : (w8.alloc (.cells #[.slice H l.length h, .int .i64 a, .int .i64 b] 67)).cell? ⟨gx, 4, none⟩ = some (.int .i64 p) := K9.cell 4
    have y5 : (w8.alloc (.cells #[.slice H l.length h, .int .i64 a, .int .i64 b] 67)).cell? ⟨gx, 5, none⟩ = some (.int .i64 q) := K9.cell 5
    have y6 : (w8.alloc (.cells #[.slice H l.length h, .int .i64 a, .int .i64 b] 67)).cell? ⟨gx, 6, none⟩ = some (.int .i64 r) := K9.cell 6
    go_wp2_with fail
    have E9 := E8.later hbc
    have F9 := F8.later hbc
    have X9 := X8.below hbc X8.lt
    have Y9 := Y8.below hbc Y8.lt
    have M9 := Blk.new w8 67 #[.slice H l.length h, .int .i64 a, .int .i64 b]
    have hW9 := hW8.trans (hbc.mono hW8.size)
    clear y0 y1 y2 y3 y4 y5 y6 E8 F8 X8 Y8 K8 hW8 hbc
    generalize w8.alloc (.cells #[.slice H l.length h, .int .i64 a, .int .i64 b] 67) = w9 at *
    generalize w8.heap.size = ga at *
    refine Calls.mono hcall.out ?_; rintro e w10 ⟨rfl, hb10⟩
    have E10 := Lib.hid (E9.later hb10)
    have F10 := Lib.hid (F9.later hb10)
    have X10 := X9.below hb10 X9.lt
    have Y10 := Y9.below hb10 Y9.lt
    have K10 := K9.below hb10 K9.lt
    have M10 := M9.below hb10 M9.lt
    have hW10 := hW9.trans (hb10.mono hW9.size)
    clear E9 F9 X9 Y9 K9 M9 hW9 hb10 hcall HIm
    go_wp2_with fail
    refine wp_region_sink 4 (fun a0 fL bA v => ∃ v48 v49 v50 v51 : Value, bA = (((a0.put (some 48) v48).put (some 49) v49).put (some 50) v50).put (some 51) v51 ∧ (EqS w10 (fL 2) (fun x v => ExCopy L l1 l2 l3 p q r x v w10.heap.size) v50 v) ∧ (fL 0 = true → v48 = .agg #[.int .i64 L, .slice G1 l1.length k1, .slice G2 l2.length k2, .slice G3 l3.length k3, .int .i64 p, .int .i64 q, .int .i64 r]) ∧ (fL 1 = true → v49 = .agg #[.int .i64 L, .slice A1 l1.length c1, .slice A2 l2.length c2, .slice A3 l3.length c3, .int .i64 p, .int .i64 q, .int .i64 r]) ∧ (fL 2 = true → True) ∧ (fL 3 = true → v51 = .bool true)) (by kernel_rfl) (by decide +kernel) ?_ ?_ ?_
    · exact ⟨undef, undef, undef, undef, by simp only [Act.put, List.setIfInBounds_toArray, List.set_cons_zero, List.set_cons_succ], ⟨(Below.refl _ _).drew, nofun⟩, nofun, nofun, nofun, nofun⟩
    · rintro fL bA v ⟨v48, v49, v50, v51, rfl, hS, q0, q1, q2, q3⟩ i hi hf o ho hall
      simp only [Act.put, List.setIfInBounds_toArray, List.set_cons_zero, List.set_cons_succ]
      have hn : i = 0 ∨ i = 1 ∨ i = 2 ∨ i = 3 := by omega
      clear hi
      rcases hn with rfl | rfl | rfl | rfl
      · obtain rfl := Option.some.inj ho
        have FF := K10.below hS.hb K10.lt
        have y0 : v.cell? ⟨gx, 0, none⟩ = some (.int .i64 L) := FF.cell 0
        have y1 : v.cell? ⟨gx, 1, none⟩ = some (.slice G1 l1.length k1) := FF.cell 1
        have y2 : v.cell? ⟨gx, 2, none⟩ = some (.slice G2 l2.length k2) := FF.cell 2
        have y3 : v.cell? ⟨gx, 3, none⟩ = some (.slice G3 l3.length k3) := FF.cell 3
        have y4 : v.cell? ⟨gx, 4, none⟩ = some (.int .i64 p) := FF.cell 4
        have y5 : v.cell? ⟨gx, 5, none⟩ = some (.int .i64 q) := FF.cell 5
        have y6 : v.cell? ⟨gx, 6, none⟩ = some (.int .i64 r) := FF.cell 6
        clear hall ho
        refine wpOp_step rfl (fun K hK => ?_)
        go_simp
        exact hK _ _ ⟨_, _, _, _, rfl, hS, fun _ => rfl, q1, fun _ => trivial, q3⟩
      · obtain rfl := Option.some.inj ho
        have FF := X10.below hS.hb X10.lt
        have y0 : v.cell? ⟨w.heap.size, 0, none⟩ = some (.int .i64 L) := FF.cell 0
        have y1 : v.cell? ⟨w.heap.size, 1, none⟩ = some (.slice A1 l1.length c1) := FF.cell 1
        have y2 : v.cell? ⟨w.heap.size, 2, none⟩ = some (.slice A2 l2.length c2) := FF.cell 2
        have y3 : v.cell? ⟨w.heap.size, 3, none⟩ = some (.slice A3 l3.length c3) := FF.cell 3
        have y4 : v.cell? ⟨w.heap.size, 4, none⟩ = some (.int .i64 p) := FF.cell 4
        have y5 : v.cell? ⟨w.heap.size, 5, none⟩ = some (.int .i64 q) := FF.cell 5
        have y6 : v.cell? ⟨w.heap.size, 6, none⟩ = some (.int .i64 r) := FF.cell 6
        clear hall ho
        refine wpOp_step rfl (fun K hK => ?_)
        go_simp
        exact hK _ _ ⟨_, _, _, _, rfl, hS, q0, fun _ => rfl, fun _ => trivial, q3⟩
      · obtain rfl := Option.some.inj ho
        obtain rfl := q1 (hall ⟨1, .data⟩ (by simp) rfl)
        clear hall ho
        refine wpOp_step rfl (fun K hK => ?_)
        go_simp
        refine Calls.mono (HT.out v (hW10.trans (hS.hb.mono hW10.size))).out ?_; rintro e w11 ⟨⟨u, rfl, hu⟩, hb11⟩
        go_simp
        exact hK _ _ ⟨_, _, _, _, rfl, ⟨hS.hb.trans (hb11.mono hS.hb.size), fun _ => hu.weak hS.hb.size⟩, q0, fun _ => rfl, fun _ => trivial, q3⟩
      · obtain rfl := Option.some.inj ho
        obtain rfl := q0 (hall ⟨0, .data⟩ (by simp) rfl)
        have e2 : fL 2 = true := hall ⟨2, .data⟩ (by simp) rfl
        clear hall ho
        refine wpOp_step rfl (fun K hK => ?_)
        obtain ⟨H1, h1, H2, h2, H3, h3, rfl, EH, _, _, _⟩ := hS.q e2
        unfold exAgg
        go_simp
        refine Calls.mono (eqEx_c L G1 k1 H1 h1 l1 G2 k2 H2 h2 l2 G3 k3 H3 h3 l3 p q r v (E10.out.later hS.hb) EH) ?_; rintro e w11 ⟨rfl, hb11⟩
        go_simp
        exact hK _ _ ⟨_, _, _, _, rfl, ⟨hS.hb.trans (hb11.mono hS.hb.size), fun e => (hS.q e).below hb11⟩, fun _ => rfl, q1, fun _ => trivial, fun _ => rfl⟩
    · rintro fL bA v ⟨v48, v49, v50, v51, rfl, hS, q0, q1, q2, q3⟩ hall
      simp only [Act.put, List.setIfInBounds_toArray, List.set_cons_zero, List.set_cons_succ]
      obtain rfl := q0 (hall 0 (by omega))
      obtain rfl := q1 (hall 1 (by omega))
      have e2 : fL 2 = true := hall 2 (by omega)
      obtain rfl := q3 (hall 3 (by omega))
      clear hall
      simp only [List.drop_succ_cons, List.drop_zero]
      have hW12 := hW10.trans (hS.hb.mono hW10.size)
      have F12 := Lib.hid (F10.out.later hS.hb)
      have Y12 := Y10.below hS.hb Y10.lt
      have M12 := M10.below hS.hb M10.lt
      clear hS hW10 E10 F10 X10 Y10 K10 M10 HT
      generalize v = w12 at *
      go_wp2_with fail
      refine wp_region_sink 4 (fun a0 fL bA v => ∃ v53 v54 v55 v56 : Value, bA = (((a0.put (some 53) v53).put (some 54) v54).put (some 55) v55).put (some 56) v56 ∧ (EqS w12 (fL 2) (fun x v => AnCopy l a b x v w12.heap.size) v55 v) ∧ (fL 0 = true → v53 = .agg #[.slice H l.length h, .int .i64 a, .int .i64 b]) ∧ (fL 1 = true → v54 = .agg #[.slice A l.length c, .int .i64 a, .int .i64 b]) ∧ (fL 2 = true → True) ∧ (fL 3 = true → v56 = .bool true)) (by kernel_rfl) (by decide +kernel) ?_ ?_ ?_
      · exact ⟨undef, undef, undef, undef, by simp only [Act.put, List.setIfInBounds_toArray, List.set_cons_zero, List.set_cons_succ], ⟨(Below.refl _ _).drew, nofun⟩, nofun, nofun, nofun, nofun⟩
      · rintro fL bA v ⟨v53, v54, v55, v56, rfl, hS, q0, q1, q2, q3⟩ i hi hf o ho hall
        simp only [Act.put, List.setIfInBounds_toArray, List.set_cons_zero, List.set_cons_succ]
        have hn : i = 0 ∨ i = 1 ∨ i = 2 ∨ i = 3 := by omega
        clear hi
        rcases hn with rfl | rfl | rfl | rfl
        · obtain rfl := Option.some.inj ho
          have FF := M12.below hS.hb M12.lt
          have y0 : v.cell? ⟨ga, 0, none⟩ = some (.slice H l.length h) := FF.cell 0
          have y1 : v.cell? ⟨ga, 1, none⟩ = some (.int .i64 a) := FF.cell 1
          have y2 : v.cell? ⟨ga, 2, none⟩ = some (.int .i64 b) := FF.cell 2
          clear hall ho
          refine wpOp_step rfl (fun K hK => ?_)
          go_simp
          exact hK _ _ ⟨_, _, _, _, rfl, hS, fun _ => rfl, q1, fun _ => trivial, q3⟩
        · obtain rfl := Option.some.inj ho
          have FF := Y12.below hS.hb Y12.lt
          have y0 : v.cell? ⟨w.heap.size + 1, 0, none⟩ = some (.slice A l.length c) := FF.cell 0
          have y1 : v.cell? ⟨w.heap.size + 1, 1, none⟩ = some (.int .i64 a) := FF.cell 1
          have y2 : v.cell? ⟨w.heap.size + 1, 2, none⟩ = some (.int .i64 b) := FF.cell 2
          clear hall ho
          refine wpOp_step rfl (fun K hK => ?_)
          go_simp
          exact hK _ _ ⟨_, _, _, _, rfl, hS, q0, fun _ => rfl, fun _ => trivial, q3⟩
        · obtain rfl := Option.some.inj ho
          obtain rfl := q1 (hall ⟨1, .data⟩ (by simp) rfl)
          clear hall ho
          refine wpOp_step rfl (fun K hK => ?_)
          go_simp
          refine Calls.mono (HU.out v (hW12.trans (hS.hb.mono hW12.size))).out ?_; rintro e w13 ⟨⟨u, rfl, hu⟩, hb13⟩
          go_simp
          exact hK _ _ ⟨_, _, _, _, rfl, ⟨hS.hb.trans (hb13.mono hS.hb.size), fun _ => hu.weak hS.hb.size⟩, q0, fun _ => rfl, fun _ => trivial, q3⟩
        · obtain rfl := Option.some.inj ho
          obtain rfl := q0 (hall ⟨0, .data⟩ (by simp) rfl)
          have e2 : fL 2 = true := hall ⟨2, .data⟩ (by simp) rfl
          clear hall ho
          refine wpOp_step rfl (fun K hK => ?_)
          obtain ⟨B, d, rfl, FH, _⟩ := hS.q e2
          go_simp
          refine Calls.mono (eqAn_c H B h d l a b v (F12.out.later hS.hb) FH) ?_; rintro e w13 ⟨rfl, hb13⟩
          go_simp
          exact hK _ _ ⟨_, _, _, _, rfl, ⟨hS.hb.trans (hb13.mono hS.hb.size), fun e => (hS.q e).below hb13⟩, fun _ => rfl, q1, fun _ => trivial, fun _ => rfl⟩
      · rintro fL bA v ⟨v53, v54, v55, v56, rfl, hS, q0, q1, q2, q3⟩ hall
        simp only [Act.put, List.setIfInBounds_toArray, List.set_cons_zero, List.set_cons_succ]
        obtain rfl := q0 (hall 0 (by omega))
        obtain rfl := q1 (hall 1 (by omega))
        have e2 : fL 2 = true := hall 2 (by omega)
        obtain rfl := q3 (hall 3 (by omega))
        clear hall
        simp only [List.drop_succ_cons, List.drop_zero]
        have hbv := hW12.trans (hS.hb.mono hW12.size)
        go_wp2
        go_ret
        exact ⟨rfl, (by repeat (first | with_reducible exact hbv | with_reducible apply below_drewN' | with_reducible apply Below.drew | (with_reducible refine Below.alloc ?_ (by first | omega | (simp; omega) | simp) _) | (with_reducible refine Below.setCell ?_ (by first | omega | (simp; omega) | simp) _) | exact hbv))⟩
end Go.Proofs.YtgkobjpoeajkdaaGreat
namespace Go.Proofs.YtgkobjpoeajkdaaGreat
open Go.RowKit
/-- the same answer, elsewhere -/
def AnR.same (e f : AnR) : Prop := ∃ B d, f = ⟨B, d, e.l, e.a, e.b⟩
def AnR.Laid (e : AnR) (w : World) : Prop := AnLaid w e.A e.c e.l
def AnR.short (e : AnR) : Prop := e.l.length ≤ 1048576
theorem AnLaid.later {w W : World} {A : Option Addr} {c : Nat} {l : List Move} (E : AnLaid w A c l) (hW : Below w.heap.size w W) : AnLaid W A c l := ⟨E.z, E.k, (E.s.below hW).more hW.size⟩
/-- the two lists hold the same answers -/
def SameA (es fs : List AnR) : Prop := es.length = fs.length ∧ ∀ (k : Nat) (e f : AnR), es[k]? = some e → fs[k]? = some f → e.same f
theorem SameA.ok {es fs : List AnR} (h : SameA es fs) : fs.all AnR.ok = es.all AnR.ok := by
  rw [Bool.eq_iff_iff, List.all_eq_true, List.all_eq_true]
  constructor
  · intro hf e he
    obtain ⟨k, hk⟩ := List.mem_iff_getElem?.1 he
    have hlt : k < fs.length := by have := (List.getElem?_eq_some_iff.1 hk).1; have := h.1; omega
    obtain ⟨B, d, hs⟩ := h.2 k e fs[k] hk (List.getElem?_eq_getElem hlt)
    have := hf fs[k] (List.getElem_mem hlt)
    rw [hs] at this
    exact this
  · intro he f hf
    obtain ⟨k, hk⟩ := List.mem_iff_getElem?.1 hf
    have hlt : k < es.length := by have := (List.getElem?_eq_some_iff.1 hk).1; have := h.1; omega
    obtain ⟨B, d, hs⟩ := h.2 k es[k] f (List.getElem?_eq_getElem hlt) hk
    have := he es[k] (List.getElem_mem hlt)
    rw [hs]
    exact this
def AnR.Far (e : AnR) (g : Nat) : Prop := Off e.A g
theorem AnR.In.far {e : AnR} {w : World} {g j : Nat} {u : Value} (h : e.In w) (hf : e.Far g) : e.In (w.setCell ⟨g, j, none⟩ u) := by
  have hz : (w.setCell ⟨g, j, none⟩ u).heap.size = w.heap.size := by simp
  exact ⟨h.n, h.k, by rw [hz]; exact sl_far h.s hf⟩
theorem AnR.In.stores {e : AnR} {g : Nat} (hf : e.Far g) : ∀ (cs : List Value) (p : Nat) {w : World}, e.In w → e.In (stores w g p cs)
  | [], _, _, h => h
  | _ :: vs, p, _, h => AnR.In.stores hf vs (p + 1) (h.far hf)
set_option maxRecDepth 100000 in
theorem szAnS_c (A : Option Addr) (c : Nat) (es : List AnR) (left : Int) (w : World) (hn : es.length ≤ 140737488351232) (hi : ∀ e ∈ es, e.Laid w) (hs : Sl w w.heap.size 3 A (es.map AnR.cells)) (hl : 0 ≤ left ∧ left ≤ 1048576) :
    Calls Tryz.prog 42 #[.slice A es.length c, .int .i64 left] w (SzPost left (es.length ≤ 1048576 ∧ ∀ e ∈ es, e.short) w) := by
  obtain ⟨h1, h2⟩ := hl
  by_cases h : left < es.length
  · have h' : left - es.length < 0 := by omega
    go_enter Tryz.func42, Tryz.ntmps42
    go_wp2
    go_ret
    exact ⟨⟨-1, rfl, .inl (by omega)⟩, Below.refl _ _⟩
  · have h' : ¬ left - es.length < 0 := by omega
    go_enter Tryz.func42, Tryz.ntmps42
    go_wp2_with fail
    go_loopw [1, 5] (fun a i wr => ∃ (k : Nat) (m : Int), k ≤ es.length ∧ i = .int .i64 k ∧ a = .int .i64 m ∧ (0 ≤ m ∧ m ≤ left) ∧ (∀ j (e : AnR), j < k → es[j]? = some e → e.short) ∧ Below w.heap.size w wr) (fun _ i _ => es.length - (intOf i).toNat)
    case atStart => exact ⟨0, _, Nat.zero_le _, rfl, rfl, by omega, fun _ _ h => by omega, Below.refl _ _⟩
    case round =>
      obtain ⟨k, m, hk, rfl, rfl, hm, hsh, hb⟩ := hrel
      have hm1 := hm.1
      have hm2 := hm.2
      have hsh := Lib.hid hsh
      by_cases hlt : k < es.length
      · obtain ⟨b, off, rfl, hbB, hc⟩ := hs.at_ (i := k) (by simpa using hlt)
        simp only [List.getElem_map] at hc
        have c0 : wr.cell? ⟨b, off + k * 3, none⟩ = some (.slice es[k].A es[k].l.length es[k].c) := by rw [hb.cell hbB]; exact hc 0 _ rfl
        have c1 : wr.cell? ⟨b, off + k * 3 + 1, none⟩ = some (.int .i64 es[k].a) := by rw [hb.cell hbB]; exact hc 1 _ rfl
        have c2 : wr.cell? ⟨b, off + k * 3 + 2, none⟩ = some (.int .i64 es[k].b) := by rw [hb.cell hbB]; exact hc 2 _ rfl
        clear hc
        have X := AnLaid.later (hi es[k] (List.getElem_mem hlt)) hb
        have HZ := fun W => Lib.hid (szAn_c es[k].A es[k].l.length es[k].c es[k].a es[k].b m W X.z (by omega))
        have HS : Hid (es[k].short → ∀ j (e : AnR), j < k + 1 → es[j]? = some e → e.short) := fun hx j e hj he => by
          by_cases hjk : j < k
          · exact hsh.out j e hjk he
          · obtain rfl : j = k := by omega
            rw [List.getElem?_eq_getElem hlt] at he
            cases he
            exact hx
        clear hi X hs hsh
        generalize es[k] = ek at *
        obtain ⟨A, d, l, p, q⟩ := ek
        simp only at *
        go_wp2_with (go_at_call 32; refine Calls.mono (HZ _).out ?_; rintro e w1 ⟨⟨v, rfl, hv⟩, hb1⟩; rcases hv with hv | ⟨hv0, hvl, hlen⟩)
        · go_wp2
          go_ret
          exact ⟨⟨-1, rfl, .inl (by omega)⟩, hb.trans (hb1.mono hb.size)⟩
        · have hvn : ¬ v < 0 := by omega
          go_wp2
          go_roundw
          case rel => exact ⟨k + 1, v, by omega, by go_num, rfl, by omega, HS.out hlen, hb.trans (hb1.mono hb.size)⟩
          case measure => simp [intOf]; omega
      · have : k = es.length := by omega
        subst this
        go_wp2
        go_ret
        exact ⟨⟨m, rfl, .inr ⟨by omega, by omega, by omega, fun e he => by
          obtain ⟨j, hj, rfl⟩ := List.getElem_of_mem he
          exact hsh.out j _ hj (List.getElem?_eq_getElem hj)⟩⟩, hb⟩
theorem info_Answer : (Tryz.prog.info? 67).map (fun i => (i.zero, i.size, i.bytes)) = some (some (.agg #[Value.slice none 0 0, .int .i64 0, .int .i64 0]), 3, 40) := by kernel_rfl
/-- copies so far: k of them, in block g -/
structure CopyA (w : World) (es : List AnR) (g k : Nat) (fs : List AnR) (wr : World) : Prop where
  hb : Below w.heap.size w wr
  fk : fs.length = k
  o : Own wr w.heap.size 67 3 (.slice (some ⟨g, 0, none⟩) es.length es.length) (fs.map AnR.cells ++ List.replicate (es.length - k) [Value.slice none 0 0, .int .i64 0, .int .i64 0])
  i : ∀ f ∈ fs, f.In wr ∧ f.Far g
  s : ∀ (j : Nat) (e f : AnR), es[j]? = some e → fs[j]? = some f → e.same f
/-- the copy made, stored -/
theorem CopyA.next {w : World} {es : List AnR} {g k : Nat} {fs : List AnR} {w2 : World} (h : CopyA w es g k fs w2) {e f : AnR} (he : es[k]? = some e) (hf : e.same f) (hi : f.In w2) (hff : f.Far g) (hg : w.heap.size ≤ g) :
    CopyA w es g (k + 1) (fs ++ [f]) (stores w2 g (k * 3) f.cells) := by
  have hlt : k < es.length := (List.getElem?_eq_some_iff.1 he).1
  refine ⟨stores_below hg f.cells (k * 3) h.hb, by simp [h.fk], ?_, fun x hx => ?_, fun j e' f' he' hf' => ?_⟩
  · have h' := h.o.store (i := k) (by simp [h.fk]; omega) f.cells rfl
    rw [rows_put (by simp [h.fk]) hlt] at h'
    rw [List.map_append]
    exact h'
  · rcases List.mem_append.1 hx with hx | hx
    · exact ⟨AnR.In.stores (h.i x hx).2 _ _ (h.i x hx).1, (h.i x hx).2⟩
    · obtain rfl : x = f := by simpa using hx
      exact ⟨AnR.In.stores hff _ _ hi, hff⟩
  · by_cases hj : j < k
    · rw [List.getElem?_append_left (by rw [h.fk]; exact hj)] at hf'
      exact h.s j e' f' he' hf'
    · have hjl : j < (fs ++ [f]).length := (List.getElem?_eq_some_iff.1 hf').1
      simp [h.fk] at hjl
      obtain rfl : j = k := by omega
      rw [he] at he'
      cases he'
      rw [List.getElem?_append_right (by rw [h.fk]; exact Nat.le_refl _), h.fk] at hf'
      simp at hf'
      subst hf'
      exact hf
/-- what a copy of a list of answers is -/
def AnsCopy (es : List AnR) (v : Value) (w' : World) (base : Nat) : Prop := ∃ A' c' fs, v = .slice A' es.length c' ∧ fs.length = es.length ∧ SameA es fs ∧ es.length ≤ c' ∧ AnsIn w' A' fs ∧ Own w' base 67 3 (.slice A' es.length c') (fs.map AnR.cells)
theorem AnsCopy.below {es : List AnR} {v : Value} {w w' : World} {base : Nat} (h : AnsCopy es v w base) (hb : Below w.heap.size w w') : AnsCopy es v w' base := by
  obtain ⟨A', c', fs, h1, h2, h3, h4, h5, h6⟩ := h
  exact ⟨A', c', fs, h1, h2, h3, h4, h5.later hb, h6.below hb⟩
theorem AnsCopy.weak {es : List AnR} {v : Value} {w : World} {base base' : Nat} (h : AnsCopy es v w base) (hb : base' ≤ base) : AnsCopy es v w base' := by
  obtain ⟨A', c', fs, h1, h2, h3, h4, h5, h6⟩ := h
  exact ⟨A', c', fs, h1, h2, h3, h4, h5, h6.mono hb⟩
set_option maxRecDepth 100000 in
theorem toAnS_c (A : Option Addr) (c : Nat) (es : List AnR) (w : World) (E : AnsIn w A es) :
    Calls Tryz.prog 44 #[.slice A es.length c] w fun e w' => (∃ v, e = .returned v ∧ AnsCopy es v w' w.heap.size) ∧ Below w.heap.size w w' := by
  obtain ⟨i0, hi, hz0, hz1, hz2⟩ := info_parts info_Answer
  have hl := E.n
  have hs := E.s
  have hin := Lib.hid E.i
  go_enter Tryz.func44, Tryz.ntmps44
  go_wp2_with (refine wpList_make_full _ rfl (.tmp 6) (.tmp 6) 79 rfl w.heap.size 67 i0 _ 3 Tryz.underlying79 hi hz0 hz1 .i64 .i64 _ _ es.length rfl rfl rfl rfl (by rw [hz2]; omega) (by unfold maxLen; omega) (Nat.le_refl _) ?_; intro w1 hown hg)
  have hb1 : Below w.heap.size w w1 := (Below.refl _ _).grown hg (Nat.le_refl _) (fun k h => by cases h)
  have hO : CopyA w es w.heap.size 0 [] w1 := by
    refine ⟨hb1, rfl, ⟨?_, by simp⟩, by simp, by simp⟩
    rw [made_rows _ 3 _ rfl (by omega)] at hown
    simpa [Value.cells] using hown
  clear hown hg hb1
  generalize hgs : w.heap.size = g at hO ⊢
  rw [hgs] at hs
  go_loopw [4] (fun i wr => ∃ (k : Nat) (fs : List AnR), k ≤ es.length ∧ i = .int .i64 k ∧ CopyA w es g k fs wr) (fun i _ => es.length - (intOf i).toNat)
  case atStart => exact ⟨0, [], Nat.zero_le _, rfl, hO⟩
  case round =>
    obtain ⟨k, fs, hk, rfl, hO⟩ := hrel
    by_cases hlt : k < es.length
    · have hb := hO.hb
      obtain ⟨b, off, rfl, hbB, hc⟩ := hs.at_ (i := k) (by simpa using hlt)
      simp only [List.getElem_map] at hc
      rw [← hgs] at hbB
      have c0 : wr.cell? ⟨b, off + k * 3, none⟩ = some (.slice es[k].A es[k].l.length es[k].c) := by rw [hb.cell hbB]; exact hc 0 _ rfl
      have c1 : wr.cell? ⟨b, off + k * 3 + 1, none⟩ = some (.int .i64 es[k].a) := by rw [hb.cell hbB]; exact hc 1 _ rfl
      have c2 : wr.cell? ⟨b, off + k * 3 + 2, none⟩ = some (.int .i64 es[k].b) := by rw [hb.cell hbB]; exact hc 2 _ rfl
      clear hc
      have HE : Hid (es[k]? = some es[k]) := List.getElem?_eq_getElem hlt
      have EI := AnIn.later (hin.out es[k] (List.getElem_mem hlt)) hb
      have HT := Lib.hid (toAn_c es[k].A es[k].c es[k].l es[k].a es[k].b wr EI)
      clear EI
      generalize es[k] = ek at *
      obtain ⟨A, d, l, p, q⟩ := ek
      simp only at *
      have hgl : g < wr.heap.size := hO.o.block_ge.2
      go_wp2_with (go_at_call 34; refine Calls.mono HT.out ?_; rintro e w2 ⟨⟨v, rfl, B1, e1, rfl, E2, o1⟩, hb2⟩; have hO2 : CopyA w es g k fs w2 := (⟨hO.hb.trans (hb2.mono hO.hb.size), hO.fk, hO.o.below hb2, (fun f hf => ⟨AnIn.later (hO.i f hf).1 hb2, (hO.i f hf).2⟩), hO.s⟩); have hkl : k < (fs.map AnR.cells ++ List.replicate (es.length - k) [Value.slice none 0 0, .int .i64 0, .int .i64 0]).length := (by simp [hO2.fk]; omega); obtain ⟨v0, e0⟩ : ∃ v, w2.cell? ⟨g, k * 3, none⟩ = some v := hO2.o.cell (i := k) (j := 0) hkl (by omega); obtain ⟨v1, e1'⟩ : ∃ v, w2.cell? ⟨g, k * 3 + 1, none⟩ = some v := hO2.o.cell (i := k) (j := 1) hkl (by omega); obtain ⟨v2, e2'⟩ : ∃ v, w2.cell? ⟨g, k * 3 + 2, none⟩ = some v := hO2.o.cell (i := k) (j := 2) hkl (by omega); have f0 : w2.frozen? ⟨g, k * 3, none⟩ = false := hO2.o.frozen _; have f1 : w2.frozen? ⟨g, k * 3 + 1, none⟩ = false := hO2.o.frozen _; have f2 : w2.frozen? ⟨g, k * 3 + 2, none⟩ = false := hO2.o.frozen _)
      go_roundw
      case rel =>
        refine ⟨k + 1, _, by omega, by go_num, hO2.next (f := ⟨B1, e1, l, p, q⟩) HE.out ⟨B1, e1, rfl⟩ E2 (off_own o1 hgl) (by omega)⟩
      case measure => simp [intOf]; omega
    · have : k = es.length := by omega
      subst this
      go_wp2
      go_ret
      have ho := hO.o
      rw [Nat.sub_self, List.replicate_zero, List.append_nil] at ho
      have hb := hO.hb
      subst hgs
      exact ⟨⟨_, rfl, _, _, fs, rfl, hO.fk, ⟨hO.fk.symm, hO.s⟩, Nat.le_refl _, ⟨by rw [hO.fk]; exact hl, ho.sl, fun f hf => (hO.i f hf).1⟩, ho⟩, hb⟩
set_option maxRecDepth 100000 in
theorem eqAnS_c (A A' : Option Addr) (c c' : Nat) (es fs : List AnR) (w : World) (E : AnsIn w A es) (E' : AnsIn w A' fs) (hE : SameA es fs) :
    Calls Tryz.prog 46 #[.slice A es.length c, .slice A' fs.length c'] w fun e w' => e = .returned (.bool true) ∧ Below w.heap.size w w' := by
  have hl := E.n
  have hl' := E'.n
  have hs := E.s
  have hs' := E'.s
  have hlen : es.length = fs.length := hE.1
  rw [← hlen]
  have hin := Lib.hid E.i
  have hin' := Lib.hid E'.i
  have hsame := Lib.hid hE.2
  rw [← hlen] at hl'
  have HL := Lib.hid hlen
  clear hlen hE E E'
  go_enter Tryz.func46, Tryz.ntmps46
  go_wp2_with fail
  go_loopw [5] (fun i wr => ∃ k : Nat, k ≤ es.length ∧ i = .int .i64 k ∧ Below w.heap.size w wr) (fun i _ => es.length - (intOf i).toNat)
  case atStart => exact ⟨0, Nat.zero_le _, rfl, Below.refl _ _⟩
  case round =>
    obtain ⟨k, hk, rfl, hb⟩ := hrel
    by_cases hlt : k < es.length
    · have hltf : k < fs.length := by have := HL.out; omega
      obtain ⟨b, off, rfl, hbB, hc⟩ := hs.at_ (i := k) (by simpa using hlt)
      obtain ⟨b', off', rfl, hbB', hc'⟩ := hs'.at_ (i := k) (by simpa using hltf)
      simp only [List.getElem_map] at hc hc'
      have HC : ∀ (v : World), Below wr.heap.size wr v → ∀ j u, es[k].cells[j]? = some u → v.cell? ⟨b, off + k * 3 + j, none⟩ = some u := fun v hv j u h => by rw [hv.cell (Nat.lt_of_lt_of_le hbB hb.size), hb.cell hbB]; exact hc j u h
      have HC' : ∀ (v : World), Below wr.heap.size wr v → ∀ j u, fs[k].cells[j]? = some u → v.cell? ⟨b', off' + k * 3 + j, none⟩ = some u := fun v hv j u h => by rw [hv.cell (Nat.lt_of_lt_of_le hbB' hb.size), hb.cell hbB']; exact hc' j u h
      clear hc hc'
      have I1 : es[k].In wr := AnIn.later (hin.out es[k] (List.getElem_mem hlt)) hb
      have I2 : fs[k].In wr := AnIn.later (hin'.out fs[k] (List.getElem_mem hltf)) hb
      have hsm := hsame.out k _ _ (List.getElem?_eq_getElem hlt) (List.getElem?_eq_getElem hltf)
      generalize es[k] = ek at *
      generalize fs[k] = fk at *
      obtain ⟨B1, d1, rfl⟩ := hsm
      obtain ⟨A1, c1, l, p, q⟩ := ek
      clear hltf
      have HC := Lib.hid HC
      have HC' := Lib.hid HC'
      have I1 := Lib.hid I1
      have I2 := Lib.hid I2
      go_wp2_with fail
      refine wp_region_sink 9 (fun a0 fL bA v => ∃ v17 v18 v19 v20 v21 v22 v23 v24 v25 : Value, bA = ((((((((a0.put (some 17) v17).put (some 18) v18).put (some 19) v19).put (some 20) v20).put (some 21) v21).put (some 22) v22).put (some 23) v23).put (some 24) v24).put (some 25) v25 ∧ (Below wr.heap.size wr v) ∧ (fL 0 = true → v17 = .slice (some ⟨b, off, none⟩) es.length c) ∧ (fL 1 = true → v18 = .int .i64 k) ∧ (fL 2 = true → v19 = .pointer (some ⟨b, off + k * 3, none⟩)) ∧ (fL 3 = true → v20 = .agg #[.slice A1 l.length c1, .int .i64 p, .int .i64 q]) ∧ (fL 4 = true → v21 = .slice (some ⟨b', off', none⟩) es.length c') ∧ (fL 5 = true → v22 = .int .i64 k) ∧ (fL 6 = true → v23 = .pointer (some ⟨b', off' + k * 3, none⟩)) ∧ (fL 7 = true → v24 = .agg #[.slice B1 l.length d1, .int .i64 p, .int .i64 q]) ∧ (fL 8 = true → v25 = .bool true)) (by kernel_rfl) (by decide +kernel) ?_ ?_ ?_
      · exact ⟨_, _, _, _, _, _, _, _, _, put_more (put_more (put_more (put_more (put_more (put_more (put_more (put_more (put_more (rfl) 17) 18) 19) 20) 21) 22) 23) 24) 25, (Below.refl _ _).drew, nofun, nofun, nofun, nofun, nofun, nofun, nofun, nofun, nofun⟩
      · rintro fL bA v ⟨v17, v18, v19, v20, v21, v22, v23, v24, v25, rfl, hS, q0, q1, q2, q3, q4, q5, q6, q7, q8⟩ i hi hf o ho hall
        simp only [Act.put, List.setIfInBounds_toArray, List.set_cons_zero, List.set_cons_succ]
        have hn : i = 0 ∨ i = 1 ∨ i = 2 ∨ i = 3 ∨ i = 4 ∨ i = 5 ∨ i = 6 ∨ i = 7 ∨ i = 8 := by omega
        clear hi
        rcases hn with rfl | rfl | rfl | rfl | rfl | rfl | rfl | rfl | rfl
        · obtain rfl := Option.some.inj ho
          clear hall ho
          refine wpOp_step rfl (fun K hK => ?_)
          go_simp
          exact hK _ _ ⟨_, _, _, _, _, _, _, _, _, rfl, hS, fun _ => rfl, q1, q2, q3, q4, q5, q6, q7, q8⟩
        · obtain rfl := Option.some.inj ho
          clear hall ho
          refine wpOp_step rfl (fun K hK => ?_)
          go_simp
          exact hK _ _ ⟨_, _, _, _, _, _, _, _, _, rfl, hS, q0, fun _ => rfl, q2, q3, q4, q5, q6, q7, q8⟩
        · obtain rfl := Option.some.inj ho
          obtain rfl := q0 (hall ⟨0, .data⟩ (by simp) rfl)
          obtain rfl := q1 (hall ⟨1, .data⟩ (by simp) rfl)
          clear hall ho
          refine wpOp_step rfl (fun K hK => ?_)
          go_simp
          exact hK _ _ ⟨_, _, _, _, _, _, _, _, _, rfl, hS, fun _ => rfl, fun _ => rfl, fun _ => rfl, q3, q4, q5, q6, q7, q8⟩
        · obtain rfl := Option.some.inj ho
          obtain rfl := q2 (hall ⟨2, .data⟩ (by simp) rfl)
          have y0 : v.cell? ⟨b, off + k * 3, none⟩ = some (.slice A1 l.length c1) := HC.out v hS 0 _ rfl
          have y1 : v.cell? ⟨b, off + k * 3 + 1, none⟩ = some (.int .i64 p) := HC.out v hS 1 _ rfl
          have y2 : v.cell? ⟨b, off + k * 3 + 2, none⟩ = some (.int .i64 q) := HC.out v hS 2 _ rfl
          clear hall ho
          refine wpOp_step rfl (fun K hK => ?_)
          go_simp
          exact hK _ _ ⟨_, _, _, _, _, _, _, _, _, rfl, hS, q0, q1, fun _ => rfl, fun _ => rfl, q4, q5, q6, q7, q8⟩
        · obtain rfl := Option.some.inj ho
          clear hall ho
          refine wpOp_step rfl (fun K hK => ?_)
          go_simp
          exact hK _ _ ⟨_, _, _, _, _, _, _, _, _, rfl, hS, q0, q1, q2, q3, fun _ => rfl, q5, q6, q7, q8⟩
        · obtain rfl := Option.some.inj ho
          clear hall ho
          refine wpOp_step rfl (fun K hK => ?_)
          go_simp
          exact hK _ _ ⟨_, _, _, _, _, _, _, _, _, rfl, hS, q0, q1, q2, q3, q4, fun _ => rfl, q6, q7, q8⟩
        · obtain rfl := Option.some.inj ho
          obtain rfl := q4 (hall ⟨4, .data⟩ (by simp) rfl)
          obtain rfl := q5 (hall ⟨5, .data⟩ (by simp) rfl)
          clear hall ho
          refine wpOp_step rfl (fun K hK => ?_)
          go_simp
          exact hK _ _ ⟨_, _, _, _, _, _, _, _, _, rfl, hS, q0, q1, q2, q3, fun _ => rfl, fun _ => rfl, fun _ => rfl, q7, q8⟩
        · obtain rfl := Option.some.inj ho
          obtain rfl := q6 (hall ⟨6, .data⟩ (by simp) rfl)
          have y0 : v.cell? ⟨b', off' + k * 3, none⟩ = some (.slice B1 l.length d1) := HC'.out v hS 0 _ rfl
          have y1 : v.cell? ⟨b', off' + k * 3 + 1, none⟩ = some (.int .i64 p) := HC'.out v hS 1 _ rfl
          have y2 : v.cell? ⟨b', off' + k * 3 + 2, none⟩ = some (.int .i64 q) := HC'.out v hS 2 _ rfl
          clear hall ho
          refine wpOp_step rfl (fun K hK => ?_)
          go_simp
          exact hK _ _ ⟨_, _, _, _, _, _, _, _, _, rfl, hS, q0, q1, q2, q3, q4, q5, fun _ => rfl, fun _ => rfl, q8⟩
        · obtain rfl := Option.some.inj ho
          obtain rfl := q3 (hall ⟨3, .data⟩ (by simp) rfl)
          obtain rfl := q7 (hall ⟨7, .data⟩ (by simp) rfl)
          clear hall ho
          refine wpOp_step rfl (fun K hK => ?_)
          go_simp
          refine Calls.mono (eqAn_c A1 B1 c1 d1 l p q v (AnIn.later I1.out hS) (AnIn.later I2.out hS)) ?_; rintro e w1 ⟨rfl, hb1⟩
          go_simp
          exact hK _ _ ⟨_, _, _, _, _, _, _, _, _, rfl, hS.trans (hb1.mono hS.size), q0, q1, q2, fun _ => rfl, q4, q5, q6, fun _ => rfl, fun _ => rfl⟩
      · rintro fL bA v ⟨v17, v18, v19, v20, v21, v22, v23, v24, v25, rfl, hS, q0, q1, q2, q3, q4, q5, q6, q7, q8⟩ hall
        simp only [Act.put, List.setIfInBounds_toArray, List.set_cons_zero, List.set_cons_succ]
        obtain rfl := q0 (hall 0 (by omega))
        obtain rfl := q1 (hall 1 (by omega))
        obtain rfl := q2 (hall 2 (by omega))
        obtain rfl := q3 (hall 3 (by omega))
        obtain rfl := q4 (hall 4 (by omega))
        obtain rfl := q5 (hall 5 (by omega))
        obtain rfl := q6 (hall 6 (by omega))
        obtain rfl := q7 (hall 7 (by omega))
        obtain rfl := q8 (hall 8 (by omega))
        clear hall
        simp only [List.drop_succ_cons, List.drop_zero]
        have hbv := hb.trans (hS.mono hb.size)
        go_wp2
        go_roundw
        case rel => exact ⟨k + 1, by omega, by go_num, (by repeat (first | with_reducible exact hbv | with_reducible apply below_drewN' | with_reducible apply Below.drew | (with_reducible refine Below.alloc ?_ (by first | omega | (simp; omega) | simp) _) | (with_reducible refine Below.setCell ?_ (by first | omega | (simp; omega) | simp) _) | exact hbv))⟩
        case measure => simp [intOf]; omega
    · have : k = es.length := by omega
      subst this
      go_wp2
      go_ret
      exact ⟨rfl, hb⟩
end Go.Proofs.YtgkobjpoeajkdaaGreat
