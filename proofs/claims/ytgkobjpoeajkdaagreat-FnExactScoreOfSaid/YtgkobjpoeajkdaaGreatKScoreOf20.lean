/- The grade of an answer: the program's and the reference's. Conditions: the exercise is valid, and the answer's figure. GradeOf of the program and of the reference. Conditions: the lists' lengths. ScoreOf of the program and of the reference. Conditions: the lists' lengths. -/
import Derived.Test.YtgkobjpoeajkdaaGreatKScoreOf16
import Derived.Test.YtgkobjpoeajkdaaGreatKScoreOf17
import Derived.Test.YtgkobjpoeajkdaaGreatKScoreOf19
namespace Go.Proofs.YtgkobjpoeajkdaaGreat
open Go.RowKit
/-- the grade of a figure -/
def gradeP (L : Int) (l1 l2 : List Int) (l : List Term) (p q r : Int) (f : Figure) : Int :=
  if (decide ((chainFig l).2 = 0) && (decide ((chainFig l).1.digits = f.digits) && decide ((chainFig l).1.tens = f.tens))) = true then 0
  else if (leF (exLoF L l1 l2 l p q r) f && leF f (exHiF L l1 l2 l p q r)) = true then 1
  else if withinP (exLoF L l1 l2 l p q r) (exHiF L l1 l2 l p q r) f.digits = true then 2 else 3
theorem gradeP_bd (L : Int) (l1 l2 : List Int) (l : List Term) (p q r : Int) (f : Figure) : 0 ≤ gradeP L l1 l2 l p q r f ∧ gradeP L l1 l2 l p q r f ≤ 3 := by
  unfold gradeP
  split
  · omega
  · split
    · omega
    · split <;> omega
/-- the boxes of an exercise and an answer -/
structure GrS (w0 : World) (L : Int) (A1 : Option Addr) (n1 c1 : Nat) (A2 : Option Addr) (n2 c2 : Nat) (A3 : Option Addr) (n3 c3 : Nat) (p q r : Int) (A : Option Addr) (n c : Nat) (a b : Int) (v : World) : Prop where
  hb : Below w0.heap.size w0 v
  bx : Blk v w0.heap.size 36 #[.int .i64 L, .slice A1 n1 c1, .slice A2 n2 c2, .slice A3 n3 c3, .int .i64 p, .int .i64 q, .int .i64 r]
  ba : Blk v (w0.heap.size + 1) 67 #[.slice A n c, .int .i64 a, .int .i64 b]
section
variable {w0 v v' : World} {L : Int} {A1 : Option Addr} {n1 c1 : Nat} {A2 : Option Addr} {n2 c2 : Nat} {A3 : Option Addr} {n3 c3 : Nat} {p q r : Int} {A : Option Addr} {n c : Nat} {a b : Int}
theorem GrS.below (h : GrS w0 L A1 n1 c1 A2 n2 c2 A3 n3 c3 p q r A n c a b v) (hb : Below v.heap.size v v') : GrS w0 L A1 n1 c1 A2 n2 c2 A3 n3 c3 p q r A n c a b v' :=
  ⟨h.hb.trans (hb.mono h.hb.size), h.bx.below hb h.bx.lt, h.ba.below hb h.ba.lt⟩
theorem GrS.init : GrS w0 L A1 n1 c1 A2 n2 c2 A3 n3 c3 p q r A n c a b ((w0.alloc (.cells #[.int .i64 L, .slice A1 n1 c1, .slice A2 n2 c2, .slice A3 n3 c3, .int .i64 p, .int .i64 q, .int .i64 r] 36)).alloc (.cells #[.slice A n c, .int .i64 a, .int .i64 b] 67)) :=
  ⟨(by repeat (first | with_reducible exact Below.refl _ _ | with_reducible apply below_drewN' | with_reducible apply Below.drew | (with_reducible refine Below.alloc ?_ (by first | omega | (simp; omega) | simp) _) | (with_reducible refine Below.setCell ?_ (by first | omega | (simp; omega) | simp) _) | exact Below.refl _ _)), (Blk.new _ _ _).alloc _, Blk.new' _ _ _ (by simp)⟩
end
set_option maxRecDepth 100000 in
set_option maxHeartbeats 4000000 in
theorem gradeOf_c (L : Int) (A1 : Option Addr) (c1 : Nat) (l1 : List Int) (A2 : Option Addr) (c2 : Nat) (l2 : List Int) (A3 : Option Addr) (c3 : Nat) (l3 : List Term) (p q r : Int) (A : Option Addr) (n c : Nat) (a b : Int) (w : World) (E : ExIn w A1 c1 l1 A2 c2 l2 A3 c3 l3) (hx : exB L l1 l2 l3 p q r = true) (hf : figOK ⟨a, b⟩ = true) :
    Calls Tryz.prog 95 #[.agg #[.int .i64 L, .slice A1 l1.length c1, .slice A2 l2.length c2, .slice A3 l3.length c3, .int .i64 p, .int .i64 q, .int .i64 r], .agg #[.slice A n c, .int .i64 a, .int .i64 b]] w fun e w' => e = .returned (.int .i64 (gradeP L l1 l2 l3 p q r ⟨a, b⟩)) ∧ Below w.heap.size w w' := by
  have hGt : Tryz.prog.eqGuardType Tryz.prog.depth 65 = false := by kernel_rfl
  obtain ⟨x1, x2, x3, x4, x5⟩ := ex_parts hx
  obtain ⟨b1, b2, b3, b4, b5⟩ := bound_parts x1
  have hW := fun (W : World) (hW : Below w.heap.size w W) => implIsWithin_c L A1 c1 l1 A2 c2 l2 A3 c3 l3 p q r ⟨a, b⟩ W (E.later hW) hx hf
  have hC := fun (W : World) (hW : Below w.heap.size w W) => implChainFigure_c A3 c3 l3 W b2 E.k3 (E.later hW).s3
  have hP := fun (W : World) (hW : Below w.heap.size w W) => planSpan_c L A1 c1 l1 A2 c2 l2 A3 c3 l3 p q r W ((E.later hW).rule b3 b4) b2 E.k3 (E.later hW).s3 (ruleB_len b1) b5
  rw [spanR_form, x5] at hP
  obtain ⟨y1, y2, y3⟩ := ex_ok x1
  rw [← y1, ← y2] at hP
  clear y1 y2 y3
  have hL := fun (W : World) => lies_c ⟨a, b⟩ (exLoF L l1 l2 l3 p q r) (exHiF L l1 l2 l3 p q r) W
  have HG : Hid (gradeP L l1 l2 l3 p q r ⟨a, b⟩ = _) := rfl
  unfold gradeP at HG
  unfold gradeP
  clear E hx hf x1 x2 x3 x4 x5 b1 b2 b3 b4 b5
  generalize exLoF L l1 l2 l3 p q r = lo at *
  generalize exHiF L l1 l2 l3 p q r = hi at *
  simp only at hW
  generalize withinP lo hi a = u2 at *
  generalize (leF lo ⟨a, b⟩ && leF ⟨a, b⟩ hi) = u1 at *
  generalize chainFig l3 = cf at *
  obtain ⟨ld, lt⟩ := lo
  obtain ⟨hd, ht⟩ := hi
  obtain ⟨⟨cd, ct⟩, cc⟩ := cf
  clear HG
  unfold Figure.agg at *
  simp only at *
  have HQ := fun W => eqFig cd ct a b W
  have HC := fun W h => Lib.hid (hC W h)
  have HP := fun W h => Lib.hid (hP W h)
  have HW := fun W h => Lib.hid (hW W h)
  have HL := fun W => Lib.hid (hL W)
  clear hC hP hW hL
  have hS0 : GrS w L A1 l1.length c1 A2 l2.length c2 A3 l3.length c3 p q r A n c a b _ := GrS.init
  generalize hu : (decide (cd = a) && decide (ct = b)) = u at *
  clear hu
  by_cases h0 : cc = 0
  · have hd0 : decide (cc = 0) = true := decide_eq_true h0
    rw [hd0]
    subst h0
    clear hd0
    cases u with
    | true =>
      simp only [Bool.and_self, if_true]
      go_enter Tryz.func95, Tryz.ntmps95
      go_wp2_with fail
      generalize ((w.alloc (.cells #[.int .i64 L, .slice A1 l1.length c1, .slice A2 l2.length c2, .slice A3 l3.length c3, .int .i64 p, .int .i64 q, .int .i64 r] 36)).alloc (.cells #[.slice A n c, .int .i64 a, .int .i64 b] 67)) = W at *
      refine Calls.mono (HC W hS0.hb).out ?_; rintro e w1 ⟨rfl, hb1⟩
      have hS1 := (hS0.below hb1).below ((by repeat (first | with_reducible exact Below.refl _ _ | with_reducible apply below_drewN' | with_reducible apply Below.drew | (with_reducible refine Below.alloc ?_ (by first | omega | (simp; omega) | simp) _) | (with_reducible refine Below.setCell ?_ (by first | omega | (simp; omega) | simp) _) | exact Below.refl _ _)) : Below w1.heap.size w1 (w1.alloc (.cells #[.int .i64 cd, .int .i64 ct] 65)))
      have C1 := Blk.new w1 65 #[.int .i64 cd, .int .i64 ct]
      have y0 : (w1.alloc (.cells #[.int .i64 cd, .int .i64 ct] 65)).cell? ⟨w1.heap.size, 0, none⟩ = some (.int .i64 cd) := C1.cell 0
      have y1 : (w1.alloc (.cells #[.int .i64 cd, .int .i64 ct] 65)).cell? ⟨w1.heap.size, 1, none⟩ = some (.int .i64 ct) := C1.cell 1
      have z0 : (w1.alloc (.cells #[.int .i64 cd, .int .i64 ct] 65)).cell? ⟨w.heap.size + 1, 1, none⟩ = some (.int .i64 a) := hS1.ba.cell 1
      have z1 : (w1.alloc (.cells #[.int .i64 cd, .int .i64 ct] 65)).cell? ⟨w.heap.size + 1, 2, none⟩ = some (.int .i64 b) := hS1.ba.cell 2
      have hb := hS1.hb
      go_wp2
      go_ret
      exact ⟨rfl, (by repeat (first | with_reducible exact hb | with_reducible apply below_drewN' | with_reducible apply Below.drew | (with_reducible refine Below.alloc ?_ (by first | omega | (simp; omega) | simp) _) | (with_reducible refine Below.setCell ?_ (by first | omega | (simp; omega) | simp) _) | exact hb))⟩
    | false =>
      simp only [Bool.and_false, Bool.false_eq_true, if_false]
      go_enter Tryz.func95, Tryz.ntmps95
      go_wp2_with fail
      generalize ((w.alloc (.cells #[.int .i64 L, .slice A1 l1.length c1, .slice A2 l2.length c2, .slice A3 l3.length c3, .int .i64 p, .int .i64 q, .int .i64 r] 36)).alloc (.cells #[.slice A n c, .int .i64 a, .int .i64 b] 67)) = W at *
      refine Calls.mono (HC W hS0.hb).out ?_; rintro e w1 ⟨rfl, hb1⟩
      have hS1 := (hS0.below hb1).below ((by repeat (first | with_reducible exact Below.refl _ _ | with_reducible apply below_drewN' | with_reducible apply Below.drew | (with_reducible refine Below.alloc ?_ (by first | omega | (simp; omega) | simp) _) | (with_reducible refine Below.setCell ?_ (by first | omega | (simp; omega) | simp) _) | exact Below.refl _ _)) : Below w1.heap.size w1 (w1.alloc (.cells #[.int .i64 cd, .int .i64 ct] 65)))
      have C1 := Blk.new w1 65 #[.int .i64 cd, .int .i64 ct]
      have k0 : (w1.alloc (.cells #[.int .i64 cd, .int .i64 ct] 65)).cell? ⟨w1.heap.size, 0, none⟩ = some (.int .i64 cd) := C1.cell 0
      have k1 : (w1.alloc (.cells #[.int .i64 cd, .int .i64 ct] 65)).cell? ⟨w1.heap.size, 1, none⟩ = some (.int .i64 ct) := C1.cell 1
      have z0 : (w1.alloc (.cells #[.int .i64 cd, .int .i64 ct] 65)).cell? ⟨w.heap.size + 1, 1, none⟩ = some (.int .i64 a) := hS1.ba.cell 1
      have z1 : (w1.alloc (.cells #[.int .i64 cd, .int .i64 ct] 65)).cell? ⟨w.heap.size + 1, 2, none⟩ = some (.int .i64 b) := hS1.ba.cell 2
      have y0 : (w1.alloc (.cells #[.int .i64 cd, .int .i64 ct] 65)).cell? ⟨w.heap.size, 0, none⟩ = some (.int .i64 L) := hS1.bx.cell 0
      have y1 : (w1.alloc (.cells #[.int .i64 cd, .int .i64 ct] 65)).cell? ⟨w.heap.size, 1, none⟩ = some (.slice A1 l1.length c1) := hS1.bx.cell 1
      have y2 : (w1.alloc (.cells #[.int .i64 cd, .int .i64 ct] 65)).cell? ⟨w.heap.size, 2, none⟩ = some (.slice A2 l2.length c2) := hS1.bx.cell 2
      have y3 : (w1.alloc (.cells #[.int .i64 cd, .int .i64 ct] 65)).cell? ⟨w.heap.size, 3, none⟩ = some (.slice A3 l3.length c3) := hS1.bx.cell 3
      have y4 : (w1.alloc (.cells #[.int .i64 cd, .int .i64 ct] 65)).cell? ⟨w.heap.size, 4, none⟩ = some (.int .i64 p) := hS1.bx.cell 4
      have y5 : (w1.alloc (.cells #[.int .i64 cd, .int .i64 ct] 65)).cell? ⟨w.heap.size, 5, none⟩ = some (.int .i64 q) := hS1.bx.cell 5
      have y6 : (w1.alloc (.cells #[.int .i64 cd, .int .i64 ct] 65)).cell? ⟨w.heap.size, 6, none⟩ = some (.int .i64 r) := hS1.bx.cell 6
      go_wp2_with fail
      generalize (w1.alloc (.cells #[.int .i64 cd, .int .i64 ct] 65)) = w2 at *
      refine Calls.mono (HP _ hS1.hb).out ?_; rintro e w3 ⟨rfl, hb3⟩
      have hS3 := (hS1.below hb3).below ((by repeat (first | with_reducible exact Below.refl _ _ | with_reducible apply below_drewN' | with_reducible apply Below.drew | (with_reducible refine Below.alloc ?_ (by first | omega | (simp; omega) | simp) _) | (with_reducible refine Below.setCell ?_ (by first | omega | (simp; omega) | simp) _) | exact Below.refl _ _)) : Below w3.heap.size w3 ((w3.alloc (.cells #[.int .i64 ld, .int .i64 lt] 65)).alloc (.cells #[.int .i64 hd, .int .i64 ht] 65)))
      clear y0 y1 y2 y3 y4 y5 y6 z0 z1 k0 k1 C1 hS1 hb3
      have M0 := (Blk.new w3 65 #[.int .i64 ld, .int .i64 lt]).alloc (.cells #[.int .i64 hd, .int .i64 ht] 65)
      have M1 := Blk.new' (w3.alloc (.cells #[.int .i64 ld, .int .i64 lt] 65)) 65 #[.int .i64 hd, .int .i64 ht] (g := w3.heap.size + 1) (by simp)
      have m0 : ((w3.alloc (.cells #[.int .i64 ld, .int .i64 lt] 65)).alloc (.cells #[.int .i64 hd, .int .i64 ht] 65)).cell? ⟨w3.heap.size, 0, none⟩ = some (.int .i64 ld) := M0.cell 0
      have m1 : ((w3.alloc (.cells #[.int .i64 ld, .int .i64 lt] 65)).alloc (.cells #[.int .i64 hd, .int .i64 ht] 65)).cell? ⟨w3.heap.size, 1, none⟩ = some (.int .i64 lt) := M0.cell 1
      have m2 : ((w3.alloc (.cells #[.int .i64 ld, .int .i64 lt] 65)).alloc (.cells #[.int .i64 hd, .int .i64 ht] 65)).cell? ⟨w3.heap.size + 1, 0, none⟩ = some (.int .i64 hd) := M1.cell 0
      have m3 : ((w3.alloc (.cells #[.int .i64 ld, .int .i64 lt] 65)).alloc (.cells #[.int .i64 hd, .int .i64 ht] 65)).cell? ⟨w3.heap.size + 1, 1, none⟩ = some (.int .i64 ht) := M1.cell 1
      have z0 : ((w3.alloc (.cells #[.int .i64 ld, .int .i64 lt] 65)).alloc (.cells #[.int .i64 hd, .int .i64 ht] 65)).cell? ⟨w.heap.size + 1, 1, none⟩ = some (.int .i64 a) := hS3.ba.cell 1
      have z1 : ((w3.alloc (.cells #[.int .i64 ld, .int .i64 lt] 65)).alloc (.cells #[.int .i64 hd, .int .i64 ht] 65)).cell? ⟨w.heap.size + 1, 2, none⟩ = some (.int .i64 b) := hS3.ba.cell 2
      go_wp2_with fail
      generalize ((w3.alloc (.cells #[.int .i64 ld, .int .i64 lt] 65)).alloc (.cells #[.int .i64 hd, .int .i64 ht] 65)) = w4 at *
      refine Calls.mono (HL _).out ?_; rintro e w5 ⟨rfl, hb5⟩
      have hS5 := hS3.below hb5
      clear m0 m1 m2 m3 M0 M1 z0 z1 hS3 hb5
      have z0 : w5.cell? ⟨w.heap.size + 1, 1, none⟩ = some (.int .i64 a) := hS5.ba.cell 1
      have z1 : w5.cell? ⟨w.heap.size + 1, 2, none⟩ = some (.int .i64 b) := hS5.ba.cell 2
      have y0 : w5.cell? ⟨w.heap.size, 0, none⟩ = some (.int .i64 L) := hS5.bx.cell 0
      have y1 : w5.cell? ⟨w.heap.size, 1, none⟩ = some (.slice A1 l1.length c1) := hS5.bx.cell 1
      have y2 : w5.cell? ⟨w.heap.size, 2, none⟩ = some (.slice A2 l2.length c2) := hS5.bx.cell 2
      have y3 : w5.cell? ⟨w.heap.size, 3, none⟩ = some (.slice A3 l3.length c3) := hS5.bx.cell 3
      have y4 : w5.cell? ⟨w.heap.size, 4, none⟩ = some (.int .i64 p) := hS5.bx.cell 4
      have y5 : w5.cell? ⟨w.heap.size, 5, none⟩ = some (.int .i64 q) := hS5.bx.cell 5
      have y6 : w5.cell? ⟨w.heap.size, 6, none⟩ = some (.int .i64 r) := hS5.bx.cell 6
      have hb := hS5.hb
      cases u1 with
      | true =>
        go_wp2
        go_ret
        exact ⟨rfl, (by repeat (first | with_reducible exact hb | with_reducible apply below_drewN' | with_reducible apply Below.drew | (with_reducible refine Below.alloc ?_ (by first | omega | (simp; omega) | simp) _) | (with_reducible refine Below.setCell ?_ (by first | omega | (simp; omega) | simp) _) | exact hb))⟩
      | false =>
        go_wp2_with fail
        refine Calls.mono (HW _ hb).out ?_; rintro e w6 ⟨rfl, hb6⟩
        have hb7 := hb.trans (hb6.mono hb.size)
        cases u2
        all_goals
          go_wp2
          go_ret
          exact ⟨rfl, (by repeat (first | with_reducible exact hb7 | with_reducible apply below_drewN' | with_reducible apply Below.drew | (with_reducible refine Below.alloc ?_ (by first | omega | (simp; omega) | simp) _) | (with_reducible refine Below.setCell ?_ (by first | omega | (simp; omega) | simp) _) | exact hb7))⟩
  · have hd0 : decide (cc = 0) = false := decide_eq_false h0
    have hd1 : (cc == 0) = false := by simpa using h0
    rw [hd0]
    clear hd0
    simp only [Bool.false_and, Bool.false_eq_true, if_false]
    go_enter Tryz.func95, Tryz.ntmps95
    go_wp2_with fail
    generalize ((w.alloc (.cells #[.int .i64 L, .slice A1 l1.length c1, .slice A2 l2.length c2, .slice A3 l3.length c3, .int .i64 p, .int .i64 q, .int .i64 r] 36)).alloc (.cells #[.slice A n c, .int .i64 a, .int .i64 b] 67)) = W at *
    refine Calls.mono (HC W hS0.hb).out ?_; rintro e w1 ⟨rfl, hb1⟩
    have hS1 := (hS0.below hb1).below ((by repeat (first | with_reducible exact Below.refl _ _ | with_reducible apply below_drewN' | with_reducible apply Below.drew | (with_reducible refine Below.alloc ?_ (by first | omega | (simp; omega) | simp) _) | (with_reducible refine Below.setCell ?_ (by first | omega | (simp; omega) | simp) _) | exact Below.refl _ _)) : Below w1.heap.size w1 (w1.alloc (.cells #[.int .i64 cd, .int .i64 ct] 65)))
    have C1 := Blk.new w1 65 #[.int .i64 cd, .int .i64 ct]
    have k0 : (w1.alloc (.cells #[.int .i64 cd, .int .i64 ct] 65)).cell? ⟨w1.heap.size, 0, none⟩ = some (.int .i64 cd) := C1.cell 0
    have k1 : (w1.alloc (.cells #[.int .i64 cd, .int .i64 ct] 65)).cell? ⟨w1.heap.size, 1, none⟩ = some (.int .i64 ct) := C1.cell 1
    have z0 : (w1.alloc (.cells #[.int .i64 cd, .int .i64 ct] 65)).cell? ⟨w.heap.size + 1, 1, none⟩ = some (.int .i64 a) := hS1.ba.cell 1
    have z1 : (w1.alloc (.cells #[.int .i64 cd, .int .i64 ct] 65)).cell? ⟨w.heap.size + 1, 2, none⟩ = some (.int .i64 b) := hS1.ba.cell 2
    have y0 : (w1.alloc (.cells #[.int .i64 cd, .int .i64 ct] 65)).cell? ⟨w.heap.size, 0, none⟩ = some (.int .i64 L) := hS1.bx.cell 0
    have y1 : (w1.alloc (.cells #[.int .i64 cd, .int .i64 ct] 65)).cell? ⟨w.heap.size, 1, none⟩ = some (.slice A1 l1.length c1) := hS1.bx.cell 1
    have y2 : (w1.alloc (.cells #[.int .i64 cd, .int .i64 ct] 65)).cell? ⟨w.heap.size, 2, none⟩ = some (.slice A2 l2.length c2) := hS1.bx.cell 2
    have y3 : (w1.alloc (.cells #[.int .i64 cd, .int .i64 ct] 65)).cell? ⟨w.heap.size, 3, none⟩ = some (.slice A3 l3.length c3) := hS1.bx.cell 3
    have y4 : (w1.alloc (.cells #[.int .i64 cd, .int .i64 ct] 65)).cell? ⟨w.heap.size, 4, none⟩ = some (.int .i64 p) := hS1.bx.cell 4
    have y5 : (w1.alloc (.cells #[.int .i64 cd, .int .i64 ct] 65)).cell? ⟨w.heap.size, 5, none⟩ = some (.int .i64 q) := hS1.bx.cell 5
    have y6 : (w1.alloc (.cells #[.int .i64 cd, .int .i64 ct] 65)).cell? ⟨w.heap.size, 6, none⟩ = some (.int .i64 r) := hS1.bx.cell 6
    go_wp2_with fail
    generalize (w1.alloc (.cells #[.int .i64 cd, .int .i64 ct] 65)) = w2 at *
    refine Calls.mono (HP _ hS1.hb).out ?_; rintro e w3 ⟨rfl, hb3⟩
    have hS3 := (hS1.below hb3).below ((by repeat (first | with_reducible exact Below.refl _ _ | with_reducible apply below_drewN' | with_reducible apply Below.drew | (with_reducible refine Below.alloc ?_ (by first | omega | (simp; omega) | simp) _) | (with_reducible refine Below.setCell ?_ (by first | omega | (simp; omega) | simp) _) | exact Below.refl _ _)) : Below w3.heap.size w3 ((w3.alloc (.cells #[.int .i64 ld, .int .i64 lt] 65)).alloc (.cells #[.int .i64 hd, .int .i64 ht] 65)))
    clear y0 y1 y2 y3 y4 y5 y6 z0 z1 k0 k1 C1 hS1 hb3
    have M0 := (Blk.new w3 65 #[.int .i64 ld, .int .i64 lt]).alloc (.cells #[.int .i64 hd, .int .i64 ht] 65)
    have M1 := Blk.new' (w3.alloc (.cells #[.int .i64 ld, .int .i64 lt] 65)) 65 #[.int .i64 hd, .int .i64 ht] (g := w3.heap.size + 1) (by simp)
    have m0 : ((w3.alloc (.cells #[.int .i64 ld, .int .i64 lt] 65)).alloc (.cells #[.int .i64 hd, .int .i64 ht] 65)).cell? ⟨w3.heap.size, 0, none⟩ = some (.int .i64 ld) := M0.cell 0
    have m1 : ((w3.alloc (.cells #[.int .i64 ld, .int .i64 lt] 65)).alloc (.cells #[.int .i64 hd, .int .i64 ht] 65)).cell? ⟨w3.heap.size, 1, none⟩ = some (.int .i64 lt) := M0.cell 1
    have m2 : ((w3.alloc (.cells #[.int .i64 ld, .int .i64 lt] 65)).alloc (.cells #[.int .i64 hd, .int .i64 ht] 65)).cell? ⟨w3.heap.size + 1, 0, none⟩ = some (.int .i64 hd) := M1.cell 0
    have m3 : ((w3.alloc (.cells #[.int .i64 ld, .int .i64 lt] 65)).alloc (.cells #[.int .i64 hd, .int .i64 ht] 65)).cell? ⟨w3.heap.size + 1, 1, none⟩ = some (.int .i64 ht) := M1.cell 1
    have z0 : ((w3.alloc (.cells #[.int .i64 ld, .int .i64 lt] 65)).alloc (.cells #[.int .i64 hd, .int .i64 ht] 65)).cell? ⟨w.heap.size + 1, 1, none⟩ = some (.int .i64 a) := hS3.ba.cell 1
    have z1 : ((w3.alloc (.cells #[.int .i64 ld, .int .i64 lt] 65)).alloc (.cells #[.int .i64 hd, .int .i64 ht] 65)).cell? ⟨w.heap.size + 1, 2, none⟩ = some (.int .i64 b) := hS3.ba.cell 2
    go_wp2_with fail
    generalize ((w3.alloc (.cells #[.int .i64 ld, .int .i64 lt] 65)).alloc (.cells #[.int .i64 hd, .int .i64 ht] 65)) = w4 at *
    refine Calls.mono (HL _).out ?_; rintro e w5 ⟨rfl, hb5⟩
    have hS5 := hS3.below hb5
    clear m0 m1 m2 m3 M0 M1 z0 z1 hS3 hb5
    have z0 : w5.cell? ⟨w.heap.size + 1, 1, none⟩ = some (.int .i64 a) := hS5.ba.cell 1
    have z1 : w5.cell? ⟨w.heap.size + 1, 2, none⟩ = some (.int .i64 b) := hS5.ba.cell 2
    have y0 : w5.cell? ⟨w.heap.size, 0, none⟩ = some (.int .i64 L) := hS5.bx.cell 0
    have y1 : w5.cell? ⟨w.heap.size, 1, none⟩ = some (.slice A1 l1.length c1) := hS5.bx.cell 1
    have y2 : w5.cell? ⟨w.heap.size, 2, none⟩ = some (.slice A2 l2.length c2) := hS5.bx.cell 2
    have y3 : w5.cell? ⟨w.heap.size, 3, none⟩ = some (.slice A3 l3.length c3) := hS5.bx.cell 3
    have y4 : w5.cell? ⟨w.heap.size, 4, none⟩ = some (.int .i64 p) := hS5.bx.cell 4
    have y5 : w5.cell? ⟨w.heap.size, 5, none⟩ = some (.int .i64 q) := hS5.bx.cell 5
    have y6 : w5.cell? ⟨w.heap.size, 6, none⟩ = some (.int .i64 r) := hS5.bx.cell 6
    have hb := hS5.hb
    cases u1 with
    | true =>
      go_wp2
      go_ret
      exact ⟨rfl, (by repeat (first | with_reducible exact hb | with_reducible apply below_drewN' | with_reducible apply Below.drew | (with_reducible refine Below.alloc ?_ (by first | omega | (simp; omega) | simp) _) | (with_reducible refine Below.setCell ?_ (by first | omega | (simp; omega) | simp) _) | exact hb))⟩
    | false =>
      go_wp2_with fail
      refine Calls.mono (HW _ hb).out ?_; rintro e w6 ⟨rfl, hb6⟩
      have hb7 := hb.trans (hb6.mono hb.size)
      cases u2
      all_goals
        go_wp2
        go_ret
        exact ⟨rfl, (by repeat (first | with_reducible exact hb7 | with_reducible apply below_drewN' | with_reducible apply Below.drew | (with_reducible refine Below.alloc ?_ (by first | omega | (simp; omega) | simp) _) | (with_reducible refine Below.setCell ?_ (by first | omega | (simp; omega) | simp) _) | exact hb7))⟩
set_option maxRecDepth 100000 in
set_option maxHeartbeats 4000000 in
theorem l31Grade_c (L : Int) (A1 : Option Addr) (c1 : Nat) (l1 : List Int) (A2 : Option Addr) (c2 : Nat) (l2 : List Int) (A3 : Option Addr) (c3 : Nat) (l3 : List Term) (p q r : Int) (A : Option Addr) (n c : Nat) (a b : Int) (w : World) (E : ExIn w A1 c1 l1 A2 c2 l2 A3 c3 l3) (hx : exB L l1 l2 l3 p q r = true) (hf : figOK ⟨a, b⟩ = true) :
    Calls Tryz.prog 94 #[.agg #[.int .i64 L, .slice A1 l1.length c1, .slice A2 l2.length c2, .slice A3 l3.length c3, .int .i64 p, .int .i64 q, .int .i64 r], .agg #[.slice A n c, .int .i64 a, .int .i64 b]] w fun e w' => e = .returned (.int .i64 (gradeP L l1 l2 l3 p q r ⟨a, b⟩)) ∧ Below w.heap.size w w' := by
  have hGt : Tryz.prog.eqGuardType Tryz.prog.depth 65 = false := by kernel_rfl
  obtain ⟨x1, x2, x3, x4, x5⟩ := ex_parts hx
  obtain ⟨b1, b2, b3, b4, b5⟩ := bound_parts x1
  have hW := fun (W : World) (hW : Below w.heap.size w W) => specIsWithin_c L A1 c1 l1 A2 c2 l2 A3 c3 l3 p q r ⟨a, b⟩ W (E.later hW) hx hf
  have hC := fun (W : World) (hW : Below w.heap.size w W) => specChainFigure_c A3 c3 l3 W b2 (E.later hW).s3
  have hP := fun (W : World) (hW : Below w.heap.size w W) => specPlanSpan_c L A1 c1 l1 A2 c2 l2 A3 c3 l3 p q r W (E.later hW)
  rw [x2] at hP
  have hQ1 := fun (W : World) => l02Compare_c (exLoF L l1 l2 l3 p q r) ⟨a, b⟩ W x3 hf
  have hQ2 := fun (W : World) => l02Compare_c ⟨a, b⟩ (exHiF L l1 l2 l3 p q r) W hf x4
  have HG : Hid (gradeP L l1 l2 l3 p q r ⟨a, b⟩ = _) := rfl
  unfold gradeP at HG
  unfold gradeP
  clear E hx hf x1 x2 x3 x4 x5 b1 b2 b3 b4 b5
  generalize exLoF L l1 l2 l3 p q r = lo at *
  generalize exHiF L l1 l2 l3 p q r = hi at *
  simp only at hW
  generalize withinP lo hi a = u2 at *
  unfold leF
  generalize cmpF lo ⟨a, b⟩ = q1 at *
  generalize cmpF ⟨a, b⟩ hi = q2 at *
  generalize chainFig l3 = cf at *
  obtain ⟨ld, lt⟩ := lo
  obtain ⟨hd, ht⟩ := hi
  obtain ⟨⟨cd, ct⟩, cc⟩ := cf
  clear HG
  unfold Figure.agg at *
  simp only at *
  have HQ := fun W => eqFig cd ct a b W
  have HC := fun W h => Lib.hid (hC W h)
  have HP := fun W h => Lib.hid (hP W h)
  have HW := fun W h => Lib.hid (hW W h)
  have HQ1 := fun W => Lib.hid (hQ1 W)
  have HQ2 := fun W => Lib.hid (hQ2 W)
  clear hC hP hW hQ1 hQ2
  have hS0 : GrS w L A1 l1.length c1 A2 l2.length c2 A3 l3.length c3 p q r A n c a b _ := GrS.init
  generalize hu : (decide (cd = a) && decide (ct = b)) = u at *
  clear hu
  go_enter Tryz.func94, Tryz.ntmps94
  go_wp2_with fail
  generalize ((w.alloc (.cells #[.int .i64 L, .slice A1 l1.length c1, .slice A2 l2.length c2, .slice A3 l3.length c3, .int .i64 p, .int .i64 q, .int .i64 r] 36)).alloc (.cells #[.slice A n c, .int .i64 a, .int .i64 b] 67)) = W at *
  refine Calls.mono (HC W hS0.hb).out ?_; rintro e w1 ⟨rfl, hb1⟩
  have hba : Below w1.heap.size w1 (w1.alloc (.cells #[.int .i64 cd, .int .i64 ct] 65)) := (by repeat (first | with_reducible exact Below.refl _ _ | with_reducible apply below_drewN' | with_reducible apply Below.drew | (with_reducible refine Below.alloc ?_ (by first | omega | (simp; omega) | simp) _) | (with_reducible refine Below.setCell ?_ (by first | omega | (simp; omega) | simp) _) | exact Below.refl _ _))
  have hS1 := (hS0.below hb1).below hba
  have C1 := Blk.new w1 65 #[.int .i64 cd, .int .i64 ct]
  have y0 : (w1.alloc (.cells #[.int .i64 cd, .int .i64 ct] 65)).cell? ⟨w.heap.size, 0, none⟩ = some (.int .i64 L) := hS1.bx.cell 0
  have y1 : (w1.alloc (.cells #[.int .i64 cd, .int .i64 ct] 65)).cell? ⟨w.heap.size, 1, none⟩ = some (.slice A1 l1.length c1) := hS1.bx.cell 1
  have y2 : (w1.alloc (.cells #[.int .i64 cd, .int .i64 ct] 65)).cell? ⟨w.heap.size, 2, none⟩ = some (.slice A2 l2.length c2) := hS1.bx.cell 2
  have y3 : (w1.alloc (.cells #[.int .i64 cd, .int .i64 ct] 65)).cell? ⟨w.heap.size, 3, none⟩ = some (.slice A3 l3.length c3) := hS1.bx.cell 3
  have y4 : (w1.alloc (.cells #[.int .i64 cd, .int .i64 ct] 65)).cell? ⟨w.heap.size, 4, none⟩ = some (.int .i64 p) := hS1.bx.cell 4
  have y5 : (w1.alloc (.cells #[.int .i64 cd, .int .i64 ct] 65)).cell? ⟨w.heap.size, 5, none⟩ = some (.int .i64 q) := hS1.bx.cell 5
  have y6 : (w1.alloc (.cells #[.int .i64 cd, .int .i64 ct] 65)).cell? ⟨w.heap.size, 6, none⟩ = some (.int .i64 r) := hS1.bx.cell 6
  go_wp2_with fail
  generalize (w1.alloc (.cells #[.int .i64 cd, .int .i64 ct] 65)) = w2 at *
  generalize w1.heap.size = gc at *
  refine Calls.mono (HP _ hS1.hb).out ?_; rintro e w3 ⟨rfl, hb3⟩
  have hbl : Below w3.heap.size w3 ((w3.alloc (.cells #[.int .i64 ld, .int .i64 lt] 65)).alloc (.cells #[.int .i64 hd, .int .i64 ht] 65)) := (by repeat (first | with_reducible exact Below.refl _ _ | with_reducible apply below_drewN' | with_reducible apply Below.drew | (with_reducible refine Below.alloc ?_ (by first | omega | (simp; omega) | simp) _) | (with_reducible refine Below.setCell ?_ (by first | omega | (simp; omega) | simp) _) | exact Below.refl _ _))
  have hS3 := (hS1.below hb3).below hbl
  have C3 := (C1.below hb3 C1.lt).below hbl (C1.below hb3 C1.lt).lt
  clear y0 y1 y2 y3 y4 y5 y6 C1 hS1 hb3 hba hbl
  have M0 := (Blk.new w3 65 #[.int .i64 ld, .int .i64 lt]).alloc (.cells #[.int .i64 hd, .int .i64 ht] 65)
  have M1 := Blk.new' (w3.alloc (.cells #[.int .i64 ld, .int .i64 lt] 65)) 65 #[.int .i64 hd, .int .i64 ht] (g := w3.heap.size + 1) (by simp)
  have z0 : ((w3.alloc (.cells #[.int .i64 ld, .int .i64 lt] 65)).alloc (.cells #[.int .i64 hd, .int .i64 ht] 65)).cell? ⟨w.heap.size + 1, 1, none⟩ = some (.int .i64 a) := hS3.ba.cell 1
  have z1 : ((w3.alloc (.cells #[.int .i64 ld, .int .i64 lt] 65)).alloc (.cells #[.int .i64 hd, .int .i64 ht] 65)).cell? ⟨w.heap.size + 1, 2, none⟩ = some (.int .i64 b) := hS3.ba.cell 2
  have y0 : ((w3.alloc (.cells #[.int .i64 ld, .int .i64 lt] 65)).alloc (.cells #[.int .i64 hd, .int .i64 ht] 65)).cell? ⟨w.heap.size, 0, none⟩ = some (.int .i64 L) := hS3.bx.cell 0
  have y1 : ((w3.alloc (.cells #[.int .i64 ld, .int .i64 lt] 65)).alloc (.cells #[.int .i64 hd, .int .i64 ht] 65)).cell? ⟨w.heap.size, 1, none⟩ = some (.slice A1 l1.length c1) := hS3.bx.cell 1
  have y2 : ((w3.alloc (.cells #[.int .i64 ld, .int .i64 lt] 65)).alloc (.cells #[.int .i64 hd, .int .i64 ht] 65)).cell? ⟨w.heap.size, 2, none⟩ = some (.slice A2 l2.length c2) := hS3.bx.cell 2
  have y3 : ((w3.alloc (.cells #[.int .i64 ld, .int .i64 lt] 65)).alloc (.cells #[.int .i64 hd, .int .i64 ht] 65)).cell? ⟨w.heap.size, 3, none⟩ = some (.slice A3 l3.length c3) := hS3.bx.cell 3
  have y4 : ((w3.alloc (.cells #[.int .i64 ld, .int .i64 lt] 65)).alloc (.cells #[.int .i64 hd, .int .i64 ht] 65)).cell? ⟨w.heap.size, 4, none⟩ = some (.int .i64 p) := hS3.bx.cell 4
  have y5 : ((w3.alloc (.cells #[.int .i64 ld, .int .i64 lt] 65)).alloc (.cells #[.int .i64 hd, .int .i64 ht] 65)).cell? ⟨w.heap.size, 5, none⟩ = some (.int .i64 q) := hS3.bx.cell 5
  have y6 : ((w3.alloc (.cells #[.int .i64 ld, .int .i64 lt] 65)).alloc (.cells #[.int .i64 hd, .int .i64 ht] 65)).cell? ⟨w.heap.size, 6, none⟩ = some (.int .i64 r) := hS3.bx.cell 6
  go_wp2_with fail
  generalize ((w3.alloc (.cells #[.int .i64 ld, .int .i64 lt] 65)).alloc (.cells #[.int .i64 hd, .int .i64 ht] 65)) = w4 at *
  generalize w3.heap.size = gl at *
  refine Calls.mono (HW _ hS3.hb).out ?_; rintro e w5 ⟨rfl, hb5⟩
  have hS5 := hS3.below hb5
  have C5 := C3.below hb5 C3.lt
  have M5 := M0.below hb5 M0.lt
  have N5 := M1.below hb5 M1.lt
  clear y0 y1 y2 y3 y4 y5 y6 z0 z1 C3 M0 M1 hS3 hb5 hS0
  have hb := hS5.hb
  have z0 : w5.cell? ⟨w.heap.size + 1, 1, none⟩ = some (.int .i64 a) := hS5.ba.cell 1
  have z1 : w5.cell? ⟨w.heap.size + 1, 2, none⟩ = some (.int .i64 b) := hS5.ba.cell 2
  have k0 : w5.cell? ⟨gc, 0, none⟩ = some (.int .i64 cd) := C5.cell 0
  have k1 : w5.cell? ⟨gc, 1, none⟩ = some (.int .i64 ct) := C5.cell 1
  have m0 : w5.cell? ⟨gl, 0, none⟩ = some (.int .i64 ld) := M5.cell 0
  have m1 : w5.cell? ⟨gl, 1, none⟩ = some (.int .i64 lt) := M5.cell 1
  have hex : ∀ u0 : Bool, (decide (cc = 0) && u) = u0 → Hid ((decide (cc = 0) && u) = u0) := fun _ h => h
  by_cases h0 : cc = 0
  · have D0 : Hid (decide (cc = 0) = true) := decide_eq_true h0
    have hd1 : (cc == 0) = true := by simpa using h0
    clear hex
    cases u with
    | true =>
      go_wp2
      all_goals (go_ret; exact ⟨rfl, (by repeat (first | with_reducible exact hb | with_reducible apply below_drewN' | with_reducible apply Below.drew | (with_reducible refine Below.alloc ?_ (by first | omega | (simp; omega) | simp) _) | (with_reducible refine Below.setCell ?_ (by first | omega | (simp; omega) | simp) _) | exact hb))⟩)
    | false =>
      go_wp2_with fail
      refine Calls.mono (HQ1 _).out ?_; rintro e w6 ⟨rfl, hb6⟩
      have hS6 := hS5.below hb6
      have N6 := N5.below hb6 N5.lt
      have x0 : w6.cell? ⟨w.heap.size + 1, 1, none⟩ = some (.int .i64 a) := hS6.ba.cell 1
      have x1 : w6.cell? ⟨w.heap.size + 1, 2, none⟩ = some (.int .i64 b) := hS6.ba.cell 2
      have n0 : w6.cell? ⟨gl + 1, 0, none⟩ = some (.int .i64 hd) := N6.cell 0
      have n1 : w6.cell? ⟨gl + 1, 1, none⟩ = some (.int .i64 ht) := N6.cell 1
      have hb7 := hS6.hb
      by_cases h1 : q1 ≤ 0
      · have D1 : Hid (decide (q1 ≤ 0) = true) := decide_eq_true h1
        by_cases h2 : q2 ≤ 0
        · have D2 : Hid (decide (q2 ≤ 0) = true) := decide_eq_true h2
          go_wp2_with (go_at_call 141; refine Calls.mono (HQ2 _).out ?_; rintro e w8 ⟨rfl, hb8⟩; have hb9 := hb7.trans (hb8.mono hb7.size))
          all_goals (go_ret; exact ⟨rfl, (by repeat (first | with_reducible exact hb9 | with_reducible apply below_drewN' | with_reducible apply Below.drew | (with_reducible refine Below.alloc ?_ (by first | omega | (simp; omega) | simp) _) | (with_reducible refine Below.setCell ?_ (by first | omega | (simp; omega) | simp) _) | exact hb9))⟩)
        · have D2 : Hid (decide (q2 ≤ 0) = false) := decide_eq_false h2
          cases u2
          all_goals
            go_wp2_with (go_at_call 141; refine Calls.mono (HQ2 _).out ?_; rintro e w8 ⟨rfl, hb8⟩; have hb9 := hb7.trans (hb8.mono hb7.size))
            all_goals (go_ret; exact ⟨rfl, (by repeat (first | with_reducible exact hb9 | with_reducible apply below_drewN' | with_reducible apply Below.drew | (with_reducible refine Below.alloc ?_ (by first | omega | (simp; omega) | simp) _) | (with_reducible refine Below.setCell ?_ (by first | omega | (simp; omega) | simp) _) | exact hb9))⟩)
      · have D1 : Hid (decide (q1 ≤ 0) = false) := decide_eq_false h1
        cases u2
        all_goals
          go_wp2
          all_goals (go_ret; exact ⟨rfl, (by repeat (first | with_reducible exact hb7 | with_reducible apply below_drewN' | with_reducible apply Below.drew | (with_reducible refine Below.alloc ?_ (by first | omega | (simp; omega) | simp) _) | (with_reducible refine Below.setCell ?_ (by first | omega | (simp; omega) | simp) _) | exact hb7))⟩)
  · have D0 : Hid (decide (cc = 0) = false) := decide_eq_false h0
    have hd1 : (cc == 0) = false := by simpa using h0
    clear hex
    go_wp2_with fail
    refine Calls.mono (HQ1 _).out ?_; rintro e w6 ⟨rfl, hb6⟩
    have hS6 := hS5.below hb6
    have N6 := N5.below hb6 N5.lt
    have x0 : w6.cell? ⟨w.heap.size + 1, 1, none⟩ = some (.int .i64 a) := hS6.ba.cell 1
    have x1 : w6.cell? ⟨w.heap.size + 1, 2, none⟩ = some (.int .i64 b) := hS6.ba.cell 2
    have n0 : w6.cell? ⟨gl + 1, 0, none⟩ = some (.int .i64 hd) := N6.cell 0
    have n1 : w6.cell? ⟨gl + 1, 1, none⟩ = some (.int .i64 ht) := N6.cell 1
    have hb7 := hS6.hb
    by_cases h1 : q1 ≤ 0
    · have D1 : Hid (decide (q1 ≤ 0) = true) := decide_eq_true h1
      by_cases h2 : q2 ≤ 0
      · have D2 : Hid (decide (q2 ≤ 0) = true) := decide_eq_true h2
        go_wp2_with (go_at_call 141; refine Calls.mono (HQ2 _).out ?_; rintro e w8 ⟨rfl, hb8⟩; have hb9 := hb7.trans (hb8.mono hb7.size))
        all_goals (go_ret; exact ⟨rfl, (by repeat (first | with_reducible exact hb9 | with_reducible apply below_drewN' | with_reducible apply Below.drew | (with_reducible refine Below.alloc ?_ (by first | omega | (simp; omega) | simp) _) | (with_reducible refine Below.setCell ?_ (by first | omega | (simp; omega) | simp) _) | exact hb9))⟩)
      · have D2 : Hid (decide (q2 ≤ 0) = false) := decide_eq_false h2
        cases u2
        all_goals
          go_wp2_with (go_at_call 141; refine Calls.mono (HQ2 _).out ?_; rintro e w8 ⟨rfl, hb8⟩; have hb9 := hb7.trans (hb8.mono hb7.size))
          all_goals (go_ret; exact ⟨rfl, (by repeat (first | with_reducible exact hb9 | with_reducible apply below_drewN' | with_reducible apply Below.drew | (with_reducible refine Below.alloc ?_ (by first | omega | (simp; omega) | simp) _) | (with_reducible refine Below.setCell ?_ (by first | omega | (simp; omega) | simp) _) | exact hb9))⟩)
    · have D1 : Hid (decide (q1 ≤ 0) = false) := decide_eq_false h1
      cases u2
      all_goals
        go_wp2
        all_goals (go_ret; exact ⟨rfl, (by repeat (first | with_reducible exact hb7 | with_reducible apply below_drewN' | with_reducible apply Below.drew | (with_reducible refine Below.alloc ?_ (by first | omega | (simp; omega) | simp) _) | (with_reducible refine Below.setCell ?_ (by first | omega | (simp; omega) | simp) _) | exact hb7))⟩)
end Go.Proofs.YtgkobjpoeajkdaaGreat
namespace Go.Proofs.YtgkobjpoeajkdaaGreat
open Go.RowKit
theorem ans_fig {l : List Move} {a b : Int} (h : ansB l a b = true) : figOK ⟨a, b⟩ = true := by
  unfold ansB at h
  rw [Bool.and_eq_true] at h
  exact h.2
set_option maxRecDepth 100000 in
set_option maxHeartbeats 2000000 in
theorem implGradeOf_c (L : Int) (A1 : Option Addr) (c1 : Nat) (l1 : List Int) (A2 : Option Addr) (c2 : Nat) (l2 : List Int) (A3 : Option Addr) (c3 : Nat) (l3 : List Term) (p q r : Int) (A : Option Addr) (c : Nat) (l : List Move) (a b : Int) (w : World) (E : ExIn w A1 c1 l1 A2 c2 l2 A3 c3 l3) (F : AnIn w A c l) :
    Calls Tryz.prog 41 #[.agg #[.int .i64 L, .slice A1 l1.length c1, .slice A2 l2.length c2, .slice A3 l3.length c3, .int .i64 p, .int .i64 q, .int .i64 r], .agg #[.slice A l.length c, .int .i64 a, .int .i64 b]] w fun e w' => e = .returned (.tuple #[.int .i64 (if (exB L l1 l2 l3 p q r && ansB l a b) = true then gradeP L l1 l2 l3 p q r ⟨a, b⟩ else 0), .int .i64 (if (exB L l1 l2 l3 p q r && ansB l a b) = true then 0 else 1)]) ∧ Below w.heap.size w w' := by
  have hW : Below w.heap.size w (((w.alloc (.cells #[.int .i64 L, .slice A1 l1.length c1, .slice A2 l2.length c2, .slice A3 l3.length c3, .int .i64 p, .int .i64 q, .int .i64 r] 36)).alloc (.cells #[.slice A l.length c, .int .i64 a, .int .i64 b] 67)).alloc (.cells #[.slice A l.length c, .int .i64 a, .int .i64 b] 67)) := (by repeat (first | with_reducible exact Below.refl _ _ | with_reducible apply below_drewN' | with_reducible apply Below.drew | (with_reducible refine Below.alloc ?_ (by first | omega | (simp; omega) | simp) _) | (with_reducible refine Below.setCell ?_ (by first | omega | (simp; omega) | simp) _) | exact Below.refl _ _))
  have X0 := ((Blk.new w 36 #[.int .i64 L, .slice A1 l1.length c1, .slice A2 l2.length c2, .slice A3 l3.length c3, .int .i64 p, .int .i64 q, .int .i64 r]).alloc (.cells #[.slice A l.length c, .int .i64 a, .int .i64 b] 67)).alloc (.cells #[.slice A l.length c, .int .i64 a, .int .i64 b] 67)
  have B0 := (Blk.new' (w.alloc (.cells #[.int .i64 L, .slice A1 l1.length c1, .slice A2 l2.length c2, .slice A3 l3.length c3, .int .i64 p, .int .i64 q, .int .i64 r] 36)) 67 #[.slice A l.length c, .int .i64 a, .int .i64 b] (g := w.heap.size + 1) (by simp)).alloc (.cells #[.slice A l.length c, .int .i64 a, .int .i64 b] 67)
  have C0 := Blk.new' ((w.alloc (.cells #[.int .i64 L, .slice A1 l1.length c1, .slice A2 l2.length c2, .slice A3 l3.length c3, .int .i64 p, .int .i64 q, .int .i64 r] 36)).alloc (.cells #[.slice A l.length c, .int .i64 a, .int .i64 b] 67)) 67 #[.slice A l.length c, .int .i64 a, .int .i64 b] (g := w.heap.size + 1 + 1) (by simp)
  have HK := Lib.hid (check1_c L A1 c1 l1 A2 c2 l2 A3 c3 l3 p q r A c l a b _ (E.later hW) (F.later hW) (w.heap.size + 1 + 1) C0)
  have HS : Hid ((exB L l1 l2 l3 p q r && ansB l a b) = true → ∀ W, Below w.heap.size w W → _) := fun h W hW => gradeOf_c L A1 c1 l1 A2 c2 l2 A3 c3 l3 p q r A l.length c a b W (E.later hW) (Bool.and_eq_true _ _ ▸ h : _ ∧ _).1 (ans_fig (Bool.and_eq_true _ _ ▸ h : _ ∧ _).2)
  clear C0 E F
  generalize (exB L l1 l2 l3 p q r && ansB l a b) = ok at *
  generalize exB L l1 l2 l3 p q r = xb at *
  cases ok with
  | false =>
    simp only [Bool.false_eq_true, if_false] at HK ⊢
    have HK := Lib.hid HK.out
    go_enter Tryz.func41, Tryz.ntmps41
    go_wp2_with fail
    refine Calls.mono HK.out ?_; rintro e w1 ⟨rfl, hb1⟩
    have hW1 := hW.trans (hb1.mono hW.size)
    go_wp2
    refine bodyPost_ret (v := .tuple #[.int .i64 0, .int .i64 1]) (by simp [results, Tryz.results41, go_sem]) rfl ⟨rfl, (by repeat (first | with_reducible exact hW1 | with_reducible apply below_drewN' | with_reducible apply Below.drew | (with_reducible refine Below.alloc ?_ (by first | omega | (simp; omega) | simp) _) | (with_reducible refine Below.setCell ?_ (by first | omega | (simp; omega) | simp) _) | exact hW1))⟩
  | true =>
    simp only [if_true] at HK ⊢
    have HS2 := Lib.hid (HS.out rfl)
    clear HS
    generalize gradeP L l1 l2 l3 p q r ⟨a, b⟩ = gr at *
    go_enter Tryz.func41, Tryz.ntmps41
    go_wp2_with fail
    generalize (((w.alloc (.cells #[.int .i64 L, .slice A1 l1.length c1, .slice A2 l2.length c2, .slice A3 l3.length c3, .int .i64 p, .int .i64 q, .int .i64 r] 36)).alloc (.cells #[.slice A l.length c, .int .i64 a, .int .i64 b] 67)).alloc (.cells #[.slice A l.length c, .int .i64 a, .int .i64 b] 67)) = W at *
    refine Calls.mono HK.out ?_; rintro e w1 ⟨rfl, hb1⟩
    have hW1 := hW.trans (hb1.mono hW.size)
    have X1 := X0.below hb1 X0.lt
    have B1 := B0.below hb1 B0.lt
    have hcall := Lib.hid (HS2.out w1 hW1)
    have y0 : w1.cell? ⟨w.heap.size, 0, none⟩ = some (.int .i64 L) := X1.cell 0
    have y1 : w1.cell? ⟨w.heap.size, 1, none⟩ = some (.slice A1 l1.length c1) := X1.cell 1
    have y2 : w1.cell? ⟨w.heap.size, 2, none⟩ = some (.slice A2 l2.length c2) := X1.cell 2
    have y3 : w1.cell? ⟨w.heap.size, 3, none⟩ = some (.slice A3 l3.length c3) := X1.cell 3
    have y4 : w1.cell? ⟨w.heap.size, 4, none⟩ = some (.int .i64 p) := X1.cell 4
    have y5 : w1.cell? ⟨w.heap.size, 5, none⟩ = some (.int .i64 q) := X1.cell 5
    have y6 : w1.cell? ⟨w.heap.size, 6, none⟩ = some (.int .i64 r) := X1.cell 6
    have z0 : w1.cell? ⟨w.heap.size + 1, 0, none⟩ = some (.slice A l.length c) := B1.cell 0
    have z1 : w1.cell? ⟨w.heap.size + 1, 1, none⟩ = some (.int .i64 a) := B1.cell 1
    have z2 : w1.cell? ⟨w.heap.size + 1, 2, none⟩ = some (.int .i64 b) := B1.cell 2
    clear HK X0 B0 hb1 hW HS2
    go_wp2_with fail
    refine Calls.mono hcall.out ?_; rintro e w2 ⟨rfl, hb2⟩
    have hW2 := hW1.trans (hb2.mono hW1.size)
    go_wp2
    refine bodyPost_ret (v := .tuple #[.int .i64 gr, .int .i64 0]) (by simp [results, Tryz.results41, go_sem]) rfl ⟨rfl, (by repeat (first | with_reducible exact hW2 | with_reducible apply below_drewN' | with_reducible apply Below.drew | (with_reducible refine Below.alloc ?_ (by first | omega | (simp; omega) | simp) _) | (with_reducible refine Below.setCell ?_ (by first | omega | (simp; omega) | simp) _) | exact hW2))⟩
set_option maxRecDepth 100000 in
set_option maxHeartbeats 2000000 in
theorem specGradeOf_c (L : Int) (A1 : Option Addr) (c1 : Nat) (l1 : List Int) (A2 : Option Addr) (c2 : Nat) (l2 : List Int) (A3 : Option Addr) (c3 : Nat) (l3 : List Term) (p q r : Int) (A : Option Addr) (c : Nat) (l : List Move) (a b : Int) (w : World) (E : ExIn w A1 c1 l1 A2 c2 l2 A3 c3 l3) (F : AnIn w A c l) :
    Calls Tryz.prog 40 #[.agg #[.int .i64 L, .slice A1 l1.length c1, .slice A2 l2.length c2, .slice A3 l3.length c3, .int .i64 p, .int .i64 q, .int .i64 r], .agg #[.slice A l.length c, .int .i64 a, .int .i64 b]] w fun e w' => e = .returned (.tuple #[.int .i64 (if (exB L l1 l2 l3 p q r && ansB l a b) = true then gradeP L l1 l2 l3 p q r ⟨a, b⟩ else 0), .int .i64 (if (exB L l1 l2 l3 p q r && ansB l a b) = true then 0 else 1)]) ∧ Below w.heap.size w w' := by
  have hW : Below w.heap.size w ((w.alloc (.cells #[.int .i64 L, .slice A1 l1.length c1, .slice A2 l2.length c2, .slice A3 l3.length c3, .int .i64 p, .int .i64 q, .int .i64 r] 36)).alloc (.cells #[.slice A l.length c, .int .i64 a, .int .i64 b] 67)) := (by repeat (first | with_reducible exact Below.refl _ _ | with_reducible apply below_drewN' | with_reducible apply Below.drew | (with_reducible refine Below.alloc ?_ (by first | omega | (simp; omega) | simp) _) | (with_reducible refine Below.setCell ?_ (by first | omega | (simp; omega) | simp) _) | exact Below.refl _ _))
  have X0 := (Blk.new w 36 #[.int .i64 L, .slice A1 l1.length c1, .slice A2 l2.length c2, .slice A3 l3.length c3, .int .i64 p, .int .i64 q, .int .i64 r]).alloc (.cells #[.slice A l.length c, .int .i64 a, .int .i64 b] 67)
  have B0 := Blk.new' (w.alloc (.cells #[.int .i64 L, .slice A1 l1.length c1, .slice A2 l2.length c2, .slice A3 l3.length c3, .int .i64 p, .int .i64 q, .int .i64 r] 36)) 67 #[.slice A l.length c, .int .i64 a, .int .i64 b] (g := w.heap.size + 1) (by simp)
  have HX := Lib.hid (specIsExercise_c L A1 c1 l1 A2 c2 l2 A3 c3 l3 p q r _ (E.later hW))
  have HA : Hid (∀ W, Below w.heap.size w W → _) := fun W hW => l31Answer_c A c l a b W (F.later hW)
  have HS : Hid (exB L l1 l2 l3 p q r = true → ansB l a b = true → ∀ W, Below w.heap.size w W → _) := fun hx ha W hW => l31Grade_c L A1 c1 l1 A2 c2 l2 A3 c3 l3 p q r A l.length c a b W (E.later hW) hx (ans_fig ha)
  clear E F
  generalize ansB l a b = ab at *
  generalize exB L l1 l2 l3 p q r = xb at *
  cases xb with
  | false =>
    clear HS HA
    simp only [Bool.false_and, Bool.false_eq_true, if_false]
    go_enter Tryz.func40, Tryz.ntmps40
    go_wp2_with fail
    refine Calls.mono HX.out ?_; rintro e w1 ⟨rfl, hb1⟩
    have hW1 := hW.trans (hb1.mono hW.size)
    go_wp2
    refine bodyPost_ret (v := .tuple #[.int .i64 0, .int .i64 1]) (by simp [results, Tryz.results40, go_sem]) rfl ⟨rfl, (by repeat (first | with_reducible exact hW1 | with_reducible apply below_drewN' | with_reducible apply Below.drew | (with_reducible refine Below.alloc ?_ (by first | omega | (simp; omega) | simp) _) | (with_reducible refine Below.setCell ?_ (by first | omega | (simp; omega) | simp) _) | exact hW1))⟩
  | true =>
    have HT := Lib.hid (HS.out rfl)
    clear HS
    simp only [Bool.true_and]
    generalize gradeP L l1 l2 l3 p q r ⟨a, b⟩ = gr at *
    cases ab with
    | false =>
      simp only [Bool.false_eq_true, if_false]
      go_enter Tryz.func40, Tryz.ntmps40
      go_wp2_with fail
      generalize ((w.alloc (.cells #[.int .i64 L, .slice A1 l1.length c1, .slice A2 l2.length c2, .slice A3 l3.length c3, .int .i64 p, .int .i64 q, .int .i64 r] 36)).alloc (.cells #[.slice A l.length c, .int .i64 a, .int .i64 b] 67)) = W at *
      refine Calls.mono HX.out ?_; rintro e w1 ⟨rfl, hb1⟩
      have hW1 := hW.trans (hb1.mono hW.size)
      have X1 := X0.below hb1 X0.lt
      have B1 := B0.below hb1 B0.lt
      have hcall := Lib.hid (HA.out w1 hW1)
      have y0 : w1.cell? ⟨w.heap.size, 0, none⟩ = some (.int .i64 L) := X1.cell 0
      have y1 : w1.cell? ⟨w.heap.size, 1, none⟩ = some (.slice A1 l1.length c1) := X1.cell 1
      have y2 : w1.cell? ⟨w.heap.size, 2, none⟩ = some (.slice A2 l2.length c2) := X1.cell 2
      have y3 : w1.cell? ⟨w.heap.size, 3, none⟩ = some (.slice A3 l3.length c3) := X1.cell 3
      have y4 : w1.cell? ⟨w.heap.size, 4, none⟩ = some (.int .i64 p) := X1.cell 4
      have y5 : w1.cell? ⟨w.heap.size, 5, none⟩ = some (.int .i64 q) := X1.cell 5
      have y6 : w1.cell? ⟨w.heap.size, 6, none⟩ = some (.int .i64 r) := X1.cell 6
      have z0 : w1.cell? ⟨w.heap.size + 1, 0, none⟩ = some (.slice A l.length c) := B1.cell 0
      have z1 : w1.cell? ⟨w.heap.size + 1, 1, none⟩ = some (.int .i64 a) := B1.cell 1
      have z2 : w1.cell? ⟨w.heap.size + 1, 2, none⟩ = some (.int .i64 b) := B1.cell 2
      clear HX X0 B0 hb1 hW HT HA
      go_wp2_with fail
      refine Calls.mono hcall.out ?_; rintro e w2 ⟨rfl, hb2⟩
      have hW2 := hW1.trans (hb2.mono hW1.size)
      go_wp2
      refine bodyPost_ret (v := .tuple #[.int .i64 0, .int .i64 1]) (by simp [results, Tryz.results40, go_sem]) rfl ⟨rfl, (by repeat (first | with_reducible exact hW2 | with_reducible apply below_drewN' | with_reducible apply Below.drew | (with_reducible refine Below.alloc ?_ (by first | omega | (simp; omega) | simp) _) | (with_reducible refine Below.setCell ?_ (by first | omega | (simp; omega) | simp) _) | exact hW2))⟩
    | true =>
      simp only [if_true]
      have HT2 := Lib.hid (HT.out rfl)
      clear HT
      go_enter Tryz.func40, Tryz.ntmps40
      go_wp2_with fail
      generalize ((w.alloc (.cells #[.int .i64 L, .slice A1 l1.length c1, .slice A2 l2.length c2, .slice A3 l3.length c3, .int .i64 p, .int .i64 q, .int .i64 r] 36)).alloc (.cells #[.slice A l.length c, .int .i64 a, .int .i64 b] 67)) = W at *
      refine Calls.mono HX.out ?_; rintro e w1 ⟨rfl, hb1⟩
      have hW1 := hW.trans (hb1.mono hW.size)
      have X1 := X0.below hb1 X0.lt
      have B1 := B0.below hb1 B0.lt
      have hcall := Lib.hid (HA.out w1 hW1)
      have y0 : w1.cell? ⟨w.heap.size, 0, none⟩ = some (.int .i64 L) := X1.cell 0
      have y1 : w1.cell? ⟨w.heap.size, 1, none⟩ = some (.slice A1 l1.length c1) := X1.cell 1
      have y2 : w1.cell? ⟨w.heap.size, 2, none⟩ = some (.slice A2 l2.length c2) := X1.cell 2
      have y3 : w1.cell? ⟨w.heap.size, 3, none⟩ = some (.slice A3 l3.length c3) := X1.cell 3
      have y4 : w1.cell? ⟨w.heap.size, 4, none⟩ = some (.int .i64 p) := X1.cell 4
      have y5 : w1.cell? ⟨w.heap.size, 5, none⟩ = some (.int .i64 q) := X1.cell 5
      have y6 : w1.cell? ⟨w.heap.size, 6, none⟩ = some (.int .i64 r) := X1.cell 6
      have z0 : w1.cell? ⟨w.heap.size + 1, 0, none⟩ = some (.slice A l.length c) := B1.cell 0
      have z1 : w1.cell? ⟨w.heap.size + 1, 1, none⟩ = some (.int .i64 a) := B1.cell 1
      have z2 : w1.cell? ⟨w.heap.size + 1, 2, none⟩ = some (.int .i64 b) := B1.cell 2
      clear HX X0 B0 hb1 hW HA
      go_wp2_with fail
      refine Calls.mono hcall.out ?_; rintro e w2 ⟨rfl, hb2⟩
      have hW2 := hW1.trans (hb2.mono hW1.size)
      have X2 := X1.below hb2 X1.lt
      have B2 := B1.below hb2 B1.lt
      have hcall := Lib.hid (HT2.out w2 hW2)
      clear y0 y1 y2 y3 y4 y5 y6 z0 z1 z2 hb2 X1 B1 HT2
      have y0 : w2.cell? ⟨w.heap.size, 0, none⟩ = some (.int .i64 L) := X2.cell 0
      have y1 : w2.cell? ⟨w.heap.size, 1, none⟩ = some (.slice A1 l1.length c1) := X2.cell 1
      have y2 : w2.cell? ⟨w.heap.size, 2, none⟩ = some (.slice A2 l2.length c2) := X2.cell 2
      have y3 : w2.cell? ⟨w.heap.size, 3, none⟩ = some (.slice A3 l3.length c3) := X2.cell 3
      have y4 : w2.cell? ⟨w.heap.size, 4, none⟩ = some (.int .i64 p) := X2.cell 4
      have y5 : w2.cell? ⟨w.heap.size, 5, none⟩ = some (.int .i64 q) := X2.cell 5
      have y6 : w2.cell? ⟨w.heap.size, 6, none⟩ = some (.int .i64 r) := X2.cell 6
      have z0 : w2.cell? ⟨w.heap.size + 1, 0, none⟩ = some (.slice A l.length c) := B2.cell 0
      have z1 : w2.cell? ⟨w.heap.size + 1, 1, none⟩ = some (.int .i64 a) := B2.cell 1
      have z2 : w2.cell? ⟨w.heap.size + 1, 2, none⟩ = some (.int .i64 b) := B2.cell 2
      go_wp2_with fail
      refine Calls.mono hcall.out ?_; rintro e w3 ⟨rfl, hb3⟩
      have hW3 := hW2.trans (hb3.mono hW2.size)
      go_wp2
      refine bodyPost_ret (v := .tuple #[.int .i64 gr, .int .i64 0]) (by simp [results, Tryz.results40, go_sem]) rfl ⟨rfl, (by repeat (first | with_reducible exact hW3 | with_reducible apply below_drewN' | with_reducible apply Below.drew | (with_reducible refine Below.alloc ?_ (by first | omega | (simp; omega) | simp) _) | (with_reducible refine Below.setCell ?_ (by first | omega | (simp; omega) | simp) _) | exact hW3))⟩
end Go.Proofs.YtgkobjpoeajkdaaGreat
namespace Go.Proofs.YtgkobjpoeajkdaaGreat
open Go.RowKit
def AnR.fig (e : AnR) : Figure := ⟨e.a, e.b⟩
theorem SameA.figs {es fs : List AnR} (h : SameA es fs) : fs.map AnR.fig = es.map AnR.fig := by
  apply List.ext_getElem?
  intro k
  rw [List.getElem?_map, List.getElem?_map]
  by_cases hk : k < es.length
  · have hk' : k < fs.length := by have := h.1; omega
    obtain ⟨B, d, hs⟩ := h.2 k es[k] fs[k] (List.getElem?_eq_getElem hk) (List.getElem?_eq_getElem hk')
    rw [List.getElem?_eq_getElem hk, List.getElem?_eq_getElem hk', hs]
    rfl
  · have hk' : ¬ k < fs.length := by have := h.1; omega
    rw [List.getElem?_eq_none (by omega), List.getElem?_eq_none (by omega)]
theorem SameA.trans' {es fs gs : List AnR} (h : SameA es fs) (h' : SameA es gs) : SameA fs gs := by
  refine ⟨h.1.symm.trans h'.1, fun k f g hf hg => ?_⟩
  have hk : k < es.length := by have := (List.getElem?_eq_some_iff.1 hf).1; have := h.1; omega
  obtain ⟨B, d, rfl⟩ := h.2 k es[k] f (List.getElem?_eq_getElem hk) hf
  obtain ⟨B', d', rfl⟩ := h'.2 k es[k] g (List.getElem?_eq_getElem hk) hg
  exact ⟨B', d', rfl⟩
/-- the score of the first k figures -/
def scTo (G : Figure → Int) (l : List Figure) (k : Nat) : Int := ((l.take k).map fun f => 3 - G f).sum
theorem scTo_zero (G : Figure → Int) (l : List Figure) : scTo G l 0 = 0 := by simp [scTo]
theorem scTo_succ (G : Figure → Int) {l : List Figure} {k : Nat} (h : k < l.length) : scTo G l (k + 1) = scTo G l k + (3 - G l[k]) := by
  unfold scTo
  rw [List.take_succ_eq_append_getElem h, List.map_append, List.sum_append]
  simp
theorem scTo_bd {G : Figure → Int} (hG : ∀ f, 0 ≤ G f ∧ G f ≤ 3) (l : List Figure) : ∀ {k : Nat}, k ≤ l.length → 0 ≤ scTo G l k ∧ scTo G l k ≤ 3 * k
  | 0, _ => by rw [scTo_zero]; omega
  | k + 1, h => by
    have h1 := scTo_bd hG l (k := k) (by omega)
    have h2 := hG (l[k]'(by omega))
    rw [scTo_succ G (by omega)]
    omega
def scC (ok : Bool) (n : Nat) : Int := if ok = true then (if 20 < n then 3 else 0) else 1
def scV (G : Figure → Int) (ok : Bool) (l : List Figure) : Int := if scC ok l.length = 0 then scTo G l l.length else 0
set_option maxRecDepth 100000 in
set_option maxHeartbeats 2000000 in
theorem implScoreOf_c (L : Int) (A1 : Option Addr) (c1 : Nat) (l1 : List Int) (A2 : Option Addr) (c2 : Nat) (l2 : List Int) (A3 : Option Addr) (c3 : Nat) (l3 : List Term) (p q r : Int) (A : Option Addr) (c : Nat) (es : List AnR) (w : World) (E : ExIn w A1 c1 l1 A2 c2 l2 A3 c3 l3) (F : AnsIn w A es) :
    Calls Tryz.prog 45 #[.agg #[.int .i64 L, .slice A1 l1.length c1, .slice A2 l2.length c2, .slice A3 l3.length c3, .int .i64 p, .int .i64 q, .int .i64 r], .slice A es.length c] w fun e w' => e = .returned (.tuple #[.int .i64 (scV (gradeP L l1 l2 l3 p q r) (exB L l1 l2 l3 p q r && es.all AnR.ok) (es.map AnR.fig)), .int .i64 (scC (exB L l1 l2 l3 p q r && es.all AnR.ok) es.length)]) ∧ Below w.heap.size w w' := by
  have hW : Below w.heap.size w (w.alloc (.cells #[.int .i64 L, .slice A1 l1.length c1, .slice A2 l2.length c2, .slice A3 l3.length c3, .int .i64 p, .int .i64 q, .int .i64 r] 36)) := (by repeat (first | with_reducible exact Below.refl _ _ | with_reducible apply below_drewN' | with_reducible apply Below.drew | (with_reducible refine Below.alloc ?_ (by first | omega | (simp; omega) | simp) _) | (with_reducible refine Below.setCell ?_ (by first | omega | (simp; omega) | simp) _) | exact Below.refl _ _))
  have X0 := Blk.new w 36 #[.int .i64 L, .slice A1 l1.length c1, .slice A2 l2.length c2, .slice A3 l3.length c3, .int .i64 p, .int .i64 q, .int .i64 r]
  have hK := checkAnswer_c L A1 c1 l1 A2 c2 l2 A3 c3 l3 p q r A c es _ (E.later hW) (F.later hW)
  have hG := gradeP_bd L l1 l2 l3 p q r
  have HG : Hid ((exB L l1 l2 l3 p q r && es.all AnR.ok) = true → ∀ e ∈ es, ∀ W, Below w.heap.size w W → _) := fun h e he W hW => gradeOf_c L A1 c1 l1 A2 c2 l2 A3 c3 l3 p q r e.A e.l.length e.c e.a e.b W (E.later hW) (Bool.and_eq_true _ _ ▸ h : _ ∧ _).1 (ans_fig (List.all_eq_true.1 (Bool.and_eq_true _ _ ▸ h : _ ∧ _).2 e he))
  have hs := F.s
  have hn := F.n
  clear E F
  generalize (exB L l1 l2 l3 p q r && es.all AnR.ok) = ok at *
  generalize hGG : gradeP L l1 l2 l3 p q r = G at *
  cases ok with
  | false =>
    simp only [Bool.false_eq_true, if_false] at hK
    have HK := Lib.hid hK
    clear hK HG
    go_enter Tryz.func45, Tryz.ntmps45
    go_wp2_with fail
    refine Calls.mono HK.out ?_; rintro e w1 ⟨rfl, hb1⟩
    have hW1 := hW.trans (hb1.mono hW.size)
    go_wp2
    refine bodyPost_ret (v := .tuple #[.int .i64 0, .int .i64 1]) (by simp [results, Tryz.results45, go_sem]) rfl ⟨rfl, (by repeat (first | with_reducible exact hW1 | with_reducible apply below_drewN' | with_reducible apply Below.drew | (with_reducible refine Below.alloc ?_ (by first | omega | (simp; omega) | simp) _) | (with_reducible refine Below.setCell ?_ (by first | omega | (simp; omega) | simp) _) | exact hW1))⟩
  | true =>
    simp only [if_true] at hK
    have HK := Lib.hid hK
    have HG2 := Lib.hid (HG.out rfl)
    clear hK HG
    by_cases h20 : 20 < es.length
    · have hc : scC true es.length = 3 := by unfold scC; rw [if_pos rfl, if_pos h20]
      have hv : scV G true (es.map AnR.fig) = 0 := by unfold scV; rw [List.length_map, hc]; rfl
      rw [hc, hv]
      clear hc hv hG hGG
      have hi : (20 : Int) < (es.length : Int) := by omega
      go_enter Tryz.func45, Tryz.ntmps45
      go_wp2_with fail
      refine Calls.mono HK.out ?_; rintro e w1 ⟨rfl, hb1⟩
      have hW1 := hW.trans (hb1.mono hW.size)
      go_wp2
      refine bodyPost_ret (v := .tuple #[.int .i64 0, .int .i64 3]) (by simp [results, Tryz.results45, go_sem]) rfl ⟨rfl, (by repeat (first | with_reducible exact hW1 | with_reducible apply below_drewN' | with_reducible apply Below.drew | (with_reducible refine Below.alloc ?_ (by first | omega | (simp; omega) | simp) _) | (with_reducible refine Below.setCell ?_ (by first | omega | (simp; omega) | simp) _) | exact hW1))⟩
    · have hc : scC true es.length = 0 := by unfold scC; rw [if_pos rfl, if_neg h20]
      have hv : scV G true (es.map AnR.fig) = scTo G (es.map AnR.fig) es.length := by unfold scV; rw [List.length_map, hc]; rfl
      rw [hc, hv]
      clear hc hv
      have hi : ¬ (20 : Int) < (es.length : Int) := by omega
      have hG := Lib.hid hG
      have hGG := Lib.hid hGG
      go_enter Tryz.func45, Tryz.ntmps45
      go_wp2_with fail
      generalize w.alloc (.cells #[.int .i64 L, .slice A1 l1.length c1, .slice A2 l2.length c2, .slice A3 l3.length c3, .int .i64 p, .int .i64 q, .int .i64 r] 36) = W at *
      refine Calls.mono HK.out ?_; rintro e w1 ⟨rfl, hb1⟩
      have hW1 := hW.trans (hb1.mono hW.size)
      have X1 := X0.below hb1 X0.lt
      clear HK X0 hW hb1
      go_wp2_with fail
      go_loopw [7, 21] (fun s i wr => ∃ k : Nat, k ≤ es.length ∧ i = .int .i64 k ∧ s = .int .i64 (scTo G (es.map AnR.fig) k) ∧ Below w1.heap.size w1 wr) (fun _ i _ => es.length - (intOf i).toNat)
      case atStart => exact ⟨0, Nat.zero_le _, rfl, by rw [scTo_zero], Below.refl _ _⟩
      case round =>
        obtain ⟨k, hk, rfl, rfl, hb⟩ := hrel
        have hWr := hW1.trans (hb.mono hW1.size)
        have Xr := X1.below hb X1.lt
        by_cases hlt : k < es.length
        · obtain ⟨b, off, rfl, hbB, hc⟩ := hs.at_ (i := k) (by simpa using hlt)
          simp only [List.getElem_map] at hc
          have c0 : wr.cell? ⟨b, off + k * 3, none⟩ = some (.slice es[k].A es[k].l.length es[k].c) := by rw [hWr.cell hbB]; exact hc 0 _ rfl
          have c1' : wr.cell? ⟨b, off + k * 3 + 1, none⟩ = some (.int .i64 es[k].a) := by rw [hWr.cell hbB]; exact hc 1 _ rfl
          have c2' : wr.cell? ⟨b, off + k * 3 + 2, none⟩ = some (.int .i64 es[k].b) := by rw [hWr.cell hbB]; exact hc 2 _ rfl
          clear hc
          have hcall := HG2.out es[k] (List.getElem_mem hlt)
          have hnx := Lib.hid (scTo_succ G (l := es.map AnR.fig) (k := k) (by simpa using hlt))
          have hg3 := hG.out ((es.map AnR.fig)[k]'(by simpa using hlt))
          have hbd := scTo_bd hG.out (es.map AnR.fig) (k := k) (by simpa using hk)
          have hek : (es.map AnR.fig)[k]'(by simpa using hlt) = ⟨es[k].a, es[k].b⟩ := by rw [List.getElem_map]; rfl
          rw [hek] at hnx hg3
          clear hek
          generalize scTo G (es.map AnR.fig) k = s at *
          generalize es[k] = ek at *
          obtain ⟨A, d, l, a, b'⟩ := ek
          simp only at *
          generalize G ⟨a, b'⟩ = gr at *
          have hcall := Lib.hid hcall
          have BT := Blk.new wr 67 #[.slice A l.length d, .int .i64 a, .int .i64 b']
          have hba : Below wr.heap.size wr (wr.alloc (.cells #[.slice A l.length d, .int .i64 a, .int .i64 b'] 67)) := (by repeat (first | with_reducible exact Below.refl _ _ | with_reducible apply below_drewN' | with_reducible apply Below.drew | (with_reducible refine Below.alloc ?_ (by first | omega | (simp; omega) | simp) _) | (with_reducible refine Below.setCell ?_ (by first | omega | (simp; omega) | simp) _) | exact Below.refl _ _))
          have hb3 := hb.trans (hba.mono hb.size)
          have hW3 := hWr.trans (hba.mono hWr.size)
          have X3 := Xr.below hba Xr.lt
          have y0 : (wr.alloc (.cells #[.slice A l.length d, .int .i64 a, .int .i64 b'] 67)).cell? ⟨w.heap.size, 0, none⟩ = some (.int .i64 L) := X3.cell 0
          have y1 : (wr.alloc (.cells #[.slice A l.length d, .int .i64 a, .int .i64 b'] 67)).cell? ⟨w.heap.size, 1, none⟩ = some (.slice A1 l1.length c1) := X3.cell 1
          have y2 : (wr.alloc (.cells #[.slice A l.length d, .int .i64 a, .int .i64 b'] 67)).cell? ⟨w.heap.size, 2, none⟩ = some (.slice A2 l2.length c2) := X3.cell 2
          have y3 : (wr.alloc (.cells #[.slice A l.length d, .int .i64 a, .int .i64 b'] 67)).cell? ⟨w.heap.size, 3, none⟩ = some (.slice A3 l3.length c3) := X3.cell 3
          have y4 : (wr.alloc (.cells #[.slice A l.length d, .int .i64 a, .int .i64 b'] 67)).cell? ⟨w.heap.size, 4, none⟩ = some (.int .i64 p) := X3.cell 4
          have y5 : (wr.alloc (.cells #[.slice A l.length d, .int .i64 a, .int .i64 b'] 67)).cell? ⟨w.heap.size, 5, none⟩ = some (.int .i64 q) := X3.cell 5
          have y6 : (wr.alloc (.cells #[.slice A l.length d, .int .i64 a, .int .i64 b'] 67)).cell? ⟨w.heap.size, 6, none⟩ = some (.int .i64 r) := X3.cell 6
          have z0 : (wr.alloc (.cells #[.slice A l.length d, .int .i64 a, .int .i64 b'] 67)).cell? ⟨wr.heap.size, 0, none⟩ = some (.slice A l.length d) := BT.cell 0
          have z1 : (wr.alloc (.cells #[.slice A l.length d, .int .i64 a, .int .i64 b'] 67)).cell? ⟨wr.heap.size, 1, none⟩ = some (.int .i64 a) := BT.cell 1
          have z2 : (wr.alloc (.cells #[.slice A l.length d, .int .i64 a, .int .i64 b'] 67)).cell? ⟨wr.heap.size, 2, none⟩ = some (.int .i64 b') := BT.cell 2
          clear hs HG2 X1 Xr X3 BT
          go_wp2_with fail
          generalize wr.alloc (.cells #[.slice A l.length d, .int .i64 a, .int .i64 b'] 67) = w3 at *
          refine Calls.mono (hcall.out w3 hW3) ?_; rintro e w5 ⟨rfl, hb5⟩
          have hb6 := hb3.trans (hb5.mono hb3.size)
          go_wp2
          go_roundw
          case rel => exact ⟨k + 1, by omega, by go_num, by rw [hnx.out], (by repeat (first | with_reducible exact hb6 | with_reducible apply below_drewN' | with_reducible apply Below.drew | (with_reducible refine Below.alloc ?_ (by first | omega | (simp; omega) | simp) _) | (with_reducible refine Below.setCell ?_ (by first | omega | (simp; omega) | simp) _) | exact hb6))⟩
          case measure => simp [intOf]; omega
        · have : k = es.length := by omega
          subst this
          go_wp2
          refine bodyPost_ret (v := .tuple #[.int .i64 (scTo G (es.map AnR.fig) es.length), .int .i64 0]) (by simp [results, Tryz.results45, go_sem]) rfl ⟨rfl, (by repeat (first | with_reducible exact hWr | with_reducible apply below_drewN' | with_reducible apply Below.drew | (with_reducible refine Below.alloc ?_ (by first | omega | (simp; omega) | simp) _) | (with_reducible refine Below.setCell ?_ (by first | omega | (simp; omega) | simp) _) | exact hWr))⟩
set_option maxRecDepth 100000 in
set_option maxHeartbeats 2000000 in
theorem specScoreOf_c (L : Int) (A1 : Option Addr) (c1 : Nat) (l1 : List Int) (A2 : Option Addr) (c2 : Nat) (l2 : List Int) (A3 : Option Addr) (c3 : Nat) (l3 : List Term) (p q r : Int) (A : Option Addr) (c : Nat) (es : List AnR) (w : World) (E : ExIn w A1 c1 l1 A2 c2 l2 A3 c3 l3) (F : AnsIn w A es) :
    Calls Tryz.prog 43 #[.agg #[.int .i64 L, .slice A1 l1.length c1, .slice A2 l2.length c2, .slice A3 l3.length c3, .int .i64 p, .int .i64 q, .int .i64 r], .slice A es.length c] w fun e w' => e = .returned (.tuple #[.int .i64 (scV (gradeP L l1 l2 l3 p q r) (exB L l1 l2 l3 p q r && es.all AnR.ok) (es.map AnR.fig)), .int .i64 (scC (exB L l1 l2 l3 p q r && es.all AnR.ok) es.length)]) ∧ Below w.heap.size w w' := by
  have hW : Below w.heap.size w (w.alloc (.cells #[.int .i64 L, .slice A1 l1.length c1, .slice A2 l2.length c2, .slice A3 l3.length c3, .int .i64 p, .int .i64 q, .int .i64 r] 36)) := (by repeat (first | with_reducible exact Below.refl _ _ | with_reducible apply below_drewN' | with_reducible apply Below.drew | (with_reducible refine Below.alloc ?_ (by first | omega | (simp; omega) | simp) _) | (with_reducible refine Below.setCell ?_ (by first | omega | (simp; omega) | simp) _) | exact Below.refl _ _))
  have X0 := Blk.new w 36 #[.int .i64 L, .slice A1 l1.length c1, .slice A2 l2.length c2, .slice A3 l3.length c3, .int .i64 p, .int .i64 q, .int .i64 r]
  have HX := Lib.hid (specIsExercise_c L A1 c1 l1 A2 c2 l2 A3 c3 l3 p q r _ (E.later hW))
  have HA : Hid (∀ e ∈ es, ∀ W, Below w.heap.size w W → Calls Tryz.prog 86 #[.agg #[.slice e.A e.l.length e.c, .int .i64 e.a, .int .i64 e.b]] W fun x w' => x = .returned (.bool e.ok) ∧ Below W.heap.size W w') := fun e he W hW => l31Answer_c e.A e.c e.l e.a e.b W (AnIn.later (F.i e he) hW)
  have hG := gradeP_bd L l1 l2 l3 p q r
  have HG : Hid ((exB L l1 l2 l3 p q r && es.all AnR.ok) = true → ∀ e ∈ es, ∀ W, Below w.heap.size w W → _) := fun h e he W hW => l31Grade_c L A1 c1 l1 A2 c2 l2 A3 c3 l3 p q r e.A e.l.length e.c e.a e.b W (E.later hW) (Bool.and_eq_true _ _ ▸ h : _ ∧ _).1 (ans_fig (List.all_eq_true.1 (Bool.and_eq_true _ _ ▸ h : _ ∧ _).2 e he))
  have hs := F.s
  have hn := F.n
  clear E F
  generalize exB L l1 l2 l3 p q r = xb at *
  generalize hGG : gradeP L l1 l2 l3 p q r = G at *
  have hGG := Lib.hid hGG
  have hG := Lib.hid hG
  go_enter Tryz.func43, Tryz.ntmps43
  go_wp2_with fail
  generalize w.alloc (.cells #[.int .i64 L, .slice A1 l1.length c1, .slice A2 l2.length c2, .slice A3 l3.length c3, .int .i64 p, .int .i64 q, .int .i64 r] 36) = W at *
  refine Calls.mono HX.out ?_; rintro e w1 ⟨rfl, hb1⟩
  have hW1 := hW.trans (hb1.mono hW.size)
  have X1 := X0.below hb1 X0.lt
  clear HX X0 hW hb1
  go_wp2_with fail
  go_loopw [6, 7] (fun u i wr => ∃ k : Nat, k ≤ es.length ∧ i = .int .i64 k ∧ u = .bool (xb && (es.take k).all AnR.ok) ∧ Below w1.heap.size w1 wr) (fun _ i _ => es.length - (intOf i).toNat)
  case atStart => exact ⟨0, Nat.zero_le _, rfl, by simp, Below.refl _ _⟩
  case round =>
    obtain ⟨k, hk, rfl, hu, hb⟩ := hrel
    have hWr := hW1.trans (hb.mono hW1.size)
    have Xr := X1.below hb X1.lt
    by_cases hlt : k < es.length
    · obtain ⟨b, off, rfl, hbB, hc⟩ := hs.at_ (i := k) (by simpa using hlt)
      simp only [List.getElem_map] at hc
      have c0 : wr.cell? ⟨b, off + k * 3, none⟩ = some (.slice es[k].A es[k].l.length es[k].c) := by rw [hWr.cell hbB]; exact hc 0 _ rfl
      have c1' : wr.cell? ⟨b, off + k * 3 + 1, none⟩ = some (.int .i64 es[k].a) := by rw [hWr.cell hbB]; exact hc 1 _ rfl
      have c2' : wr.cell? ⟨b, off + k * 3 + 2, none⟩ = some (.int .i64 es[k].b) := by rw [hWr.cell hbB]; exact hc 2 _ rfl
      clear hc
      have hcall := HA.out es[k] (List.getElem_mem hlt) wr hWr
      have hnx : (xb && (es.take (k + 1)).all AnR.ok) = ((xb && (es.take k).all AnR.ok) && es[k].ok) := by rw [List.take_succ_eq_append_getElem hlt, List.all_append, ← Bool.and_assoc]; simp
      have hnx := Lib.hid hnx
      subst hu
      generalize (xb && (es.take k).all AnR.ok) = u at *
      generalize es[k].ok = o at *
      generalize es[k] = ek at *
      have hcall := Lib.hid hcall
      clear hs HA HG X1 Xr
      cases u with
      | true =>
        go_wp2_with (go_at_call 86; refine Calls.mono hcall.out ?_; rintro e w5 ⟨rfl, hb5⟩; have hb6 := hb.trans (hb5.mono hb.size))
        go_roundw
        case rel => exact ⟨k + 1, by omega, by go_num, by rw [hnx.out]; rfl, (by repeat (first | with_reducible exact hb6 | with_reducible apply below_drewN' | with_reducible apply Below.drew | (with_reducible refine Below.alloc ?_ (by first | omega | (simp; omega) | simp) _) | (with_reducible refine Below.setCell ?_ (by first | omega | (simp; omega) | simp) _) | exact hb6))⟩
        case measure => simp [intOf]; omega
      | false =>
        go_wp2
        go_roundw
        case rel => exact ⟨k + 1, by omega, by go_num, by rw [hnx.out]; rfl, (by repeat (first | with_reducible exact hb | with_reducible apply below_drewN' | with_reducible apply Below.drew | (with_reducible refine Below.alloc ?_ (by first | omega | (simp; omega) | simp) _) | (with_reducible refine Below.setCell ?_ (by first | omega | (simp; omega) | simp) _) | exact hb))⟩
        case measure => simp [intOf]; omega
    · have : k = es.length := by omega
      subst this
      rw [List.take_length] at hu
      clear HA
      cases hok : (xb && es.all AnR.ok) with
      | false =>
        rw [hok] at hu
        subst hu
        have HOK := Lib.hid hok
        clear hok HG
        go_wp2
        refine bodyPost_ret (v := .tuple #[.int .i64 0, .int .i64 1]) (by simp [results, Tryz.results43, go_sem]) rfl ⟨by rw [HOK.out]; rfl, (by repeat (first | with_reducible exact hWr | with_reducible apply below_drewN' | with_reducible apply Below.drew | (with_reducible refine Below.alloc ?_ (by first | omega | (simp; omega) | simp) _) | (with_reducible refine Below.setCell ?_ (by first | omega | (simp; omega) | simp) _) | exact hWr))⟩
      | true =>
        rw [hok] at hu
        subst hu
        have HG2 := Lib.hid (HG.out hok)
        have HOK := Lib.hid hok
        clear hok HG
        by_cases h20 : 20 < es.length
        · have hc : Hid (scC true es.length = 3) := by unfold Hid scC; rw [if_pos rfl, if_pos h20]
          have hv : Hid (scV G true (es.map AnR.fig) = 0) := by unfold Hid scV; rw [List.length_map, hc.out]; rfl
          have hi : (20 : Int) < (es.length : Int) := by omega
          go_wp2
          refine bodyPost_ret (v := .tuple #[.int .i64 0, .int .i64 3]) (by simp [results, Tryz.results43, go_sem]) rfl ⟨by rw [HOK.out, hc.out, hv.out], (by repeat (first | with_reducible exact hWr | with_reducible apply below_drewN' | with_reducible apply Below.drew | (with_reducible refine Below.alloc ?_ (by first | omega | (simp; omega) | simp) _) | (with_reducible refine Below.setCell ?_ (by first | omega | (simp; omega) | simp) _) | exact hWr))⟩
        · have hc : Hid (scC true es.length = 0) := by unfold Hid scC; rw [if_pos rfl, if_neg h20]
          have hv : Hid (scV G true (es.map AnR.fig) = scTo G (es.map AnR.fig) es.length) := by unfold Hid scV; rw [List.length_map, hc.out]; rfl
          have hi : ¬ (20 : Int) < (es.length : Int) := by omega
          have hW2 := hWr
          have X2 := Xr
          generalize wr = w2 at *
          clear hb hWr Xr X1 hW1
          go_wp2_with fail
          go_loopw [8, 9] (fun s i wr => ∃ k : Nat, k ≤ es.length ∧ i = .int .i64 k ∧ s = .int .i64 (scTo G (es.map AnR.fig) k) ∧ Below w2.heap.size w2 wr) (fun _ i _ => es.length - (intOf i).toNat)
          case atStart => exact ⟨0, Nat.zero_le _, rfl, by rw [scTo_zero], Below.refl _ _⟩
          case round =>
            obtain ⟨k, hk, rfl, rfl, hb⟩ := hrel
            have hWr := hW2.trans (hb.mono hW2.size)
            have Xr := X2.below hb X2.lt
            by_cases hlt : k < es.length
            · obtain ⟨b, off, rfl, hbB, hc'⟩ := hs.at_ (i := k) (by simpa using hlt)
              simp only [List.getElem_map] at hc'
              have HCE : ∀ (v : World), Below wr.heap.size wr v → ∀ j u, es[k].cells[j]? = some u → v.cell? ⟨b, off + k * 3 + j, none⟩ = some u := fun v hv j u h => by rw [hv.cell (Nat.lt_of_lt_of_le hbB hWr.size), hWr.cell hbB]; exact hc' j u h
              clear hc'
              have hcall := HG2.out es[k] (List.getElem_mem hlt)
              have hnx := Lib.hid (scTo_succ G (l := es.map AnR.fig) (k := k) (by simpa using hlt))
              have hg3 := hG.out ((es.map AnR.fig)[k]'(by simpa using hlt))
              have hbd := scTo_bd hG.out (es.map AnR.fig) (k := k) (by simpa using hk)
              have hek : (es.map AnR.fig)[k]'(by simpa using hlt) = ⟨es[k].a, es[k].b⟩ := by rw [List.getElem_map]; rfl
              rw [hek] at hnx hg3
              clear hek
              generalize scTo G (es.map AnR.fig) k = s at *
              generalize es[k] = ek at *
              obtain ⟨A, d, l, a, b'⟩ := ek
              simp only at *
              generalize G ⟨a, b'⟩ = gr at *
              obtain ⟨hg1, hg2⟩ := hg3
              obtain ⟨hd1, hd2⟩ := hbd
              have k0 : (0 : Int) ≤ (k : Int) := by omega
              have kl : (k : Int) < (es.length : Int) := by omega
              have hcall := Lib.hid hcall
              have HCE := Lib.hid HCE
              clear hs HG2
              have hw : IntKind.i64.wrap (s + 3) = s + 3 := IntWalk.i64_in _ (by omega)
              go_wp2_with fail
              refine wp_region_sink 8 (fun a0 fL bA v => ∃ v37 v38 v39 v40 v41 v42 v43 v44 : Value, bA = (((((((a0.put (some 37) v37).put (some 38) v38).put (some 39) v39).put (some 40) v40).put (some 41) v41).put (some 42) v42).put (some 43) v43).put (some 44) v44 ∧ (Below wr.heap.size wr v) ∧ (fL 0 = true → v37 = .int .i64 s) ∧ (fL 1 = true → v38 = .int .i64 (s + 3)) ∧ (fL 2 = true → v39 = .agg #[.int .i64 L, .slice A1 l1.length c1, .slice A2 l2.length c2, .slice A3 l3.length c3, .int .i64 p, .int .i64 q, .int .i64 r]) ∧ (fL 3 = true → v40 = .slice (some ⟨b, off, none⟩) es.length c) ∧ (fL 4 = true → v41 = .int .i64 k) ∧ (fL 5 = true → v42 = .pointer (some ⟨b, off + k * 3, none⟩)) ∧ (fL 6 = true → v43 = .agg #[.slice A l.length d, .int .i64 a, .int .i64 b']) ∧ (fL 7 = true → v44 = .int .i64 gr)) (by kernel_rfl) (by decide +kernel) ?_ ?_ ?_
              · exact ⟨_, _, _, _, _, _, _, _, put_more (put_more (put_more (put_more (put_more (put_more (put_more (put_more (rfl) 37) 38) 39) 40) 41) 42) 43) 44, (Below.refl _ _).drew, nofun, nofun, nofun, nofun, nofun, nofun, nofun, nofun⟩
              · rintro fL bA v ⟨v37, v38, v39, v40, v41, v42, v43, v44, rfl, hS, q0, q1, q2, q3, q4, q5, q6, q7⟩ i hi hf o ho hall
                simp only [Act.put, List.setIfInBounds_toArray, List.set_cons_zero, List.set_cons_succ]
                have hn : i = 0 ∨ i = 1 ∨ i = 2 ∨ i = 3 ∨ i = 4 ∨ i = 5 ∨ i = 6 ∨ i = 7 := by omega
                clear hi
                rcases hn with rfl | rfl | rfl | rfl | rfl | rfl | rfl | rfl
                · obtain rfl := Option.some.inj ho
                  clear hall ho
                  refine wpOp_step rfl (fun K hK => ?_)
                  go_simp
                  exact hK _ _ ⟨_, _, _, _, _, _, _, _, rfl, hS, fun _ => rfl, q1, q2, q3, q4, q5, q6, q7⟩
                · obtain rfl := Option.some.inj ho
                  obtain rfl := q0 (hall ⟨0, .data⟩ (by simp) rfl)
                  clear hall ho
                  refine wpOp_step rfl (fun K hK => ?_)
                  go_simp
                  exact hK _ _ ⟨_, _, _, _, _, _, _, _, rfl, hS, fun _ => rfl, fun _ => rfl, q2, q3, q4, q5, q6, q7⟩
                · obtain rfl := Option.some.inj ho
                  have FF := Xr.below hS Xr.lt
                  have y0 : v.cell? ⟨w.heap.size, 0, none⟩ = some (.int .i64 L) := FF.cell 0
                  have y1 : v.cell? ⟨w.heap.size, 1, none⟩ = some (.slice A1 l1.length c1) := FF.cell 1
                  have y2 : v.cell? ⟨w.heap.size, 2, none⟩ = some (.slice A2 l2.length c2) := FF.cell 2
                  have y3 : v.cell? ⟨w.heap.size, 3, none⟩ = some (.slice A3 l3.length c3) := FF.cell 3
                  have y4 : v.cell? ⟨w.heap.size, 4, none⟩ = some (.int .i64 p) := FF.cell 4
                  have y5 : v.cell? ⟨w.heap.size, 5, none⟩ = some (.int .i64 q) := FF.cell 5
                  have y6 : v.cell? ⟨w.heap.size, 6, none⟩ = some (.int .i64 r) := FF.cell 6
                  clear hall ho
                  refine wpOp_step rfl (fun K hK => ?_)
                  go_simp
                  exact hK _ _ ⟨_, _, _, _, _, _, _, _, rfl, hS, q0, q1, fun _ => rfl, q3, q4, q5, q6, q7⟩
                · obtain rfl := Option.some.inj ho
                  clear hall ho
                  refine wpOp_step rfl (fun K hK => ?_)
                  go_simp
                  exact hK _ _ ⟨_, _, _, _, _, _, _, _, rfl, hS, q0, q1, q2, fun _ => rfl, q4, q5, q6, q7⟩
                · obtain rfl := Option.some.inj ho
                  clear hall ho
                  refine wpOp_step rfl (fun K hK => ?_)
                  go_simp
                  exact hK _ _ ⟨_, _, _, _, _, _, _, _, rfl, hS, q0, q1, q2, q3, fun _ => rfl, q5, q6, q7⟩
                · obtain rfl := Option.some.inj ho
                  obtain rfl := q3 (hall ⟨3, .data⟩ (by simp) rfl)
                  obtain rfl := q4 (hall ⟨4, .data⟩ (by simp) rfl)
                  clear hall ho
                  refine wpOp_step rfl (fun K hK => ?_)
                  go_simp
                  exact hK _ _ ⟨_, _, _, _, _, _, _, _, rfl, hS, q0, q1, q2, fun _ => rfl, fun _ => rfl, fun _ => rfl, q6, q7⟩
                · obtain rfl := Option.some.inj ho
                  obtain rfl := q5 (hall ⟨5, .data⟩ (by simp) rfl)
                  have y0 : v.cell? ⟨b, off + k * 3, none⟩ = some (.slice A l.length d) := HCE.out v hS 0 _ rfl
                  have y1 : v.cell? ⟨b, off + k * 3 + 1, none⟩ = some (.int .i64 a) := HCE.out v hS 1 _ rfl
                  have y2 : v.cell? ⟨b, off + k * 3 + 2, none⟩ = some (.int .i64 b') := HCE.out v hS 2 _ rfl
                  clear hall ho
                  refine wpOp_step rfl (fun K hK => ?_)
                  go_simp
                  exact hK _ _ ⟨_, _, _, _, _, _, _, _, rfl, hS, q0, q1, q2, q3, q4, fun _ => rfl, fun _ => rfl, q7⟩
                · obtain rfl := Option.some.inj ho
                  obtain rfl := q2 (hall ⟨2, .data⟩ (by simp) rfl)
                  obtain rfl := q6 (hall ⟨6, .data⟩ (by simp) rfl)
                  clear hall ho
                  refine wpOp_step rfl (fun K hK => ?_)
                  go_simp
                  refine Calls.mono (hcall.out v (hWr.trans (hS.mono hWr.size))) ?_; rintro e w1 ⟨rfl, hb1⟩
                  go_simp
                  exact hK _ _ ⟨_, _, _, _, _, _, _, _, rfl, hS.trans (hb1.mono hS.size), q0, q1, fun _ => rfl, q3, q4, q5, fun _ => rfl, fun _ => rfl⟩
              · rintro fL bA v ⟨v37, v38, v39, v40, v41, v42, v43, v44, rfl, hS, q0, q1, q2, q3, q4, q5, q6, q7⟩ hall
                simp only [Act.put, List.setIfInBounds_toArray, List.set_cons_zero, List.set_cons_succ]
                obtain rfl := q0 (hall 0 (by omega))
                obtain rfl := q1 (hall 1 (by omega))
                obtain rfl := q2 (hall 2 (by omega))
                obtain rfl := q3 (hall 3 (by omega))
                obtain rfl := q4 (hall 4 (by omega))
                obtain rfl := q5 (hall 5 (by omega))
                obtain rfl := q6 (hall 6 (by omega))
                obtain rfl := q7 (hall 7 (by omega))
                clear hall
                simp only [List.drop_succ_cons, List.drop_zero]
                have hbv := hb.trans (hS.mono hb.size)
                go_wp2
                go_roundw
                case rel => exact ⟨k + 1, by omega, by go_num, by rw [hnx.out]; exact congrArg (Value.int .i64) (by omega), (by repeat (first | with_reducible exact hbv | with_reducible apply below_drewN' | with_reducible apply Below.drew | (with_reducible refine Below.alloc ?_ (by first | omega | (simp; omega) | simp) _) | (with_reducible refine Below.setCell ?_ (by first | omega | (simp; omega) | simp) _) | exact hbv))⟩
                case measure => simp [intOf]; omega
            · have : k = es.length := by omega
              subst this
              go_wp2
              refine bodyPost_ret (v := .tuple #[.int .i64 (scTo G (es.map AnR.fig) es.length), .int .i64 0]) (by simp [results, Tryz.results43, go_sem]) rfl ⟨by rw [HOK.out, hc.out, hv.out], (by repeat (first | with_reducible exact hWr | with_reducible apply below_drewN' | with_reducible apply Below.drew | (with_reducible refine Below.alloc ?_ (by first | omega | (simp; omega) | simp) _) | (with_reducible refine Below.setCell ?_ (by first | omega | (simp; omega) | simp) _) | exact hWr))⟩
end Go.Proofs.YtgkobjpoeajkdaaGreat
