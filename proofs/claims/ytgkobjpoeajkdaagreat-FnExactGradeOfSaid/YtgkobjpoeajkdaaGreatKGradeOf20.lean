/- The grade of an answer: the program's and the reference's. Conditions: the exercise is valid, and the answer's figure. GradeOf of the program and of the reference. Conditions: the lists' lengths. FnExactGradeOf: the walk. Conditions: what an argument always is. -/
import Derived.Test.YtgkobjpoeajkdaaGreatKGradeOf16
import Derived.Test.YtgkobjpoeajkdaaGreatKGradeOf17
import Derived.Test.YtgkobjpoeajkdaaGreatKGradeOf19
namespace Go.Proofs.YtgkobjpoeajkdaaGreat
open Go.RowKit
/-- the grade of a figure -/
def gradeP (L : Int) (l1 l2 : List Int) (l : List Term) (p q r : Int) (f : Figure) : Int :=
  if (decide ((chainFig l).2 = 0) && (decide ((chainFig l).1.digits = f.digits) && decide ((chainFig l).1.tens = f.tens))) = true then 0
  else if (leF (exLoF L l1 l2 l p q r) f && leF f (exHiF L l1 l2 l p q r)) = true then 1
  else if withinP (exLoF L l1 l2 l p q r) (exHiF L l1 l2 l p q r) f.digits = true then 2 else 3
theorem gradeP_bd (L : Int) (l1 l2 : List Int) (l : List Term) (p q r : Int) (f : Figure) : 0 ≤ gradeP L l1 l2 l p q r f ∧ gradeP L l1 l2 l p q r f ≤ 3 := by
  unfold gradeP
  split
  · omega
  · split
    · omega
    · split <;> omega
/-- the boxes of an exercise and an answer -/
structure GrS (w0 : World) (L : Int) (A1 : Option Addr) (n1 c1 : Nat) (A2 : Option Addr) (n2 c2 : Nat) (A3 : Option Addr) (n3 c3 : Nat) (p q r : Int) (A : Option Addr) (n c : Nat) (a b : Int) (v : World) : Prop where
  hb : Below w0.heap.size w0 v
  bx : Blk v w0.heap.size 36 #[.int .i64 L, .slice A1 n1 c1, .slice A2 n2 c2, .slice A3 n3 c3, .int .i64 p, .int .i64 q, .int .i64 r]
  ba : Blk v (w0.heap.size + 1) 67 #[.slice A n c, .int .i64 a, .int .i64 b]
section
variable {w0 v v' : World} {L : Int} {A1 : Option Addr} {n1 c1 : Nat} {A2 : Option Addr} {n2 c2 : Nat} {A3 : Option Addr} {n3 c3 : Nat} {p q r : Int} {A : Option Addr} {n c : Nat} {a b : Int}
theorem GrS.below (h : GrS w0 L A1 n1 c1 A2 n2 c2 A3 n3 c3 p q r A n c a b v) (hb : Below v.heap.size v v') : GrS w0 L A1 n1 c1 A2 n2 c2 A3 n3 c3 p q r A n c a b v' :=
  ⟨h.hb.trans (hb.mono h.hb.size), h.bx.below hb h.bx.lt, h.ba.below hb h.ba.lt⟩
theorem GrS.init : GrS w0 L A1 n1 c1 A2 n2 c2 A3 n3 c3 p q r A n c a b ((w0.alloc (.cells #[.int .i64 L, .slice A1 n1 c1, .slice A2 n2 c2, .slice A3 n3 c3, .int .i64 p, .int .i64 q, .int .i64 r] 36)).alloc (.cells #[.slice A n c, .int .i64 a, .int .i64 b] 67)) :=
  ⟨(by repeat (first | with_reducible exact Below.refl _ _ | with_reducible apply below_drewN' | with_reducible apply Below.drew | (with_reducible refine Below.alloc ?_ (by first | omega | (simp; omega) | simp) _) | (with_reducible refine Below.setCell ?_ (by first | omega | (simp; omega) | simp) _) | exact Below.refl _ _)), (Blk.new _ _ _).alloc _, Blk.new' _ _ _ (by simp)⟩
end
set_option maxRecDepth 100000 in
set_option maxHeartbeats 4000000 in
theorem gradeOf_c (L : Int) (A1 : Option Addr) (c1 : Nat) (l1 : List Int) (A2 : Option Addr) (c2 : Nat) (l2 : List Int) (A3 : Option Addr) (c3 : Nat) (l3 : List Term) (p q r : Int) (A : Option Addr) (n c : Nat) (a b : Int) (w : World) (E : ExIn w A1 c1 l1 A2 c2 l2 A3 c3 l3) (hx : exB L l1 l2 l3 p q r = true) (hf : figOK ⟨a, b⟩ = true) :
    Calls Tryz.prog 95 #[.agg #[.int .i64 L, .slice A1 l1.length c1, .slice A2 l2.length c2, .slice A3 l3.length c3, .int .i64 p, .int .i64 q, .int .i64 r], .agg #[.slice A n c, .int .i64 a, .int .i64 b]] w fun e w' => e = .returned (.int .i64 (gradeP L l1 l2 l3 p q r ⟨a, b⟩)) ∧ Below w.heap.size w w' := by
  have hGt : Tryz.prog.eqGuardType Tryz.prog.depth 65 = false := by kernel_rfl
  obtain ⟨x1, x2, x3, x4, x5⟩ := ex_parts hx
  obtain ⟨b1, b2, b3, b4, b5⟩ := bound_parts x1
  have hW := fun (W : World) (hW : Below w.heap.size w W) => implIsWithin_c L A1 c1 l1 A2 c2 l2 A3 c3 l3 p q r ⟨a, b⟩ W (E.later hW) hx hf
  have hC := fun (W : World) (hW : Below w.heap.size w W) => implChainFigure_c A3 c3 l3 W b2 E.k3 (E.later hW).s3
  have hP := fun (W : World) (hW : Below w.heap.size w W) => planSpan_c L A1 c1 l1 A2 c2 l2 A3 c3 l3 p q r W ((E.later hW).rule b3 b4) b2 E.k3 (E.later hW).s3 (ruleB_len b1) b5
  rw [spanR_form, x5] at hP
  obtain ⟨y1, y2, y3⟩ := ex_ok x1
  rw [← y1, ← y2] at hP
  clear y1 y2 y3
  have hL := fun (W : World) => lies_c ⟨a, b⟩ (exLoF L l1 l2 l3 p q r) (exHiF L l1 l2 l3 p q r) W
  have HG : Hid (gradeP L l1 l2 l3 p q r ⟨a, b⟩ = _) := rfl
  unfold gradeP at HG
  unfold gradeP
  clear E hx hf x1 x2 x3 x4 x5 b1 b2 b3 b4 b5
  generalize exLoF L l1 l2 l3 p q r = lo at *
  generalize exHiF L l1 l2 l3 p q r = hi at *
  simp only at hW
  generalize withinP lo hi a = u2 at *
  generalize (leF lo ⟨a, b⟩ && leF ⟨a, b⟩ hi) = u1 at *
  generalize chainFig l3 = cf at *
  obtain ⟨ld, lt⟩ := lo
  obtain ⟨hd, ht⟩ := hi
  obtain ⟨⟨cd, ct⟩, cc⟩ := cf
  clear HG
  unfold Figure.agg at *
  simp only at *
  have HQ := fun W => eqFig cd ct a b W
  have HC := fun W h => Lib.hid (hC W h)
  have HP := fun W h => Lib.hid (hP W h)
  have HW := fun W h => Lib.hid (hW W h)
  have HL := fun W => Lib.hid (hL W)
  clear hC hP hW hL
  have hS0 : GrS w L A1 l1.length c1 A2 l2.length c2 A3 l3.length c3 p q r A n c a b _ := GrS.init
  generalize hu : (decide (cd = a) && decide (ct = b)) = u at *
  clear hu
  by_cases h0 : cc = 0
  · have hd0 : decide (cc = 0) = true := decide_eq_true h0
    rw [hd0]
    subst h0
    clear hd0
    cases u with
    | true =>
      simp only [Bool.and_self, if_true]
      go_enter Tryz.func95, Tryz.ntmps95
      go_wp2_with fail
      generalize ((w.alloc (.cells #[.int .i64 L, .slice A1 l1.length c1, .slice A2 l2.length c2, .slice A3 l3.length c3, .int .i64 p, .int .i64 q, .int .i64 r] 36)).alloc (.cells #[.slice A n c, .int .i64 a, .int .i64 b] 67)) = W at *
      refine Calls.mono (HC W hS0.hb).out ?_; rintro e w1 ⟨rfl, hb1⟩
      have hS1 := (hS0.below hb1).below ((by repeat (first | with_reducible exact Below.refl _ _ | with_reducible apply below_drewN' | with_reducible apply Below.drew | (with_reducible refine Below.alloc ?_ (by first | omega | (simp; omega) | simp) _) | (with_reducible refine Below.setCell ?_ (by first | omega | (simp; omega) | simp) _) | exact Below.refl _ _)) : Below w1.heap.size w1 (w1.alloc (.cells #[.int .i64 cd, .int .i64 ct] 65)))
      have C1 := Blk.new w1 65 #[.int .i64 cd, .int .i64 ct]
      have y0 : (w1.alloc (.cells #[.int .i64 cd, .int .i64 ct] 65)).cell? ⟨w1.heap.size, 0, none⟩ = some (.int .i64 cd) := C1.cell 0
      have y1 : (w1.alloc (.cells #[.int .i64 cd, .int .i64 ct] 65)).cell? ⟨w1.heap.size, 1, none⟩ = some (.int .i64 ct) := C1.cell 1
      have z0 : (w1.alloc (.cells #[.int .i64 cd, .int .i64 ct] 65)).cell? ⟨w.heap.size + 1, 1, none⟩ = some (.int .i64 a) := hS1.ba.cell 1
      have z1 : (w1.alloc (.cells #[.int .i64 cd, .int .i64 ct] 65)).cell? ⟨w.heap.size + 1, 2, none⟩ = some (.int .i64 b) := hS1.ba.cell 2
      have hb := hS1.hb
      go_wp2
      go_ret
      exact ⟨rfl, (by repeat (first | with_reducible exact hb | with_reducible apply below_drewN' | with_reducible apply Below.drew | (with_reducible refine Below.alloc ?_ (by first | omega | (simp; omega) | simp) _) | (with_reducible refine Below.setCell ?_ (by first | omega | (simp; omega) | simp) _) | exact hb))⟩
    | false =>
      simp only [Bool.and_false, Bool.false_eq_true, if_false]
      go_enter Tryz.func95, Tryz.ntmps95
      go_wp2_with fail
      generalize ((w.alloc (.cells #[.int .i64 L, .slice A1 l1.length c1, .slice A2 l2.length c2, .slice A3 l3.length c3, .int .i64 p, .int .i64 q, .int .i64 r] 36)).alloc (.cells #[.slice A n c, .int .i64 a, .int .i64 b] 67)) = W at *
      refine Calls.mono (HC W hS0.hb).out ?_; rintro e w1 ⟨rfl, hb1⟩
      have hS1 := (hS0.below hb1).below ((by repeat (first | with_reducible exact Below.refl _ _ | with_reducible apply below_drewN' | with_reducible apply Below.drew | (with_reducible refine Below.alloc ?_ (by first | omega | (simp; omega) | simp) _) | (with_reducible refine Below.setCell ?_ (by first | omega | (simp; omega) | simp) _) | exact Below.refl _ _)) : Below w1.heap.size w1 (w1.alloc (.cells #[.int .i64 cd, .int .i64 ct] 65)))
      have C1 := Blk.new w1 65 #[.int .i64 cd, .int .i64 ct]
      have k0 : (w1.alloc (.cells #[.int .i64 cd, .int .i64 ct] 65)).cell? ⟨w1.heap.size, 0, none⟩ = some (.int .i64 cd) := C1.cell 0
      have k1 : (w1.alloc (.cells #[.int .i64 cd, .int .i64 ct] 65)).cell? ⟨w1.heap.size, 1, none⟩ = some (.int .i64 ct) := C1.cell 1
      have z0 : (w1.alloc (.cells #[.int .i64 cd, .int .i64 ct] 65)).cell? ⟨w.heap.size + 1, 1, none⟩ = some (.int .i64 a) := hS1.ba.cell 1
      have z1 : (w1.alloc (.cells #[.int .i64 cd, .int .i64 ct] 65)).cell? ⟨w.heap.size + 1, 2, none⟩ = some (.int .i64 b) := hS1.ba.cell 2
      have y0 : (w1.alloc (.cells #[.int .i64 cd, .int .i64 ct] 65)).cell? ⟨w.heap.size, 0, none⟩ = some (.int .i64 L) := hS1.bx.cell 0
      have y1 : (w1.alloc (.cells #[.int .i64 cd, .int .i64 ct] 65)).cell? ⟨w.heap.size, 1, none⟩ = some (.slice A1 l1.length c1) := hS1.bx.cell 1
      have y2 : (w1.alloc (.cells #[.int .i64 cd, .int .i64 ct] 65)).cell? ⟨w.heap.size, 2, none⟩ = some (.slice A2 l2.length c2) := hS1.bx.cell 2
      have y3 : (w1.alloc (.cells #[.int .i64 cd, .int .i64 ct] 65)).cell? ⟨w.heap.size, 3, none⟩ = some (.slice A3 l3.length c3) := hS1.bx.cell 3
      have y4 : (w1.alloc (.cells #[.int .i64 cd, .int .i64 ct] 65)).cell? ⟨w.heap.size, 4, none⟩ = some (.int .i64 p) := hS1.bx.cell 4
      have y5 : (w1.alloc (.cells #[.int .i64 cd, .int .i64 ct] 65)).cell? ⟨w.heap.size, 5, none⟩ = some (.int .i64 q) := hS1.bx.cell 5
      have y6 : (w1.alloc (.cells #[.int .i64 cd, .int .i64 ct] 65)).cell? ⟨w.heap.size, 6, none⟩ = some (.int .i64 r) := hS1.bx.cell 6
      go_wp2_with fail
      generalize (w1.alloc (.cells #[.int .i64 cd, .int .i64 ct] 65)) = w2 at *
      refine Calls.mono (HP _ hS1.hb).out ?_; rintro e w3 ⟨rfl, hb3⟩
      have hS3 := (hS1.below hb3).below ((by repeat (first | with_reducible exact Below.refl _ _ | with_reducible apply below_drewN' | with_reducible apply Below.drew | (with_reducible refine Below.alloc ?_ (by first | omega | (simp; omega) | simp) _) | (with_reducible refine Below.setCell ?_ (by first | omega | (simp; omega) | simp) _) | exact Below.refl _ _)) : Below w3.heap.size w3 ((w3.alloc (.cells #[.int .i64 ld, .int .i64 lt] 65)).alloc (.cells #[.int .i64 hd, .int .i64 ht] 65)))
      clear y0 y1 y2 y3 y4 y5 y6 z0 z1 k0 k1 C1 hS1 hb3
      have M0 := (Blk.new w3 65 #[.int .i64 ld, .int .i64 lt]).alloc (.cells #[.int .i64 hd, .int .i64 ht] 65)
      have M1 := Blk.new' (w3.alloc (.cells #[.int .i64 ld, .int .i64 lt] 65)) 65 #[.int .i64 hd, .int .i64 ht] (g := w3.heap.size + 1) (by simp)
      have m0 : ((w3.alloc (.cells #[.int .i64 ld, .int .i64 lt] 65)).alloc (.cells #[.int .i64 hd, .int .i64 ht] 65)).cell? ⟨w3.heap.size, 0, none⟩ = some (.int .i64 ld) := M0.cell 0
      have m1 : ((w3.alloc (.cells #[.int .i64 ld, .int .i64 lt] 65)).alloc (.cells #[.int .i64 hd, .int .i64 ht] 65)).cell? ⟨w3.heap.size, 1, none⟩ = some (.int .i64 lt) := M0.cell 1
      have m2 : ((w3.alloc (.cells #[.int .i64 ld, .int .i64 lt] 65)).alloc (.cells #[.int .i64 hd, .int .i64 ht] 65)).cell? ⟨w3.heap.size + 1, 0, none⟩ = some (.int .i64 hd) := M1.cell 0
      have m3 : ((w3.alloc (.cells #[.int .i64 ld, .int .i64 lt] 65)).alloc (.cells #[.int .i64 hd, .int .i64 ht] 65)).cell? ⟨w3.heap.size + 1, 1, none⟩ = some (.int .i64 ht) := M1.cell 1
      have z0 : ((w3.alloc (.cells #[.int .i64 ld, .int .i64 lt] 65)).alloc (.cells #[.int .i64 hd, .int .i64 ht] 65)).cell? ⟨w.heap.size + 1, 1, none⟩ = some (.int .i64 a) := hS3.ba.cell 1
      have z1 : ((w3.alloc (.cells #[.int .i64 ld, .int .i64 lt] 65)).alloc (.cells #[.int .i64 hd, .int .i64 ht] 65)).cell? ⟨w.heap.size + 1, 2, none⟩ = some (.int .i64 b) := hS3.ba.cell 2
      go_wp2_with fail
      generalize ((w3.alloc (.cells #[.int .i64 ld, .int .i64 lt] 65)).alloc (.cells #[.int .i64 hd, .int .i64 ht] 65)) = w4 at *
      refine Calls.mono (HL _).out ?_; rintro e w5 ⟨rfl, hb5⟩
      have hS5 := hS3.below hb5
      clear m0 m1 m2 m3 M0 M1 z0 z1 hS3 hb5
      have z0 : w5.cell? ⟨w.heap.size + 1, 1, none⟩ = some (.int .i64 a) := hS5.ba.cell 1
      have z1 : w5.cell? ⟨w.heap.size + 1, 2, none⟩ = some (.int .i64 b) := hS5.ba.cell 2
      have y0 : w5.cell? ⟨w.heap.size, 0, none⟩ = some (.int .i64 L) := hS5.bx.cell 0
      have y1 : w5.cell? ⟨w.heap.size, 1, none⟩ = some (.slice A1 l1.length c1) := hS5.bx.cell 1
      have y2 : w5.cell? ⟨w.heap.size, 2, none⟩ = some (.slice A2 l2.length c2) := hS5.bx.cell 2
      have y3 : w5.cell? ⟨w.heap.size, 3, none⟩ = some (.slice A3 l3.length c3) := hS5.bx.cell 3
      have y4 : w5.cell? ⟨w.heap.size, 4, none⟩ = some (.int .i64 p) := hS5.bx.cell 4
      have y5 : w5.cell? ⟨w.heap.size, 5, none⟩ = some (.int .i64 q) := hS5.bx.cell 5
      have y6 : w5.cell? ⟨w.heap.size, 6, none⟩ = some (.int .i64 r) := hS5.bx.cell 6
      have hb := hS5.hb
      cases u1 with
      | true =>
        go_wp2
        go_ret
        exact ⟨rfl, (by repeat (first | with_reducible exact hb | with_reducible apply below_drewN' | with_reducible apply Below.drew | (with_reducible refine Below.alloc ?_ (by first | omega | (simp; omega) | simp) _) | (with_reducible refine Below.setCell ?_ (by first | omega | (simp; omega) | simp) _) | exact hb))⟩
      | false =>
        go_wp2_with fail
        refine Calls.mono (HW _ hb).out ?_; rintro e w6 ⟨rfl, hb6⟩
        have hb7 := hb.trans (hb6.mono hb.size)
        cases u2
        all_goals
          go_wp2
          go_ret
          exact ⟨rfl, (by repeat (first | with_reducible exact hb7 | with_reducible apply below_drewN' | with_reducible apply Below.drew | (with_reducible refine Below.alloc ?_ (by first | omega | (simp; omega) | simp) _) | (with_reducible refine Below.setCell ?_ (by first | omega | (simp; omega) | simp) _) | exact hb7))⟩
  · have hd0 : decide (cc = 0) = false := decide_eq_false h0
    have hd1 : (cc == 0) = false := by simpa using h0
    rw [hd0]
    clear hd0
    simp only [Bool.false_and, Bool.false_eq_true, if_false]
    go_enter Tryz.func95, Tryz.ntmps95
    go_wp2_with fail
    generalize ((w.alloc (.cells #[.int .i64 L, .slice A1 l1.length c1, .slice A2 l2.length c2, .slice A3 l3.length c3, .int .i64 p, .int .i64 q, .int .i64 r] 36)).alloc (.cells #[.slice A n c, .int .i64 a, .int .i64 b] 67)) = W at *
    refine Calls.mono (HC W hS0.hb).out ?_; rintro e w1 ⟨rfl, hb1⟩
    have hS1 := (hS0.below hb1).below ((by repeat (first | with_reducible exact Below.refl _ _ | with_reducible apply below_drewN' | with_reducible apply Below.drew | (with_reducible refine Below.alloc ?_ (by first | omega | (simp; omega) | simp) _) | (with_reducible refine Below.setCell ?_ (by first | omega | (simp; omega) | simp) _) | exact Below.refl _ _)) : Below w1.heap.size w1 (w1.alloc (.cells #[.int .i64 cd, .int .i64 ct] 65)))
    have C1 := Blk.new w1 65 #[.int .i64 cd, .int .i64 ct]
    have k0 : (w1.alloc (.cells #[.int .i64 cd, .int .i64 ct] 65)).cell? ⟨w1.heap.size, 0, none⟩ = some (.int .i64 cd) := C1.cell 0
    have k1 : (w1.alloc (.cells #[.int .i64 cd, .int .i64 ct] 65)).cell? ⟨w1.heap.size, 1, none⟩ = some (.int .i64 ct) := C1.cell 1
    have z0 : (w1.alloc (.cells #[.int .i64 cd, .int .i64 ct] 65)).cell? ⟨w.heap.size + 1, 1, none⟩ = some (.int .i64 a) := hS1.ba.cell 1
    have z1 : (w1.alloc (.cells #[.int .i64 cd, .int .i64 ct] 65)).cell? ⟨w.heap.size + 1, 2, none⟩ = some (.int .i64 b) := hS1.ba.cell 2
    have y0 : (w1.alloc (.cells #[.int .i64 cd, .int .i64 ct] 65)).cell? ⟨w.heap.size, 0, none⟩ = some (.int .i64 L) := hS1.bx.cell 0
    have y1 : (w1.alloc (.cells #[.int .i64 cd, .int .i64 ct] 65)).cell? ⟨w.heap.size, 1, none⟩ = some (.slice A1 l1.length c1) := hS1.bx.cell 1
    have y2 : (w1.alloc (.cells #[.int .i64 cd, .int .i64 ct] 65)).cell? ⟨w.heap.size, 2, none⟩ = some (.slice A2 l2.length c2) := hS1.bx.cell 2
    have y3 : (w1.alloc (.cells #[.int .i64 cd, .int .i64 ct] 65)).cell? ⟨w.heap.size, 3, none⟩ = some (.slice A3 l3.length c3) := hS1.bx.cell 3
    have y4 : (w1.alloc (.cells #[.int .i64 cd, .int .i64 ct] 65)).cell? ⟨w.heap.size, 4, none⟩ = some (.int .i64 p) := hS1.bx.cell 4
    have y5 : (w1.alloc (.cells #[.int .i64 cd, .int .i64 ct] 65)).cell? ⟨w.heap.size, 5, none⟩ = some (.int .i64 q) := hS1.bx.cell 5
    have y6 : (w1.alloc (.cells #[.int .i64 cd, .int .i64 ct] 65)).cell? ⟨w.heap.size, 6, none⟩ = some (.int .i64 r) := hS1.bx.cell 6
    go_wp2_with fail
    generalize (w1.alloc (.cells #[.int .i64 cd, .int .i64 ct] 65)) = w2 at *
    refine Calls.mono (HP _ hS1.hb).out ?_; rintro e w3 ⟨rfl, hb3⟩
    have hS3 := (hS1.below hb3).below ((by repeat (first | with_reducible exact Below.refl _ _ | with_reducible apply below_drewN' | with_reducible apply Below.drew | (with_reducible refine Below.alloc ?_ (by first | omega | (simp; omega) | simp) _) | (with_reducible refine Below.setCell ?_ (by first | omega | (simp; omega) | simp) _) | exact Below.refl _ _)) : Below w3.heap.size w3 ((w3.alloc (.cells #[.int .i64 ld, .int .i64 lt] 65)).alloc (.cells #[.int .i64 hd, .int .i64 ht] 65)))
    clear y0 y1 y2 y3 y4 y5 y6 z0 z1 k0 k1 C1 hS1 hb3
    have M0 := (Blk.new w3 65 #[.int .i64 ld, .int .i64 lt]).alloc (.cells #[.int .i64 hd, .int .i64 ht] 65)
    have M1 := Blk.new' (w3.alloc (.cells #[.int .i64 ld, .int .i64 lt] 65)) 65 #[.int .i64 hd, .int .i64 ht] (g := w3.heap.size + 1) (by simp)
    have m0 : ((w3.alloc (.cells #[.int .i64 ld, .int .i64 lt] 65)).alloc (.cells #[.int .i64 hd, .int .i64 ht] 65)).cell? ⟨w3.heap.size, 0, none⟩ = some (.int .i64 ld) := M0.cell 0
    have m1 : ((w3.alloc (.cells #[.int .i64 ld, .int .i64 lt] 65)).alloc (.cells #[.int .i64 hd, .int .i64 ht] 65)).cell? ⟨w3.heap.size, 1, none⟩ = some (.int .i64 lt) := M0.cell 1
    have m2 : ((w3.alloc (.cells #[.int .i64 ld, .int .i64 lt] 65)).alloc (.cells #[.int .i64 hd, .int .i64 ht] 65)).cell? ⟨w3.heap.size + 1, 0, none⟩ = some (.int .i64 hd) := M1.cell 0
    have m3 : ((w3.alloc (.cells #[.int .i64 ld, .int .i64 lt] 65)).alloc (.cells #[.int .i64 hd, .int .i64 ht] 65)).cell? ⟨w3.heap.size + 1, 1, none⟩ = some (.int .i64 ht) := M1.cell 1
    have z0 : ((w3.alloc (.cells #[.int .i64 ld, .int .i64 lt] 65)).alloc (.cells #[.int .i64 hd, .int .i64 ht] 65)).cell? ⟨w.heap.size + 1, 1, none⟩ = some (.int .i64 a) := hS3.ba.cell 1
    have z1 : ((w3.alloc (.cells #[.int .i64 ld, .int .i64 lt] 65)).alloc (.cells #[.int .i64 hd, .int .i64 ht] 65)).cell? ⟨w.heap.size + 1, 2, none⟩ = some (.int .i64 b) := hS3.ba.cell 2
    go_wp2_with fail
    generalize ((w3.alloc (.cells #[.int .i64 ld, .int .i64 lt] 65)).alloc (.cells #[.int .i64 hd, .int .i64 ht] 65)) = w4 at *
    refine Calls.mono (HL _).out ?_; rintro e w5 ⟨rfl, hb5⟩
    have hS5 := hS3.below hb5
    clear m0 m1 m2 m3 M0 M1 z0 z1 hS3 hb5
    have z0 : w5.cell? ⟨w.heap.size + 1, 1, none⟩ = some (.int .i64 a) := hS5.ba.cell 1
    have z1 : w5.cell? ⟨w.heap.size + 1, 2, none⟩ = some (.int .i64 b) := hS5.ba.cell 2
    have y0 : w5.cell? ⟨w.heap.size, 0, none⟩ = some (.int .i64 L) := hS5.bx.cell 0
    have y1 : w5.cell? ⟨w.heap.size, 1, none⟩ = some (.slice A1 l1.length c1) := hS5.bx.cell 1
    have y2 : w5.cell? ⟨w.heap.size, 2, none⟩ = some (.slice A2 l2.length c2) := hS5.bx.cell 2
    have y3 : w5.cell? ⟨w.heap.size, 3, none⟩ = some (.slice A3 l3.length c3) := hS5.bx.cell 3
    have y4 : w5.cell? ⟨w.heap.size, 4, none⟩ = some (.int .i64 p) := hS5.bx.cell 4
    have y5 : w5.cell? ⟨w.heap.size, 5, none⟩ = some (.int .i64 q) := hS5.bx.cell 5
    have y6 : w5.cell? ⟨w.heap.size, 6, none⟩ = some (.int .i64 r) := hS5.bx.cell 6
    have hb := hS5.hb
    cases u1 with
    | true =>
      go_wp2
      go_ret
      exact ⟨rfl, (by repeat (first | with_reducible exact hb | with_reducible apply below_drewN' | with_reducible apply Below.drew | (with_reducible refine Below.alloc ?_ (by first | omega | (simp; omega) | simp) _) | (with_reducible refine Below.setCell ?_ (by first | omega | (simp; omega) | simp) _) | exact hb))⟩
    | false =>
      go_wp2_with fail
      refine Calls.mono (HW _ hb).out ?_; rintro e w6 ⟨rfl, hb6⟩
      have hb7 := hb.trans (hb6.mono hb.size)
      cases u2
      all_goals
        go_wp2
        go_ret
        exact ⟨rfl, (by repeat (first | with_reducible exact hb7 | with_reducible apply below_drewN' | with_reducible apply Below.drew | (with_reducible refine Below.alloc ?_ (by first | omega | (simp; omega) | simp) _) | (with_reducible refine Below.setCell ?_ (by first | omega | (simp; omega) | simp) _) | exact hb7))⟩
set_option maxRecDepth 100000 in
set_option maxHeartbeats 4000000 in
theorem l31Grade_c (L : Int) (A1 : Option Addr) (c1 : Nat) (l1 : List Int) (A2 : Option Addr) (c2 : Nat) (l2 : List Int) (A3 : Option Addr) (c3 : Nat) (l3 : List Term) (p q r : Int) (A : Option Addr) (n c : Nat) (a b : Int) (w : World) (E : ExIn w A1 c1 l1 A2 c2 l2 A3 c3 l3) (hx : exB L l1 l2 l3 p q r = true) (hf : figOK ⟨a, b⟩ = true) :
    Calls Tryz.prog 94 #[.agg #[.int .i64 L, .slice A1 l1.length c1, .slice A2 l2.length c2, .slice A3 l3.length c3, .int .i64 p, .int .i64 q, .int .i64 r], .agg #[.slice A n c, .int .i64 a, .int .i64 b]] w fun e w' => e = .returned (.int .i64 (gradeP L l1 l2 l3 p q r ⟨a, b⟩)) ∧ Below w.heap.size w w' := by
  have hGt : Tryz.prog.eqGuardType Tryz.prog.depth 65 = false := by kernel_rfl
  obtain ⟨x1, x2, x3, x4, x5⟩ := ex_parts hx
  obtain ⟨b1, b2, b3, b4, b5⟩ := bound_parts x1
  have hW := fun (W : World) (hW : Below w.heap.size w W) => specIsWithin_c L A1 c1 l1 A2 c2 l2 A3 c3 l3 p q r ⟨a, b⟩ W (E.later hW) hx hf
  have hC := fun (W : World) (hW : Below w.heap.size w W) => specChainFigure_c A3 c3 l3 W b2 (E.later hW).s3
  have hP := fun (W : World) (hW : Below w.heap.size w W) => specPlanSpan_c L A1 c1 l1 A2 c2 l2 A3 c3 l3 p q r W (E.later hW)
  rw [x2] at hP
  have hQ1 := fun (W : World) => l02Compare_c (exLoF L l1 l2 l3 p q r) ⟨a, b⟩ W x3 hf
  have hQ2 := fun (W : World) => l02Compare_c ⟨a, b⟩ (exHiF L l1 l2 l3 p q r) W hf x4
  have HG : Hid (gradeP L l1 l2 l3 p q r ⟨a, b⟩ = _) := rfl
  unfold gradeP at HG
  unfold gradeP
  clear E hx hf x1 x2 x3 x4 x5 b1 b2 b3 b4 b5
  generalize exLoF L l1 l2 l3 p q r = lo at *
  generalize exHiF L l1 l2 l3 p q r = hi at *
  simp only at hW
  generalize withinP lo hi a = u2 at *
  unfold leF
  generalize cmpF lo ⟨a, b⟩ = q1 at *
  generalize cmpF ⟨a, b⟩ hi = q2 at *
  generalize chainFig l3 = cf at *
  obtain ⟨ld, lt⟩ := lo
  obtain ⟨hd, ht⟩ := hi
  obtain ⟨⟨cd, ct⟩, cc⟩ := cf
  clear HG
  unfold Figure.agg at *
  simp only at *
  have HQ := fun W => eqFig cd ct a b W
  have HC := fun W h => Lib.hid (hC W h)
  have HP := fun W h => Lib.hid (hP W h)
  have HW := fun W h => Lib.hid (hW W h)
  have HQ1 := fun W => Lib.hid (hQ1 W)
  have HQ2 := fun W => Lib.hid (hQ2 W)
  clear hC hP hW hQ1 hQ2
  have hS0 : GrS w L A1 l1.length c1 A2 l2.length c2 A3 l3.length c3 p q r A n c a b _ := GrS.init
  generalize hu : (decide (cd = a) && decide (ct = b)) = u at *
  clear hu
  go_enter Tryz.func94, Tryz.ntmps94
  go_wp2_with fail
  generalize ((w.alloc (.cells #[.int .i64 L, .slice A1 l1.length c1, .slice A2 l2.length c2, .slice A3 l3.length c3, .int .i64 p, .int .i64 q, .int .i64 r] 36)).alloc (.cells #[.slice A n c, .int .i64 a, .int .i64 b] 67)) = W at *
  refine Calls.mono (HC W hS0.hb).out ?_; rintro e w1 ⟨rfl, hb1⟩
  have hba : Below w1.heap.size w1 (w1.alloc (.cells #[.int .i64 cd, .int .i64 ct] 65)) := (by repeat (first | with_reducible exact Below.refl _ _ | with_reducible apply below_drewN' | with_reducible apply Below.drew | (with_reducible refine Below.alloc ?_ (by first | omega | (simp; omega) | simp) _) | (with_reducible refine Below.setCell ?_ (by first | omega | (simp; omega) | simp) _) | exact Below.refl _ _))
  have hS1 := (hS0.below hb1).below hba
  have C1 := Blk.new w1 65 #[.int .i64 cd, .int .i64 ct]
  have y0 : (w1.alloc (.cells #[.int .i64 cd, .int .i64 ct] 65)).cell? ⟨w.heap.size, 0, none⟩ = some (.int .i64 L) := hS1.bx.cell 0
  have y1 : (w1.alloc (.cells #[.int .i64 cd, .int .i64 ct] 65)).cell? ⟨w.heap.size, 1, none⟩ = some (.slice A1 l1.length c1) := hS1.bx.cell 1
  have y2 : (w1.alloc (.cells #[.int .i64 cd, .int .i64 ct] 65)).cell? ⟨w.heap.size, 2, none⟩ = some (.slice A2 l2.length c2) := hS1.bx.cell 2
  have y3 : (w1.alloc (.cells #[.int .i64 cd, .int .i64 ct] 65)).cell? ⟨w.heap.size, 3, none⟩ = some (.slice A3 l3.length c3) := hS1.bx.cell 3
  have y4 : (w1.alloc (.cells #[.int .i64 cd, .int .i64 ct] 65)).cell? ⟨w.heap.size, 4, none⟩ = some (.int .i64 p) := hS1.bx.cell 4
  have y5 : (w1.alloc (.cells #[.int .i64 cd, .int .i64 ct] 65)).cell? ⟨w.heap.size, 5, none⟩ = some (.int .i64 q) := hS1.bx.cell 5
  have y6 : (w1.alloc (.cells #[.int .i64 cd, .int .i64 ct] 65)).cell? ⟨w.heap.size, 6, none⟩ = some (.int .i64 r) := hS1.bx.cell 6
  go_wp2_with fail
  generalize (w1.alloc (.cells #[.int .i64 cd, .int .i64 ct] 65)) = w2 at *
  generalize w1.heap.size = gc at *
  refine Calls.mono (HP _ hS1.hb).out ?_; rintro e w3 ⟨rfl, hb3⟩
  have hbl : Below w3.heap.size w3 ((w3.alloc (.cells #[.int .i64 ld, .int .i64 lt] 65)).alloc (.cells #[.int .i64 hd, .int .i64 ht] 65)) := (by repeat (first | with_reducible exact Below.refl _ _ | with_reducible apply below_drewN' | with_reducible apply Below.drew | (with_reducible refine Below.alloc ?_ (by first | omega | (simp; omega) | simp) _) | (with_reducible refine Below.setCell ?_ (by first | omega | (simp; omega) | simp) _) | exact Below.refl _ _))
  have hS3 := (hS1.below hb3).below hbl
  have C3 := (C1.below hb3 C1.lt).below hbl (C1.below hb3 C1.lt).lt
  clear y0 y1 y2 y3 y4 y5 y6 C1 hS1 hb3 hba hbl
  have M0 := (Blk.new w3 65 #[.int .i64 ld, .int .i64 lt]).alloc (.cells #[.int .i64 hd, .int .i64 ht] 65)
  have M1 := Blk.new' (w3.alloc (.cells #[.int .i64 ld, .int .i64 lt] 65)) 65 #[.int .i64 hd, .int .i64 ht] (g := w3.heap.size + 1) (by simp)
  have z0 : ((w3.alloc (.cells #[.int .i64 ld, .int .i64 lt] 65)).alloc (.cells #[.int .i64 hd, .int .i64 ht] 65)).cell? ⟨w.heap.size + 1, 1, none⟩ = some (.int .i64 a) := hS3.ba.cell 1
  have z1 : ((w3.alloc (.cells #[.int .i64 ld, .int .i64 lt] 65)).alloc (.cells #[.int .i64 hd, .int .i64 ht] 65)).cell? ⟨w.heap.size + 1, 2, none⟩ = some (.int .i64 b) := hS3.ba.cell 2
  have y0 : ((w3.alloc (.cells #[.int .i64 ld, .int .i64 lt] 65)).alloc (.cells #[.int .i64 hd, .int .i64 ht] 65)).cell? ⟨w.heap.size, 0, none⟩ = some (.int .i64 L) := hS3.bx.cell 0
  have y1 : ((w3.alloc (.cells #[.int .i64 ld, .int .i64 lt] 65)).alloc (.cells #[.int .i64 hd, .int .i64 ht] 65)).cell? ⟨w.heap.size, 1, none⟩ = some (.slice A1 l1.length c1) := hS3.bx.cell 1
  have y2 : ((w3.alloc (.cells #[.int .i64 ld, .int .i64 lt] 65)).alloc (.cells #[.int .i64 hd, .int .i64 ht] 65)).cell? ⟨w.heap.size, 2, none⟩ = some (.slice A2 l2.length c2) := hS3.bx.cell 2
  have y3 : ((w3.alloc (.cells #[.int .i64 ld, .int .i64 lt] 65)).alloc (.cells #[.int .i64 hd, .int .i64 ht] 65)).cell? ⟨w.heap.size, 3, none⟩ = some (.slice A3 l3.length c3) := hS3.bx.cell 3
  have y4 : ((w3.alloc (.cells #[.int .i64 ld, .int .i64 lt] 65)).alloc (.cells #[.int .i64 hd, .int .i64 ht] 65)).cell? ⟨w.heap.size, 4, none⟩ = some (.int .i64 p) := hS3.bx.cell 4
  have y5 : ((w3.alloc (.cells #[.int .i64 ld, .int .i64 lt] 65)).alloc (.cells #[.int .i64 hd, .int .i64 ht] 65)).cell? ⟨w.heap.size, 5, none⟩ = some (.int .i64 q) := hS3.bx.cell 5
  have y6 : ((w3.alloc (.cells #[.int .i64 ld, .int .i64 lt] 65)).alloc (.cells #[.int .i64 hd, .int .i64 ht] 65)).cell? ⟨w.heap.size, 6, none⟩ = some (.int .i64 r) := hS3.bx.cell 6
  go_wp2_with fail
  generalize ((w3.alloc (.cells #[.int .i64 ld, .int .i64 lt] 65)).alloc (.cells #[.int .i64 hd, .int .i64 ht] 65)) = w4 at *
  generalize w3.heap.size = gl at *
  refine Calls.mono (HW _ hS3.hb).out ?_; rintro e w5 ⟨rfl, hb5⟩
  have hS5 := hS3.below hb5
  have C5 := C3.below hb5 C3.lt
  have M5 := M0.below hb5 M0.lt
  have N5 := M1.below hb5 M1.lt
  clear y0 y1 y2 y3 y4 y5 y6 z0 z1 C3 M0 M1 hS3 hb5 hS0
  have hb := hS5.hb
  have z0 : w5.cell? ⟨w.heap.size + 1, 1, none⟩ = some (.int .i64 a) := hS5.ba.cell 1
  have z1 : w5.cell? ⟨w.heap.size + 1, 2, none⟩ = some (.int .i64 b) := hS5.ba.cell 2
  have k0 : w5.cell? ⟨gc, 0, none⟩ = some (.int .i64 cd) := C5.cell 0
  have k1 : w5.cell? ⟨gc, 1, none⟩ = some (.int .i64 ct) := C5.cell 1
  have m0 : w5.cell? ⟨gl, 0, none⟩ = some (.int .i64 ld) := M5.cell 0
  have m1 : w5.cell? ⟨gl, 1, none⟩ = some (.int .i64 lt) := M5.cell 1
  have hex : ∀ u0 : Bool, (decide (cc = 0) && u) = u0 → Hid ((decide (cc = 0) && u) = u0) := fun _ h => h
  by_cases h0 : cc = 0
  · have D0 : Hid (decide (cc = 0) = true) := decide_eq_true h0
    have hd1 : (cc == 0) = true := by simpa using h0
    clear hex
    cases u with
    | true =>
      go_wp2
      all_goals (go_ret; exact ⟨rfl, (by repeat (first | with_reducible exact hb | with_reducible apply below_drewN' | with_reducible apply Below.drew | (with_reducible refine Below.alloc ?_ (by first | omega | (simp; omega) | simp) _) | (with_reducible refine Below.setCell ?_ (by first | omega | (simp; omega) | simp) _) | exact hb))⟩)
    | false =>
      go_wp2_with fail
      refine Calls.mono (HQ1 _).out ?_; rintro e w6 ⟨rfl, hb6⟩
      have hS6 := hS5.below hb6
      have N6 := N5.below hb6 N5.lt
      have x0 : w6.cell? ⟨w.heap.size + 1, 1, none⟩ = some (.int .i64 a) := hS6.ba.cell 1
      have x1 : w6.cell? ⟨w.heap.size + 1, 2, none⟩ = some (.int .i64 b) := hS6.ba.cell 2
      have n0 : w6.cell? ⟨gl + 1, 0, none⟩ = some (.int .i64 hd) := N6.cell 0
      have n1 : w6.cell? ⟨gl + 1, 1, none⟩ = some (.int .i64 ht) := N6.cell 1
      have hb7 := hS6.hb
      by_cases h1 : q1 ≤ 0
      · have D1 : Hid (decide (q1 ≤ 0) = true) := decide_eq_true h1
        by_cases h2 : q2 ≤ 0
        · have D2 : Hid (decide (q2 ≤ 0) = true) := decide_eq_true h2
          go_wp2_with (go_at_call 141; refine Calls.mono (HQ2 _).out ?_; rintro e w8 ⟨rfl, hb8⟩; have hb9 := hb7.trans (hb8.mono hb7.size))
          all_goals (go_ret; exact ⟨rfl, (by repeat (first | with_reducible exact hb9 | with_reducible apply below_drewN' | with_reducible apply Below.drew | (with_reducible refine Below.alloc ?_ (by first | omega | (simp; omega) | simp) _) | (with_reducible refine Below.setCell ?_ (by first | omega | (simp; omega) | simp) _) | exact hb9))⟩)
        · have D2 : Hid (decide (q2 ≤ 0) = false) := decide_eq_false h2
          cases u2
          all_goals
            go_wp2_with (go_at_call 141; refine Calls.mono (HQ2 _).out ?_; rintro e w8 ⟨rfl, hb8⟩; have hb9 := hb7.trans (hb8.mono hb7.size))
            all_goals (go_ret; exact ⟨rfl, (by repeat (first | with_reducible exact hb9 | with_reducible apply below_drewN' | with_reducible apply Below.drew | (with_reducible refine Below.alloc ?_ (by first | omega | (simp; omega) | simp) _) | (with_reducible refine Below.setCell ?_ (by first | omega | (simp; omega) | simp) _) | exact hb9))⟩)
      · have D1 : Hid (decide (q1 ≤ 0) = false) := decide_eq_false h1
        cases u2
        all_goals
          go_wp2
          all_goals (go_ret; exact ⟨rfl, (by repeat (first | with_reducible exact hb7 | with_reducible apply below_drewN' | with_reducible apply Below.drew | (with_reducible refine Below.alloc ?_ (by first | omega | (simp; omega) | simp) _) | (with_reducible refine Below.setCell ?_ (by first | omega | (simp; omega) | simp) _) | exact hb7))⟩)
  · have D0 : Hid (decide (cc = 0) = false) := decide_eq_false h0
    have hd1 : (cc == 0) = false := by simpa using h0
    clear hex
    go_wp2_with fail
    refine Calls.mono (HQ1 _).out ?_; rintro e w6 ⟨rfl, hb6⟩
    have hS6 := hS5.below hb6
    have N6 := N5.below hb6 N5.lt
    have x0 : w6.cell? ⟨w.heap.size + 1, 1, none⟩ = some (.int .i64 a) := hS6.ba.cell 1
    have x1 : w6.cell? ⟨w.heap.size + 1, 2, none⟩ = some (.int .i64 b) := hS6.ba.cell 2
    have n0 : w6.cell? ⟨gl + 1, 0, none⟩ = some (.int .i64 hd) := N6.cell 0
    have n1 : w6.cell? ⟨gl + 1, 1, none⟩ = some (.int .i64 ht) := N6.cell 1
    have hb7 := hS6.hb
    by_cases h1 : q1 ≤ 0
    · have D1 : Hid (decide (q1 ≤ 0) = true) := decide_eq_true h1
      by_cases h2 : q2 ≤ 0
      · have D2 : Hid (decide (q2 ≤ 0) = true) := decide_eq_true h2
        go_wp2_with (go_at_call 141; refine Calls.mono (HQ2 _).out ?_; rintro e w8 ⟨rfl, hb8⟩; have hb9 := hb7.trans (hb8.mono hb7.size))
        all_goals (go_ret; exact ⟨rfl, (by repeat (first | with_reducible exact hb9 | with_reducible apply below_drewN' | with_reducible apply Below.drew | (with_reducible refine Below.alloc ?_ (by first | omega | (simp; omega) | simp) _) | (with_reducible refine Below.setCell ?_ (by first | omega | (simp; omega) | simp) _) | exact hb9))⟩)
      · have D2 : Hid (decide (q2 ≤ 0) = false) := decide_eq_false h2
        cases u2
        all_goals
          go_wp2_with (go_at_call 141; refine Calls.mono (HQ2 _).out ?_; rintro e w8 ⟨rfl, hb8⟩; have hb9 := hb7.trans (hb8.mono hb7.size))
          all_goals (go_ret; exact ⟨rfl, (by repeat (first | with_reducible exact hb9 | with_reducible apply below_drewN' | with_reducible apply Below.drew | (with_reducible refine Below.alloc ?_ (by first | omega | (simp; omega) | simp) _) | (with_reducible refine Below.setCell ?_ (by first | omega | (simp; omega) | simp) _) | exact hb9))⟩)
    · have D1 : Hid (decide (q1 ≤ 0) = false) := decide_eq_false h1
      cases u2
      all_goals
        go_wp2
        all_goals (go_ret; exact ⟨rfl, (by repeat (first | with_reducible exact hb7 | with_reducible apply below_drewN' | with_reducible apply Below.drew | (with_reducible refine Below.alloc ?_ (by first | omega | (simp; omega) | simp) _) | (with_reducible refine Below.setCell ?_ (by first | omega | (simp; omega) | simp) _) | exact hb7))⟩)
end Go.Proofs.YtgkobjpoeajkdaaGreat
namespace Go.Proofs.YtgkobjpoeajkdaaGreat
open Go.RowKit
theorem ans_fig {l : List Move} {a b : Int} (h : ansB l a b = true) : figOK ⟨a, b⟩ = true := by
  unfold ansB at h
  rw [Bool.and_eq_true] at h
  exact h.2
set_option maxRecDepth 100000 in
set_option maxHeartbeats 2000000 in
theorem implGradeOf_c (L : Int) (A1 : Option Addr) (c1 : Nat) (l1 : List Int) (A2 : Option Addr) (c2 : Nat) (l2 : List Int) (A3 : Option Addr) (c3 : Nat) (l3 : List Term) (p q r : Int) (A : Option Addr) (c : Nat) (l : List Move) (a b : Int) (w : World) (E : ExIn w A1 c1 l1 A2 c2 l2 A3 c3 l3) (F : AnIn w A c l) :
    Calls Tryz.prog 41 #[.agg #[.int .i64 L, .slice A1 l1.length c1, .slice A2 l2.length c2, .slice A3 l3.length c3, .int .i64 p, .int .i64 q, .int .i64 r], .agg #[.slice A l.length c, .int .i64 a, .int .i64 b]] w fun e w' => e = .returned (.tuple #[.int .i64 (if (exB L l1 l2 l3 p q r && ansB l a b) = true then gradeP L l1 l2 l3 p q r ⟨a, b⟩ else 0), .int .i64 (if (exB L l1 l2 l3 p q r && ansB l a b) = true then 0 else 1)]) ∧ Below w.heap.size w w' := by
  have hW : Below w.heap.size w (((w.alloc (.cells #[.int .i64 L, .slice A1 l1.length c1, .slice A2 l2.length c2, .slice A3 l3.length c3, .int .i64 p, .int .i64 q, .int .i64 r] 36)).alloc (.cells #[.slice A l.length c, .int .i64 a, .int .i64 b] 67)).alloc (.cells #[.slice A l.length c, .int .i64 a, .int .i64 b] 67)) := (by repeat (first | with_reducible exact Below.refl _ _ | with_reducible apply below_drewN' | with_reducible apply Below.drew | (with_reducible refine Below.alloc ?_ (by first | omega | (simp; omega) | simp) _) | (with_reducible refine Below.setCell ?_ (by first | omega | (simp; omega) | simp) _) | exact Below.refl _ _))
  have X0 := ((Blk.new w 36 #[.int .i64 L, .slice A1 l1.length c1, .slice A2 l2.length c2, .slice A3 l3.length c3, .int .i64 p, .int .i64 q, .int .i64 r]).alloc (.cells #[.slice A l.length c, .int .i64 a, .int .i64 b] 67)).alloc (.cells #[.slice A l.length c, .int .i64 a, .int .i64 b] 67)
  have B0 := (Blk.new' (w.alloc (.cells #[.int .i64 L, .slice A1 l1.length c1, .slice A2 l2.length c2, .slice A3 l3.length c3, .int .i64 p, .int .i64 q, .int .i64 r] 36)) 67 #[.slice A l.length c, .int .i64 a, .int .i64 b] (g := w.heap.size + 1) (by simp)).alloc (.cells #[.slice A l.length c, .int .i64 a, .int .i64 b] 67)
  have C0 := Blk.new' ((w.alloc (.cells #[.int .i64 L, .slice A1 l1.length c1, .slice A2 l2.length c2, .slice A3 l3.length c3, .int .i64 p, .int .i64 q, .int .i64 r] 36)).alloc (.cells #[.slice A l.length c, .int .i64 a, .int .i64 b] 67)) 67 #[.slice A l.length c, .int .i64 a, .int .i64 b] (g := w.heap.size + 1 + 1) (by simp)
  have HK := Lib.hid (check1_c L A1 c1 l1 A2 c2 l2 A3 c3 l3 p q r A c l a b _ (E.later hW) (F.later hW) (w.heap.size + 1 + 1) C0)
  have HS : Hid ((exB L l1 l2 l3 p q r && ansB l a b) = true → ∀ W, Below w.heap.size w W → _) := fun h W hW => gradeOf_c L A1 c1 l1 A2 c2 l2 A3 c3 l3 p q r A l.length c a b W (E.later hW) (Bool.and_eq_true _ _ ▸ h : _ ∧ _).1 (ans_fig (Bool.and_eq_true _ _ ▸ h : _ ∧ _).2)
  clear C0 E F
  generalize (exB L l1 l2 l3 p q r && ansB l a b) = ok at *
  generalize exB L l1 l2 l3 p q r = xb at *
  cases ok with
  | false =>
    simp only [Bool.false_eq_true, if_false] at HK ⊢
    have HK := Lib.hid HK.out
    go_enter Tryz.func41, Tryz.ntmps41
    go_wp2_with fail
    refine Calls.mono HK.out ?_; rintro e w1 ⟨rfl, hb1⟩
    have hW1 := hW.trans (hb1.mono hW.size)
    go_wp2
    refine bodyPost_ret (v := .tuple #[.int .i64 0, .int .i64 1]) (by simp [results, Tryz.results41, go_sem]) rfl ⟨rfl, (by repeat (first | with_reducible exact hW1 | with_reducible apply below_drewN' | with_reducible apply Below.drew | (with_reducible refine Below.alloc ?_ (by first | omega | (simp; omega) | simp) _) | (with_reducible refine Below.setCell ?_ (by first | omega | (simp; omega) | simp) _) | exact hW1))⟩
  | true =>
    simp only [if_true] at HK ⊢
    have HS2 := Lib.hid (HS.out rfl)
    clear HS
    generalize gradeP L l1 l2 l3 p q r ⟨a, b⟩ = gr at *
    go_enter Tryz.func41, Tryz.ntmps41
    go_wp2_with fail
    generalize (((w.alloc (.cells #[.int .i64 L, .slice A1 l1.length c1, .slice A2 l2.length c2, .slice A3 l3.length c3, .int .i64 p, .int .i64 q, .int .i64 r] 36)).alloc (.cells #[.slice A l.length c, .int .i64 a, .int .i64 b] 67)).alloc (.cells #[.slice A l.length c, .int .i64 a, .int .i64 b] 67)) = W at *
    refine Calls.mono HK.out ?_; rintro e w1 ⟨rfl, hb1⟩
    have hW1 := hW.trans (hb1.mono hW.size)
    have X1 := X0.below hb1 X0.lt
    have B1 := B0.below hb1 B0.lt
    have hcall := Lib.hid (HS2.out w1 hW1)
    have y0 : w1.cell? ⟨w.heap.size, 0, none⟩ = some (.int .i64 L) := X1.cell 0
    have y1 : w1.cell? ⟨w.heap.size, 1, none⟩ = some (.slice A1 l1.length c1) := X1.cell 1
    have y2 : w1.cell? ⟨w.heap.size, 2, none⟩ = some (.slice A2 l2.length c2) := X1.cell 2
    have y3 : w1.cell? ⟨w.heap.size, 3, none⟩ = some (.slice A3 l3.length c3) := X1.cell 3
    have y4 : w1.cell? ⟨w.heap.size, 4, none⟩ = some (.int .i64 p) := X1.cell 4
    have y5 : w1.cell? ⟨w.heap.size, 5, none⟩ = some (.int .i64 q) := X1.cell 5
    have y6 : w1.cell? ⟨w.heap.size, 6, none⟩ = some (.int .i64 r) := X1.cell 6
    have z0 : w1.cell? ⟨w.heap.size + 1, 0, none⟩ = some (.slice A l.length c) := B1.cell 0
    have z1 : w1.cell? ⟨w.heap.size + 1, 1, none⟩ = some (.int .i64 a) := B1.cell 1
    have z2 : w1.cell? ⟨w.heap.size + 1, 2, none⟩ = some (.int .i64 b) := B1.cell 2
    clear HK X0 B0 hb1 hW HS2
    go_wp2_with fail
    refine Calls.mono hcall.out ?_; rintro e w2 ⟨rfl, hb2⟩
    have hW2 := hW1.trans (hb2.mono hW1.size)
    go_wp2
    refine bodyPost_ret (v := .tuple #[.int .i64 gr, .int .i64 0]) (by simp [results, Tryz.results41, go_sem]) rfl ⟨rfl, (by repeat (first | with_reducible exact hW2 | with_reducible apply below_drewN' | with_reducible apply Below.drew | (with_reducible refine Below.alloc ?_ (by first | omega | (simp; omega) | simp) _) | (with_reducible refine Below.setCell ?_ (by first | omega | (simp; omega) | simp) _) | exact hW2))⟩
set_option maxRecDepth 100000 in
set_option maxHeartbeats 2000000 in
theorem specGradeOf_c (L : Int) (A1 : Option Addr) (c1 : Nat) (l1 : List Int) (A2 : Option Addr) (c2 : Nat) (l2 : List Int) (A3 : Option Addr) (c3 : Nat) (l3 : List Term) (p q r : Int) (A : Option Addr) (c : Nat) (l : List Move) (a b : Int) (w : World) (E : ExIn w A1 c1 l1 A2 c2 l2 A3 c3 l3) (F : AnIn w A c l) :
    Calls Tryz.prog 40 #[.agg #[.int .i64 L, .slice A1 l1.length c1, .slice A2 l2.length c2, .slice A3 l3.length c3, .int .i64 p, .int .i64 q, .int .i64 r], .agg #[.slice A l.length c, .int .i64 a, .int .i64 b]] w fun e w' => e = .returned (.tuple #[.int .i64 (if (exB L l1 l2 l3 p q r && ansB l a b) = true then gradeP L l1 l2 l3 p q r ⟨a, b⟩ else 0), .int .i64 (if (exB L l1 l2 l3 p q r && ansB l a b) = true then 0 else 1)]) ∧ Below w.heap.size w w' := by
  have hW : Below w.heap.size w ((w.alloc (.cells #[.int .i64 L, .slice A1 l1.length c1, .slice A2 l2.length c2, .slice A3 l3.length c3, .int .i64 p, .int .i64 q, .int .i64 r] 36)).alloc (.cells #[.slice A l.length c, .int .i64 a, .int .i64 b] 67)) := (by repeat (first | with_reducible exact Below.refl _ _ | with_reducible apply below_drewN' | with_reducible apply Below.drew | (with_reducible refine Below.alloc ?_ (by first | omega | (simp; omega) | simp) _) | (with_reducible refine Below.setCell ?_ (by first | omega | (simp; omega) | simp) _) | exact Below.refl _ _))
  have X0 := (Blk.new w 36 #[.int .i64 L, .slice A1 l1.length c1, .slice A2 l2.length c2, .slice A3 l3.length c3, .int .i64 p, .int .i64 q, .int .i64 r]).alloc (.cells #[.slice A l.length c, .int .i64 a, .int .i64 b] 67)
  have B0 := Blk.new' (w.alloc (.cells #[.int .i64 L, .slice A1 l1.length c1, .slice A2 l2.length c2, .slice A3 l3.length c3, .int .i64 p, .int .i64 q, .int .i64 r] 36)) 67 #[.slice A l.length c, .int .i64 a, .int .i64 b] (g := w.heap.size + 1) (by simp)
  have HX := Lib.hid (specIsExercise_c L A1 c1 l1 A2 c2 l2 A3 c3 l3 p q r _ (E.later hW))
  have HA : Hid (∀ W, Below w.heap.size w W → _) := fun W hW => l31Answer_c A c l a b W (F.later hW)
  have HS : Hid (exB L l1 l2 l3 p q r = true → ansB l a b = true → ∀ W, Below w.heap.size w W → _) := fun hx ha W hW => l31Grade_c L A1 c1 l1 A2 c2 l2 A3 c3 l3 p q r A l.length c a b W (E.later hW) hx (ans_fig ha)
  clear E F
  generalize ansB l a b = ab at *
  generalize exB L l1 l2 l3 p q r = xb at *
  cases xb with
  | false =>
    clear HS HA
    simp only [Bool.false_and, Bool.false_eq_true, if_false]
    go_enter Tryz.func40, Tryz.ntmps40
    go_wp2_with fail
    refine Calls.mono HX.out ?_; rintro e w1 ⟨rfl, hb1⟩
    have hW1 := hW.trans (hb1.mono hW.size)
    go_wp2
    refine bodyPost_ret (v := .tuple #[.int .i64 0, .int .i64 1]) (by simp [results, Tryz.results40, go_sem]) rfl ⟨rfl, (by repeat (first | with_reducible exact hW1 | with_reducible apply below_drewN' | with_reducible apply Below.drew | (with_reducible refine Below.alloc ?_ (by first | omega | (simp; omega) | simp) _) | (with_reducible refine Below.setCell ?_ (by first | omega | (simp; omega) | simp) _) | exact hW1))⟩
  | true =>
    have HT := Lib.hid (HS.out rfl)
    clear HS
    simp only [Bool.true_and]
    generalize gradeP L l1 l2 l3 p q r ⟨a, b⟩ = gr at *
    cases ab with
    | false =>
      simp only [Bool.false_eq_true, if_false]
      go_enter Tryz.func40, Tryz.ntmps40
      go_wp2_with fail
      generalize ((w.alloc (.cells #[.int .i64 L, .slice A1 l1.length c1, .slice A2 l2.length c2, .slice A3 l3.length c3, .int .i64 p, .int .i64 q, .int .i64 r] 36)).alloc (.cells #[.slice A l.length c, .int .i64 a, .int .i64 b] 67)) = W at *
      refine Calls.mono HX.out ?_; rintro e w1 ⟨rfl, hb1⟩
      have hW1 := hW.trans (hb1.mono hW.size)
      have X1 := X0.below hb1 X0.lt
      have B1 := B0.below hb1 B0.lt
      have hcall := Lib.hid (HA.out w1 hW1)
      have y0 : w1.cell? ⟨w.heap.size, 0, none⟩ = some (.int .i64 L) := X1.cell 0
      have y1 : w1.cell? ⟨w.heap.size, 1, none⟩ = some (.slice A1 l1.length c1) := X1.cell 1
      have y2 : w1.cell? ⟨w.heap.size, 2, none⟩ = some (.slice A2 l2.length c2) := X1.cell 2
      have y3 : w1.cell? ⟨w.heap.size, 3, none⟩ = some (.slice A3 l3.length c3) := X1.cell 3
      have y4 : w1.cell? ⟨w.heap.size, 4, none⟩ = some (.int .i64 p) := X1.cell 4
      have y5 : w1.cell? ⟨w.heap.size, 5, none⟩ = some (.int .i64 q) := X1.cell 5
      have y6 : w1.cell? ⟨w.heap.size, 6, none⟩ = some (.int .i64 r) := X1.cell 6
      have z0 : w1.cell? ⟨w.heap.size + 1, 0, none⟩ = some (.slice A l.length c) := B1.cell 0
      have z1 : w1.cell? ⟨w.heap.size + 1, 1, none⟩ = some (.int .i64 a) := B1.cell 1
      have z2 : w1.cell? ⟨w.heap.size + 1, 2, none⟩ = some (.int .i64 b) := B1.cell 2
      clear HX X0 B0 hb1 hW HT HA
      go_wp2_with fail
      refine Calls.mono hcall.out ?_; rintro e w2 ⟨rfl, hb2⟩
      have hW2 := hW1.trans (hb2.mono hW1.size)
      go_wp2
      refine bodyPost_ret (v := .tuple #[.int .i64 0, .int .i64 1]) (by simp [results, Tryz.results40, go_sem]) rfl ⟨rfl, (by repeat (first | with_reducible exact hW2 | with_reducible apply below_drewN' | with_reducible apply Below.drew | (with_reducible refine Below.alloc ?_ (by first | omega | (simp; omega) | simp) _) | (with_reducible refine Below.setCell ?_ (by first | omega | (simp; omega) | simp) _) | exact hW2))⟩
    | true =>
      simp only [if_true]
      have HT2 := Lib.hid (HT.out rfl)
      clear HT
      go_enter Tryz.func40, Tryz.ntmps40
      go_wp2_with fail
      generalize ((w.alloc (.cells #[.int .i64 L, .slice A1 l1.length c1, .slice A2 l2.length c2, .slice A3 l3.length c3, .int .i64 p, .int .i64 q, .int .i64 r] 36)).alloc (.cells #[.slice A l.length c, .int .i64 a, .int .i64 b] 67)) = W at *
      refine Calls.mono HX.out ?_; rintro e w1 ⟨rfl, hb1⟩
      have hW1 := hW.trans (hb1.mono hW.size)
      have X1 := X0.below hb1 X0.lt
      have B1 := B0.below hb1 B0.lt
      have hcall := Lib.hid (HA.out w1 hW1)
      have y0 : w1.cell? ⟨w.heap.size, 0, none⟩ = some (.int .i64 L) := X1.cell 0
      have y1 : w1.cell? ⟨w.heap.size, 1, none⟩ = some (.slice A1 l1.length c1) := X1.cell 1
      have y2 : w1.cell? ⟨w.heap.size, 2, none⟩ = some (.slice A2 l2.length c2) := X1.cell 2
      have y3 : w1.cell? ⟨w.heap.size, 3, none⟩ = some (.slice A3 l3.length c3) := X1.cell 3
      have y4 : w1.cell? ⟨w.heap.size, 4, none⟩ = some (.int .i64 p) := X1.cell 4
      have y5 : w1.cell? ⟨w.heap.size, 5, none⟩ = some (.int .i64 q) := X1.cell 5
      have y6 : w1.cell? ⟨w.heap.size, 6, none⟩ = some (.int .i64 r) := X1.cell 6
      have z0 : w1.cell? ⟨w.heap.size + 1, 0, none⟩ = some (.slice A l.length c) := B1.cell 0
      have z1 : w1.cell? ⟨w.heap.size + 1, 1, none⟩ = some (.int .i64 a) := B1.cell 1
      have z2 : w1.cell? ⟨w.heap.size + 1, 2, none⟩ = some (.int .i64 b) := B1.cell 2
      clear HX X0 B0 hb1 hW HA
      go_wp2_with fail
      refine Calls.mono hcall.out ?_; rintro e w2 ⟨rfl, hb2⟩
      have hW2 := hW1.trans (hb2.mono hW1.size)
      have X2 := X1.below hb2 X1.lt
      have B2 := B1.below hb2 B1.lt
      have hcall := Lib.hid (HT2.out w2 hW2)
      clear y0 y1 y2 y3 y4 y5 y6 z0 z1 z2 hb2 X1 B1 HT2
      have y0 : w2.cell? ⟨w.heap.size, 0, none⟩ = some (.int .i64 L) := X2.cell 0
      have y1 : w2.cell? ⟨w.heap.size, 1, none⟩ = some (.slice A1 l1.length c1) := X2.cell 1
      have y2 : w2.cell? ⟨w.heap.size, 2, none⟩ = some (.slice A2 l2.length c2) := X2.cell 2
      have y3 : w2.cell? ⟨w.heap.size, 3, none⟩ = some (.slice A3 l3.length c3) := X2.cell 3
      have y4 : w2.cell? ⟨w.heap.size, 4, none⟩ = some (.int .i64 p) := X2.cell 4
      have y5 : w2.cell? ⟨w.heap.size, 5, none⟩ = some (.int .i64 q) := X2.cell 5
      have y6 : w2.cell? ⟨w.heap.size, 6, none⟩ = some (.int .i64 r) := X2.cell 6
      have z0 : w2.cell? ⟨w.heap.size + 1, 0, none⟩ = some (.slice A l.length c) := B2.cell 0
      have z1 : w2.cell? ⟨w.heap.size + 1, 1, none⟩ = some (.int .i64 a) := B2.cell 1
      have z2 : w2.cell? ⟨w.heap.size + 1, 2, none⟩ = some (.int .i64 b) := B2.cell 2
      go_wp2_with fail
      refine Calls.mono hcall.out ?_; rintro e w3 ⟨rfl, hb3⟩
      have hW3 := hW2.trans (hb3.mono hW2.size)
      go_wp2
      refine bodyPost_ret (v := .tuple #[.int .i64 gr, .int .i64 0]) (by simp [results, Tryz.results40, go_sem]) rfl ⟨rfl, (by repeat (first | with_reducible exact hW3 | with_reducible apply below_drewN' | with_reducible apply Below.drew | (with_reducible refine Below.alloc ?_ (by first | omega | (simp; omega) | simp) _) | (with_reducible refine Below.setCell ?_ (by first | omega | (simp; omega) | simp) _) | exact hW3))⟩
end Go.Proofs.YtgkobjpoeajkdaaGreat
namespace Go.Proofs.YtgkobjpoeajkdaaGreat
open Go.RowKit
set_option maxRecDepth 100000 in
set_option maxHeartbeats 4000000 in
theorem lawGradeOf_c (L : Int) (A1 : Option Addr) (c1 : Nat) (l1 : List Int) (A2 : Option Addr) (c2 : Nat) (l2 : List Int) (A3 : Option Addr) (c3 : Nat) (l3 : List Term) (p q r : Int) (A : Option Addr) (c : Nat) (l : List Move) (a b : Int) (w : World) (X : ExLaid w A1 c1 l1 A2 c2 l2 A3 c3 l3) (Y : AnLaid w A c l) :
    Calls Tryz.prog 8 #[.agg #[.int .i64 L, .slice A1 l1.length c1, .slice A2 l2.length c2, .slice A3 l3.length c3, .int .i64 p, .int .i64 q, .int .i64 r], .agg #[.slice A l.length c, .int .i64 a, .int .i64 b]] w fun e w' => e = .returned (.bool true) ∧ Below w.heap.size w w' := by
  have HZ := fun W => Lib.hid (szExercise_c L A1 l1.length c1 A2 l2.length c2 A3 l3.length c3 p q r 1048576 W X.z1 X.z2 X.z3 (by omega))
  have HZA := fun left W (h : 0 ≤ left ∧ left ≤ 1048576) => Lib.hid (szAn_c A l.length c a b left W Y.z h)
  have hW : Below w.heap.size w ((w.alloc (.cells #[.int .i64 L, .slice A1 l1.length c1, .slice A2 l2.length c2, .slice A3 l3.length c3, .int .i64 p, .int .i64 q, .int .i64 r] 29)).alloc (.cells #[.slice A l.length c, .int .i64 a, .int .i64 b] 61)) := (by repeat (first | with_reducible exact Below.refl _ _ | with_reducible apply below_drewN' | with_reducible apply Below.drew | (with_reducible refine Below.alloc ?_ (by first | omega | (simp; omega) | simp) _) | (with_reducible refine Below.setCell ?_ (by first | omega | (simp; omega) | simp) _) | exact Below.refl _ _))
  have X0 := (Blk.new w 29 #[.int .i64 L, .slice A1 l1.length c1, .slice A2 l2.length c2, .slice A3 l3.length c3, .int .i64 p, .int .i64 q, .int .i64 r]).alloc (.cells #[.slice A l.length c, .int .i64 a, .int .i64 b] 61)
  have Y0 := Blk.new' (w.alloc (.cells #[.int .i64 L, .slice A1 l1.length c1, .slice A2 l2.length c2, .slice A3 l3.length c3, .int .i64 p, .int .i64 q, .int .i64 r] 29)) 61 #[.slice A l.length c, .int .i64 a, .int .i64 b] (g := w.heap.size + 1) (by simp)
  have X := Lib.hid X
  have Y := Lib.hid Y
  go_enter Tryz.func8, Tryz.ntmps8
  go_wp2_with fail
  generalize ((w.alloc (.cells #[.int .i64 L, .slice A1 l1.length c1, .slice A2 l2.length c2, .slice A3 l3.length c3, .int .i64 p, .int .i64 q, .int .i64 r] 29)).alloc (.cells #[.slice A l.length c, .int .i64 a, .int .i64 b] 61)) = W at *
  refine Calls.mono (HZ W).out ?_; rintro e w1 ⟨⟨v, rfl, hv⟩, hb1⟩
  have hW1 := hW.trans (hb1.mono hW.size)
  have X1 := X0.below hb1 X0.lt
  have Y1 := Y0.below hb1 Y0.lt
  clear hW X0 Y0 hb1 HZ
  rcases hv with hv | ⟨hv0, hv1, hlen⟩
  · go_wp2
    go_ret
    exact ⟨rfl, (by repeat (first | with_reducible exact hW1 | with_reducible apply below_drewN' | with_reducible apply Below.drew | (with_reducible refine Below.alloc ?_ (by first | omega | (simp; omega) | simp) _) | (with_reducible refine Below.setCell ?_ (by first | omega | (simp; omega) | simp) _) | exact hW1))⟩
  have hvn : ¬ v < 0 := by omega
  have E := Lib.hid (X.out.ex hlen)
  have HZA := HZA v w1 ⟨hv0, hv1⟩
  clear X hlen
  have z0 : w1.cell? ⟨w.heap.size + 1, 0, none⟩ = some (.slice A l.length c) := Y1.cell 0
  have z1 : w1.cell? ⟨w.heap.size + 1, 1, none⟩ = some (.int .i64 a) := Y1.cell 1
  have z2 : w1.cell? ⟨w.heap.size + 1, 2, none⟩ = some (.int .i64 b) := Y1.cell 2
  go_wp2_with fail
  refine Calls.mono HZA.out ?_; rintro e w2 ⟨⟨v', rfl, hv'⟩, hb2⟩
  have hW2 := hW1.trans (hb2.mono hW1.size)
  have X2 := X1.below hb2 X1.lt
  have Y2 := Y1.below hb2 Y1.lt
  clear z0 z1 z2 hW1 X1 Y1 hb2 HZA
  rcases hv' with hv' | ⟨hv0', hv1', hlen⟩
  · go_wp2
    go_ret
    exact ⟨rfl, (by repeat (first | with_reducible exact hW2 | with_reducible apply below_drewN' | with_reducible apply Below.drew | (with_reducible refine Below.alloc ?_ (by first | omega | (simp; omega) | simp) _) | (with_reducible refine Below.setCell ?_ (by first | omega | (simp; omega) | simp) _) | exact hW2))⟩
  have hvn' : ¬ v' < 0 := by omega
  have F : Hid (AnIn w A c l) := ⟨hlen, Y.out.k, Y.out.s⟩
  clear Y hlen
  have HT := fun (W : World) (hW : Below w.heap.size w W) => Lib.hid (toEx_c L A1 c1 l1 A2 c2 l2 A3 c3 l3 p q r W (E.out.later hW))
  unfold exAgg at HT
  have HT := Lib.hid HT
  have HU := fun (W : World) (hW : Below w.heap.size w W) => Lib.hid (toAn_c A c l a b W (F.out.later hW))
  have HU := Lib.hid HU
  have HSp := fun (B1 : Option Addr) d1 B2 d2 B3 d3 B d W (E' : ExIn W B1 d1 l1 B2 d2 l2 B3 d3 l3) (F' : AnIn W B d l) => Lib.hid (specGradeOf_c L B1 d1 l1 B2 d2 l2 B3 d3 l3 p q r B d l a b W E' F')
  have HIm := fun (B1 : Option Addr) d1 B2 d2 B3 d3 B d W (E' : ExIn W B1 d1 l1 B2 d2 l2 B3 d3 l3) (F' : AnIn W B d l) => Lib.hid (implGradeOf_c L B1 d1 l1 B2 d2 l2 B3 d3 l3 p q r B d l a b W E' F')
  have HSp := Lib.hid HSp
  have HIm := Lib.hid HIm
  generalize (if (exB L l1 l2 l3 p q r && ansB l a b) = true then gradeP L l1 l2 l3 p q r ⟨a, b⟩ else 0) = g0 at *
  generalize (if (exB L l1 l2 l3 p q r && ansB l a b) = true then (0 : Int) else 1) = g1 at *
  go_wp2_with fail
  refine wp_region_all (fun a0 fL bA v => ∃ v23 v24 v25 v26 v27 v22 v28 v29 v6 v7 : Value, bA = (((((((((a0.put (some 23) v23).put (some 24) v24).put (some 25) v25).put (some 26) v26).put (some 27) v27).put (some 22) v22).put (some 28) v28).put (some 29) v29).put (some 6) v6).put (some 7) v7 ∧ (TwS w2 (fL 1) (fL 3) (fun x v => ExCopy L l1 l2 l3 p q r x v w2.heap.size) (fun x v => AnCopy l a b x v w2.heap.size) v24 v26 v) ∧ (fL 0 = true → v23 = .agg #[.int .i64 L, .slice A1 l1.length c1, .slice A2 l2.length c2, .slice A3 l3.length c3, .int .i64 p, .int .i64 q, .int .i64 r]) ∧ (fL 1 = true → True) ∧ (fL 2 = true → v25 = .agg #[.slice A l.length c, .int .i64 a, .int .i64 b]) ∧ (fL 3 = true → True) ∧ (fL 4 = true → v27 = .tuple #[.int .i64 g0, .int .i64 g1]) ∧ (fL 5 = true → v22 = .tuple #[.int .i64 g0, .int .i64 g1]) ∧ (fL 6 = true → v28 = .int .i64 g0) ∧ (fL 7 = true → v29 = .int .i64 g1) ∧ (fL 8 = true → v6 = .int .i64 g0) ∧ (fL 9 = true → v7 = .int .i64 g1)) (by kernel_rfl) (by decide +kernel) ?_ ?_ ?_
  · exact ⟨undef, undef, undef, undef, undef, undef, undef, undef, undef, undef, by simp only [Act.put, List.setIfInBounds_toArray, List.set_cons_zero, List.set_cons_succ], ⟨(Below.refl _ _).drew, nofun, nofun⟩, nofun, nofun, nofun, nofun, nofun, nofun, nofun, nofun, nofun, nofun⟩
  · rintro fL bA v ⟨v23, v24, v25, v26, v27, v22, v28, v29, v6, v7, rfl, hS, q0, q1, q2, q3, q4, q5, q6, q7, q8, q9⟩ i hi hf o ho hall
    simp only [Act.put, List.setIfInBounds_toArray, List.set_cons_zero, List.set_cons_succ]
    simp only [List.length_cons, List.length_nil] at hi
    have hn : i = 0 ∨ i = 1 ∨ i = 2 ∨ i = 3 ∨ i = 4 ∨ i = 5 ∨ i = 6 ∨ i = 7 ∨ i = 8 ∨ i = 9 := by omega
    clear hi
    rcases hn with rfl | rfl | rfl | rfl | rfl | rfl | rfl | rfl | rfl | rfl
    · obtain rfl := Option.some.inj ho
      have FF := X2.below hS.hb X2.lt
      have y0 : v.cell? ⟨w.heap.size, 0, none⟩ = some (.int .i64 L) := FF.cell 0
      have y1 : v.cell? ⟨w.heap.size, 1, none⟩ = some (.slice A1 l1.length c1) := FF.cell 1
      have y2 : v.cell? ⟨w.heap.size, 2, none⟩ = some (.slice A2 l2.length c2) := FF.cell 2
      have y3 : v.cell? ⟨w.heap.size, 3, none⟩ = some (.slice A3 l3.length c3) := FF.cell 3
      have y4 : v.cell? ⟨w.heap.size, 4, none⟩ = some (.int .i64 p) := FF.cell 4
      have y5 : v.cell? ⟨w.heap.size, 5, none⟩ = some (.int .i64 q) := FF.cell 5
      have y6 : v.cell? ⟨w.heap.size, 6, none⟩ = some (.int .i64 r) := FF.cell 6
      clear hall ho
      refine wpOp_step rfl (fun K hK => ?_)
      go_simp
      exact hK _ _ ⟨_, _, _, _, _, _, _, _, _, _, rfl, hS, fun _ => rfl, fun _ => trivial, q2, fun _ => trivial, q4, q5, q6, q7, q8, q9⟩
    · obtain rfl := Option.some.inj ho
      obtain rfl := q0 (hall ⟨0, .data⟩ (by simp) rfl)
      clear hall ho
      refine wpOp_step rfl (fun K hK => ?_)
      go_simp
      refine Calls.mono (HT.out v (hW2.trans (hS.hb.mono hW2.size))).out ?_; rintro e w7 ⟨⟨u, rfl, hu⟩, hb7⟩
      go_simp
      exact hK _ _ ⟨_, _, _, _, _, _, _, _, _, _, rfl, ⟨hS.hb.trans (hb7.mono hS.hb.size), fun _ => hu.weak hS.hb.size, fun e => (hS.q2 e).below hb7⟩, fun _ => rfl, fun _ => trivial, q2, fun _ => trivial, q4, q5, q6, q7, q8, q9⟩
    · obtain rfl := Option.some.inj ho
      have FF := Y2.below hS.hb Y2.lt
      have z0 : v.cell? ⟨w.heap.size + 1, 0, none⟩ = some (.slice A l.length c) := FF.cell 0
      have z1 : v.cell? ⟨w.heap.size + 1, 1, none⟩ = some (.int .i64 a) := FF.cell 1
      have z2 : v.cell? ⟨w.heap.size + 1, 2, none⟩ = some (.int .i64 b) := FF.cell 2
      clear hall ho
      refine wpOp_step rfl (fun K hK => ?_)
      go_simp
      exact hK _ _ ⟨_, _, _, _, _, _, _, _, _, _, rfl, hS, q0, fun _ => trivial, fun _ => rfl, fun _ => trivial, q4, q5, q6, q7, q8, q9⟩
    · obtain rfl := Option.some.inj ho
      obtain rfl := q2 (hall ⟨2, .data⟩ (by simp) rfl)
      clear hall ho
      refine wpOp_step rfl (fun K hK => ?_)
      go_simp
      refine Calls.mono (HU.out v (hW2.trans (hS.hb.mono hW2.size))).out ?_; rintro e w7 ⟨⟨u, rfl, hu⟩, hb7⟩
      go_simp
      exact hK _ _ ⟨_, _, _, _, _, _, _, _, _, _, rfl, ⟨hS.hb.trans (hb7.mono hS.hb.size), fun e => (hS.q1 e).below hb7, fun _ => hu.weak hS.hb.size⟩, q0, fun _ => trivial, fun _ => rfl, fun _ => trivial, q4, q5, q6, q7, q8, q9⟩
    · obtain rfl := Option.some.inj ho
      have e1 : fL 1 = true := hall ⟨1, .data⟩ (by simp) rfl
      have e3 : fL 3 = true := hall ⟨3, .data⟩ (by simp) rfl
      clear hall ho
      refine wpOp_step rfl (fun K hK => ?_)
      obtain ⟨H1, h1, H2, h2, H3, h3, rfl, EH, _, _, _⟩ := hS.q1 e1
      obtain ⟨H, h, rfl, FH, _⟩ := hS.q2 e3
      unfold exAgg
      go_simp
      refine Calls.mono (HSp.out H1 h1 H2 h2 H3 h3 H h v EH FH).out ?_; rintro e w7 ⟨rfl, hb7⟩
      go_simp
      exact hK _ _ ⟨_, _, _, _, _, _, _, _, _, _, rfl, ⟨hS.hb.trans (hb7.mono hS.hb.size), fun e => (hS.q1 e).below hb7, fun e => (hS.q2 e).below hb7⟩, q0, fun _ => trivial, q2, fun _ => trivial, fun _ => rfl, q5, q6, q7, q8, q9⟩
    · obtain rfl := Option.some.inj ho
      obtain rfl := q4 (hall ⟨4, .data⟩ (by simp) rfl)
      clear hall ho
      refine wpOp_step rfl (fun K hK => ?_)
      go_simp
      exact hK _ _ ⟨_, _, _, _, _, _, _, _, _, _, rfl, hS, q0, fun _ => trivial, q2, fun _ => trivial, fun _ => rfl, fun _ => rfl, q6, q7, q8, q9⟩
    · obtain rfl := Option.some.inj ho
      obtain rfl := q5 (hall ⟨5, .data⟩ (by simp) rfl)
      clear hall ho
      refine wpOp_step rfl (fun K hK => ?_)
      go_simp
      exact hK _ _ ⟨_, _, _, _, _, _, _, _, _, _, rfl, hS, q0, fun _ => trivial, q2, fun _ => trivial, q4, fun _ => rfl, fun _ => rfl, q7, q8, q9⟩
    · obtain rfl := Option.some.inj ho
      obtain rfl := q5 (hall ⟨5, .data⟩ (by simp) rfl)
      clear hall ho
      refine wpOp_step rfl (fun K hK => ?_)
      go_simp
      exact hK _ _ ⟨_, _, _, _, _, _, _, _, _, _, rfl, hS, q0, fun _ => trivial, q2, fun _ => trivial, q4, fun _ => rfl, q6, fun _ => rfl, q8, q9⟩
    · obtain rfl := Option.some.inj ho
      obtain rfl := q6 (hall ⟨6, .data⟩ (by simp) rfl)
      clear hall ho
      refine wpOp_step rfl (fun K hK => ?_)
      go_simp
      exact hK _ _ ⟨_, _, _, _, _, _, _, _, _, _, rfl, hS, q0, fun _ => trivial, q2, fun _ => trivial, q4, q5, fun _ => rfl, q7, fun _ => rfl, q9⟩
    · obtain rfl := Option.some.inj ho
      obtain rfl := q7 (hall ⟨7, .data⟩ (by simp) rfl)
      clear hall ho
      refine wpOp_step rfl (fun K hK => ?_)
      go_simp
      exact hK _ _ ⟨_, _, _, _, _, _, _, _, _, _, rfl, hS, q0, fun _ => trivial, q2, fun _ => trivial, q4, q5, q6, fun _ => rfl, q8, fun _ => rfl⟩
  · rintro fL bA v ⟨v23, v24, v25, v26, v27, v22, v28, v29, v6, v7, rfl, hS, q0, q1, q2, q3, q4, q5, q6, q7, q8, q9⟩ hall
    simp only [Act.put, List.setIfInBounds_toArray, List.set_cons_zero, List.set_cons_succ]
    simp only [List.length_cons, List.length_nil] at hall
    obtain rfl := q0 (hall 0 (by omega))
    have e1 : fL 1 = true := hall 1 (by omega)
    obtain rfl := q2 (hall 2 (by omega))
    have e3 : fL 3 = true := hall 3 (by omega)
    obtain rfl := q4 (hall 4 (by omega))
    obtain rfl := q5 (hall 5 (by omega))
    obtain rfl := q6 (hall 6 (by omega))
    obtain rfl := q7 (hall 7 (by omega))
    obtain rfl := q8 (hall 8 (by omega))
    obtain rfl := q9 (hall 9 (by omega))
    clear hall
    have hW3 := hW2.trans (hS.hb.mono hW2.size)
    have X3 := X2.below hS.hb X2.lt
    have Y3 := Y2.below hS.hb Y2.lt
    clear hS HSp hW2 X2 Y2
    have y0 : v.cell? ⟨w.heap.size, 0, none⟩ = some (.int .i64 L) := X3.cell 0
    have y1 : v.cell? ⟨w.heap.size, 1, none⟩ = some (.slice A1 l1.length c1) := X3.cell 1
    have y2 : v.cell? ⟨w.heap.size, 2, none⟩ = some (.slice A2 l2.length c2) := X3.cell 2
    have y3 : v.cell? ⟨w.heap.size, 3, none⟩ = some (.slice A3 l3.length c3) := X3.cell 3
    have y4 : v.cell? ⟨w.heap.size, 4, none⟩ = some (.int .i64 p) := X3.cell 4
    have y5 : v.cell? ⟨w.heap.size, 5, none⟩ = some (.int .i64 q) := X3.cell 5
    have y6 : v.cell? ⟨w.heap.size, 6, none⟩ = some (.int .i64 r) := X3.cell 6
    go_wp2_with fail
    refine Calls.mono (HT.out v hW3).out ?_; rintro e w4 ⟨⟨v4, rfl, G1, k1, G2, k2, G3, k3, rfl, E4, _, _, _⟩, hb4⟩
    have hW4 := hW3.trans (hb4.mono hW3.size)
    have X4 := X3.below hb4 X3.lt
    have Y4 := Y3.below hb4 Y3.lt
    clear y0 y1 y2 y3 y4 y5 y6 hb4 X3 Y3 hW3
    unfold exAgg
    have hba : Below w4.heap.size w4 (w4.alloc (.cells #[.int .i64 L, .slice G1 l1.length k1, .slice G2 l2.length k2, .slice G3 l3.length k3, .int .i64 p, .int .i64 q, .int .i64 r] 36)) := (Below.refl _ _).alloc (Nat.le_refl _) _
    have E7 := E4.later hba
    have X7 := X4.below hba X4.lt
    have Y7 := Y4.below hba Y4.lt
    have K7 := Blk.new w4 36 #[.int .i64 L, .slice G1 l1.length k1, .slice G2 l2.length k2, .slice G3 l3.length k3, .int .i64 p, .int .i64 q, .int .i64 r]
    have hW7 := hW4.trans (hba.mono hW4.size)
    have z0 : (w4.alloc (.cells #[.int .i64 L, .slice G1 l1.length k1, .slice G2 l2.length k2, .slice G3 l3.length k3, .int .i64 p, .int .i64 q, .int .i64 r] 36)).cell? ⟨w.heap.size + 1, 0, none⟩ = some (.slice A l.length c) := Y7.cell 0
    have z1 : (w4.alloc (.cells #[.int .i64 L, .slice G1 l1.length k1, .slice G2 l2.length k2, .slice G3 l3.length k3, .int .i64 p, .int .i64 q, .int .i64 r] 36)).cell? ⟨w.heap.size + 1, 1, none⟩ = some (.int .i64 a) := Y7.cell 1
    have z2 : (w4.alloc (.cells #[.int .i64 L, .slice G1 l1.length k1, .slice G2 l2.length k2, .slice G3 l3.length k3, .int .i64 p, .int .i64 q, .int .i64 r] 36)).cell? ⟨w.heap.size + 1, 2, none⟩ = some (.int .i64 b) := Y7.cell 2
    clear E4 X4 Y4 hW4 hba
    go_wp2_with fail
    generalize w4.alloc (.cells #[.int .i64 L, .slice G1 l1.length k1, .slice G2 l2.length k2, .slice G3 l3.length k3, .int .i64 p, .int .i64 q, .int .i64 r] 36) = w7 at *
    generalize w4.heap.size = gx at *
    refine Calls.mono (HU.out w7 hW7).out ?_; rintro e w8 ⟨⟨v8, rfl, H, h, rfl, F8, _⟩, hb8⟩
    have hW8 := hW7.trans (hb8.mono hW7.size)
    have X8 := X7.below hb8 X7.lt
    have Y8 := Y7.below hb8 Y7.lt
    have K8 := K7.below hb8 K7.lt
    have E8 := E7.later hb8
    clear z0 z1 z2 hW7 X7 Y7 K7 E7 hb8
    have hbc : Below w8.heap.size w8 (w8.alloc (.cells #[.slice H l.length h, .int .i64 a, .int .i64 b] 67)) := (Below.refl _ _).alloc (Nat.le_refl _) _
    have hcall := HIm.out G1 k1 G2 k2 G3 k3 H h _ (E8.later hbc) (F8.later hbc)
    have K9 := K8.below hbc K8.lt
    have y0 : (w8.alloc (.cells #[.slice H l.length h, .int .i64 a, .int .i64 b] 67)).cell? ⟨gx, 0, none⟩ = some (.int .i64 L) := K9.cell 0
    have y1 : (w8.alloc (.cells #[.slice H l.length h, .int .i64 a, .int .i64 b] 67)).cell? ⟨gx, 1, none⟩ = some (.slice G1 l1.length k1) := K9.cell 1
    have y2 : (w8.alloc (.cells #[.slice H l.length h, .int .i64 a, .int .i64 b] 67)).cell? ⟨gx, 2, none⟩ = some (.slice G2 l2.length k2) := K9.cell 2
    have y3 : (w8.alloc (.cells #[.slice H l.length h, .int .i64 a, .int .i64 b] 67)).cell? ⟨gx, 3, none⟩ = some (.slice G3 l3.length k3) := K9.cell 3
    have y4 : (w8.alloc (.cells #[.slice H l.length h, .int .i64 a, .int .i64 b] 67)).cell? ⟨gx, 4, none⟩ = some (.int .i64 p) := K9.cell 4
    have y5 : (w8.alloc (.cells #[.slice H l.length h, .int .i64 a, .int .i64 b] 67)).cell? ⟨gx, 5, none⟩ = some (.int .i64 q) := K9.cell 5
    have y6 : (w8.alloc (.cells #[.slice H l.length h, .int .i64 a, .int .i64 b] 67)).cell? ⟨gx, 6, none⟩ = some (.int .i64 r) := K9.cell 6
    go_wp2_with fail
    have E9 := E8.later hbc
    have F9 := F8.later hbc
    have X9 := X8.below hbc X8.lt
    have Y9 := Y8.below hbc Y8.lt
    have M9 := Blk.new w8 67 #[.slice H l.length h, .int .i64 a, .int .i64 b]
    have hW9 := hW8.trans (hbc.mono hW8.size)
    clear y0 y1 y2 y3 y4 y5 y6 E8 F8 X8 Y8 K8 hW8 hbc
    generalize w8.alloc (.cells #[.slice H l.length h, .int .i64 a, .int .i64 b] 67) = w9 at *
    generalize w8.heap.size = ga at *
    refine Calls.mono hcall.out ?_; rintro e w10 ⟨rfl, hb10⟩
    have E10 := Lib.hid (E9.later hb10)
    have F10 := Lib.hid (F9.later hb10)
    have X10 := X9.below hb10 X9.lt
    have Y10 := Y9.below hb10 Y9.lt
    have K10 := K9.below hb10 K9.lt
    have M10 := M9.below hb10 M9.lt
    have hW10 := hW9.trans (hb10.mono hW9.size)
    clear E9 F9 X9 Y9 K9 M9 hW9 hb10 hcall HIm
    go_wp2_with fail
    refine wp_region_sink 4 (fun a0 fL bA v => ∃ v48 v49 v50 v51 : Value, bA = (((a0.put (some 48) v48).put (some 49) v49).put (some 50) v50).put (some 51) v51 ∧ (EqS w10 (fL 2) (fun x v => ExCopy L l1 l2 l3 p q r x v w10.heap.size) v50 v) ∧ (fL 0 = true → v48 = .agg #[.int .i64 L, .slice G1 l1.length k1, .slice G2 l2.length k2, .slice G3 l3.length k3, .int .i64 p, .int .i64 q, .int .i64 r]) ∧ (fL 1 = true → v49 = .agg #[.int .i64 L, .slice A1 l1.length c1, .slice A2 l2.length c2, .slice A3 l3.length c3, .int .i64 p, .int .i64 q, .int .i64 r]) ∧ (fL 2 = true → True) ∧ (fL 3 = true → v51 = .bool true)) (by kernel_rfl) (by decide +kernel) ?_ ?_ ?_
    · exact ⟨undef, undef, undef, undef, by simp only [Act.put, List.setIfInBounds_toArray, List.set_cons_zero, List.set_cons_succ], ⟨(Below.refl _ _).drew, nofun⟩, nofun, nofun, nofun, nofun⟩
    · rintro fL bA v ⟨v48, v49, v50, v51, rfl, hS, q0, q1, q2, q3⟩ i hi hf o ho hall
      simp only [Act.put, List.setIfInBounds_toArray, List.set_cons_zero, List.set_cons_succ]
      have hn : i = 0 ∨ i = 1 ∨ i = 2 ∨ i = 3 := by omega
      clear hi
      rcases hn with rfl | rfl | rfl | rfl
      · obtain rfl := Option.some.inj ho
        have FF := K10.below hS.hb K10.lt
        have y0 : v.cell? ⟨gx, 0, none⟩ = some (.int .i64 L) := FF.cell 0
        have y1 : v.cell? ⟨gx, 1, none⟩ = some (.slice G1 l1.length k1) := FF.cell 1
        have y2 : v.cell? ⟨gx, 2, none⟩ = some (.slice G2 l2.length k2) := FF.cell 2
        have y3 : v.cell? ⟨gx, 3, none⟩ = some (.slice G3 l3.length k3) := FF.cell 3
        have y4 : v.cell? ⟨gx, 4, none⟩ = some (.int .i64 p) := FF.cell 4
        have y5 : v.cell? ⟨gx, 5, none⟩ = some (.int .i64 q) := FF.cell 5
        have y6 : v.cell? ⟨gx, 6, none⟩ = some (.int .i64 r) := FF.cell 6
        clear hall ho
        refine wpOp_step rfl (fun K hK => ?_)
        go_simp
        exact hK _ _ ⟨_, _, _, _, rfl, hS, fun _ => rfl, q1, fun _ => trivial, q3⟩
      · obtain rfl := Option.some.inj ho
        have FF := X10.below hS.hb X10.lt
        have y0 : v.cell? ⟨w.heap.size, 0, none⟩ = some (.int .i64 L) := FF.cell 0
        have y1 : v.cell? ⟨w.heap.size, 1, none⟩ = some (.slice A1 l1.length c1) := FF.cell 1
        have y2 : v.cell? ⟨w.heap.size, 2, none⟩ = some (.slice A2 l2.length c2) := FF.cell 2
        have y3 : v.cell? ⟨w.heap.size, 3, none⟩ = some (.slice A3 l3.length c3) := FF.cell 3
        have y4 : v.cell? ⟨w.heap.size, 4, none⟩ = some (.int .i64 p) := FF.cell 4
        have y5 : v.cell? ⟨w.heap.size, 5, none⟩ = some (.int .i64 q) := FF.cell 5
        have y6 : v.cell? ⟨w.heap.size, 6, none⟩ = some (.int .i64 r) := FF.cell 6
        clear hall ho
        refine wpOp_step rfl (fun K hK => ?_)
        go_simp
        exact hK _ _ ⟨_, _, _, _, rfl, hS, q0, fun _ => rfl, fun _ => trivial, q3⟩
      · obtain rfl := Option.some.inj ho
        obtain rfl := q1 (hall ⟨1, .data⟩ (by simp) rfl)
        clear hall ho
        refine wpOp_step rfl (fun K hK => ?_)
        go_simp
        refine Calls.mono (HT.out v (hW10.trans (hS.hb.mono hW10.size))).out ?_; rintro e w11 ⟨⟨u, rfl, hu⟩, hb11⟩
        go_simp
        exact hK _ _ ⟨_, _, _, _, rfl, ⟨hS.hb.trans (hb11.mono hS.hb.size), fun _ => hu.weak hS.hb.size⟩, q0, fun _ => rfl, fun _ => trivial, q3⟩
      · obtain rfl := Option.some.inj ho
        obtain rfl := q0 (hall ⟨0, .data⟩ (by simp) rfl)
        have e2 : fL 2 = true := hall ⟨2, .data⟩ (by simp) rfl
        clear hall ho
        refine wpOp_step rfl (fun K hK => ?_)
        obtain ⟨H1, h1, H2, h2, H3, h3, rfl, EH, _, _, _⟩ := hS.q e2
        unfold exAgg
        go_simp
        refine Calls.mono (eqEx_c L G1 k1 H1 h1 l1 G2 k2 H2 h2 l2 G3 k3 H3 h3 l3 p q r v (E10.out.later hS.hb) EH) ?_; rintro e w11 ⟨rfl, hb11⟩
        go_simp
        exact hK _ _ ⟨_, _, _, _, rfl, ⟨hS.hb.trans (hb11.mono hS.hb.size), fun e => (hS.q e).below hb11⟩, fun _ => rfl, q1, fun _ => trivial, fun _ => rfl⟩
    · rintro fL bA v ⟨v48, v49, v50, v51, rfl, hS, q0, q1, q2, q3⟩ hall
      simp only [Act.put, List.setIfInBounds_toArray, List.set_cons_zero, List.set_cons_succ]
      obtain rfl := q0 (hall 0 (by omega))
      obtain rfl := q1 (hall 1 (by omega))
      have e2 : fL 2 = true := hall 2 (by omega)
      obtain rfl := q3 (hall 3 (by omega))
      clear hall
      simp only [List.drop_succ_cons, List.drop_zero]
      have hW12 := hW10.trans (hS.hb.mono hW10.size)
      have F12 := Lib.hid (F10.out.later hS.hb)
      have Y12 := Y10.below hS.hb Y10.lt
      have M12 := M10.below hS.hb M10.lt
      clear hS hW10 E10 F10 X10 Y10 K10 M10 HT
      generalize v = w12 at *
      go_wp2_with fail
      refine wp_region_sink 4 (fun a0 fL bA v => ∃ v53 v54 v55 v56 : Value, bA = (((a0.put (some 53) v53).put (some 54) v54).put (some 55) v55).put (some 56) v56 ∧ (EqS w12 (fL 2) (fun x v => AnCopy l a b x v w12.heap.size) v55 v) ∧ (fL 0 = true → v53 = .agg #[.slice H l.length h, .int .i64 a, .int .i64 b]) ∧ (fL 1 = true → v54 = .agg #[.slice A l.length c, .int .i64 a, .int .i64 b]) ∧ (fL 2 = true → True) ∧ (fL 3 = true → v56 = .bool true)) (by kernel_rfl) (by decide +kernel) ?_ ?_ ?_
      · exact ⟨undef, undef, undef, undef, by simp only [Act.put, List.setIfInBounds_toArray, List.set_cons_zero, List.set_cons_succ], ⟨(Below.refl _ _).drew, nofun⟩, nofun, nofun, nofun, nofun⟩
      · rintro fL bA v ⟨v53, v54, v55, v56, rfl, hS, q0, q1, q2, q3⟩ i hi hf o ho hall
        simp only [Act.put, List.setIfInBounds_toArray, List.set_cons_zero, List.set_cons_succ]
        have hn : i = 0 ∨ i = 1 ∨ i = 2 ∨ i = 3 := by omega
        clear hi
        rcases hn with rfl | rfl | rfl | rfl
        · obtain rfl := Option.some.inj ho
          have FF := M12.below hS.hb M12.lt
          have y0 : v.cell? ⟨ga, 0, none⟩ = some (.slice H l.length h) := FF.cell 0
          have y1 : v.cell? ⟨ga, 1, none⟩ = some (.int .i64 a) := FF.cell 1
          have y2 : v.cell? ⟨ga, 2, none⟩ = some (.int .i64 b) := FF.cell 2
          clear hall ho
          refine wpOp_step rfl (fun K hK => ?_)
          go_simp
          exact hK _ _ ⟨_, _, _, _, rfl, hS, fun _ => rfl, q1, fun _ => trivial, q3⟩
        · obtain rfl := Option.some.inj ho
          have FF := Y12.below hS.hb Y12.lt
          have y0 : v.cell? ⟨w.heap.size + 1, 0, none⟩ = some (.slice A l.length c) := FF.cell 0
          have y1 : v.cell? ⟨w.heap.size + 1, 1, none⟩ = some (.int .i64 a) := FF.cell 1
          have y2 : v.cell? ⟨w.heap.size + 1, 2, none⟩ = some (.int .i64 b) := FF.cell 2
          clear hall ho
          refine wpOp_step rfl (fun K hK => ?_)
          go_simp
          exact hK _ _ ⟨_, _, _, _, rfl, hS, q0, fun _ => rfl, fun _ => trivial, q3⟩
        · obtain rfl := Option.some.inj ho
          obtain rfl := q1 (hall ⟨1, .data⟩ (by simp) rfl)
          clear hall ho
          refine wpOp_step rfl (fun K hK => ?_)
          go_simp
          refine Calls.mono (HU.out v (hW12.trans (hS.hb.mono hW12.size))).out ?_; rintro e w13 ⟨⟨u, rfl, hu⟩, hb13⟩
          go_simp
          exact hK _ _ ⟨_, _, _, _, rfl, ⟨hS.hb.trans (hb13.mono hS.hb.size), fun _ => hu.weak hS.hb.size⟩, q0, fun _ => rfl, fun _ => trivial, q3⟩
        · obtain rfl := Option.some.inj ho
          obtain rfl := q0 (hall ⟨0, .data⟩ (by simp) rfl)
          have e2 : fL 2 = true := hall ⟨2, .data⟩ (by simp) rfl
          clear hall ho
          refine wpOp_step rfl (fun K hK => ?_)
          obtain ⟨B, d, rfl, FH, _⟩ := hS.q e2
          go_simp
          refine Calls.mono (eqAn_c H B h d l a b v (F12.out.later hS.hb) FH) ?_; rintro e w13 ⟨rfl, hb13⟩
          go_simp
          exact hK _ _ ⟨_, _, _, _, rfl, ⟨hS.hb.trans (hb13.mono hS.hb.size), fun e => (hS.q e).below hb13⟩, fun _ => rfl, q1, fun _ => trivial, fun _ => rfl⟩
      · rintro fL bA v ⟨v53, v54, v55, v56, rfl, hS, q0, q1, q2, q3⟩ hall
        simp only [Act.put, List.setIfInBounds_toArray, List.set_cons_zero, List.set_cons_succ]
        obtain rfl := q0 (hall 0 (by omega))
        obtain rfl := q1 (hall 1 (by omega))
        have e2 : fL 2 = true := hall 2 (by omega)
        obtain rfl := q3 (hall 3 (by omega))
        clear hall
        simp only [List.drop_succ_cons, List.drop_zero]
        have hbv := hW12.trans (hS.hb.mono hW12.size)
        go_wp2
        go_ret
        exact ⟨rfl, (by repeat (first | with_reducible exact hbv | with_reducible apply below_drewN' | with_reducible apply Below.drew | (with_reducible refine Below.alloc ?_ (by first | omega | (simp; omega) | simp) _) | (with_reducible refine Below.setCell ?_ (by first | omega | (simp; omega) | simp) _) | exact hbv))⟩
end Go.Proofs.YtgkobjpoeajkdaaGreat
