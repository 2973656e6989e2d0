/- The small functions behind a mark's place: differences, halves and thirds of intervals. No condition beyond bounds. The point of a figure on ScaleC, the program's and the reference's. Condition: the digits are in range. Sums of intervals, and the reference's logarithm of a figure. Conditions: bounds. append of rows to a slice of the call's own, in the words of Mem. Slices of int64: the laws' copies, comparisons and marks of them. No condition beyond the length. Errors: the structure, the laws' copies and comparisons of it. No condition beyond the length. -/
import Derived.Deep.RegionHeld3
import Derived.IntWalk
import Derived.Maps.AppendAt
import Derived.Deep.AppendLies
import Derived.OwnWalk
import Derived.StillTailTactics
import Derived.Test.YtednjmldjbndhaaGreatKEy1
set_option linter.unusedSimpArgs false
set_option linter.unusedVariables false
namespace Go.Proofs.YtednjmldjbndhaaGreat
open Go.RowKit
set_option maxRecDepth 100000 in
theorem difference_c (a b a' b' : Int) (w : World) (h : -1099511627776 ≤ a ∧ a ≤ 1099511627776) (h2 : -1099511627776 ≤ b ∧ b ≤ 1099511627776) (h3 : -1099511627776 ≤ a' ∧ a' ≤ 1099511627776) (h4 : -1099511627776 ≤ b' ∧ b' ≤ 1099511627776) :
    Calls Tryz.prog 189 #[.agg #[.int .i64 a, .int .i64 b], .agg #[.int .i64 a', .int .i64 b']] w fun e w' => e = .returned (.agg #[.int .i64 (a - b'), .int .i64 (b - a')]) ∧ Below w.heap.size w w' := by
  obtain ⟨p1, p2⟩ := h
  obtain ⟨p3, p4⟩ := h2
  obtain ⟨p5, p6⟩ := h3
  obtain ⟨p7, p8⟩ := h4
  go_enter Tryz.func189, Tryz.ntmps189
  go_wp2
  refine bodyPost_ret (v := .agg #[.int .i64 (a - b'), .int .i64 (b - a')]) (by simp [results, Tryz.results189, go_sem]) rfl ⟨rfl, (by repeat (first | with_reducible exact Below.refl _ _ | with_reducible apply below_drewN' | with_reducible apply Below.drew | (with_reducible refine Below.alloc ?_ (by first | omega | (simp; omega) | simp | (have := (Below.refl _ _).size; omega) | (have := (Below.refl _ _).size; simp; omega)) _) | (with_reducible refine Below.setCell ?_ (by first | omega | (simp; omega) | simp | (have := (Below.refl _ _).size; omega) | (have := (Below.refl _ _).size; simp; omega)) _) | exact Below.refl _ _))⟩
set_option maxRecDepth 100000 in
theorem l03Sub_c (a b a' b' : Int) (w : World) (h : -1099511627776 ≤ a ∧ a ≤ 1099511627776) (h2 : -1099511627776 ≤ b ∧ b ≤ 1099511627776) (h3 : -1099511627776 ≤ a' ∧ a' ≤ 1099511627776) (h4 : -1099511627776 ≤ b' ∧ b' ≤ 1099511627776) :
    Calls Tryz.prog 212 #[.agg #[.int .i64 a, .int .i64 b], .agg #[.int .i64 a', .int .i64 b']] w fun e w' => e = .returned (.agg #[.int .i64 (a - b'), .int .i64 (b - a')]) ∧ Below w.heap.size w w' := by
  obtain ⟨p1, p2⟩ := h
  obtain ⟨p3, p4⟩ := h2
  obtain ⟨p5, p6⟩ := h3
  obtain ⟨p7, p8⟩ := h4
  go_enter Tryz.func212, Tryz.ntmps212
  go_wp2
  refine bodyPost_ret (v := .agg #[.int .i64 (a - b'), .int .i64 (b - a')]) (by simp [results, Tryz.results212, go_sem]) rfl ⟨rfl, (by repeat (first | with_reducible exact Below.refl _ _ | with_reducible apply below_drewN' | with_reducible apply Below.drew | (with_reducible refine Below.alloc ?_ (by first | omega | (simp; omega) | simp | (have := (Below.refl _ _).size; omega) | (have := (Below.refl _ _).size; simp; omega)) _) | (with_reducible refine Below.setCell ?_ (by first | omega | (simp; omega) | simp | (have := (Below.refl _ _).size; omega) | (have := (Below.refl _ _).size; simp; omega)) _) | exact Below.refl _ _))⟩
set_option maxRecDepth 100000 in
theorem scaled_c (a b d : Int) (w : World) (h : -1099511627776 ≤ a ∧ a ≤ 1099511627776) (h2 : -1099511627776 ≤ b ∧ b ≤ 1099511627776) (hd : 0 < d ∧ d ≤ 12) :
    Calls Tryz.prog 188 #[.agg #[.int .i64 a, .int .i64 b], .int .i64 1, .int .i64 d] w fun e w' => e = .returned (.agg #[.int .i64 ((min a b) / d), .int .i64 (-(-(max a b) / d))]) ∧ Below w.heap.size w w' := by
  obtain ⟨p1, p2⟩ := h
  obtain ⟨p3, p4⟩ := h2
  obtain ⟨d1, d2⟩ := hd
  have e1 : a * 1 = a := Int.mul_one a
  have e2 : b * 1 = b := Int.mul_one b
  have s1 : IntKind.i64.wrap a = a := IntWalk.i64_in _ (by omega)
  have s2 : IntKind.i64.wrap b = b := IntWalk.i64_in _ (by omega)
  go_enter Tryz.func188, Tryz.ntmps188
  go_wp2_with fail
  go_quiet (fail)
  clear e1 e2 s1 s2
  go_wp2_with (first | (go_at_call 150; refine (down_c _ _ _ (by omega) (by omega)).mono ?_; rintro e w' ⟨rfl, rfl⟩) | (go_at_call 185; refine (up_c _ _ _ (by omega) (by omega)).mono ?_; rintro e w' ⟨rfl, rfl⟩))
  all_goals
    first
      | (have q1 : min a b = a := (by omega); have q2 : max a b = a := (by omega); refine bodyPost_ret (v := .agg #[.int .i64 (min a b / d), .int .i64 (-(-(max a b) / d))]) (by simp [results, Tryz.results188, go_sem, q1, q2]) rfl ⟨rfl, (by repeat (first | with_reducible exact Below.refl _ _ | with_reducible apply below_drewN' | with_reducible apply Below.drew | (with_reducible refine Below.alloc ?_ (by first | omega | (simp; omega) | simp | (have := (Below.refl _ _).size; omega) | (have := (Below.refl _ _).size; simp; omega)) _) | (with_reducible refine Below.setCell ?_ (by first | omega | (simp; omega) | simp | (have := (Below.refl _ _).size; omega) | (have := (Below.refl _ _).size; simp; omega)) _) | exact Below.refl _ _))⟩)
      | (have q1 : min a b = a := (by omega); have q2 : max a b = b := (by omega); refine bodyPost_ret (v := .agg #[.int .i64 (min a b / d), .int .i64 (-(-(max a b) / d))]) (by simp [results, Tryz.results188, go_sem, q1, q2]) rfl ⟨rfl, (by repeat (first | with_reducible exact Below.refl _ _ | with_reducible apply below_drewN' | with_reducible apply Below.drew | (with_reducible refine Below.alloc ?_ (by first | omega | (simp; omega) | simp | (have := (Below.refl _ _).size; omega) | (have := (Below.refl _ _).size; simp; omega)) _) | (with_reducible refine Below.setCell ?_ (by first | omega | (simp; omega) | simp | (have := (Below.refl _ _).size; omega) | (have := (Below.refl _ _).size; simp; omega)) _) | exact Below.refl _ _))⟩)
      | (have q1 : min a b = b := (by omega); have q2 : max a b = a := (by omega); refine bodyPost_ret (v := .agg #[.int .i64 (min a b / d), .int .i64 (-(-(max a b) / d))]) (by simp [results, Tryz.results188, go_sem, q1, q2]) rfl ⟨rfl, (by repeat (first | with_reducible exact Below.refl _ _ | with_reducible apply below_drewN' | with_reducible apply Below.drew | (with_reducible refine Below.alloc ?_ (by first | omega | (simp; omega) | simp | (have := (Below.refl _ _).size; omega) | (have := (Below.refl _ _).size; simp; omega)) _) | (with_reducible refine Below.setCell ?_ (by first | omega | (simp; omega) | simp | (have := (Below.refl _ _).size; omega) | (have := (Below.refl _ _).size; simp; omega)) _) | exact Below.refl _ _))⟩)
      | (have q1 : min a b = b := (by omega); have q2 : max a b = b := (by omega); refine bodyPost_ret (v := .agg #[.int .i64 (min a b / d), .int .i64 (-(-(max a b) / d))]) (by simp [results, Tryz.results188, go_sem, q1, q2]) rfl ⟨rfl, (by repeat (first | with_reducible exact Below.refl _ _ | with_reducible apply below_drewN' | with_reducible apply Below.drew | (with_reducible refine Below.alloc ?_ (by first | omega | (simp; omega) | simp | (have := (Below.refl _ _).size; omega) | (have := (Below.refl _ _).size; simp; omega)) _) | (with_reducible refine Below.setCell ?_ (by first | omega | (simp; omega) | simp | (have := (Below.refl _ _).size; omega) | (have := (Below.refl _ _).size; simp; omega)) _) | exact Below.refl _ _))⟩)
set_option maxRecDepth 100000 in
theorem l03Scale_c (a b d : Int) (w : World) (h : -1099511627776 ≤ a ∧ a ≤ 1099511627776) (h2 : -1099511627776 ≤ b ∧ b ≤ 1099511627776) (hd : 0 < d ∧ d ≤ 12) :
    Calls Tryz.prog 228 #[.agg #[.int .i64 a, .int .i64 b], .int .i64 1, .int .i64 d] w fun e w' => e = .returned (.agg #[.int .i64 ((min a b) / d), .int .i64 (-(-(max a b) / d))]) ∧ Below w.heap.size w w' := by
  obtain ⟨p1, p2⟩ := h
  obtain ⟨p3, p4⟩ := h2
  obtain ⟨d1, d2⟩ := hd
  have e1 : a * 1 = a := Int.mul_one a
  have e2 : b * 1 = b := Int.mul_one b
  have s1 : IntKind.i64.wrap a = a := IntWalk.i64_in _ (by omega)
  have s2 : IntKind.i64.wrap b = b := IntWalk.i64_in _ (by omega)
  go_enter Tryz.func228, Tryz.ntmps228
  go_wp2_with fail
  go_quiet (fail)
  clear e1 e2 s1 s2
  go_wp2_with (first | (go_at_call 207; refine (l01Floor_c _ _ _ (by omega) (by omega)).mono ?_; rintro e w' ⟨rfl, rfl⟩) | (go_at_call 229; refine (l01Ceil_c _ _ _ (by omega) (by omega)).mono ?_; rintro e w' ⟨rfl, rfl⟩))
  all_goals
    first
      | (have q1 : min a b = a := (by omega); have q2 : max a b = a := (by omega); refine bodyPost_ret (v := .agg #[.int .i64 (min a b / d), .int .i64 (-(-(max a b) / d))]) (by simp [results, Tryz.results228, go_sem, q1, q2]) rfl ⟨rfl, (by repeat (first | with_reducible exact Below.refl _ _ | with_reducible apply below_drewN' | with_reducible apply Below.drew | (with_reducible refine Below.alloc ?_ (by first | omega | (simp; omega) | simp | (have := (Below.refl _ _).size; omega) | (have := (Below.refl _ _).size; simp; omega)) _) | (with_reducible refine Below.setCell ?_ (by first | omega | (simp; omega) | simp | (have := (Below.refl _ _).size; omega) | (have := (Below.refl _ _).size; simp; omega)) _) | exact Below.refl _ _))⟩)
      | (have q1 : min a b = a := (by omega); have q2 : max a b = b := (by omega); refine bodyPost_ret (v := .agg #[.int .i64 (min a b / d), .int .i64 (-(-(max a b) / d))]) (by simp [results, Tryz.results228, go_sem, q1, q2]) rfl ⟨rfl, (by repeat (first | with_reducible exact Below.refl _ _ | with_reducible apply below_drewN' | with_reducible apply Below.drew | (with_reducible refine Below.alloc ?_ (by first | omega | (simp; omega) | simp | (have := (Below.refl _ _).size; omega) | (have := (Below.refl _ _).size; simp; omega)) _) | (with_reducible refine Below.setCell ?_ (by first | omega | (simp; omega) | simp | (have := (Below.refl _ _).size; omega) | (have := (Below.refl _ _).size; simp; omega)) _) | exact Below.refl _ _))⟩)
      | (have q1 : min a b = b := (by omega); have q2 : max a b = a := (by omega); refine bodyPost_ret (v := .agg #[.int .i64 (min a b / d), .int .i64 (-(-(max a b) / d))]) (by simp [results, Tryz.results228, go_sem, q1, q2]) rfl ⟨rfl, (by repeat (first | with_reducible exact Below.refl _ _ | with_reducible apply below_drewN' | with_reducible apply Below.drew | (with_reducible refine Below.alloc ?_ (by first | omega | (simp; omega) | simp | (have := (Below.refl _ _).size; omega) | (have := (Below.refl _ _).size; simp; omega)) _) | (with_reducible refine Below.setCell ?_ (by first | omega | (simp; omega) | simp | (have := (Below.refl _ _).size; omega) | (have := (Below.refl _ _).size; simp; omega)) _) | exact Below.refl _ _))⟩)
      | (have q1 : min a b = b := (by omega); have q2 : max a b = b := (by omega); refine bodyPost_ret (v := .agg #[.int .i64 (min a b / d), .int .i64 (-(-(max a b) / d))]) (by simp [results, Tryz.results228, go_sem, q1, q2]) rfl ⟨rfl, (by repeat (first | with_reducible exact Below.refl _ _ | with_reducible apply below_drewN' | with_reducible apply Below.drew | (with_reducible refine Below.alloc ?_ (by first | omega | (simp; omega) | simp | (have := (Below.refl _ _).size; omega) | (have := (Below.refl _ _).size; simp; omega)) _) | (with_reducible refine Below.setCell ?_ (by first | omega | (simp; omega) | simp | (have := (Below.refl _ _).size; omega) | (have := (Below.refl _ _).size; simp; omega)) _) | exact Below.refl _ _))⟩)
end Go.Proofs.YtednjmldjbndhaaGreat
namespace Go.Proofs.YtednjmldjbndhaaGreat
open Go.RowKit
/-- the point of digits on ScaleC -/
def pointC (m : Int) : Int := (logLow (m * 100000) + logHigh (m * 100000)) / 2
set_option maxRecDepth 100000 in
set_option maxHeartbeats 400000 in
theorem positionC_c (m t : Int) (w : World) (hm : 1000 ≤ m ∧ m ≤ 9999) :
    Calls Tryz.prog 149 #[.int .i64 0, .agg #[.int .i64 m, .int .i64 t]] w fun e w' => e = .returned (.agg #[.int .i64 (logLow (m * 100000)), .int .i64 (logHigh (m * 100000))]) ∧ Below w.heap.size w w' := by
  have hmf : ∀ (fn : Fn) (first cap : Array Value) (w : World), (Instr.makeFunc fn first cap).run Tryz.prog w = .ok (.func fn first cap) w := fun _ _ _ _ => rfl
  have HL := fun W => figureLog_c ⟨m, 0⟩ W hm (by simp)
  unfold Figure.agg at HL
  simp only [Int.zero_mul, Int.add_zero] at HL
  have HL := fun W => Lib.hid (HL W)
  generalize logLow (m * 100000) = lo at *
  generalize logHigh (m * 100000) = hi at *
  go_enter Tryz.func149, Tryz.ntmps149
  go_wp2_with fail
  refine (HL _).out.mono ?_; rintro e w1 ⟨rfl, hb1⟩
  have Bg := (Blk.new' (w.alloc (.cells #[.int .i64 m, .int .i64 t] 51)) 186 #[.int .i64 0, .int .i64 0] (g := w.heap.size + 1) (by simp)).below hb1 (by simp)
  have c0 : w1.cell? ⟨w.heap.size + 1, 0, none⟩ = some (.int .i64 0) := Bg.cell 0
  have c1 : w1.cell? ⟨w.heap.size + 1, 1, none⟩ = some (.int .i64 0) := Bg.cell 1
  have cf0 : w1.frozen? ⟨w.heap.size + 1, 0, none⟩ = false := Bg.frozen 0
  have cf1 : w1.frozen? ⟨w.heap.size + 1, 1, none⟩ = false := Bg.frozen 1
  have cz := Bg.lt
  have hB1 : Below w.heap.size w w1 := Below.trans ((by repeat (first | with_reducible exact Below.refl _ _ | with_reducible apply below_drewN' | with_reducible apply Below.drew | (with_reducible refine Below.alloc ?_ (by first | omega | (simp; omega) | simp | (have := (Below.refl _ _).size; omega) | (have := (Below.refl _ _).size; simp; omega)) _) | (with_reducible refine Below.setCell ?_ (by first | omega | (simp; omega) | simp | (have := (Below.refl _ _).size; omega) | (have := (Below.refl _ _).size; simp; omega)) _) | exact Below.refl _ _))) (hb1.mono (by simp <;> omega))
  have hB1s := hB1.size
  go_wp2
  refine bodyPost_ret (v := .agg #[.int .i64 lo, .int .i64 hi]) (by simp [results, Tryz.results149, go_sem, c0, c1, cz]) rfl ⟨rfl, (by repeat (first | with_reducible exact hB1 | with_reducible apply below_drewN' | with_reducible apply Below.drew | (with_reducible refine Below.alloc ?_ (by first | omega | (simp; omega) | simp | (have := (hB1).size; omega) | (have := (hB1).size; simp; omega)) _) | (with_reducible refine Below.setCell ?_ (by first | omega | (simp; omega) | simp | (have := (hB1).size; omega) | (have := (hB1).size; simp; omega)) _) | exact hB1))⟩
set_option maxRecDepth 100000 in
set_option maxHeartbeats 400000 in
theorem l05PositionC_c (m t : Int) (w : World) (hm : 1000 ≤ m ∧ m ≤ 9999) :
    Calls Tryz.prog 206 #[.int .i64 0, .agg #[.int .i64 m, .int .i64 t]] w fun e w' => e = .returned (.agg #[.int .i64 (logLow (m * 100000)), .int .i64 (logHigh (m * 100000))]) ∧ Below w.heap.size w w' := by
  have HL := fun W => Lib.hid (l03Log_c (m * 100000) W (by omega))
  generalize logLow (m * 100000) = lo at *
  generalize logHigh (m * 100000) = hi at *
  go_enter Tryz.func206, Tryz.ntmps206
  go_wp2_with fail
  refine (HL _).out.mono ?_; rintro e w1 ⟨rfl, hb1⟩
  have Bg := (Blk.new' (w.alloc (.cells #[.int .i64 m, .int .i64 t] 51)) 186 #[.int .i64 0, .int .i64 0] (g := w.heap.size + 1) (by simp)).below hb1 (by simp)
  have c0 : w1.cell? ⟨w.heap.size + 1, 0, none⟩ = some (.int .i64 0) := Bg.cell 0
  have c1 : w1.cell? ⟨w.heap.size + 1, 1, none⟩ = some (.int .i64 0) := Bg.cell 1
  have cf0 : w1.frozen? ⟨w.heap.size + 1, 0, none⟩ = false := Bg.frozen 0
  have cf1 : w1.frozen? ⟨w.heap.size + 1, 1, none⟩ = false := Bg.frozen 1
  have cz := Bg.lt
  have hB1 : Below w.heap.size w w1 := Below.trans ((by repeat (first | with_reducible exact Below.refl _ _ | with_reducible apply below_drewN' | with_reducible apply Below.drew | (with_reducible refine Below.alloc ?_ (by first | omega | (simp; omega) | simp | (have := (Below.refl _ _).size; omega) | (have := (Below.refl _ _).size; simp; omega)) _) | (with_reducible refine Below.setCell ?_ (by first | omega | (simp; omega) | simp | (have := (Below.refl _ _).size; omega) | (have := (Below.refl _ _).size; simp; omega)) _) | exact Below.refl _ _))) (hb1.mono (by simp <;> omega))
  have hB1s := hB1.size
  go_wp2
  refine bodyPost_ret (v := .agg #[.int .i64 lo, .int .i64 hi]) (by simp [results, Tryz.results206, go_sem, c0, c1, cz]) rfl ⟨rfl, (by repeat (first | with_reducible exact hB1 | with_reducible apply below_drewN' | with_reducible apply Below.drew | (with_reducible refine Below.alloc ?_ (by first | omega | (simp; omega) | simp | (have := (hB1).size; omega) | (have := (hB1).size; simp; omega)) _) | (with_reducible refine Below.setCell ?_ (by first | omega | (simp; omega) | simp | (have := (hB1).size; omega) | (have := (hB1).size; simp; omega)) _) | exact hB1))⟩
set_option maxRecDepth 100000 in
theorem pointOf_c (m t : Int) (w : World) (hm : 1000 ≤ m ∧ m ≤ 9999) :
    Calls Tryz.prog 86 #[.int .i64 0, .agg #[.int .i64 m, .int .i64 t]] w fun e w' => e = .returned (.int .i64 (pointC m)) ∧ Below w.heap.size w w' := by
  have h1 := logLow_bd (x := m * 100000) (by omega)
  have h2 := logHigh_bd (x := m * 100000) (by omega)
  have HL := fun W => Lib.hid (positionC_c m t W hm)
  unfold pointC
  generalize logLow (m * 100000) = lo at *
  generalize logHigh (m * 100000) = hi at *
  have HD := fun W => Lib.hid (down_c (lo + hi) 2 W (by omega) (by omega))
  go_enter Tryz.func86, Tryz.ntmps86
  go_wp2_with fail
  refine (HL _).out.mono ?_; rintro e w1 ⟨rfl, hb1⟩
  have hB1 : Below w.heap.size w w1 := ((Below.refl _ _).alloc (Nat.le_refl _) _).trans (hb1.mono (by simp))
  have hB1s := hB1.size
  go_wp2_with (go_at_call 150; refine (HD _).out.mono ?_; rintro e w2 ⟨rfl, rfl⟩)
  go_ret
  exact ⟨rfl, (by repeat (first | with_reducible exact hB1 | with_reducible apply below_drewN' | with_reducible apply Below.drew | (with_reducible refine Below.alloc ?_ (by first | omega | (simp; omega) | simp | (have := (hB1).size; omega) | (have := (hB1).size; simp; omega)) _) | (with_reducible refine Below.setCell ?_ (by first | omega | (simp; omega) | simp | (have := (hB1).size; omega) | (have := (hB1).size; simp; omega)) _) | exact hB1))⟩
set_option maxRecDepth 100000 in
theorem l11Point_c (m t : Int) (w : World) (hm : 1000 ≤ m ∧ m ≤ 9999) :
    Calls Tryz.prog 172 #[.int .i64 0, .agg #[.int .i64 m, .int .i64 t]] w fun e w' => e = .returned (.int .i64 (pointC m)) ∧ Below w.heap.size w w' := by
  have h1 := logLow_bd (x := m * 100000) (by omega)
  have h2 := logHigh_bd (x := m * 100000) (by omega)
  have HL := fun W => Lib.hid (l05PositionC_c m t W hm)
  unfold pointC
  generalize logLow (m * 100000) = lo at *
  generalize logHigh (m * 100000) = hi at *
  have HD := fun W => Lib.hid (l01Floor_c (lo + hi) 2 W (by omega) (by omega))
  go_enter Tryz.func172, Tryz.ntmps172
  go_wp2_with fail
  refine (HL _).out.mono ?_; rintro e w1 ⟨rfl, hb1⟩
  have hB1 : Below w.heap.size w w1 := ((Below.refl _ _).alloc (Nat.le_refl _) _).trans (hb1.mono (by simp))
  have hB1s := hB1.size
  go_wp2_with (go_at_call 207; refine (HD _).out.mono ?_; rintro e w2 ⟨rfl, rfl⟩)
  go_ret
  exact ⟨rfl, (by repeat (first | with_reducible exact hB1 | with_reducible apply below_drewN' | with_reducible apply Below.drew | (with_reducible refine Below.alloc ?_ (by first | omega | (simp; omega) | simp | (have := (hB1).size; omega) | (have := (hB1).size; simp; omega)) _) | (with_reducible refine Below.setCell ?_ (by first | omega | (simp; omega) | simp | (have := (hB1).size; omega) | (have := (hB1).size; simp; omega)) _) | exact hB1))⟩
theorem l14Point_c (m t : Int) (w : World) (hm : 1000 ≤ m ∧ m ≤ 9999) :
    Calls Tryz.prog 121 #[.agg #[.int .i64 m, .int .i64 t]] w fun e w' => e = .returned (.int .i64 (pointC m)) ∧ Below w.heap.size w w' := by
  have HL := fun W => Lib.hid (l11Point_c m t W hm)
  go_enter Tryz.func121, Tryz.ntmps121
  go_wp2_with (go_at_call 172; refine (HL _).out.mono ?_; rintro e w1 ⟨rfl, hb1⟩)
  go_ret
  exact ⟨rfl, ((Below.refl _ _).alloc (Nat.le_refl _) _).trans (hb1.mono (by simp))⟩
end Go.Proofs.YtednjmldjbndhaaGreat
namespace Go.Proofs.YtednjmldjbndhaaGreat
open Go.RowKit
set_option maxRecDepth 100000 in
theorem sum_c (a b a' b' : Int) (w : World) (h : -1099511627776 ≤ a ∧ a ≤ 1099511627776) (h2 : -1099511627776 ≤ b ∧ b ≤ 1099511627776) (h3 : -1099511627776 ≤ a' ∧ a' ≤ 1099511627776) (h4 : -1099511627776 ≤ b' ∧ b' ≤ 1099511627776) :
    Calls Tryz.prog 199 #[.agg #[.int .i64 a, .int .i64 b], .agg #[.int .i64 a', .int .i64 b']] w fun e w' => e = .returned (.agg #[.int .i64 (a + a'), .int .i64 (b + b')]) ∧ Below w.heap.size w w' := by
  obtain ⟨p1, p2⟩ := h
  obtain ⟨p3, p4⟩ := h2
  obtain ⟨p5, p6⟩ := h3
  obtain ⟨p7, p8⟩ := h4
  go_enter Tryz.func199, Tryz.ntmps199
  go_wp2
  refine bodyPost_ret (v := .agg #[.int .i64 (a + a'), .int .i64 (b + b')]) (by simp [results, Tryz.results199, go_sem]) rfl ⟨rfl, (by repeat (first | with_reducible exact Below.refl _ _ | with_reducible apply below_drewN' | with_reducible apply Below.drew | (with_reducible refine Below.alloc ?_ (by first | omega | (simp; omega) | simp | (have := (Below.refl _ _).size; omega) | (have := (Below.refl _ _).size; simp; omega)) _) | (with_reducible refine Below.setCell ?_ (by first | omega | (simp; omega) | simp | (have := (Below.refl _ _).size; omega) | (have := (Below.refl _ _).size; simp; omega)) _) | exact Below.refl _ _))⟩
set_option maxRecDepth 100000 in
theorem l03Add_c (a b a' b' : Int) (w : World) (h : -1099511627776 ≤ a ∧ a ≤ 1099511627776) (h2 : -1099511627776 ≤ b ∧ b ≤ 1099511627776) (h3 : -1099511627776 ≤ a' ∧ a' ≤ 1099511627776) (h4 : -1099511627776 ≤ b' ∧ b' ≤ 1099511627776) :
    Calls Tryz.prog 213 #[.agg #[.int .i64 a, .int .i64 b], .agg #[.int .i64 a', .int .i64 b']] w fun e w' => e = .returned (.agg #[.int .i64 (a + a'), .int .i64 (b + b')]) ∧ Below w.heap.size w w' := by
  obtain ⟨p1, p2⟩ := h
  obtain ⟨p3, p4⟩ := h2
  obtain ⟨p5, p6⟩ := h3
  obtain ⟨p7, p8⟩ := h4
  go_enter Tryz.func213, Tryz.ntmps213
  go_wp2
  refine bodyPost_ret (v := .agg #[.int .i64 (a + a'), .int .i64 (b + b')]) (by simp [results, Tryz.results213, go_sem]) rfl ⟨rfl, (by repeat (first | with_reducible exact Below.refl _ _ | with_reducible apply below_drewN' | with_reducible apply Below.drew | (with_reducible refine Below.alloc ?_ (by first | omega | (simp; omega) | simp | (have := (Below.refl _ _).size; omega) | (have := (Below.refl _ _).size; simp; omega)) _) | (with_reducible refine Below.setCell ?_ (by first | omega | (simp; omega) | simp | (have := (Below.refl _ _).size; omega) | (have := (Below.refl _ _).size; simp; omega)) _) | exact Below.refl _ _))⟩
set_option maxRecDepth 100000 in
theorem l03Figure_c (f : Figure) (w : World) (h : 1000 ≤ f.digits ∧ f.digits ≤ 9999) (ht : -30 ≤ f.tens ∧ f.tens ≤ 30) :
    Calls Tryz.prog 211 #[f.agg] w fun e w' => e = .returned (.agg #[.int .i64 (logLow (f.digits * 100000) + f.tens * 1048576), .int .i64 (logHigh (f.digits * 100000) + f.tens * 1048576)]) ∧ Below w.heap.size w w' := by
  obtain ⟨d, t⟩ := f
  unfold Figure.agg
  simp only at *
  have hx : 100000000 ≤ d * 100000 ∧ d * 100000 ≤ 1000000000 := by omega
  have h1 := logLow_bd hx
  have h2 := logHigh_bd hx
  obtain ⟨h, h'⟩ := h
  obtain ⟨ht, ht'⟩ := ht
  have hlog := fun W => Lib.hid (l03Log_c (d * 100000) W hx)
  generalize logLow (d * 100000) = lo at *
  generalize logHigh (d * 100000) = hi at *
  go_enter Tryz.func211, Tryz.ntmps211
  go_wp2_with fail
  refine (hlog _).out.mono ?_; rintro e w1 ⟨rfl, hb1⟩
  have B0 : Blk w1 w.heap.size 51 #[.int .i64 d, .int .i64 t] := ((Blk.new w _ _).alloc _).below hb1 (by simp; omega)
  have B1 : Blk w1 (w.heap.size + 1) 186 #[.int .i64 0, .int .i64 0] := (Blk.new' _ _ _ (by simp)).below hb1 (by simp)
  have hb0 : Below w.heap.size w w1 := (((Below.refl _ _).alloc (Nat.le_refl _) _).alloc (by simp) _).trans (hb1.mono (by simp; omega))
  clear hb1
  have z0 := B0.lt
  have z1 := B1.lt
  have c1 : w1.cell? ⟨w.heap.size, 1, none⟩ = some (.int .i64 t) := B0.cell 1
  have d0 : w1.cell? ⟨w.heap.size + 1, 0, none⟩ = some (.int .i64 0) := B1.cell 0
  have d1 : w1.cell? ⟨w.heap.size + 1, 1, none⟩ = some (.int .i64 0) := B1.cell 1
  have f0 := B1.frozen 0
  have f1 := B1.frozen 1
  clear B0 B1
  go_wp2
  refine bodyPost_ret (v := .agg #[.int .i64 (lo + t * 1048576), .int .i64 (hi + t * 1048576)]) (by simp [results, Tryz.results211, go_sem, d0, d1, z1]) rfl ⟨rfl, ?_⟩
  have hbs := hb0.size
  exact (by repeat (first | with_reducible exact hb0 | with_reducible apply below_drewN' | with_reducible apply Below.drew | (with_reducible refine Below.alloc ?_ (by first | omega | (simp; omega) | simp | (have := (hb0).size; omega) | (have := (hb0).size; simp; omega)) _) | (with_reducible refine Below.setCell ?_ (by first | omega | (simp; omega) | simp | (have := (hb0).size; omega) | (have := (hb0).size; simp; omega)) _) | exact hb0))

def figLo (d t : Int) : Int := logLow (d * 100000) + t * 1048576
def figHi (d t : Int) : Int := logHigh (d * 100000) + t * 1048576
theorem figLo_bd {d t : Int} (h : 1000 ≤ d ∧ d ≤ 9999) (ht : -30 ≤ t ∧ t ≤ 30) : (-33554432 ≤ figLo d t ∧ figLo d t ≤ 33554432) ∧ (-33554432 ≤ figHi d t ∧ figHi d t ≤ 33554432) := by
  have h1 := logLow_bd (x := d * 100000) (by omega)
  have h2 := logHigh_bd (x := d * 100000) (by omega)
  unfold figLo figHi
  omega
end Go.Proofs.YtednjmldjbndhaaGreat
namespace Go.Proofs.YtednjmldjbndhaaGreat
open Go.RowKit

theorem flat_of {xs : List (List Value)} {k : Nat} (hk : 0 < k) (h : ∀ x ∈ xs, x.length = k) {p : Nat} {u : Value} (hp : xs.flatten[p]? = some u) : ∃ i j x, p = i * k + j ∧ xs[i]? = some x ∧ x[j]? = some u := by
  have hlt : p < xs.length * k := by rw [← flat_length h]; exact (List.getElem?_eq_some_iff.1 hp).1
  have hd : p / k < xs.length := (Nat.div_lt_iff_lt_mul hk).2 hlt
  have hm : p % k < xs[p / k].length := by rw [h _ (List.getElem_mem hd)]; exact Nat.mod_lt _ hk
  have hg := flat_get h (p / k) (p % k) _ _ (List.getElem?_eq_getElem hd) (List.getElem?_eq_getElem hm)
  rw [show p / k * k + p % k = p from by rw [Nat.mul_comm]; exact Nat.div_add_mod p k] at hg
  rw [hg] at hp
  refine ⟨p / k, p % k, _, by rw [Nat.mul_comm]; exact (Nat.div_add_mod p k).symm, List.getElem?_eq_getElem hd, ?_⟩
  rw [List.getElem?_eq_getElem hm]
  exact hp

section
variable {P : Program} (w : World)
theorem run_append_of_nil (base : Nat) (t ty e : TypeId) (i : TypeInfo) (size : Nat) (ht : P.underlying t = some (.slice e)) (hi : P.info? e = some i)
    (v : Value) (n : Nat) (xs : List Value) (hown : w.ownsRow base e size v n xs) (c : Nat) : (Builtin.append_ #[t, t] ty #[v, .slice none 0 c]).run P w = .ok v w := by
  rcases hown.2 with ⟨rfl, rfl⟩ | ⟨g, cap, cur, rfl, _, _, hnc, _⟩
  · simp [Builtin.append_, run_underlying ht, sizeOf, typeInfo, hi, Builtin.lenOf, Builtin.firstCells]
  · simp [Builtin.append_, run_underlying ht, sizeOf, typeInfo, hi, Builtin.lenOf, Builtin.firstCells, hnc, storeCells]

theorem run_append_rows (base : Nat) (t ty e : TypeId) (i : TypeInfo) (z : Value) (k bytes : Nat) (ht : P.underlying t = some (.slice e)) (hi : P.info? e = some i) (hz : i.zero = some z)
    (hsize : i.size = k) (hby : i.bytes = bytes) (hzs : z.cells.size = k) (hk : 0 < k)
    (v : Value) (xs : List (List Value)) (hown : Own w base e k v xs)
    (B : Nat) (A : Option Addr) (m c : Nat) (ys : List (List Value)) (hm : ys.length = m) (hr : Sl w B k A ys) (h1 : ∀ y ∈ ys, ∀ u ∈ y, u.oneCell' = true)
    (h63 : xs.length + m ≤ maxLen) (hbytes : (xs.length + m) * bytes ≤ 140737488355328) (hbase : base ≤ w.heap.size) :
    ∃ v' w', (Builtin.append_ #[t, t] ty #[v, .slice A m c]).run P w = .ok v' w' ∧ Own w' base e k v' (xs ++ ys) ∧ w.grownBy w' v.ownBlock ∧ (v'.ownBlock = v.ownBlock ∨ v'.ownBlock = some w.heap.size) := by
  have hys : ∀ y ∈ ys, y.length = k := fun y hy => by obtain ⟨j, hj⟩ := List.mem_iff_getElem?.1 hy; exact (hr j y hj).1
  have hall : ∀ x ∈ xs ++ ys, x.length = k := fun x hx => by
    rcases List.mem_append.1 hx with h | h
    · exact hown.2 x h
    · exact hys x h
  rcases A with _ | ad
  · have hy : ys = [] := by
      cases ys with
      | nil => rfl
      | cons y r => obtain ⟨_, b, off, h, _⟩ := hr 0 y rfl; cases h
    subst hy
    obtain rfl : m = 0 := by simpa using hm.symm
    exact ⟨v, w, run_append_of_nil w base t ty e i k ht hi v _ _ hown.1 c, by rw [List.append_nil]; exact hown, World.grownBy.refl w _, .inl rfl⟩
  · have hcells : ∀ j u, ys.flatten[j]? = some u → w.cell? (ad.add j) = some u := by
      intro p u hp
      obtain ⟨i, j, x, rfl, hx, hu⟩ := flat_of hk hys hp
      obtain ⟨_, b, off, he, _, hc⟩ := hr i x hx
      obtain rfl : ad = ⟨b, off, none⟩ := by injection he
      have := hc j u hu
      rw [Nat.add_assoc] at this
      unfold Addr.add
      split
      · rename_i h0; rw [h0] at this; exact this
      · exact this
    obtain ⟨v', w', hrun, h2, h3, _, h5⟩ := run_append_own_at (P := P) w base t ty e i z k bytes ht hi hz hsize hby hzs hk v _ _ hown.1 ad m c ys.flatten (by rw [flat_length hys, hm]) hcells
      (fun u hu => by obtain ⟨y, hy, hu⟩ := List.mem_flatten.1 hu; exact h1 y hy u hu) h63 hbytes hbase
    refine ⟨v', w', hrun, ⟨?_, hall⟩, h3, h5⟩
    rw [List.length_append, List.flatten_append, hm]
    exact h2

theorem wp_append_rows {o : Oper} {a : Act} {K : Act → World → Prop} {Q : Exit → Act → World → Prop} (s x : Operand) (t : TypeId)
    (ho : o.op = .call { callee := .builtin .append, args := #[s, x], argTypes := #[t, t] })
    (base : Nat) (e : TypeId) (i : TypeInfo) (z : Value) (k bytes : Nat) (ht : P.underlying t = some (.slice e)) (hi : P.info? e = some i) (hz : i.zero = some z)
    (hsize : i.size = k) (hby : i.bytes = bytes) (hzs : z.cells.size = k) (hk : 0 < k)
    (v : Value) (xs : List (List Value)) (hs : a.eval s = v) (hown : Own w base e k v xs)
    (B : Nat) (A : Option Addr) (m c : Nat) (ys : List (List Value)) (hx : a.eval x = .slice A m c) (hm : ys.length = m) (hr : Sl w B k A ys) (h1 : ∀ y ∈ ys, ∀ u ∈ y, u.oneCell' = true)
    (h63 : xs.length + m ≤ maxLen) (hbytes : (xs.length + m) * bytes ≤ 140737488355328) (hbase : base ≤ w.heap.size)
    (h : ∀ v' w', Own w' base e k v' (xs ++ ys) → w.grownBy w' v.ownBlock → (v'.ownBlock = v.ownBlock ∨ v'.ownBlock = some w.heap.size) → K (a.put o.dst v') w') : o.wp P a w K Q := by
  obtain ⟨v', w', hrun, h2, h3, h4⟩ := run_append_rows (P := P) w base t o.type e i z k bytes ht hi hz hsize hby hzs hk v xs hown B A m c ys hm hr h1 h63 hbytes hbase
  unfold Oper.wp execOp
  simp only [ho, resolve, invoke, builtin, Sem.run_bind, Sem.run_pure, Result.andThen_ok, List.map_toArray, List.map_cons, List.map_nil, hs, hx, hrun]
  exact h v' w' h2 h3 h4

theorem wpList_append_rows {ops : Array Oper} {rest : List Oper} {o : Oper} {a : Act} {Q : Exit → Act → World → Prop} (hgd : o.guard = none) (s x : Operand) (t : TypeId)
    (ho : o.op = .call { callee := .builtin .append, args := #[s, x], argTypes := #[t, t] })
    (base : Nat) (e : TypeId) (i : TypeInfo) (z : Value) (k bytes : Nat) (ht : P.underlying t = some (.slice e)) (hi : P.info? e = some i) (hz : i.zero = some z)
    (hsize : i.size = k) (hby : i.bytes = bytes) (hzs : z.cells.size = k) (hk : 0 < k)
    (v : Value) (xs : List (List Value)) (hs : a.eval s = v) (hown : Own w base e k v xs)
    (B : Nat) (A : Option Addr) (m c : Nat) (ys : List (List Value)) (hx : a.eval x = .slice A m c) (hm : ys.length = m) (hr : Sl w B k A ys) (h1 : ∀ y ∈ ys, ∀ u ∈ y, u.oneCell' = true)
    (h63 : xs.length + m ≤ maxLen) (hbytes : (xs.length + m) * bytes ≤ 140737488355328) (hbase : base ≤ w.heap.size)
    (h : ∀ v' w', Own w' base e k v' (xs ++ ys) → w.grownBy w' v.ownBlock → (v'.ownBlock = v.ownBlock ∨ v'.ownBlock = some w.heap.size) → wpList P ops Q rest (a.put o.dst v') w') : wpList P ops Q (o :: rest) a w :=
  wpList_plain hgd fun _ hK => wp_append_rows w s x t ho base e i z k bytes ht hi hz hsize hby hzs hk v xs hs hown B A m c ys hx hm hr h1 h63 hbytes hbase fun v' w' h2 h3 h4 => hK _ _ (h v' w' h2 h3 h4)
/-- the same at a step of a region that draws its order -/
theorem step_append_rows {ops : Array Oper} {o : Oper} {a : Act} {K : Act → World → Prop} {Q : Exit → Act → World → Prop} {E : Prop} (hgd : o.guard = none) (s x : Operand) (t : TypeId)
    (ho : o.op = .call { callee := .builtin .append, args := #[s, x], argTypes := #[t, t] })
    (base : Nat) (e : TypeId) (i : TypeInfo) (z : Value) (k bytes : Nat) (ht : P.underlying t = some (.slice e)) (hi : P.info? e = some i) (hz : i.zero = some z)
    (hsize : i.size = k) (hby : i.bytes = bytes) (hzs : z.cells.size = k) (hk : 0 < k)
    (v : Value) (xs : List (List Value)) (hs : a.eval s = v) (hown : Own w base e k v xs)
    (B : Nat) (A : Option Addr) (m c : Nat) (ys : List (List Value)) (hx : a.eval x = .slice A m c) (hm : ys.length = m) (hr : Sl w B k A ys) (h1 : ∀ y ∈ ys, ∀ u ∈ y, u.oneCell' = true)
    (h63 : xs.length + m ≤ maxLen) (hbytes : (xs.length + m) * bytes ≤ 140737488355328) (hbase : base ≤ w.heap.size)
    (h : ∀ v' w', Own w' base e k v' (xs ++ ys) → w.grownBy w' v.ownBlock → (v'.ownBlock = v.ownBlock ∨ v'.ownBlock = some w.heap.size) → K (a.put o.dst v') w') :
    if Region.wanted o (yielded ops a.tmps) = true then Oper.wp P o a w K Q else E := by
  have hw : Region.wanted o (yielded ops a.tmps) = true := by simp [Region.wanted, hgd]
  rw [if_pos hw]
  exact wp_append_rows w s x t ho base e i z k bytes ht hi hz hsize hby hzs hk v xs hs hown B A m c ys hx hm hr h1 h63 hbytes hbase h
end

/-- an empty row that was just made: 'T{}' of length nought -/
theorem Own.empty {w : World} {base : Nat} {e : TypeId} {k : Nat} (hb : base ≤ w.heap.size) : Own (w.alloc (.cells #[] e)) base e k (.slice (some ⟨w.heap.size, 0, none⟩) 0 0) [] := by
  refine ⟨?_, by simp⟩
  have := World.ownsRow_lit (base := base) (e := e) (size := k) w #[] 0 hb (Nat.zero_le _) (by simp)
  simpa using this
theorem below_app {B : Nat} {a w w' : World} {v : Value} (h : Below B a w) (hg : w.grownBy w' v.ownBlock) (hB : B ≤ w.heap.size) (hr : ∀ g, v.ownBlock = some g → B ≤ g) : Below B a w' := h.grown hg hB hr
theorem Own.ownGe {w : World} {base : Nat} {e : TypeId} {k : Nat} {v : Value} {xs : List (List Value)} (h : Own w base e k v xs) : ∀ g, v.ownBlock = some g → base ≤ g := fun g hg => (h.1.lt g hg).1
theorem Own.kept {w w' : World} {base : Nat} {e : TypeId} {k : Nat} {v : Value} {xs : List (List Value)} {row : Option Nat} (h : Own w base e k v xs) (hg : w.grownBy w' row) (hne : v.ownBlock = none ∨ v.ownBlock ≠ row) : Own w' base e k v xs := ⟨h.1.kept hg hne, h.2⟩
theorem Sl.grown {w w' : World} {B k : Nat} {A : Option Addr} {xs : List (List Value)} {row : Option Nat} (h : Sl w B k A xs) (hg : w.grownBy w' row) (hB : B ≤ w.heap.size) (hr : ∀ g, row = some g → B ≤ g) : Sl w' B k A xs :=
  h.keep fun p hp => World.cell?_of_block (hg.block p.block (by omega) (fun e => by have := hr _ e.symm; omega))
theorem Own.le_cap {w : World} {base : Nat} {e : TypeId} {k n c : Nat} {A : Option Addr} {xs : List (List Value)} (h : Own w base e k (.slice A n c) xs) : n ≤ c := by
  obtain ⟨_, _, he, hf⟩ := h.form
  simp only [Value.slice.injEq] at he
  omega
end Go.Proofs.YtednjmldjbndhaaGreat
namespace Go.Proofs.YtednjmldjbndhaaGreat
open Go.RowKit
/-- one int64, as a row of one cell -/
def ic (n : Int) : List Value := [.int .i64 n]
theorem info_Int64 : (Tryz.prog.info? 2).map (fun i => (i.zero, i.size, i.bytes)) = some (some (.int .i64 0), 1, 8) := by kernel_rfl
/-- a cell of a slice of int64 -/
theorem Sl.int {w : World} {B : Nat} {A : Option Addr} {l : List Int} (h : Sl w B 1 A (l.map ic)) {k : Nat} (hk : k < l.length) : ∃ b off, A = some ⟨b, off, none⟩ ∧ b < B ∧ w.cell? ⟨b, off + k, none⟩ = some (.int .i64 l[k]) := by
  obtain ⟨b, off, rfl, hb, hc⟩ := h.at_ (i := k) (by simpa using hk)
  refine ⟨b, off, rfl, hb, ?_⟩
  have := hc 0 (.int .i64 l[k]) (by simp [ic])
  simpa using this
set_option maxRecDepth 100000 in
theorem eqInt64S_c (A A' : Option Addr) (c c' : Nat) (l : List Int) (w : World) (hl : l.length ≤ 140737488351232) (hs : Sl w w.heap.size 1 A (l.map ic)) (hs' : Sl w w.heap.size 1 A' (l.map ic)) :
   Calls Tryz.prog 133 #[.slice A l.length c, .slice A' l.length c'] w fun e w' => e = .returned (.bool true) ∧ Below w.heap.size w w' := by
  go_enter Tryz.func133, Tryz.ntmps133
  go_wp2_with fail
  go_loopw [5] (fun i wr => ∃ k : Nat, k ≤ l.length ∧ i = .int .i64 k ∧ Below w.heap.size w wr) (fun i _ => l.length - (intOf i).toNat)
  case atStart => exact ⟨0, Nat.zero_le _, rfl, Below.refl _ _⟩
  case round =>
    obtain ⟨k, hk, rfl, hb⟩ := hrel
    by_cases hlt : k < l.length
    · obtain ⟨b, off, rfl, hbB, hc⟩ := hs.int hlt
      obtain ⟨b', off', rfl, hbB', hc'⟩ := hs'.int hlt
      have c0 : wr.cell? ⟨b, off + k, none⟩ = some (.int .i64 l[k]) := by rw [hb.cell hbB]; exact hc
      have d0 : wr.cell? ⟨b', off' + k, none⟩ = some (.int .i64 l[k]) := by rw [hb.cell hbB']; exact hc'
      clear hc hc'
      go_wp2_with fail
      go_quiet (fail)
      go_wp2
      go_roundw
      case rel => exact ⟨k + 1, by omega, by go_num, (by repeat (first | with_reducible exact hb | with_reducible apply below_drewN' | with_reducible apply Below.drew | (with_reducible refine Below.alloc ?_ (by first | omega | (simp; omega) | simp | (have := (hb).size; omega) | (have := (hb).size; simp; omega)) _) | (with_reducible refine Below.setCell ?_ (by first | omega | (simp; omega) | simp | (have := (hb).size; omega) | (have := (hb).size; simp; omega)) _) | exact hb))⟩
      case measure => simp [intOf]; omega
    · have : k = l.length := by omega
      subst this
      go_wp2
      go_ret
      exact ⟨rfl, hb⟩
end Go.Proofs.YtednjmldjbndhaaGreat
namespace Go.Proofs.YtednjmldjbndhaaGreat
open Go.RowKit
@[ext] structure Errors where
  engraving : Int
  parallax : Int
  eye : Int
deriving DecidableEq
def Errors.cells (s : Errors) : List Value := [.int .i64 s.engraving, .int .i64 s.parallax, .int .i64 s.eye]
def Errors.agg (s : Errors) : Value := .agg #[.int .i64 s.engraving, .int .i64 s.parallax, .int .i64 s.eye]

theorem toErrors_c (a : Int) (b : Int) (c : Int) (w : World) : Calls Tryz.prog 71 #[.agg #[.int .i64 a, .int .i64 b, .int .i64 c]] w fun e w' => e = .returned (.agg #[.int .i64 a, .int .i64 b, .int .i64 c]) ∧ Below w.heap.size w w' := by
  go_enter Tryz.func71, Tryz.ntmps71
  go_wp2
  refine bodyPost_ret (v := .agg #[.int .i64 a, .int .i64 b, .int .i64 c]) (by simp [results, Tryz.results71, go_sem]) rfl ⟨rfl, ?_⟩
  exact (by repeat (first | with_reducible exact Below.refl _ _ | with_reducible apply below_drewN' | with_reducible apply Below.drew | (with_reducible refine Below.alloc ?_ (by first | omega | (simp; omega) | simp | (have := (Below.refl _ _).size; omega) | (have := (Below.refl _ _).size; simp; omega)) _) | (with_reducible refine Below.setCell ?_ (by first | omega | (simp; omega) | simp | (have := (Below.refl _ _).size; omega) | (have := (Below.refl _ _).size; simp; omega)) _) | exact Below.refl _ _))


theorem eqErrors_c (a : Int) (b : Int) (c : Int) (w : World) : Calls Tryz.prog 77 #[.agg #[.int .i64 a, .int .i64 b, .int .i64 c], .agg #[.int .i64 a, .int .i64 b, .int .i64 c]] w fun e w' => e = .returned (.bool true) ∧ Below w.heap.size w w' := by
  go_enter Tryz.func77, Tryz.ntmps77
  go_wp2
  go_ret
  exact ⟨rfl, (by repeat (first | with_reducible exact Below.refl _ _ | with_reducible apply below_drewN' | with_reducible apply Below.drew | (with_reducible refine Below.alloc ?_ (by first | omega | (simp; omega) | simp | (have := (Below.refl _ _).size; omega) | (have := (Below.refl _ _).size; simp; omega)) _) | (with_reducible refine Below.setCell ?_ (by first | omega | (simp; omega) | simp | (have := (Below.refl _ _).size; omega) | (have := (Below.refl _ _).size; simp; omega)) _) | exact Below.refl _ _))⟩





end Go.Proofs.YtednjmldjbndhaaGreat
