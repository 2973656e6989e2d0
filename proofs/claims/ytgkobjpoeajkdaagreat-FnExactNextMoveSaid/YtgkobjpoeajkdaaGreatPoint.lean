/- The point of a figure on ScaleC, the program's and the reference's. Condition: the digits are in range. -/
import Derived.Test.YtgkobjpoeajkdaaGreatPlace1
namespace Go.Proofs.YtgkobjpoeajkdaaGreat
open Go.RowKit
/-- the point of digits on ScaleC -/
def pointC (m : Int) : Int := (logLow (m * 100000) + logHigh (m * 100000)) / 2
set_option maxRecDepth 100000 in
set_option maxHeartbeats 400000 in
theorem positionC_c (m t : Int) (w : World) (hm : 1000 ≤ m ∧ m ≤ 9999) :
    Calls Tryz.prog 170 #[.int .i64 0, .agg #[.int .i64 m, .int .i64 t]] w fun e w' => e = .returned (.agg #[.int .i64 (logLow (m * 100000)), .int .i64 (logHigh (m * 100000))]) ∧ Below w.heap.size w w' := by
  have hmf : ∀ (fn : Fn) (first cap : Array Value) (w : World), (Instr.makeFunc fn first cap).run Tryz.prog w = .ok (.func fn first cap) w := fun _ _ _ _ => rfl
  have HL := fun W => figureLog_c ⟨m, 0⟩ W hm (by simp)
  unfold Figure.agg at HL
  simp only [Int.zero_mul, Int.add_zero] at HL
  have HL := fun W => Lib.hid (HL W)
  generalize logLow (m * 100000) = lo at *
  generalize logHigh (m * 100000) = hi at *
  go_enter Tryz.func170, Tryz.ntmps170
  go_wp2_with fail
  refine (HL _).out.mono ?_; rintro e w1 ⟨rfl, hb1⟩
  have Bg := (Blk.new' (w.alloc (.cells #[.int .i64 m, .int .i64 t] 65)) 201 #[.int .i64 0, .int .i64 0] (g := w.heap.size + 1) (by simp)).below hb1 (by simp)
  have c0 : w1.cell? ⟨w.heap.size + 1, 0, none⟩ = some (.int .i64 0) := Bg.cell 0
  have c1 : w1.cell? ⟨w.heap.size + 1, 1, none⟩ = some (.int .i64 0) := Bg.cell 1
  have cf0 : w1.frozen? ⟨w.heap.size + 1, 0, none⟩ = false := Bg.frozen 0
  have cf1 : w1.frozen? ⟨w.heap.size + 1, 1, none⟩ = false := Bg.frozen 1
  have cz := Bg.lt
  have hB1 : Below w.heap.size w w1 := Below.trans ((by repeat (first | with_reducible exact Below.refl _ _ | with_reducible apply below_drewN' | with_reducible apply Below.drew | (with_reducible refine Below.alloc ?_ (by first | omega | (simp; omega) | simp) _) | (with_reducible refine Below.setCell ?_ (by first | omega | (simp; omega) | simp) _) | exact Below.refl _ _))) (hb1.mono (by simp <;> omega))
  have hB1s := hB1.size
  go_wp2
  refine bodyPost_ret (v := .agg #[.int .i64 lo, .int .i64 hi]) (by simp [results, Tryz.results170, go_sem, c0, c1, cz]) rfl ⟨rfl, (by repeat (first | with_reducible exact hB1 | with_reducible apply below_drewN' | with_reducible apply Below.drew | (with_reducible refine Below.alloc ?_ (by first | omega | (simp; omega) | simp) _) | (with_reducible refine Below.setCell ?_ (by first | omega | (simp; omega) | simp) _) | exact hB1))⟩
set_option maxRecDepth 100000 in
set_option maxHeartbeats 400000 in
theorem l05PositionC_c (m t : Int) (w : World) (hm : 1000 ≤ m ∧ m ≤ 9999) :
    Calls Tryz.prog 225 #[.int .i64 0, .agg #[.int .i64 m, .int .i64 t]] w fun e w' => e = .returned (.agg #[.int .i64 (logLow (m * 100000)), .int .i64 (logHigh (m * 100000))]) ∧ Below w.heap.size w w' := by
  have HL := fun W => Lib.hid (l03Log_c (m * 100000) W (by omega))
  generalize logLow (m * 100000) = lo at *
  generalize logHigh (m * 100000) = hi at *
  go_enter Tryz.func225, Tryz.ntmps225
  go_wp2_with fail
  refine (HL _).out.mono ?_; rintro e w1 ⟨rfl, hb1⟩
  have Bg := (Blk.new' (w.alloc (.cells #[.int .i64 m, .int .i64 t] 65)) 201 #[.int .i64 0, .int .i64 0] (g := w.heap.size + 1) (by simp)).below hb1 (by simp)
  have c0 : w1.cell? ⟨w.heap.size + 1, 0, none⟩ = some (.int .i64 0) := Bg.cell 0
  have c1 : w1.cell? ⟨w.heap.size + 1, 1, none⟩ = some (.int .i64 0) := Bg.cell 1
  have cf0 : w1.frozen? ⟨w.heap.size + 1, 0, none⟩ = false := Bg.frozen 0
  have cf1 : w1.frozen? ⟨w.heap.size + 1, 1, none⟩ = false := Bg.frozen 1
  have cz := Bg.lt
  have hB1 : Below w.heap.size w w1 := Below.trans ((by repeat (first | with_reducible exact Below.refl _ _ | with_reducible apply below_drewN' | with_reducible apply Below.drew | (with_reducible refine Below.alloc ?_ (by first | omega | (simp; omega) | simp) _) | (with_reducible refine Below.setCell ?_ (by first | omega | (simp; omega) | simp) _) | exact Below.refl _ _))) (hb1.mono (by simp <;> omega))
  have hB1s := hB1.size
  go_wp2
  refine bodyPost_ret (v := .agg #[.int .i64 lo, .int .i64 hi]) (by simp [results, Tryz.results225, go_sem, c0, c1, cz]) rfl ⟨rfl, (by repeat (first | with_reducible exact hB1 | with_reducible apply below_drewN' | with_reducible apply Below.drew | (with_reducible refine Below.alloc ?_ (by first | omega | (simp; omega) | simp) _) | (with_reducible refine Below.setCell ?_ (by first | omega | (simp; omega) | simp) _) | exact hB1))⟩
set_option maxRecDepth 100000 in
theorem pointOf_c (m t : Int) (w : World) (hm : 1000 ≤ m ∧ m ≤ 9999) :
    Calls Tryz.prog 110 #[.int .i64 0, .agg #[.int .i64 m, .int .i64 t]] w fun e w' => e = .returned (.int .i64 (pointC m)) ∧ Below w.heap.size w w' := by
  have h1 := logLow_bd (x := m * 100000) (by omega)
  have h2 := logHigh_bd (x := m * 100000) (by omega)
  have HL := fun W => Lib.hid (positionC_c m t W hm)
  unfold pointC
  generalize logLow (m * 100000) = lo at *
  generalize logHigh (m * 100000) = hi at *
  have HD := fun W => Lib.hid (down_c (lo + hi) 2 W (by omega) (by omega))
  go_enter Tryz.func110, Tryz.ntmps110
  go_wp2_with fail
  refine (HL _).out.mono ?_; rintro e w1 ⟨rfl, hb1⟩
  have hB1 : Below w.heap.size w w1 := ((Below.refl _ _).alloc (Nat.le_refl _) _).trans (hb1.mono (by simp))
  have hB1s := hB1.size
  go_wp2_with (go_at_call 171; refine (HD _).out.mono ?_; rintro e w2 ⟨rfl, rfl⟩)
  go_ret
  exact ⟨rfl, (by repeat (first | with_reducible exact hB1 | with_reducible apply below_drewN' | with_reducible apply Below.drew | (with_reducible refine Below.alloc ?_ (by first | omega | (simp; omega) | simp) _) | (with_reducible refine Below.setCell ?_ (by first | omega | (simp; omega) | simp) _) | exact hB1))⟩
set_option maxRecDepth 100000 in
theorem l11Point_c (m t : Int) (w : World) (hm : 1000 ≤ m ∧ m ≤ 9999) :
    Calls Tryz.prog 179 #[.int .i64 0, .agg #[.int .i64 m, .int .i64 t]] w fun e w' => e = .returned (.int .i64 (pointC m)) ∧ Below w.heap.size w w' := by
  have h1 := logLow_bd (x := m * 100000) (by omega)
  have h2 := logHigh_bd (x := m * 100000) (by omega)
  have HL := fun W => Lib.hid (l05PositionC_c m t W hm)
  unfold pointC
  generalize logLow (m * 100000) = lo at *
  generalize logHigh (m * 100000) = hi at *
  have HD := fun W => Lib.hid (l01Floor_c (lo + hi) 2 W (by omega) (by omega))
  go_enter Tryz.func179, Tryz.ntmps179
  go_wp2_with fail
  refine (HL _).out.mono ?_; rintro e w1 ⟨rfl, hb1⟩
  have hB1 : Below w.heap.size w w1 := ((Below.refl _ _).alloc (Nat.le_refl _) _).trans (hb1.mono (by simp))
  have hB1s := hB1.size
  go_wp2_with (go_at_call 226; refine (HD _).out.mono ?_; rintro e w2 ⟨rfl, rfl⟩)
  go_ret
  exact ⟨rfl, (by repeat (first | with_reducible exact hB1 | with_reducible apply below_drewN' | with_reducible apply Below.drew | (with_reducible refine Below.alloc ?_ (by first | omega | (simp; omega) | simp) _) | (with_reducible refine Below.setCell ?_ (by first | omega | (simp; omega) | simp) _) | exact hB1))⟩
theorem l14Point_c (m t : Int) (w : World) (hm : 1000 ≤ m ∧ m ≤ 9999) :
    Calls Tryz.prog 121 #[.agg #[.int .i64 m, .int .i64 t]] w fun e w' => e = .returned (.int .i64 (pointC m)) ∧ Below w.heap.size w w' := by
  have HL := fun W => Lib.hid (l11Point_c m t W hm)
  go_enter Tryz.func121, Tryz.ntmps121
  go_wp2_with (go_at_call 179; refine (HL _).out.mono ?_; rintro e w1 ⟨rfl, hb1⟩)
  go_ret
  exact ⟨rfl, ((Below.refl _ _).alloc (Nat.le_refl _) _).trans (hb1.mono (by simp))⟩
end Go.Proofs.YtgkobjpoeajkdaaGreat
