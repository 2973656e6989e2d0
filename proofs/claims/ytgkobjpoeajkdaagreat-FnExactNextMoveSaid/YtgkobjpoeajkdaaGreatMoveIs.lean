/- Moves: equality of figures and of moves, as the program computes it. No condition. -/
import Derived.Test.YtgkobjpoeajkdaaGreatCfMove
import Derived.Test.YtgkobjpoeajkdaaGreatRule
import Derived.Test.YtgkobjpoeajkdaaGreatAngle
import Derived.Laws.StructEq
namespace Go.Proofs.YtgkobjpoeajkdaaGreat
open Go.RowKit
theorem eqFig (a b c d : Int) (w : World) : Sem.run Tryz.prog (binOp .eql 65 (.agg #[.int .i64 a, .int .i64 b]) (.agg #[.int .i64 c, .int .i64 d])) w = .ok (.bool (decide (a = c) && decide (b = d))) w := by
  have hS : Tryz.prog.underlying 65 = some (.struct (Tryz.prog.fieldsOf 65)) := by kernel_rfl
  have hp : Tryz.prog.stoodInHeld 65 = false := by kernel_rfl
  have u3 := Tryz.underlying2
  have a3 := Tryz.isAgg2
  have z3 := Tryz.sizeOf2
  by_cases h1 : a = c <;> by_cases h2 : b = d
  all_goals
    rw [run_eql_struct, show (10000 : Nat) = 9999 + 1 from rfl, run_equalIn_agg w 9999 65 _ _ hS hp]
    simp only [Program.fieldsOf, Tryz.underlying65]
    go_simp
def moveB (m : Move) : Bool := (inB m.kind 0 2 && (scaleB m.scale && figOK ⟨m.digits, m.tens⟩)) || (inB m.kind 3 6 && (decide (m.scale = 0) && (decide (m.digits = 0) && decide (m.tens = 0))))
theorem moveB_lo {m : Move} (h : 0 ≤ m.kind ∧ m.kind ≤ 2) : moveB m = (scaleB m.scale && figOK ⟨m.digits, m.tens⟩) := by
  unfold moveB
  rw [inB_true.2 h, show inB m.kind 3 6 = false from by cases hx : inB m.kind 3 6; rfl; have := inB_true.1 hx; omega]
  simp
theorem moveB_hi {m : Move} (h : 3 ≤ m.kind ∧ m.kind ≤ 6) : moveB m = (decide (m.scale = 0) && (decide (m.digits = 0) && decide (m.tens = 0))) := by
  unfold moveB
  rw [inB_true.2 h, show inB m.kind 0 2 = false from by cases hx : inB m.kind 0 2; rfl; have := inB_true.1 hx; omega]
  simp
theorem moveB_out {m : Move} (h : m.kind < 0 ∨ 6 < m.kind) : moveB m = false := by
  unfold moveB
  rw [show inB m.kind 3 6 = false from by cases hx : inB m.kind 3 6; rfl; have := inB_true.1 hx; omega, show inB m.kind 0 2 = false from by cases hx : inB m.kind 0 2; rfl; have := inB_true.1 hx; omega]
  rfl
set_option maxRecDepth 100000 in
set_option maxHeartbeats 1000000 in
theorem l12Is_c (k s a b : Int) (w : World) : Calls Tryz.prog 230 #[.agg #[.int .i64 k, .int .i64 s, .int .i64 a, .int .i64 b]] w fun e w' => e = .returned (.bool (moveB ⟨k, s, a, b⟩)) ∧ Below w.heap.size w w' := by
  have hGt : Tryz.prog.eqGuardType Tryz.prog.depth 65 = false := by kernel_rfl
  have HS := fun W => Lib.hid (l10Scale_c s W)
  have HF := fun W => specIsFigure_c ⟨a, b⟩ W
  unfold Figure.agg at HF
  have HF := fun W => Lib.hid (HF W)
  have HQ := fun W => eqFig a b 0 0 W
  by_cases h0 : 0 ≤ k ∧ k ≤ 2
  · have HR := Lib.hid (moveB_lo (m := ⟨k, s, a, b⟩) h0)
    simp only at HR
    generalize scaleB s = u at *
    generalize figOK ⟨a, b⟩ = v at *
    have hk : k = 0 ∨ k = 1 ∨ k = 2 := by omega
    clear h0 HQ
    rcases hk with rfl | rfl | rfl
    all_goals
      cases u
      · go_enter Tryz.func230, Tryz.ntmps230
        go_wp2_with (first | (go_at_call 182; refine Calls.mono (HS _) ?_; rintro e w1 ⟨rfl, rfl⟩))
        go_ret
        exact ⟨by rw [HR.out]; rfl, (by repeat (first | with_reducible exact Below.refl _ _ | with_reducible apply below_drewN' | with_reducible apply Below.drew | (with_reducible refine Below.alloc ?_ (by first | omega | (simp; omega) | simp) _) | (with_reducible refine Below.setCell ?_ (by first | omega | (simp; omega) | simp) _) | exact Below.refl _ _))⟩
      · go_enter Tryz.func230, Tryz.ntmps230
        go_wp2_with (first | (go_at_call 182; refine Calls.mono (HS _) ?_; rintro e w1 ⟨rfl, rfl⟩))
        refine Calls.mono (HF _) ?_; rintro e w1 ⟨rfl, hb1⟩
        go_wp2
        go_ret
        exact ⟨by rw [HR.out]; rfl, ((Below.refl _ _).alloc (Nat.le_refl _) _).trans (hb1.mono (by simp))⟩
  · by_cases h3 : 3 ≤ k ∧ k ≤ 6
    · have HR := Lib.hid (moveB_hi (m := ⟨k, s, a, b⟩) h3)
      simp only at HR
      generalize (decide (a = 0) && decide (b = 0)) = v at *
      have hk : k = 3 ∨ k = 4 ∨ k = 5 ∨ k = 6 := by omega
      clear h0 h3 HS HF
      by_cases hs : s = 0
      · subst hs
        rcases hk with rfl | rfl | rfl | rfl
        all_goals
          go_enter Tryz.func230, Tryz.ntmps230
          go_wp2
          go_ret
          exact ⟨by rw [HR.out]; cases v <;> rfl, (by repeat (first | with_reducible exact Below.refl _ _ | with_reducible apply below_drewN' | with_reducible apply Below.drew | (with_reducible refine Below.alloc ?_ (by first | omega | (simp; omega) | simp) _) | (with_reducible refine Below.setCell ?_ (by first | omega | (simp; omega) | simp) _) | exact Below.refl _ _))⟩
      · rw [decide_eq_false hs] at HR
        rcases hk with rfl | rfl | rfl | rfl
        all_goals
          go_enter Tryz.func230, Tryz.ntmps230
          go_wp2
          go_ret
          exact ⟨by rw [HR.out]; rfl, (by repeat (first | with_reducible exact Below.refl _ _ | with_reducible apply below_drewN' | with_reducible apply Below.drew | (with_reducible refine Below.alloc ?_ (by first | omega | (simp; omega) | simp) _) | (with_reducible refine Below.setCell ?_ (by first | omega | (simp; omega) | simp) _) | exact Below.refl _ _))⟩
    · have HR := Lib.hid (moveB_out (m := ⟨k, s, a, b⟩) (by simp only; omega))
      have e0 : (k == 0) = false := by simp; omega
      have e1 : (k == 1) = false := by simp; omega
      have e2 : (k == 2) = false := by simp; omega
      have e3 : (k == 3) = false := by simp; omega
      have e4 : (k == 4) = false := by simp; omega
      have e5 : (k == 5) = false := by simp; omega
      have e6 : (k == 6) = false := by simp; omega
      clear h0 h3 HS HF HQ
      go_enter Tryz.func230, Tryz.ntmps230
      go_wp2
      go_ret
      exact ⟨by rw [HR.out]; rfl, (by repeat (first | with_reducible exact Below.refl _ _ | with_reducible apply below_drewN' | with_reducible apply Below.drew | (with_reducible refine Below.alloc ?_ (by first | omega | (simp; omega) | simp) _) | (with_reducible refine Below.setCell ?_ (by first | omega | (simp; omega) | simp) _) | exact Below.refl _ _))⟩
end Go.Proofs.YtgkobjpoeajkdaaGreat
