/- SeenAngle and TurnOf: the program and the reference return the same, at all arguments. No condition. -/
import Derived.Test.YtcpnmeebbbeakaaNum
namespace Go.Proofs.Ytcpnmeebbbeakaa
open Go.RowKit

def angB (n : Int) : Bool := inB n (-25920000) 25920000
theorem angB_bd {n : Int} (h : angB n = true) : -25920000 ≤ n ∧ n ≤ 25920000 := inB_true.1 h
theorem l30Is_c (n : Int) (w : World) : Calls Try.prog 133 #[.int .i64 n] w fun e w' => e = .returned (.bool (angB n)) ∧ w = w' := by
  go_enter Try.func133, Try.ntmps133
  go_wp2_with (go_at_call 100; refine (l01In_c _ _ _ _).mono ?_; rintro e w' ⟨rfl, rfl⟩)
  go_ret
  exact ⟨rfl, rfl⟩
theorem isAngle_c (n : Int) (w : World) : Calls Try.prog 132 #[.int .i64 n] w fun e w' => e = .returned (.bool (angB n)) ∧ w = w' := by
  go_enter Try.func132, Try.ntmps132
  go_wp2_with (go_at_call 113; refine (within_c _ _ _ _).mono ?_; rintro e w' ⟨rfl, rfl⟩)
  go_ret
  exact ⟨rfl, rfl⟩
def seenAngle (a b : Int) : Int × Int := if angB a && angB b then ((a + b) % 1296000, 0) else (0, 2)
theorem specSeenAngle_c (a b : Int) (w : World) :
    Calls Try.prog 64 #[.int .i64 a, .int .i64 b] w fun e w' => e = .returned (.tuple #[.int .i64 (seenAngle a b).1, .int .i64 (seenAngle a b).2]) ∧ w = w' := by
  cases ha : angB a <;> cases hb : angB b
  all_goals
    try have ba := angB_bd ha
    try have bb := angB_bd hb
    go_enter Try.func64, Try.ntmps64
    go_wp2_with (first | (go_at_call 133; refine (l30Is_c _ _).mono ?_; rintro e w' ⟨rfl, rfl⟩) | (go_at_call 87; refine (l01Mod_c _ _ _ (by omega) (by omega)).mono ?_; rintro e w' ⟨rfl, rfl⟩))
    go_ret2
    exact ⟨by simp [seenAngle, ha, hb], rfl⟩
theorem implSeenAngle_c (a b : Int) (w : World) :
    Calls Try.prog 63 #[.int .i64 a, .int .i64 b] w fun e w' => e = .returned (.tuple #[.int .i64 (seenAngle a b).1, .int .i64 (seenAngle a b).2]) ∧ w = w' := by
  cases ha : angB a <;> cases hb : angB b
  all_goals
    try have ba := angB_bd ha
    try have bb := angB_bd hb
    go_enter Try.func63, Try.ntmps63
    go_wp2_with (first | (go_at_call 132; refine (isAngle_c _ _).mono ?_; rintro e w' ⟨rfl, rfl⟩) | (go_at_call 127; refine (modulo_c _ _ _ (by omega) (by omega)).mono ?_; rintro e w' ⟨rfl, rfl⟩))
    go_ret2
    exact ⟨by simp [seenAngle, ha, hb], rfl⟩
def turnOf (a : Int) : Int × Int × Int := if angB a then (a / 1296000, a % 1296000, 0) else (0, 0, 2)
theorem specTurnOf_c (a : Int) (w : World) :
    Calls Try.prog 61 #[.int .i64 a] w fun e w' => e = .returned (.tuple #[.int .i64 (turnOf a).1, .int .i64 (turnOf a).2.1, .int .i64 (turnOf a).2.2]) ∧ w = w' := by
  cases ha : angB a
  all_goals
    try have ba := angB_bd ha
    go_enter Try.func61, Try.ntmps61
    go_wp2_with (first | (go_at_call 133; refine (l30Is_c _ _).mono ?_; rintro e w' ⟨rfl, rfl⟩) | (go_at_call 87; refine (l01Mod_c _ _ _ (by omega) (by omega)).mono ?_; rintro e w' ⟨rfl, rfl⟩) | (go_at_call 134; refine (l01Floor_c _ _ _ (by omega) (by omega)).mono ?_; rintro e w' ⟨rfl, rfl⟩))
    go_ret3
    exact ⟨by simp [turnOf, ha], rfl⟩
theorem implTurnOf_c (a : Int) (w : World) :
    Calls Try.prog 60 #[.int .i64 a] w fun e w' => e = .returned (.tuple #[.int .i64 (turnOf a).1, .int .i64 (turnOf a).2.1, .int .i64 (turnOf a).2.2]) ∧ w = w' := by
  cases ha : angB a
  all_goals
    try have ba := angB_bd ha
    go_enter Try.func60, Try.ntmps60
    go_wp2_with (first | (go_at_call 132; refine (isAngle_c _ _).mono ?_; rintro e w' ⟨rfl, rfl⟩) | (go_at_call 127; refine (modulo_c _ _ _ (by omega) (by omega)).mono ?_; rintro e w' ⟨rfl, rfl⟩) | (go_at_call 126; refine (down_c _ _ _ (by omega) (by omega)).mono ?_; rintro e w' ⟨rfl, rfl⟩))
    go_ret3
    exact ⟨by simp [turnOf, ha], rfl⟩
end Go.Proofs.Ytcpnmeebbbeakaa
