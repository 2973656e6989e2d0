/- SeenAngle and TurnOf: the program and the reference return the same, at all arguments. No condition. -/
import Derived.Test.YtpibncahhajlbaaNum
namespace Go.Proofs.Ytpibncahhajlbaa
open Go.RowKit

def angB (n : Int) : Bool := inB n (-25920000) 25920000
theorem angB_bd {n : Int} (h : angB n = true) : -25920000 ≤ n ∧ n ≤ 25920000 := inB_true.1 h
theorem l30Is_c (n : Int) (w : World) : Calls Try.prog 49 #[.int .i64 n] w fun e w' => e = .returned (.bool (angB n)) ∧ w = w' := by
  go_enter Try.func49, Try.ntmps49
  go_wp2_with (go_at_call 73; refine (l01In_c _ _ _ _).mono ?_; rintro e w' ⟨rfl, rfl⟩)
  go_ret
  exact ⟨rfl, rfl⟩
theorem isAngle_c (n : Int) (w : World) : Calls Try.prog 51 #[.int .i64 n] w fun e w' => e = .returned (.bool (angB n)) ∧ w = w' := by
  go_enter Try.func51, Try.ntmps51
  go_wp2_with (go_at_call 74; refine (within_c _ _ _ _).mono ?_; rintro e w' ⟨rfl, rfl⟩)
  go_ret
  exact ⟨rfl, rfl⟩
def seenAngle (a b : Int) : Int × Int := if angB a && angB b then ((a + b) % 1296000, 0) else (0, 2)
theorem specSeenAngle_c (a b : Int) (w : World) :
    Calls Try.prog 15 #[.int .i64 a, .int .i64 b] w fun e w' => e = .returned (.tuple #[.int .i64 (seenAngle a b).1, .int .i64 (seenAngle a b).2]) ∧ w = w' := by
  cases ha : angB a <;> cases hb : angB b
  all_goals
    try have ba := angB_bd ha
    try have bb := angB_bd hb
    go_enter Try.func15, Try.ntmps15
    go_wp2_with (first | (go_at_call 49; refine (l30Is_c _ _).mono ?_; rintro e w' ⟨rfl, rfl⟩) | (go_at_call 50; refine (l01Mod_c _ _ _ (by omega) (by omega)).mono ?_; rintro e w' ⟨rfl, rfl⟩))
    go_ret2
    exact ⟨by simp [seenAngle, ha, hb], rfl⟩
theorem implSeenAngle_c (a b : Int) (w : World) :
    Calls Try.prog 16 #[.int .i64 a, .int .i64 b] w fun e w' => e = .returned (.tuple #[.int .i64 (seenAngle a b).1, .int .i64 (seenAngle a b).2]) ∧ w = w' := by
  cases ha : angB a <;> cases hb : angB b
  all_goals
    try have ba := angB_bd ha
    try have bb := angB_bd hb
    go_enter Try.func16, Try.ntmps16
    go_wp2_with (first | (go_at_call 51; refine (isAngle_c _ _).mono ?_; rintro e w' ⟨rfl, rfl⟩) | (go_at_call 52; refine (modulo_c _ _ _ (by omega) (by omega)).mono ?_; rintro e w' ⟨rfl, rfl⟩))
    go_ret2
    exact ⟨by simp [seenAngle, ha, hb], rfl⟩
theorem lawSeenAngle_c (a b : Int) (w : World) : Calls Try.prog 3 #[.int .i64 a, .int .i64 b] w fun e w' => e = .returned (.bool true) ∧ w = w' := by
  go_enter Try.func3, Try.ntmps3
  go_wp2_with (first | (go_at_call 15; refine (specSeenAngle_c _ _ _).mono ?_; rintro e w' ⟨rfl, rfl⟩) | (go_at_call 16; refine (implSeenAngle_c _ _ _).mono ?_; rintro e w' ⟨rfl, rfl⟩))
  go_ret
  exact ⟨rfl, rfl⟩
def turnOf (a : Int) : Int × Int × Int := if angB a then (a / 1296000, a % 1296000, 0) else (0, 0, 2)
theorem specTurnOf_c (a : Int) (w : World) :
    Calls Try.prog 17 #[.int .i64 a] w fun e w' => e = .returned (.tuple #[.int .i64 (turnOf a).1, .int .i64 (turnOf a).2.1, .int .i64 (turnOf a).2.2]) ∧ w = w' := by
  cases ha : angB a
  all_goals
    try have ba := angB_bd ha
    go_enter Try.func17, Try.ntmps17
    go_wp2_with (first | (go_at_call 49; refine (l30Is_c _ _).mono ?_; rintro e w' ⟨rfl, rfl⟩) | (go_at_call 50; refine (l01Mod_c _ _ _ (by omega) (by omega)).mono ?_; rintro e w' ⟨rfl, rfl⟩) | (go_at_call 53; refine (l01Floor_c _ _ _ (by omega) (by omega)).mono ?_; rintro e w' ⟨rfl, rfl⟩))
    go_ret3
    exact ⟨by simp [turnOf, ha], rfl⟩
theorem implTurnOf_c (a : Int) (w : World) :
    Calls Try.prog 18 #[.int .i64 a] w fun e w' => e = .returned (.tuple #[.int .i64 (turnOf a).1, .int .i64 (turnOf a).2.1, .int .i64 (turnOf a).2.2]) ∧ w = w' := by
  cases ha : angB a
  all_goals
    try have ba := angB_bd ha
    go_enter Try.func18, Try.ntmps18
    go_wp2_with (first | (go_at_call 51; refine (isAngle_c _ _).mono ?_; rintro e w' ⟨rfl, rfl⟩) | (go_at_call 52; refine (modulo_c _ _ _ (by omega) (by omega)).mono ?_; rintro e w' ⟨rfl, rfl⟩) | (go_at_call 54; refine (down_c _ _ _ (by omega) (by omega)).mono ?_; rintro e w' ⟨rfl, rfl⟩))
    go_ret3
    exact ⟨by simp [turnOf, ha], rfl⟩
theorem lawTurnOf_c (a : Int) (w : World) : Calls Try.prog 4 #[.int .i64 a] w fun e w' => e = .returned (.bool true) ∧ w = w' := by
  go_enter Try.func4, Try.ntmps4
  go_wp2_with (first | (go_at_call 17; refine (specTurnOf_c _ _).mono ?_; rintro e w' ⟨rfl, rfl⟩) | (go_at_call 18; refine (implTurnOf_c _ _).mono ?_; rintro e w' ⟨rfl, rfl⟩))
  go_ret
  exact ⟨rfl, rfl⟩
end Go.Proofs.Ytpibncahhajlbaa
