/- The small functions behind a mark's place: differences, halves and thirds of intervals. No condition beyond bounds. -/
import Derived.Test.YtgkobjpoeajkdaaGreatAngle
import Derived.Deep.RegionHeld3
import Derived.IntWalk
namespace Go.Proofs.YtgkobjpoeajkdaaGreat
open Go.RowKit
def iv (a b : Int) : Value := .agg #[.int .i64 a, .int .i64 b]
set_option maxRecDepth 100000 in
theorem difference_c (a b a' b' : Int) (w : World) (h : -1099511627776 ≤ a ∧ a ≤ 1099511627776) (h2 : -1099511627776 ≤ b ∧ b ≤ 1099511627776) (h3 : -1099511627776 ≤ a' ∧ a' ≤ 1099511627776) (h4 : -1099511627776 ≤ b' ∧ b' ≤ 1099511627776) :
    Calls Tryz.prog 210 #[.agg #[.int .i64 a, .int .i64 b], .agg #[.int .i64 a', .int .i64 b']] w fun e w' => e = .returned (.agg #[.int .i64 (a - b'), .int .i64 (b - a')]) ∧ Below w.heap.size w w' := by
  obtain ⟨p1, p2⟩ := h
  obtain ⟨p3, p4⟩ := h2
  obtain ⟨p5, p6⟩ := h3
  obtain ⟨p7, p8⟩ := h4
  go_enter Tryz.func210, Tryz.ntmps210
  go_wp2
  refine bodyPost_ret (v := .agg #[.int .i64 (a - b'), .int .i64 (b - a')]) (by simp [results, Tryz.results210, go_sem]) rfl ⟨rfl, (by repeat (first | with_reducible exact Below.refl _ _ | with_reducible apply below_drewN' | with_reducible apply Below.drew | (with_reducible refine Below.alloc ?_ (by first | omega | (simp; omega) | simp) _) | (with_reducible refine Below.setCell ?_ (by first | omega | (simp; omega) | simp) _) | exact Below.refl _ _))⟩
set_option maxRecDepth 100000 in
theorem l03Sub_c (a b a' b' : Int) (w : World) (h : -1099511627776 ≤ a ∧ a ≤ 1099511627776) (h2 : -1099511627776 ≤ b ∧ b ≤ 1099511627776) (h3 : -1099511627776 ≤ a' ∧ a' ≤ 1099511627776) (h4 : -1099511627776 ≤ b' ∧ b' ≤ 1099511627776) :
    Calls Tryz.prog 212 #[.agg #[.int .i64 a, .int .i64 b], .agg #[.int .i64 a', .int .i64 b']] w fun e w' => e = .returned (.agg #[.int .i64 (a - b'), .int .i64 (b - a')]) ∧ Below w.heap.size w w' := by
  obtain ⟨p1, p2⟩ := h
  obtain ⟨p3, p4⟩ := h2
  obtain ⟨p5, p6⟩ := h3
  obtain ⟨p7, p8⟩ := h4
  go_enter Tryz.func212, Tryz.ntmps212
  go_wp2
  refine bodyPost_ret (v := .agg #[.int .i64 (a - b'), .int .i64 (b - a')]) (by simp [results, Tryz.results212, go_sem]) rfl ⟨rfl, (by repeat (first | with_reducible exact Below.refl _ _ | with_reducible apply below_drewN' | with_reducible apply Below.drew | (with_reducible refine Below.alloc ?_ (by first | omega | (simp; omega) | simp) _) | (with_reducible refine Below.setCell ?_ (by first | omega | (simp; omega) | simp) _) | exact Below.refl _ _))⟩
set_option maxRecDepth 100000 in
theorem scaled_c (a b d : Int) (w : World) (h : -1099511627776 ≤ a ∧ a ≤ 1099511627776) (h2 : -1099511627776 ≤ b ∧ b ≤ 1099511627776) (hd : 0 < d ∧ d ≤ 12) :
    Calls Tryz.prog 209 #[.agg #[.int .i64 a, .int .i64 b], .int .i64 1, .int .i64 d] w fun e w' => e = .returned (.agg #[.int .i64 ((min a b) / d), .int .i64 (-(-(max a b) / d))]) ∧ Below w.heap.size w w' := by
  obtain ⟨p1, p2⟩ := h
  obtain ⟨p3, p4⟩ := h2
  obtain ⟨d1, d2⟩ := hd
  have e1 : a * 1 = a := Int.mul_one a
  have e2 : b * 1 = b := Int.mul_one b
  have s1 : IntKind.i64.wrap a = a := IntWalk.i64_in _ (by omega)
  have s2 : IntKind.i64.wrap b = b := IntWalk.i64_in _ (by omega)
  go_enter Tryz.func209, Tryz.ntmps209
  go_wp2_with fail
  go_quiet (fail)
  clear e1 e2 s1 s2
  go_wp2_with (first | (go_at_call 171; refine (down_c _ _ _ (by omega) (by omega)).mono ?_; rintro e w' ⟨rfl, rfl⟩) | (go_at_call 206; refine (up_c _ _ _ (by omega) (by omega)).mono ?_; rintro e w' ⟨rfl, rfl⟩))
  all_goals
    first
      | (have q1 : min a b = a := (by omega); have q2 : max a b = a := (by omega); refine bodyPost_ret (v := .agg #[.int .i64 (min a b / d), .int .i64 (-(-(max a b) / d))]) (by simp [results, Tryz.results209, go_sem, q1, q2]) rfl ⟨rfl, (by repeat (first | with_reducible exact Below.refl _ _ | with_reducible apply below_drewN' | with_reducible apply Below.drew | (with_reducible refine Below.alloc ?_ (by first | omega | (simp; omega) | simp) _) | (with_reducible refine Below.setCell ?_ (by first | omega | (simp; omega) | simp) _) | exact Below.refl _ _))⟩)
      | (have q1 : min a b = a := (by omega); have q2 : max a b = b := (by omega); refine bodyPost_ret (v := .agg #[.int .i64 (min a b / d), .int .i64 (-(-(max a b) / d))]) (by simp [results, Tryz.results209, go_sem, q1, q2]) rfl ⟨rfl, (by repeat (first | with_reducible exact Below.refl _ _ | with_reducible apply below_drewN' | with_reducible apply Below.drew | (with_reducible refine Below.alloc ?_ (by first | omega | (simp; omega) | simp) _) | (with_reducible refine Below.setCell ?_ (by first | omega | (simp; omega) | simp) _) | exact Below.refl _ _))⟩)
      | (have q1 : min a b = b := (by omega); have q2 : max a b = a := (by omega); refine bodyPost_ret (v := .agg #[.int .i64 (min a b / d), .int .i64 (-(-(max a b) / d))]) (by simp [results, Tryz.results209, go_sem, q1, q2]) rfl ⟨rfl, (by repeat (first | with_reducible exact Below.refl _ _ | with_reducible apply below_drewN' | with_reducible apply Below.drew | (with_reducible refine Below.alloc ?_ (by first | omega | (simp; omega) | simp) _) | (with_reducible refine Below.setCell ?_ (by first | omega | (simp; omega) | simp) _) | exact Below.refl _ _))⟩)
      | (have q1 : min a b = b := (by omega); have q2 : max a b = b := (by omega); refine bodyPost_ret (v := .agg #[.int .i64 (min a b / d), .int .i64 (-(-(max a b) / d))]) (by simp [results, Tryz.results209, go_sem, q1, q2]) rfl ⟨rfl, (by repeat (first | with_reducible exact Below.refl _ _ | with_reducible apply below_drewN' | with_reducible apply Below.drew | (with_reducible refine Below.alloc ?_ (by first | omega | (simp; omega) | simp) _) | (with_reducible refine Below.setCell ?_ (by first | omega | (simp; omega) | simp) _) | exact Below.refl _ _))⟩)
set_option maxRecDepth 100000 in
theorem l03Scale_c (a b d : Int) (w : World) (h : -1099511627776 ≤ a ∧ a ≤ 1099511627776) (h2 : -1099511627776 ≤ b ∧ b ≤ 1099511627776) (hd : 0 < d ∧ d ≤ 12) :
    Calls Tryz.prog 252 #[.agg #[.int .i64 a, .int .i64 b], .int .i64 1, .int .i64 d] w fun e w' => e = .returned (.agg #[.int .i64 ((min a b) / d), .int .i64 (-(-(max a b) / d))]) ∧ Below w.heap.size w w' := by
  obtain ⟨p1, p2⟩ := h
  obtain ⟨p3, p4⟩ := h2
  obtain ⟨d1, d2⟩ := hd
  have e1 : a * 1 = a := Int.mul_one a
  have e2 : b * 1 = b := Int.mul_one b
  have s1 : IntKind.i64.wrap a = a := IntWalk.i64_in _ (by omega)
  have s2 : IntKind.i64.wrap b = b := IntWalk.i64_in _ (by omega)
  go_enter Tryz.func252, Tryz.ntmps252
  go_wp2_with fail
  go_quiet (fail)
  clear e1 e2 s1 s2
  go_wp2_with (first | (go_at_call 226; refine (l01Floor_c _ _ _ (by omega) (by omega)).mono ?_; rintro e w' ⟨rfl, rfl⟩) | (go_at_call 244; refine (l01Ceil_c _ _ _ (by omega) (by omega)).mono ?_; rintro e w' ⟨rfl, rfl⟩))
  all_goals
    first
      | (have q1 : min a b = a := (by omega); have q2 : max a b = a := (by omega); refine bodyPost_ret (v := .agg #[.int .i64 (min a b / d), .int .i64 (-(-(max a b) / d))]) (by simp [results, Tryz.results252, go_sem, q1, q2]) rfl ⟨rfl, (by repeat (first | with_reducible exact Below.refl _ _ | with_reducible apply below_drewN' | with_reducible apply Below.drew | (with_reducible refine Below.alloc ?_ (by first | omega | (simp; omega) | simp) _) | (with_reducible refine Below.setCell ?_ (by first | omega | (simp; omega) | simp) _) | exact Below.refl _ _))⟩)
      | (have q1 : min a b = a := (by omega); have q2 : max a b = b := (by omega); refine bodyPost_ret (v := .agg #[.int .i64 (min a b / d), .int .i64 (-(-(max a b) / d))]) (by simp [results, Tryz.results252, go_sem, q1, q2]) rfl ⟨rfl, (by repeat (first | with_reducible exact Below.refl _ _ | with_reducible apply below_drewN' | with_reducible apply Below.drew | (with_reducible refine Below.alloc ?_ (by first | omega | (simp; omega) | simp) _) | (with_reducible refine Below.setCell ?_ (by first | omega | (simp; omega) | simp) _) | exact Below.refl _ _))⟩)
      | (have q1 : min a b = b := (by omega); have q2 : max a b = a := (by omega); refine bodyPost_ret (v := .agg #[.int .i64 (min a b / d), .int .i64 (-(-(max a b) / d))]) (by simp [results, Tryz.results252, go_sem, q1, q2]) rfl ⟨rfl, (by repeat (first | with_reducible exact Below.refl _ _ | with_reducible apply below_drewN' | with_reducible apply Below.drew | (with_reducible refine Below.alloc ?_ (by first | omega | (simp; omega) | simp) _) | (with_reducible refine Below.setCell ?_ (by first | omega | (simp; omega) | simp) _) | exact Below.refl _ _))⟩)
      | (have q1 : min a b = b := (by omega); have q2 : max a b = b := (by omega); refine bodyPost_ret (v := .agg #[.int .i64 (min a b / d), .int .i64 (-(-(max a b) / d))]) (by simp [results, Tryz.results252, go_sem, q1, q2]) rfl ⟨rfl, (by repeat (first | with_reducible exact Below.refl _ _ | with_reducible apply below_drewN' | with_reducible apply Below.drew | (with_reducible refine Below.alloc ?_ (by first | omega | (simp; omega) | simp) _) | (with_reducible refine Below.setCell ?_ (by first | omega | (simp; omega) | simp) _) | exact Below.refl _ _))⟩)
end Go.Proofs.YtgkobjpoeajkdaaGreat
