/- The small functions behind a mark's place: differences, halves and thirds of intervals. No condition beyond bounds. -/
import Derived.Deep.RegionHeld3
import Derived.IntWalk
import Derived.Test.YtkjommcmeinkaaaGreatKRw7
set_option linter.unusedSimpArgs false
namespace Go.Proofs.YtkjommcmeinkaaaGreat
open Go.RowKit
def iv (a b : Int) : Value := .agg #[.int .i64 a, .int .i64 b]
set_option maxRecDepth 100000 in
theorem difference_c (a b a' b' : Int) (w : World) (h : -1099511627776 ≤ a ∧ a ≤ 1099511627776) (h2 : -1099511627776 ≤ b ∧ b ≤ 1099511627776) (h3 : -1099511627776 ≤ a' ∧ a' ≤ 1099511627776) (h4 : -1099511627776 ≤ b' ∧ b' ≤ 1099511627776) :
    Calls Tryz.prog 102 #[.agg #[.int .i64 a, .int .i64 b], .agg #[.int .i64 a', .int .i64 b']] w fun e w' => e = .returned (.agg #[.int .i64 (a - b'), .int .i64 (b - a')]) ∧ Below w.heap.size w w' := by
  obtain ⟨p1, p2⟩ := h
  obtain ⟨p3, p4⟩ := h2
  obtain ⟨p5, p6⟩ := h3
  obtain ⟨p7, p8⟩ := h4
  go_enter Tryz.func102, Tryz.ntmps102
  go_wp2
  refine bodyPost_ret (v := .agg #[.int .i64 (a - b'), .int .i64 (b - a')]) (by simp [results, Tryz.results102, go_sem]) rfl ⟨rfl, (by repeat (first | with_reducible exact Below.refl _ _ | with_reducible apply below_drewN' | with_reducible apply Below.drew | (with_reducible refine Below.alloc ?_ (by first | omega | (simp; omega) | simp | (have := (Below.refl _ _).size; omega) | (have := (Below.refl _ _).size; simp; omega)) _) | (with_reducible refine Below.setCell ?_ (by first | omega | (simp; omega) | simp | (have := (Below.refl _ _).size; omega) | (have := (Below.refl _ _).size; simp; omega)) _) | exact Below.refl _ _))⟩
set_option maxRecDepth 100000 in
theorem l03Sub_c (a b a' b' : Int) (w : World) (h : -1099511627776 ≤ a ∧ a ≤ 1099511627776) (h2 : -1099511627776 ≤ b ∧ b ≤ 1099511627776) (h3 : -1099511627776 ≤ a' ∧ a' ≤ 1099511627776) (h4 : -1099511627776 ≤ b' ∧ b' ≤ 1099511627776) :
    Calls Tryz.prog 91 #[.agg #[.int .i64 a, .int .i64 b], .agg #[.int .i64 a', .int .i64 b']] w fun e w' => e = .returned (.agg #[.int .i64 (a - b'), .int .i64 (b - a')]) ∧ Below w.heap.size w w' := by
  obtain ⟨p1, p2⟩ := h
  obtain ⟨p3, p4⟩ := h2
  obtain ⟨p5, p6⟩ := h3
  obtain ⟨p7, p8⟩ := h4
  go_enter Tryz.func91, Tryz.ntmps91
  go_wp2
  refine bodyPost_ret (v := .agg #[.int .i64 (a - b'), .int .i64 (b - a')]) (by simp [results, Tryz.results91, go_sem]) rfl ⟨rfl, (by repeat (first | with_reducible exact Below.refl _ _ | with_reducible apply below_drewN' | with_reducible apply Below.drew | (with_reducible refine Below.alloc ?_ (by first | omega | (simp; omega) | simp | (have := (Below.refl _ _).size; omega) | (have := (Below.refl _ _).size; simp; omega)) _) | (with_reducible refine Below.setCell ?_ (by first | omega | (simp; omega) | simp | (have := (Below.refl _ _).size; omega) | (have := (Below.refl _ _).size; simp; omega)) _) | exact Below.refl _ _))⟩
set_option maxRecDepth 100000 in
theorem scaled_c (a b d : Int) (w : World) (h : -1099511627776 ≤ a ∧ a ≤ 1099511627776) (h2 : -1099511627776 ≤ b ∧ b ≤ 1099511627776) (hd : 0 < d ∧ d ≤ 12) :
    Calls Tryz.prog 100 #[.agg #[.int .i64 a, .int .i64 b], .int .i64 1, .int .i64 d] w fun e w' => e = .returned (.agg #[.int .i64 ((min a b) / d), .int .i64 (-(-(max a b) / d))]) ∧ Below w.heap.size w w' := by
  obtain ⟨p1, p2⟩ := h
  obtain ⟨p3, p4⟩ := h2
  obtain ⟨d1, d2⟩ := hd
  have e1 : a * 1 = a := Int.mul_one a
  have e2 : b * 1 = b := Int.mul_one b
  have s1 : IntKind.i64.wrap a = a := IntWalk.i64_in _ (by omega)
  have s2 : IntKind.i64.wrap b = b := IntWalk.i64_in _ (by omega)
  go_enter Tryz.func100, Tryz.ntmps100
  go_wp2_with fail
  go_quiet (fail)
  clear e1 e2 s1 s2
  go_wp2_with (first | (go_at_call 85; refine (down_c _ _ _ (by omega) (by omega)).mono ?_; rintro e w' ⟨rfl, rfl⟩) | (go_at_call 86; refine (up_c _ _ _ (by omega) (by omega)).mono ?_; rintro e w' ⟨rfl, rfl⟩))
  all_goals
    first
      | (have q1 : min a b = a := (by omega); have q2 : max a b = a := (by omega); refine bodyPost_ret (v := .agg #[.int .i64 (min a b / d), .int .i64 (-(-(max a b) / d))]) (by simp [results, Tryz.results100, go_sem, q1, q2]) rfl ⟨rfl, (by repeat (first | with_reducible exact Below.refl _ _ | with_reducible apply below_drewN' | with_reducible apply Below.drew | (with_reducible refine Below.alloc ?_ (by first | omega | (simp; omega) | simp | (have := (Below.refl _ _).size; omega) | (have := (Below.refl _ _).size; simp; omega)) _) | (with_reducible refine Below.setCell ?_ (by first | omega | (simp; omega) | simp | (have := (Below.refl _ _).size; omega) | (have := (Below.refl _ _).size; simp; omega)) _) | exact Below.refl _ _))⟩)
      | (have q1 : min a b = a := (by omega); have q2 : max a b = b := (by omega); refine bodyPost_ret (v := .agg #[.int .i64 (min a b / d), .int .i64 (-(-(max a b) / d))]) (by simp [results, Tryz.results100, go_sem, q1, q2]) rfl ⟨rfl, (by repeat (first | with_reducible exact Below.refl _ _ | with_reducible apply below_drewN' | with_reducible apply Below.drew | (with_reducible refine Below.alloc ?_ (by first | omega | (simp; omega) | simp | (have := (Below.refl _ _).size; omega) | (have := (Below.refl _ _).size; simp; omega)) _) | (with_reducible refine Below.setCell ?_ (by first | omega | (simp; omega) | simp | (have := (Below.refl _ _).size; omega) | (have := (Below.refl _ _).size; simp; omega)) _) | exact Below.refl _ _))⟩)
      | (have q1 : min a b = b := (by omega); have q2 : max a b = a := (by omega); refine bodyPost_ret (v := .agg #[.int .i64 (min a b / d), .int .i64 (-(-(max a b) / d))]) (by simp [results, Tryz.results100, go_sem, q1, q2]) rfl ⟨rfl, (by repeat (first | with_reducible exact Below.refl _ _ | with_reducible apply below_drewN' | with_reducible apply Below.drew | (with_reducible refine Below.alloc ?_ (by first | omega | (simp; omega) | simp | (have := (Below.refl _ _).size; omega) | (have := (Below.refl _ _).size; simp; omega)) _) | (with_reducible refine Below.setCell ?_ (by first | omega | (simp; omega) | simp | (have := (Below.refl _ _).size; omega) | (have := (Below.refl _ _).size; simp; omega)) _) | exact Below.refl _ _))⟩)
      | (have q1 : min a b = b := (by omega); have q2 : max a b = b := (by omega); refine bodyPost_ret (v := .agg #[.int .i64 (min a b / d), .int .i64 (-(-(max a b) / d))]) (by simp [results, Tryz.results100, go_sem, q1, q2]) rfl ⟨rfl, (by repeat (first | with_reducible exact Below.refl _ _ | with_reducible apply below_drewN' | with_reducible apply Below.drew | (with_reducible refine Below.alloc ?_ (by first | omega | (simp; omega) | simp | (have := (Below.refl _ _).size; omega) | (have := (Below.refl _ _).size; simp; omega)) _) | (with_reducible refine Below.setCell ?_ (by first | omega | (simp; omega) | simp | (have := (Below.refl _ _).size; omega) | (have := (Below.refl _ _).size; simp; omega)) _) | exact Below.refl _ _))⟩)
set_option maxRecDepth 100000 in
theorem l03Scale_c (a b d : Int) (w : World) (h : -1099511627776 ≤ a ∧ a ≤ 1099511627776) (h2 : -1099511627776 ≤ b ∧ b ≤ 1099511627776) (hd : 0 < d ∧ d ≤ 12) :
    Calls Tryz.prog 90 #[.agg #[.int .i64 a, .int .i64 b], .int .i64 1, .int .i64 d] w fun e w' => e = .returned (.agg #[.int .i64 ((min a b) / d), .int .i64 (-(-(max a b) / d))]) ∧ Below w.heap.size w w' := by
  obtain ⟨p1, p2⟩ := h
  obtain ⟨p3, p4⟩ := h2
  obtain ⟨d1, d2⟩ := hd
  have e1 : a * 1 = a := Int.mul_one a
  have e2 : b * 1 = b := Int.mul_one b
  have s1 : IntKind.i64.wrap a = a := IntWalk.i64_in _ (by omega)
  have s2 : IntKind.i64.wrap b = b := IntWalk.i64_in _ (by omega)
  go_enter Tryz.func90, Tryz.ntmps90
  go_wp2_with fail
  go_quiet (fail)
  clear e1 e2 s1 s2
  go_wp2_with (first | (go_at_call 70; refine (l01Floor_c _ _ _ (by omega) (by omega)).mono ?_; rintro e w' ⟨rfl, rfl⟩) | (go_at_call 87; refine (l01Ceil_c _ _ _ (by omega) (by omega)).mono ?_; rintro e w' ⟨rfl, rfl⟩))
  all_goals
    first
      | (have q1 : min a b = a := (by omega); have q2 : max a b = a := (by omega); refine bodyPost_ret (v := .agg #[.int .i64 (min a b / d), .int .i64 (-(-(max a b) / d))]) (by simp [results, Tryz.results90, go_sem, q1, q2]) rfl ⟨rfl, (by repeat (first | with_reducible exact Below.refl _ _ | with_reducible apply below_drewN' | with_reducible apply Below.drew | (with_reducible refine Below.alloc ?_ (by first | omega | (simp; omega) | simp | (have := (Below.refl _ _).size; omega) | (have := (Below.refl _ _).size; simp; omega)) _) | (with_reducible refine Below.setCell ?_ (by first | omega | (simp; omega) | simp | (have := (Below.refl _ _).size; omega) | (have := (Below.refl _ _).size; simp; omega)) _) | exact Below.refl _ _))⟩)
      | (have q1 : min a b = a := (by omega); have q2 : max a b = b := (by omega); refine bodyPost_ret (v := .agg #[.int .i64 (min a b / d), .int .i64 (-(-(max a b) / d))]) (by simp [results, Tryz.results90, go_sem, q1, q2]) rfl ⟨rfl, (by repeat (first | with_reducible exact Below.refl _ _ | with_reducible apply below_drewN' | with_reducible apply Below.drew | (with_reducible refine Below.alloc ?_ (by first | omega | (simp; omega) | simp | (have := (Below.refl _ _).size; omega) | (have := (Below.refl _ _).size; simp; omega)) _) | (with_reducible refine Below.setCell ?_ (by first | omega | (simp; omega) | simp | (have := (Below.refl _ _).size; omega) | (have := (Below.refl _ _).size; simp; omega)) _) | exact Below.refl _ _))⟩)
      | (have q1 : min a b = b := (by omega); have q2 : max a b = a := (by omega); refine bodyPost_ret (v := .agg #[.int .i64 (min a b / d), .int .i64 (-(-(max a b) / d))]) (by simp [results, Tryz.results90, go_sem, q1, q2]) rfl ⟨rfl, (by repeat (first | with_reducible exact Below.refl _ _ | with_reducible apply below_drewN' | with_reducible apply Below.drew | (with_reducible refine Below.alloc ?_ (by first | omega | (simp; omega) | simp | (have := (Below.refl _ _).size; omega) | (have := (Below.refl _ _).size; simp; omega)) _) | (with_reducible refine Below.setCell ?_ (by first | omega | (simp; omega) | simp | (have := (Below.refl _ _).size; omega) | (have := (Below.refl _ _).size; simp; omega)) _) | exact Below.refl _ _))⟩)
      | (have q1 : min a b = b := (by omega); have q2 : max a b = b := (by omega); refine bodyPost_ret (v := .agg #[.int .i64 (min a b / d), .int .i64 (-(-(max a b) / d))]) (by simp [results, Tryz.results90, go_sem, q1, q2]) rfl ⟨rfl, (by repeat (first | with_reducible exact Below.refl _ _ | with_reducible apply below_drewN' | with_reducible apply Below.drew | (with_reducible refine Below.alloc ?_ (by first | omega | (simp; omega) | simp | (have := (Below.refl _ _).size; omega) | (have := (Below.refl _ _).size; simp; omega)) _) | (with_reducible refine Below.setCell ?_ (by first | omega | (simp; omega) | simp | (have := (Below.refl _ _).size; omega) | (have := (Below.refl _ _).size; simp; omega)) _) | exact Below.refl _ _))⟩)
set_option maxRecDepth 100000 in
theorem l05Place_c (a b n : Int) (w : World) (h : -1099511627776 ≤ a ∧ a ≤ 1099511627776) (h2 : -1099511627776 ≤ b ∧ b ≤ 1099511627776) (hn : 1 ≤ n ∧ n ≤ 100000) :
    Calls Tryz.prog 68 #[.agg #[.int .i64 a, .int .i64 b], .int .i64 n] w fun e w' => e = .returned (.agg #[.int .i64 (a * n / 1048576), .int .i64 (-(-(b * n) / 1048576))]) ∧ Below w.heap.size w w' := by
  obtain ⟨p1, p2⟩ := h
  obtain ⟨p3, p4⟩ := h2
  obtain ⟨n1, n2⟩ := hn
  have m1 : -109951162777600000 ≤ a * n ∧ a * n ≤ 109951162777600000 := by
    constructor
    · have := Int.mul_le_mul_of_nonneg_right p1 (show 0 ≤ n by omega)
      omega
    · have := Int.mul_le_mul_of_nonneg_right p2 (show 0 ≤ n by omega)
      omega
  have m2 : -109951162777600000 ≤ b * n ∧ b * n ≤ 109951162777600000 := by
    constructor
    · have := Int.mul_le_mul_of_nonneg_right p3 (show 0 ≤ n by omega)
      omega
    · have := Int.mul_le_mul_of_nonneg_right p4 (show 0 ≤ n by omega)
      omega
  have HD := fun W => Lib.hid (l01Floor_c (a * n) 1048576 W (by omega) (by omega))
  have HU := fun W => Lib.hid (l01Ceil_c (b * n) 1048576 W (by omega) (by omega))
  have s1 : IntKind.i64.wrap (a * n) = a * n := IntWalk.i64_in _ (by omega)
  have s2 : IntKind.i64.wrap (b * n) = b * n := IntWalk.i64_in _ (by omega)
  clear m1 m2
  generalize a * n / 1048576 = x at *
  generalize -(-(b * n) / 1048576) = y at *
  go_enter Tryz.func68, Tryz.ntmps68
  go_wp2_with fail
  have Ba := (Blk.new w 84 #[.int .i64 a, .int .i64 b]).alloc (.cells #[.int .i64 0, .int .i64 0] 84)
  have Bg := Blk.new' (w.alloc (.cells #[.int .i64 a, .int .i64 b] 84)) 84 #[.int .i64 0, .int .i64 0] (g := w.heap.size + 1) (by simp)
  have hB0 : Below w.heap.size w ((w.alloc (.cells #[.int .i64 a, .int .i64 b] 84)).alloc (.cells #[.int .i64 0, .int .i64 0] 84)) := (by repeat (first | with_reducible exact Below.refl _ _ | with_reducible apply below_drewN' | with_reducible apply Below.drew | (with_reducible refine Below.alloc ?_ (by first | omega | (simp; omega) | simp | (have := (Below.refl _ _).size; omega) | (have := (Below.refl _ _).size; simp; omega)) _) | (with_reducible refine Below.setCell ?_ (by first | omega | (simp; omega) | simp | (have := (Below.refl _ _).size; omega) | (have := (Below.refl _ _).size; simp; omega)) _) | exact Below.refl _ _))
  have zB := hB0.size
  generalize (w.alloc (.cells #[.int .i64 a, .int .i64 b] 84)).alloc (.cells #[.int .i64 0, .int .i64 0] 84) = W0 at *
  have z1 := Bg.lt
  have c0' : W0.cell? ⟨w.heap.size + 1, 0, none⟩ = some (.int .i64 0) := Bg.cell 0
  have c1' : W0.cell? ⟨w.heap.size + 1, 1, none⟩ = some (.int .i64 0) := Bg.cell 1
  have f0' : W0.frozen? ⟨w.heap.size + 1, 0, none⟩ = false := Bg.frozen 0
  have f1' : W0.frozen? ⟨w.heap.size + 1, 1, none⟩ = false := Bg.frozen 1
  have c0 : W0.drew.cell? ⟨w.heap.size + 1, 0, none⟩ = some (.int .i64 0) := Bg.cell 0
  have c1 : W0.drew.cell? ⟨w.heap.size + 1, 1, none⟩ = some (.int .i64 0) := Bg.cell 1
  have f0 : W0.drew.frozen? ⟨w.heap.size + 1, 0, none⟩ = false := Bg.frozen 0
  have f1 : W0.drew.frozen? ⟨w.heap.size + 1, 1, none⟩ = false := Bg.frozen 1
  have hI : (fun w' => Below (w.heap.size + 1) W0 w' ∧ w'.cell? ⟨w.heap.size, 0, none⟩ = some (.int .i64 a) ∧ w'.cell? ⟨w.heap.size, 1, none⟩ = some (.int .i64 b)) W0.drew := ⟨(Below.refl _ _).drew, Ba.cell 0, Ba.cell 1⟩
  have hS : ∀ u v, (fun w' => Below (w.heap.size + 1) W0 w' ∧ w'.cell? ⟨w.heap.size, 0, none⟩ = some (.int .i64 a) ∧ w'.cell? ⟨w.heap.size, 1, none⟩ = some (.int .i64 b)) ((W0.drew.setCell ⟨w.heap.size + 1, 0, none⟩ u).setCell ⟨w.heap.size + 1, 1, none⟩ v) := fun u v =>
    have hL : Below (w.heap.size + 1) W0.drew ((W0.drew.setCell ⟨w.heap.size + 1, 0, none⟩ u).setCell ⟨w.heap.size + 1, 1, none⟩ v) := (by repeat (first | with_reducible exact Below.refl _ _ | with_reducible apply below_drewN' | with_reducible apply Below.drew | (with_reducible refine Below.alloc ?_ (by first | omega | (simp; omega) | simp | (have := (Below.refl _ _).size; omega) | (have := (Below.refl _ _).size; simp; omega)) _) | (with_reducible refine Below.setCell ?_ (by first | omega | (simp; omega) | simp | (have := (Below.refl _ _).size; omega) | (have := (Below.refl _ _).size; simp; omega)) _) | exact Below.refl _ _))
    ⟨(show Below (w.heap.size + 1) W0 W0.drew from (Below.refl _ _).drew).trans hL, (hL.cell (p := ⟨w.heap.size, 0, none⟩) (by simp only; omega)).trans hI.2.1, (hL.cell (p := ⟨w.heap.size, 1, none⟩) (by simp only; omega)).trans hI.2.2⟩
  clear Ba
  go_region_held3 (fun w' => Below (w.heap.size + 1) W0 w' ∧ w'.cell? ⟨w.heap.size, 0, none⟩ = some (.int .i64 a) ∧ w'.cell? ⟨w.heap.size, 1, none⟩ = some (.int .i64 b))
    (first | exact hI | assumption | exact hS _ _ | fail)
    (first | (go_at_call 70; refine (HD _).out.mono ?_; rintro e w5 ⟨rfl, rfl⟩) | (go_at_call 87; refine (HU _).out.mono ?_; rintro e w5 ⟨rfl, rfl⟩))
  have hB := hB0.trans ((show Below (w.heap.size + 1) W0 _ ∧ _ by assumption).1.mono (by omega))
  go_wp2_with fail
  refine bodyPost_ret (v := .agg #[.int .i64 x, .int .i64 y]) (by simp [results, Tryz.results68, go_sem, c0', c1']) rfl ⟨rfl, (by repeat (first | with_reducible exact hB | with_reducible apply below_drewN' | with_reducible apply Below.drew | (with_reducible refine Below.alloc ?_ (by first | omega | (simp; omega) | simp | (have := (hB).size; omega) | (have := (hB).size; simp; omega)) _) | (with_reducible refine Below.setCell ?_ (by first | omega | (simp; omega) | simp | (have := (hB).size; omega) | (have := (hB).size; simp; omega)) _) | exact hB))⟩
end Go.Proofs.YtkjommcmeinkaaaGreat
