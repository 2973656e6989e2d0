/- Rounding fractions to figures: the program's and the reference's. Conditions: the digits' bounds. Rounding fractions to figures: the reference's. Conditions: the digits' bounds. Products and quotients of figures: the program's and the reference's. Conditions: both figures are valid. -/
import Derived.Test.YtednjmldjbndhaaGreatKEy26
set_option linter.unusedSimpArgs false
set_option linter.unusedVariables false
namespace Go.Proofs.YtednjmldjbndhaaGreat
open Go.RowKit
/-- a quotient's digits and tens, 10000 taken back to 1000 -/
def finR (x T : Int) : Figure := if x = 10000 then ⟨1000, T + 1⟩ else ⟨x, T⟩
def mulF (P t : Int) : Figure := if P < 10000000 then finR ((2 * P + 1000) / 2000) (t + 6) else finR ((2 * P + 10000) / 20000) (t + 7)
set_option maxRecDepth 100000 in
theorem nearN_c (n d : Int) (w : World) (hn : 0 ≤ n ∧ n ≤ 1000000000) (hd : 0 < d ∧ d ≤ 1000000000) : Calls Tryz.prog 223 #[.int .i64 n, .int .i64 d] w fun e w' => e = .returned (.int .i64 ((2 * n + d) / (2 * d))) ∧ w = w' := by
  obtain ⟨hn1, hn2⟩ := hn
  obtain ⟨hd1, hd2⟩ := hd
  have h0 : ¬ d < 0 := by omega
  go_enter Tryz.func223, Tryz.ntmps223
  go_wp2_with (go_at_call 150; refine (down_c _ _ _ (by omega) (by omega)).mono ?_; rintro e w' ⟨rfl, rfl⟩)
  go_ret
  exact ⟨rfl, rfl⟩
set_option maxRecDepth 100000 in
set_option maxHeartbeats 800000 in
theorem roundedMul_c (P t : Int) (w : World) (hP : 1000000 ≤ P ∧ P ≤ 99980001) (ht : -1000 ≤ t ∧ t ≤ 1000) : Calls Tryz.prog 195 #[.int .i64 P, .int .i64 1, .int .i64 t] w fun e w' =>
    e = .returned (.agg #[.int .i64 (mulF P t).digits, .int .i64 (mulF P t).tens]) ∧ Below w.heap.size w w' := by
  obtain ⟨hP1, hP2⟩ := hP
  obtain ⟨ht1, ht2⟩ := ht
  have Br := Blk.new w 51 #[.int .i64 0, .int .i64 0]
  have hB : Below w.heap.size w (w.alloc (.cells #[.int .i64 0, .int .i64 0] 51)) := (by repeat (first | with_reducible exact Below.refl _ _ | with_reducible apply below_drewN' | with_reducible apply Below.drew | (with_reducible refine Below.alloc ?_ (by first | omega | (simp; omega) | simp | (have := (Below.refl _ _).size; omega) | (have := (Below.refl _ _).size; simp; omega)) _) | (with_reducible refine Below.setCell ?_ (by first | omega | (simp; omega) | simp | (have := (Below.refl _ _).size; omega) | (have := (Below.refl _ _).size; simp; omega)) _) | exact Below.refl _ _))
  go_enter Tryz.func195, Tryz.ntmps195
  go_wp2_with fail
  generalize w.alloc (.cells #[.int .i64 0, .int .i64 0] 51) = W at *
  have c0 : W.cell? ⟨w.heap.size, 0, none⟩ = some (.int .i64 0) := Br.cell 0
  have c1 : W.cell? ⟨w.heap.size, 1, none⟩ = some (.int .i64 0) := Br.cell 1
  have f0 : W.frozen? ⟨w.heap.size, 0, none⟩ = false := Br.frozen 0
  have f1 : W.frozen? ⟨w.heap.size, 1, none⟩ = false := Br.frozen 1
  go_loop [0, 2] (fun n u => n = .int .i64 P ∧ u = .int .i64 (t + 3)) (fun _ _ => 0)
  case atStart => exact ⟨rfl, rfl⟩
  case round =>
    obtain ⟨rfl, rfl⟩ := hrel
    go_wp2_with fail
    go_loop [1, 2] (fun d u => (d = .int .i64 1 ∧ u = .int .i64 (t + 3)) ∨ (d = .int .i64 10 ∧ u = .int .i64 (t + 4)) ∨ (d = .int .i64 100 ∧ u = .int .i64 (t + 5)) ∨ (d = .int .i64 1000 ∧ u = .int .i64 (t + 6)) ∨ (d = .int .i64 10000 ∧ u = .int .i64 (t + 7) ∧ ¬ P < 10000000)) (fun d _ => 10000 - (intOf d).toNat)
    case atStart => exact .inl ⟨rfl, rfl⟩
    case round =>
      rcases hrel with ⟨rfl, rfl⟩ | ⟨rfl, rfl⟩ | ⟨rfl, rfl⟩ | ⟨rfl, rfl⟩ | ⟨rfl, rfl, h7⟩
      · go_wp2
        go_round
        case rel => exact .inr (.inl ⟨rfl, congrArg (Value.int .i64) (by omega)⟩)
        case measure => simp [intOf]
      · go_wp2
        go_round
        case rel => exact .inr (.inr (.inl ⟨rfl, congrArg (Value.int .i64) (by omega)⟩))
        case measure => simp [intOf]
      · go_wp2
        go_round
        case rel => exact .inr (.inr (.inr (.inl ⟨rfl, congrArg (Value.int .i64) (by omega)⟩)))
        case measure => simp [intOf]
      · by_cases h7 : P < 10000000
        · have HF : Hid (mulF P t = finR ((2 * P + 1000) / 2000) (t + 6)) := if_pos h7
          have hN := fun W => nearN_c P 1000 W (by omega) (by omega)
          rw [show (2 : Int) * 1000 = 2000 from rfl] at hN
          have hN' := fun W => Lib.hid (hN W)
          clear hN
          have hx : 0 ≤ (2 * P + 1000) / 2000 ∧ (2 * P + 1000) / 2000 ≤ 10000 := by omega
          generalize (2 * P + 1000) / 2000 = x at *
          by_cases h9 : x = 10000
          · subst h9
            go_wp2_with (go_at_call 223; refine Calls.mono (hN' _).out ?_; rintro e w5 ⟨rfl, rfl⟩)
            refine bodyPost_ret (v := .agg #[.int .i64 1000, .int .i64 (t + 6 + 1)]) (by simp [results, Tryz.results195, go_sem, c0, c1]) rfl ⟨by rw [HF.out]; rfl, (by repeat (first | with_reducible exact hB | with_reducible apply below_drewN' | with_reducible apply Below.drew | (with_reducible refine Below.alloc ?_ (by first | omega | (simp; omega) | simp | (have := (hB).size; omega) | (have := (hB).size; simp; omega)) _) | (with_reducible refine Below.setCell ?_ (by first | omega | (simp; omega) | simp | (have := (hB).size; omega) | (have := (hB).size; simp; omega)) _) | exact hB))⟩
          · go_wp2_with (go_at_call 223; refine Calls.mono (hN' _).out ?_; rintro e w5 ⟨rfl, rfl⟩)
            refine bodyPost_ret (v := .agg #[.int .i64 x, .int .i64 (t + 6)]) (by simp [results, Tryz.results195, go_sem, c0, c1]) rfl ⟨by rw [HF.out]; unfold finR; rw [if_neg h9], (by repeat (first | with_reducible exact hB | with_reducible apply below_drewN' | with_reducible apply Below.drew | (with_reducible refine Below.alloc ?_ (by first | omega | (simp; omega) | simp | (have := (hB).size; omega) | (have := (hB).size; simp; omega)) _) | (with_reducible refine Below.setCell ?_ (by first | omega | (simp; omega) | simp | (have := (hB).size; omega) | (have := (hB).size; simp; omega)) _) | exact hB))⟩
        · go_wp2
          go_round
          case rel => exact .inr (.inr (.inr (.inr ⟨rfl, congrArg (Value.int .i64) (by omega), h7⟩)))
          case measure => simp [intOf]
      · have HF : Hid (mulF P t = finR ((2 * P + 10000) / 20000) (t + 7)) := if_neg h7
        have hN := fun W => nearN_c P 10000 W (by omega) (by omega)
        rw [show (2 : Int) * 10000 = 20000 from rfl] at hN
        have hN' := fun W => Lib.hid (hN W)
        clear hN
        have hx : 0 ≤ (2 * P + 10000) / 20000 ∧ (2 * P + 10000) / 20000 ≤ 10000 := by omega
        generalize (2 * P + 10000) / 20000 = x at *
        by_cases h9 : x = 10000
        · subst h9
          go_wp2_with (go_at_call 223; refine Calls.mono (hN' _).out ?_; rintro e w5 ⟨rfl, rfl⟩)
          refine bodyPost_ret (v := .agg #[.int .i64 1000, .int .i64 (t + 7 + 1)]) (by simp [results, Tryz.results195, go_sem, c0, c1]) rfl ⟨by rw [HF.out]; rfl, (by repeat (first | with_reducible exact hB | with_reducible apply below_drewN' | with_reducible apply Below.drew | (with_reducible refine Below.alloc ?_ (by first | omega | (simp; omega) | simp | (have := (hB).size; omega) | (have := (hB).size; simp; omega)) _) | (with_reducible refine Below.setCell ?_ (by first | omega | (simp; omega) | simp | (have := (hB).size; omega) | (have := (hB).size; simp; omega)) _) | exact hB))⟩
        · go_wp2_with (go_at_call 223; refine Calls.mono (hN' _).out ?_; rintro e w5 ⟨rfl, rfl⟩)
          refine bodyPost_ret (v := .agg #[.int .i64 x, .int .i64 (t + 7)]) (by simp [results, Tryz.results195, go_sem, c0, c1]) rfl ⟨by rw [HF.out]; unfold finR; rw [if_neg h9], (by repeat (first | with_reducible exact hB | with_reducible apply below_drewN' | with_reducible apply Below.drew | (with_reducible refine Below.alloc ?_ (by first | omega | (simp; omega) | simp | (have := (hB).size; omega) | (have := (hB).size; simp; omega)) _) | (with_reducible refine Below.setCell ?_ (by first | omega | (simp; omega) | simp | (have := (hB).size; omega) | (have := (hB).size; simp; omega)) _) | exact hB))⟩
def divF (n d t : Int) : Figure := if d ≤ n then finR ((2 * (n * 1000) + d) / (2 * d)) t else finR ((2 * (n * 10000) + d) / (2 * d)) (t - 1)
set_option maxRecDepth 100000 in
set_option maxHeartbeats 800000 in
theorem roundedDiv_c (n d t : Int) (w : World) (hn : 1000 ≤ n ∧ n ≤ 9999) (hd : 1000 ≤ d ∧ d ≤ 9999) (ht : -1000 ≤ t ∧ t ≤ 1000) : Calls Tryz.prog 195 #[.int .i64 n, .int .i64 d, .int .i64 t] w fun e w' =>
    e = .returned (.agg #[.int .i64 (divF n d t).digits, .int .i64 (divF n d t).tens]) ∧ Below w.heap.size w w' := by
  obtain ⟨hn1, hn2⟩ := hn
  obtain ⟨hd1, hd2⟩ := hd
  obtain ⟨ht1, ht2⟩ := ht
  have Br := Blk.new w 51 #[.int .i64 0, .int .i64 0]
  have hB : Below w.heap.size w (w.alloc (.cells #[.int .i64 0, .int .i64 0] 51)) := (by repeat (first | with_reducible exact Below.refl _ _ | with_reducible apply below_drewN' | with_reducible apply Below.drew | (with_reducible refine Below.alloc ?_ (by first | omega | (simp; omega) | simp | (have := (Below.refl _ _).size; omega) | (have := (Below.refl _ _).size; simp; omega)) _) | (with_reducible refine Below.setCell ?_ (by first | omega | (simp; omega) | simp | (have := (Below.refl _ _).size; omega) | (have := (Below.refl _ _).size; simp; omega)) _) | exact Below.refl _ _))
  go_enter Tryz.func195, Tryz.ntmps195
  go_wp2_with fail
  generalize w.alloc (.cells #[.int .i64 0, .int .i64 0] 51) = W at *
  have c0 : W.cell? ⟨w.heap.size, 0, none⟩ = some (.int .i64 0) := Br.cell 0
  have c1 : W.cell? ⟨w.heap.size, 1, none⟩ = some (.int .i64 0) := Br.cell 1
  have f0 : W.frozen? ⟨w.heap.size, 0, none⟩ = false := Br.frozen 0
  have f1 : W.frozen? ⟨w.heap.size, 1, none⟩ = false := Br.frozen 1
  go_loop [0, 2] (fun m u => (m = .int .i64 n ∧ u = .int .i64 (t + 3)) ∨ (m = .int .i64 (n * 10) ∧ u = .int .i64 (t + 2)) ∨ (m = .int .i64 (n * 100) ∧ u = .int .i64 (t + 1)) ∨ (m = .int .i64 (n * 1000) ∧ u = .int .i64 t) ∨ (m = .int .i64 (n * 10000) ∧ u = .int .i64 (t - 1) ∧ ¬ d ≤ n)) (fun m _ => 100000000 - (intOf m).toNat)
  case atStart => exact .inl ⟨rfl, rfl⟩
  case round =>
    rcases hrel with ⟨rfl, rfl⟩ | ⟨rfl, rfl⟩ | ⟨rfl, rfl⟩ | ⟨rfl, rfl⟩ | ⟨rfl, rfl, h7⟩
    · have hc : n < 1000 * d := by omega
      go_wp2
      go_round
      case rel => exact .inr (.inl ⟨rfl, congrArg (Value.int .i64) (by omega)⟩)
      case measure => simp [intOf]; omega
    · have hc : n * 10 < 1000 * d := by omega
      go_wp2
      go_round
      case rel => exact .inr (.inr (.inl ⟨congrArg (Value.int .i64) (by omega), congrArg (Value.int .i64) (by omega)⟩))
      case measure => simp [intOf]; omega
    · have hc : n * 100 < 1000 * d := by omega
      go_wp2
      go_round
      case rel => exact .inr (.inr (.inr (.inl ⟨congrArg (Value.int .i64) (by omega), congrArg (Value.int .i64) (by omega)⟩)))
      case measure => simp [intOf]; omega
    · by_cases h7 : d ≤ n
      · have HF : Hid (divF n d t = finR ((2 * (n * 1000) + d) / (2 * d)) t) := if_pos h7
        have hc : ¬ n * 1000 < 1000 * d := by omega
        have hc2 : n * 1000 < 10000 * d := by omega
        go_wp2_with fail
        go_loop [1, 2] (fun dd u => dd = .int .i64 d ∧ u = .int .i64 (t)) (fun _ _ => 0)
        case atStart => exact ⟨rfl, rfl⟩
        case round =>
          obtain ⟨rfl, rfl⟩ := hrel
          have hN := fun W => nearN_c (n * 1000) d W (by omega) (by omega)
          have hN' := fun W => Lib.hid (hN W)
          clear hN
          generalize (2 * (n * 1000) + d) / (2 * d) = x at *
          by_cases h9 : x = 10000
          · subst h9
            go_wp2_with (go_at_call 223; refine Calls.mono (hN' _).out ?_; rintro e w5 ⟨rfl, rfl⟩)
            refine bodyPost_ret (v := .agg #[.int .i64 1000, .int .i64 (t + 1)]) (by simp [results, Tryz.results195, go_sem, c0, c1]) rfl ⟨by rw [HF.out]; rfl, (by repeat (first | with_reducible exact hB | with_reducible apply below_drewN' | with_reducible apply Below.drew | (with_reducible refine Below.alloc ?_ (by first | omega | (simp; omega) | simp | (have := (hB).size; omega) | (have := (hB).size; simp; omega)) _) | (with_reducible refine Below.setCell ?_ (by first | omega | (simp; omega) | simp | (have := (hB).size; omega) | (have := (hB).size; simp; omega)) _) | exact hB))⟩
          · go_wp2_with (go_at_call 223; refine Calls.mono (hN' _).out ?_; rintro e w5 ⟨rfl, rfl⟩)
            refine bodyPost_ret (v := .agg #[.int .i64 x, .int .i64 (t)]) (by simp [results, Tryz.results195, go_sem, c0, c1]) rfl ⟨by rw [HF.out]; unfold finR; rw [if_neg h9], (by repeat (first | with_reducible exact hB | with_reducible apply below_drewN' | with_reducible apply Below.drew | (with_reducible refine Below.alloc ?_ (by first | omega | (simp; omega) | simp | (have := (hB).size; omega) | (have := (hB).size; simp; omega)) _) | (with_reducible refine Below.setCell ?_ (by first | omega | (simp; omega) | simp | (have := (hB).size; omega) | (have := (hB).size; simp; omega)) _) | exact hB))⟩
      · have hc : n * 1000 < 1000 * d := by omega
        go_wp2
        go_round
        case rel => exact .inr (.inr (.inr (.inr ⟨congrArg (Value.int .i64) (by omega), rfl, h7⟩)))
        case measure => simp [intOf]; omega
    · have HF : Hid (divF n d t = finR ((2 * (n * 10000) + d) / (2 * d)) (t - 1)) := if_neg h7
      have hc : ¬ n * 10000 < 1000 * d := by omega
      have hc2 : n * 10000 < 10000 * d := by omega
      go_wp2_with fail
      go_loop [1, 2] (fun dd u => dd = .int .i64 d ∧ u = .int .i64 (t - 1)) (fun _ _ => 0)
      case atStart => exact ⟨rfl, rfl⟩
      case round =>
        obtain ⟨rfl, rfl⟩ := hrel
        have hN := fun W => nearN_c (n * 10000) d W (by omega) (by omega)
        have hN' := fun W => Lib.hid (hN W)
        clear hN
        generalize (2 * (n * 10000) + d) / (2 * d) = x at *
        by_cases h9 : x = 10000
        · subst h9
          go_wp2_with (go_at_call 223; refine Calls.mono (hN' _).out ?_; rintro e w5 ⟨rfl, rfl⟩)
          refine bodyPost_ret (v := .agg #[.int .i64 1000, .int .i64 (t - 1 + 1)]) (by simp [results, Tryz.results195, go_sem, c0, c1]) rfl ⟨by rw [HF.out]; rfl, (by repeat (first | with_reducible exact hB | with_reducible apply below_drewN' | with_reducible apply Below.drew | (with_reducible refine Below.alloc ?_ (by first | omega | (simp; omega) | simp | (have := (hB).size; omega) | (have := (hB).size; simp; omega)) _) | (with_reducible refine Below.setCell ?_ (by first | omega | (simp; omega) | simp | (have := (hB).size; omega) | (have := (hB).size; simp; omega)) _) | exact hB))⟩
        · go_wp2_with (go_at_call 223; refine Calls.mono (hN' _).out ?_; rintro e w5 ⟨rfl, rfl⟩)
          refine bodyPost_ret (v := .agg #[.int .i64 x, .int .i64 (t - 1)]) (by simp [results, Tryz.results195, go_sem, c0, c1]) rfl ⟨by rw [HF.out]; unfold finR; rw [if_neg h9], (by repeat (first | with_reducible exact hB | with_reducible apply below_drewN' | with_reducible apply Below.drew | (with_reducible refine Below.alloc ?_ (by first | omega | (simp; omega) | simp | (have := (hB).size; omega) | (have := (hB).size; simp; omega)) _) | (with_reducible refine Below.setCell ?_ (by first | omega | (simp; omega) | simp | (have := (hB).size; omega) | (have := (hB).size; simp; omega)) _) | exact hB))⟩
end Go.Proofs.YtednjmldjbndhaaGreat
namespace Go.Proofs.YtednjmldjbndhaaGreat
open Go.RowKit
set_option maxRecDepth 100000 in
theorem l01NearN_c (n d : Int) (w : World) (hn : 0 ≤ n ∧ n ≤ 1000000000) (hd : 0 < d ∧ d ≤ 1000000000) : Calls Tryz.prog 222 #[.int .i64 n, .int .i64 d] w fun e w' => e = .returned (.int .i64 ((2 * n + d) / (2 * d))) ∧ w = w' := by
  obtain ⟨hn1, hn2⟩ := hn
  obtain ⟨hd1, hd2⟩ := hd
  have h0 : ¬ d < 0 := by omega
  go_enter Tryz.func222, Tryz.ntmps222
  go_wp2_with (go_at_call 207; refine (l01Floor_c _ _ _ (by omega) (by omega)).mono ?_; rintro e w' ⟨rfl, rfl⟩)
  go_ret
  exact ⟨rfl, rfl⟩
set_option maxRecDepth 100000 in
set_option maxHeartbeats 800000 in
theorem l02RoundMul_c (P t : Int) (w : World) (hP : 1000000 ≤ P ∧ P ≤ 99980001) (ht : -1000 ≤ t ∧ t ≤ 1000) : Calls Tryz.prog 192 #[.int .i64 P, .int .i64 1, .int .i64 t] w fun e w' =>
    e = .returned (.agg #[.int .i64 (mulF P t).digits, .int .i64 (mulF P t).tens]) ∧ Below w.heap.size w w' := by
  obtain ⟨hP1, hP2⟩ := hP
  obtain ⟨ht1, ht2⟩ := ht
  have Br := Blk.new w 51 #[.int .i64 0, .int .i64 0]
  have hB : Below w.heap.size w (w.alloc (.cells #[.int .i64 0, .int .i64 0] 51)) := (by repeat (first | with_reducible exact Below.refl _ _ | with_reducible apply below_drewN' | with_reducible apply Below.drew | (with_reducible refine Below.alloc ?_ (by first | omega | (simp; omega) | simp | (have := (Below.refl _ _).size; omega) | (have := (Below.refl _ _).size; simp; omega)) _) | (with_reducible refine Below.setCell ?_ (by first | omega | (simp; omega) | simp | (have := (Below.refl _ _).size; omega) | (have := (Below.refl _ _).size; simp; omega)) _) | exact Below.refl _ _))
  go_enter Tryz.func192, Tryz.ntmps192
  go_wp2_with fail
  generalize w.alloc (.cells #[.int .i64 0, .int .i64 0] 51) = W at *
  have c0 : W.cell? ⟨w.heap.size, 0, none⟩ = some (.int .i64 0) := Br.cell 0
  have c1 : W.cell? ⟨w.heap.size, 1, none⟩ = some (.int .i64 0) := Br.cell 1
  have f0 : W.frozen? ⟨w.heap.size, 0, none⟩ = false := Br.frozen 0
  have f1 : W.frozen? ⟨w.heap.size, 1, none⟩ = false := Br.frozen 1
  go_loop [1, 2] (fun d u => (d = .int .i64 1 ∧ u = .int .i64 (t + 3)) ∨ (d = .int .i64 10 ∧ u = .int .i64 (t + 4)) ∨ (d = .int .i64 100 ∧ u = .int .i64 (t + 5)) ∨ (d = .int .i64 1000 ∧ u = .int .i64 (t + 6)) ∨ (d = .int .i64 10000 ∧ u = .int .i64 (t + 7) ∧ ¬ P < 10000000)) (fun d _ => 10000 - (intOf d).toNat)
  case atStart => exact .inl ⟨rfl, rfl⟩
  case round =>
    rcases hrel with ⟨rfl, rfl⟩ | ⟨rfl, rfl⟩ | ⟨rfl, rfl⟩ | ⟨rfl, rfl⟩ | ⟨rfl, rfl, h7⟩
    · go_wp2
      go_round
      case rel => exact .inr (.inl ⟨rfl, congrArg (Value.int .i64) (by omega)⟩)
      case measure => simp [intOf]
    · go_wp2
      go_round
      case rel => exact .inr (.inr (.inl ⟨rfl, congrArg (Value.int .i64) (by omega)⟩))
      case measure => simp [intOf]
    · go_wp2
      go_round
      case rel => exact .inr (.inr (.inr (.inl ⟨rfl, congrArg (Value.int .i64) (by omega)⟩)))
      case measure => simp [intOf]
    · by_cases h7 : P < 10000000
      · have HF : Hid (mulF P t = finR ((2 * P + 1000) / 2000) (t + 6)) := if_pos h7
        have hN := fun W => l01NearN_c P 1000 W (by omega) (by omega)
        rw [show (2 : Int) * 1000 = 2000 from rfl] at hN
        have hN' := fun W => Lib.hid (hN W)
        clear hN
        have hx : 0 ≤ (2 * P + 1000) / 2000 ∧ (2 * P + 1000) / 2000 ≤ 10000 := by omega
        generalize (2 * P + 1000) / 2000 = x at *
        go_wp2_with fail
        go_loop [0, 2] (fun m u => m = .int .i64 P ∧ u = .int .i64 (t + 6)) (fun _ _ => 0)
        case atStart => exact ⟨rfl, rfl⟩
        case round =>
          obtain ⟨rfl, rfl⟩ := hrel
          by_cases h9 : x = 10000
          · subst h9
            go_wp2_with (go_at_call 222; refine Calls.mono (hN' _).out ?_; rintro e w5 ⟨rfl, rfl⟩)
            refine bodyPost_ret (v := .agg #[.int .i64 1000, .int .i64 (t + 6 + 1)]) (by simp [results, Tryz.results192, go_sem, c0, c1]) rfl ⟨by rw [HF.out]; rfl, (by repeat (first | with_reducible exact hB | with_reducible apply below_drewN' | with_reducible apply Below.drew | (with_reducible refine Below.alloc ?_ (by first | omega | (simp; omega) | simp | (have := (hB).size; omega) | (have := (hB).size; simp; omega)) _) | (with_reducible refine Below.setCell ?_ (by first | omega | (simp; omega) | simp | (have := (hB).size; omega) | (have := (hB).size; simp; omega)) _) | exact hB))⟩
          · go_wp2_with (go_at_call 222; refine Calls.mono (hN' _).out ?_; rintro e w5 ⟨rfl, rfl⟩)
            refine bodyPost_ret (v := .agg #[.int .i64 x, .int .i64 (t + 6)]) (by simp [results, Tryz.results192, go_sem, c0, c1]) rfl ⟨by rw [HF.out]; unfold finR; rw [if_neg h9], (by repeat (first | with_reducible exact hB | with_reducible apply below_drewN' | with_reducible apply Below.drew | (with_reducible refine Below.alloc ?_ (by first | omega | (simp; omega) | simp | (have := (hB).size; omega) | (have := (hB).size; simp; omega)) _) | (with_reducible refine Below.setCell ?_ (by first | omega | (simp; omega) | simp | (have := (hB).size; omega) | (have := (hB).size; simp; omega)) _) | exact hB))⟩
      · go_wp2
        go_round
        case rel => exact .inr (.inr (.inr (.inr ⟨rfl, congrArg (Value.int .i64) (by omega), h7⟩)))
        case measure => simp [intOf]
    · have HF : Hid (mulF P t = finR ((2 * P + 10000) / 20000) (t + 7)) := if_neg h7
      have hN := fun W => l01NearN_c P 10000 W (by omega) (by omega)
      rw [show (2 : Int) * 10000 = 20000 from rfl] at hN
      have hN' := fun W => Lib.hid (hN W)
      clear hN
      have hx : 0 ≤ (2 * P + 10000) / 20000 ∧ (2 * P + 10000) / 20000 ≤ 10000 := by omega
      generalize (2 * P + 10000) / 20000 = x at *
      go_wp2_with fail
      go_loop [0, 2] (fun m u => m = .int .i64 P ∧ u = .int .i64 (t + 7)) (fun _ _ => 0)
      case atStart => exact ⟨rfl, rfl⟩
      case round =>
        obtain ⟨rfl, rfl⟩ := hrel
        by_cases h9 : x = 10000
        · subst h9
          go_wp2_with (go_at_call 222; refine Calls.mono (hN' _).out ?_; rintro e w5 ⟨rfl, rfl⟩)
          refine bodyPost_ret (v := .agg #[.int .i64 1000, .int .i64 (t + 7 + 1)]) (by simp [results, Tryz.results192, go_sem, c0, c1]) rfl ⟨by rw [HF.out]; rfl, (by repeat (first | with_reducible exact hB | with_reducible apply below_drewN' | with_reducible apply Below.drew | (with_reducible refine Below.alloc ?_ (by first | omega | (simp; omega) | simp | (have := (hB).size; omega) | (have := (hB).size; simp; omega)) _) | (with_reducible refine Below.setCell ?_ (by first | omega | (simp; omega) | simp | (have := (hB).size; omega) | (have := (hB).size; simp; omega)) _) | exact hB))⟩
        · go_wp2_with (go_at_call 222; refine Calls.mono (hN' _).out ?_; rintro e w5 ⟨rfl, rfl⟩)
          refine bodyPost_ret (v := .agg #[.int .i64 x, .int .i64 (t + 7)]) (by simp [results, Tryz.results192, go_sem, c0, c1]) rfl ⟨by rw [HF.out]; unfold finR; rw [if_neg h9], (by repeat (first | with_reducible exact hB | with_reducible apply below_drewN' | with_reducible apply Below.drew | (with_reducible refine Below.alloc ?_ (by first | omega | (simp; omega) | simp | (have := (hB).size; omega) | (have := (hB).size; simp; omega)) _) | (with_reducible refine Below.setCell ?_ (by first | omega | (simp; omega) | simp | (have := (hB).size; omega) | (have := (hB).size; simp; omega)) _) | exact hB))⟩
set_option maxRecDepth 100000 in
set_option maxHeartbeats 800000 in
theorem l02RoundDiv_c (n d t : Int) (w : World) (hn : 1000 ≤ n ∧ n ≤ 9999) (hd : 1000 ≤ d ∧ d ≤ 9999) (ht : -1000 ≤ t ∧ t ≤ 1000) : Calls Tryz.prog 192 #[.int .i64 n, .int .i64 d, .int .i64 t] w fun e w' =>
    e = .returned (.agg #[.int .i64 (divF n d t).digits, .int .i64 (divF n d t).tens]) ∧ Below w.heap.size w w' := by
  obtain ⟨hn1, hn2⟩ := hn
  obtain ⟨hd1, hd2⟩ := hd
  obtain ⟨ht1, ht2⟩ := ht
  have Br := Blk.new w 51 #[.int .i64 0, .int .i64 0]
  have hB : Below w.heap.size w (w.alloc (.cells #[.int .i64 0, .int .i64 0] 51)) := (by repeat (first | with_reducible exact Below.refl _ _ | with_reducible apply below_drewN' | with_reducible apply Below.drew | (with_reducible refine Below.alloc ?_ (by first | omega | (simp; omega) | simp | (have := (Below.refl _ _).size; omega) | (have := (Below.refl _ _).size; simp; omega)) _) | (with_reducible refine Below.setCell ?_ (by first | omega | (simp; omega) | simp | (have := (Below.refl _ _).size; omega) | (have := (Below.refl _ _).size; simp; omega)) _) | exact Below.refl _ _))
  go_enter Tryz.func192, Tryz.ntmps192
  go_wp2_with fail
  generalize w.alloc (.cells #[.int .i64 0, .int .i64 0] 51) = W at *
  have c0 : W.cell? ⟨w.heap.size, 0, none⟩ = some (.int .i64 0) := Br.cell 0
  have c1 : W.cell? ⟨w.heap.size, 1, none⟩ = some (.int .i64 0) := Br.cell 1
  have f0 : W.frozen? ⟨w.heap.size, 0, none⟩ = false := Br.frozen 0
  have f1 : W.frozen? ⟨w.heap.size, 1, none⟩ = false := Br.frozen 1
  have hc0 : n < 10000 * d := by omega
  go_loop [1, 2] (fun dd u => dd = .int .i64 d ∧ u = .int .i64 (t + 3)) (fun _ _ => 0)
  case atStart => exact ⟨rfl, rfl⟩
  case round =>
    obtain ⟨rfl, rfl⟩ := hrel
    go_wp2_with fail
    go_loop [0, 2] (fun m u => (m = .int .i64 n ∧ u = .int .i64 (t + 3)) ∨ (m = .int .i64 (n * 10) ∧ u = .int .i64 (t + 2)) ∨ (m = .int .i64 (n * 100) ∧ u = .int .i64 (t + 1)) ∨ (m = .int .i64 (n * 1000) ∧ u = .int .i64 t) ∨ (m = .int .i64 (n * 10000) ∧ u = .int .i64 (t - 1) ∧ ¬ d ≤ n)) (fun m _ => 100000000 - (intOf m).toNat)
    case atStart => exact .inl ⟨rfl, rfl⟩
    case round =>
      rcases hrel with ⟨rfl, rfl⟩ | ⟨rfl, rfl⟩ | ⟨rfl, rfl⟩ | ⟨rfl, rfl⟩ | ⟨rfl, rfl, h7⟩
      · have hc : n < 1000 * d := by omega
        go_wp2
        go_round
        case rel => exact .inr (.inl ⟨congrArg (Value.int .i64) (by omega), congrArg (Value.int .i64) (by omega)⟩)
        case measure => simp [intOf]; omega
      · have hc : n * 10 < 1000 * d := by omega
        go_wp2
        go_round
        case rel => exact .inr (.inr (.inl ⟨congrArg (Value.int .i64) (by omega), congrArg (Value.int .i64) (by omega)⟩))
        case measure => simp [intOf]; omega
      · have hc : n * 100 < 1000 * d := by omega
        go_wp2
        go_round
        case rel => exact .inr (.inr (.inr (.inl ⟨congrArg (Value.int .i64) (by omega), congrArg (Value.int .i64) (by omega)⟩)))
        case measure => simp [intOf]; omega
      · by_cases h7 : d ≤ n
        · have HF : Hid (divF n d t = finR ((2 * (n * 1000) + d) / (2 * d)) t) := if_pos h7
          have hc : ¬ n * 1000 < 1000 * d := by omega
          have hc2 : n * 1000 < 10000 * d := by omega
          have hN := fun W => l01NearN_c (n * 1000) d W (by omega) (by omega)
          have hN' := fun W => Lib.hid (hN W)
          clear hN
          generalize (2 * (n * 1000) + d) / (2 * d) = x at *
          by_cases h9 : x = 10000
          · subst h9
            go_wp2_with (go_at_call 222; refine Calls.mono (hN' _).out ?_; rintro e w5 ⟨rfl, rfl⟩)
            refine bodyPost_ret (v := .agg #[.int .i64 1000, .int .i64 (t + 1)]) (by simp [results, Tryz.results192, go_sem, c0, c1]) rfl ⟨by rw [HF.out]; rfl, (by repeat (first | with_reducible exact hB | with_reducible apply below_drewN' | with_reducible apply Below.drew | (with_reducible refine Below.alloc ?_ (by first | omega | (simp; omega) | simp | (have := (hB).size; omega) | (have := (hB).size; simp; omega)) _) | (with_reducible refine Below.setCell ?_ (by first | omega | (simp; omega) | simp | (have := (hB).size; omega) | (have := (hB).size; simp; omega)) _) | exact hB))⟩
          · go_wp2_with (go_at_call 222; refine Calls.mono (hN' _).out ?_; rintro e w5 ⟨rfl, rfl⟩)
            refine bodyPost_ret (v := .agg #[.int .i64 x, .int .i64 (t)]) (by simp [results, Tryz.results192, go_sem, c0, c1]) rfl ⟨by rw [HF.out]; unfold finR; rw [if_neg h9], (by repeat (first | with_reducible exact hB | with_reducible apply below_drewN' | with_reducible apply Below.drew | (with_reducible refine Below.alloc ?_ (by first | omega | (simp; omega) | simp | (have := (hB).size; omega) | (have := (hB).size; simp; omega)) _) | (with_reducible refine Below.setCell ?_ (by first | omega | (simp; omega) | simp | (have := (hB).size; omega) | (have := (hB).size; simp; omega)) _) | exact hB))⟩
        · have hc : n * 1000 < 1000 * d := by omega
          go_wp2
          go_round
          case rel => exact .inr (.inr (.inr (.inr ⟨congrArg (Value.int .i64) (by omega), rfl, h7⟩)))
          case measure => simp [intOf]; omega
      · have HF : Hid (divF n d t = finR ((2 * (n * 10000) + d) / (2 * d)) (t - 1)) := if_neg h7
        have hc : ¬ n * 10000 < 1000 * d := by omega
        have hc2 : n * 10000 < 10000 * d := by omega
        have hN := fun W => l01NearN_c (n * 10000) d W (by omega) (by omega)
        have hN' := fun W => Lib.hid (hN W)
        clear hN
        generalize (2 * (n * 10000) + d) / (2 * d) = x at *
        by_cases h9 : x = 10000
        · subst h9
          go_wp2_with (go_at_call 222; refine Calls.mono (hN' _).out ?_; rintro e w5 ⟨rfl, rfl⟩)
          refine bodyPost_ret (v := .agg #[.int .i64 1000, .int .i64 (t - 1 + 1)]) (by simp [results, Tryz.results192, go_sem, c0, c1]) rfl ⟨by rw [HF.out]; rfl, (by repeat (first | with_reducible exact hB | with_reducible apply below_drewN' | with_reducible apply Below.drew | (with_reducible refine Below.alloc ?_ (by first | omega | (simp; omega) | simp | (have := (hB).size; omega) | (have := (hB).size; simp; omega)) _) | (with_reducible refine Below.setCell ?_ (by first | omega | (simp; omega) | simp | (have := (hB).size; omega) | (have := (hB).size; simp; omega)) _) | exact hB))⟩
        · go_wp2_with (go_at_call 222; refine Calls.mono (hN' _).out ?_; rintro e w5 ⟨rfl, rfl⟩)
          refine bodyPost_ret (v := .agg #[.int .i64 x, .int .i64 (t - 1)]) (by simp [results, Tryz.results192, go_sem, c0, c1]) rfl ⟨by rw [HF.out]; unfold finR; rw [if_neg h9], (by repeat (first | with_reducible exact hB | with_reducible apply below_drewN' | with_reducible apply Below.drew | (with_reducible refine Below.alloc ?_ (by first | omega | (simp; omega) | simp | (have := (hB).size; omega) | (have := (hB).size; simp; omega)) _) | (with_reducible refine Below.setCell ?_ (by first | omega | (simp; omega) | simp | (have := (hB).size; omega) | (have := (hB).size; simp; omega)) _) | exact hB))⟩
end Go.Proofs.YtednjmldjbndhaaGreat
namespace Go.Proofs.YtednjmldjbndhaaGreat
open Go.RowKit
/-- a figure, or ErrLimit -/
def limR (f : Figure) : Figure × Int := if figOK f = true then (f, 0) else (⟨0, 0⟩, 3)
set_option maxRecDepth 100000 in
theorem limitedG_c (a b : Int) (w : World) : Calls Tryz.prog 194 #[.agg #[.int .i64 a, .int .i64 b]] w fun e w' => e = .returned (.tuple #[.agg #[.int .i64 (limR ⟨a, b⟩).1.digits, .int .i64 (limR ⟨a, b⟩).1.tens], .int .i64 (limR ⟨a, b⟩).2]) ∧ Below w.heap.size w w' := by
  have hI := fun W => implIsFigure_c ⟨a, b⟩ W
  unfold Figure.agg at hI
  have hW : Below w.heap.size w ((w.alloc (.cells #[.int .i64 a, .int .i64 b] 51)).alloc (.cells #[.int .i64 0, .int .i64 0] 51)) := (by repeat (first | with_reducible exact Below.refl _ _ | with_reducible apply below_drewN' | with_reducible apply Below.drew | (with_reducible refine Below.alloc ?_ (by first | omega | (simp; omega) | simp | (have := (Below.refl _ _).size; omega) | (have := (Below.refl _ _).size; simp; omega)) _) | (with_reducible refine Below.setCell ?_ (by first | omega | (simp; omega) | simp | (have := (Below.refl _ _).size; omega) | (have := (Below.refl _ _).size; simp; omega)) _) | exact Below.refl _ _))
  have X0 := (Blk.new w 51 #[.int .i64 a, .int .i64 b]).alloc (.cells #[.int .i64 0, .int .i64 0] 51)
  have R0 := Blk.new' (w.alloc (.cells #[.int .i64 a, .int .i64 b] 51)) 51 #[.int .i64 0, .int .i64 0] (g := w.heap.size + 1) (by simp)
  cases hf : figOK ⟨a, b⟩ with
  | false =>
    have hR : Hid (limR ⟨a, b⟩ = (⟨0, 0⟩, 3)) := if_neg (by rw [hf]; simp)
    simp only [hf] at hI
    have HI := fun W => Lib.hid (hI W)
    clear hI hf
    go_enter Tryz.func194, Tryz.ntmps194
    go_wp2_with fail
    generalize ((w.alloc (.cells #[.int .i64 a, .int .i64 b] 51)).alloc (.cells #[.int .i64 0, .int .i64 0] 51)) = W at *
    refine Calls.mono (HI _).out ?_; rintro e w1 ⟨rfl, hb1⟩
    have R1 := R0.below hb1 R0.lt
    have hW1 := hW.trans (hb1.mono hW.size)
    have c0 : w1.cell? ⟨w.heap.size + 1, 0, none⟩ = some (.int .i64 0) := R1.cell 0
    have c1 : w1.cell? ⟨w.heap.size + 1, 1, none⟩ = some (.int .i64 0) := R1.cell 1
    have f0 : w1.frozen? ⟨w.heap.size + 1, 0, none⟩ = false := R1.frozen 0
    have f1 : w1.frozen? ⟨w.heap.size + 1, 1, none⟩ = false := R1.frozen 1
    have hs := hW1.size
    go_wp2
    refine bodyPost_ret (v := .tuple #[.agg #[.int .i64 0, .int .i64 0], .int .i64 3]) (by simp [results, Tryz.results194, go_sem, c0, c1]) rfl ⟨by rw [hR.out], (by repeat (first | with_reducible exact hW1 | with_reducible apply below_drewN' | with_reducible apply Below.drew | (with_reducible refine Below.alloc ?_ (by first | omega | (simp; omega) | simp | (have := (hW1).size; omega) | (have := (hW1).size; simp; omega)) _) | (with_reducible refine Below.setCell ?_ (by first | omega | (simp; omega) | simp | (have := (hW1).size; omega) | (have := (hW1).size; simp; omega)) _) | exact hW1))⟩
  | true =>
    have hR : Hid (limR ⟨a, b⟩ = (⟨a, b⟩, 0)) := if_pos hf
    simp only [hf] at hI
    have HI := fun W => Lib.hid (hI W)
    clear hI hf
    go_enter Tryz.func194, Tryz.ntmps194
    go_wp2_with fail
    generalize ((w.alloc (.cells #[.int .i64 a, .int .i64 b] 51)).alloc (.cells #[.int .i64 0, .int .i64 0] 51)) = W at *
    refine Calls.mono (HI _).out ?_; rintro e w1 ⟨rfl, hb1⟩
    have X1 := X0.below hb1 X0.lt
    have R1 := R0.below hb1 R0.lt
    have hW1 := hW.trans (hb1.mono hW.size)
    have x0 : w1.cell? ⟨w.heap.size, 0, none⟩ = some (.int .i64 a) := X1.cell 0
    have x1 : w1.cell? ⟨w.heap.size, 1, none⟩ = some (.int .i64 b) := X1.cell 1
    have c0 : w1.cell? ⟨w.heap.size + 1, 0, none⟩ = some (.int .i64 0) := R1.cell 0
    have c1 : w1.cell? ⟨w.heap.size + 1, 1, none⟩ = some (.int .i64 0) := R1.cell 1
    have f0 : w1.frozen? ⟨w.heap.size + 1, 0, none⟩ = false := R1.frozen 0
    have f1 : w1.frozen? ⟨w.heap.size + 1, 1, none⟩ = false := R1.frozen 1
    have hs := hW1.size
    go_wp2
    refine bodyPost_ret (v := .tuple #[.agg #[.int .i64 a, .int .i64 b], .int .i64 0]) (by simp [results, Tryz.results194, go_sem, c0, c1]) rfl ⟨by rw [hR.out], (by repeat (first | with_reducible exact hW1 | with_reducible apply below_drewN' | with_reducible apply Below.drew | (with_reducible refine Below.alloc ?_ (by first | omega | (simp; omega) | simp | (have := (hW1).size; omega) | (have := (hW1).size; simp; omega)) _) | (with_reducible refine Below.setCell ?_ (by first | omega | (simp; omega) | simp | (have := (hW1).size; omega) | (have := (hW1).size; simp; omega)) _) | exact hW1))⟩
set_option maxRecDepth 100000 in
theorem l02Result_c (a b : Int) (w : World) : Calls Tryz.prog 191 #[.agg #[.int .i64 a, .int .i64 b]] w fun e w' => e = .returned (.tuple #[.agg #[.int .i64 (limR ⟨a, b⟩).1.digits, .int .i64 (limR ⟨a, b⟩).1.tens], .int .i64 (limR ⟨a, b⟩).2]) ∧ Below w.heap.size w w' := by
  have hI := fun W => specIsFigure_c ⟨a, b⟩ W
  unfold Figure.agg at hI
  have hW : Below w.heap.size w ((w.alloc (.cells #[.int .i64 a, .int .i64 b] 51)).alloc (.cells #[.int .i64 0, .int .i64 0] 51)) := (by repeat (first | with_reducible exact Below.refl _ _ | with_reducible apply below_drewN' | with_reducible apply Below.drew | (with_reducible refine Below.alloc ?_ (by first | omega | (simp; omega) | simp | (have := (Below.refl _ _).size; omega) | (have := (Below.refl _ _).size; simp; omega)) _) | (with_reducible refine Below.setCell ?_ (by first | omega | (simp; omega) | simp | (have := (Below.refl _ _).size; omega) | (have := (Below.refl _ _).size; simp; omega)) _) | exact Below.refl _ _))
  have X0 := (Blk.new w 51 #[.int .i64 a, .int .i64 b]).alloc (.cells #[.int .i64 0, .int .i64 0] 51)
  have R0 := Blk.new' (w.alloc (.cells #[.int .i64 a, .int .i64 b] 51)) 51 #[.int .i64 0, .int .i64 0] (g := w.heap.size + 1) (by simp)
  cases hf : figOK ⟨a, b⟩ with
  | false =>
    have hR : Hid (limR ⟨a, b⟩ = (⟨0, 0⟩, 3)) := if_neg (by rw [hf]; simp)
    simp only [hf] at hI
    have HI := fun W => Lib.hid (hI W)
    clear hI hf
    go_enter Tryz.func191, Tryz.ntmps191
    go_wp2_with fail
    generalize ((w.alloc (.cells #[.int .i64 a, .int .i64 b] 51)).alloc (.cells #[.int .i64 0, .int .i64 0] 51)) = W at *
    refine Calls.mono (HI _).out ?_; rintro e w1 ⟨rfl, hb1⟩
    have R1 := R0.below hb1 R0.lt
    have hW1 := hW.trans (hb1.mono hW.size)
    have c0 : w1.cell? ⟨w.heap.size + 1, 0, none⟩ = some (.int .i64 0) := R1.cell 0
    have c1 : w1.cell? ⟨w.heap.size + 1, 1, none⟩ = some (.int .i64 0) := R1.cell 1
    have f0 : w1.frozen? ⟨w.heap.size + 1, 0, none⟩ = false := R1.frozen 0
    have f1 : w1.frozen? ⟨w.heap.size + 1, 1, none⟩ = false := R1.frozen 1
    have hs := hW1.size
    go_wp2
    refine bodyPost_ret (v := .tuple #[.agg #[.int .i64 0, .int .i64 0], .int .i64 3]) (by simp [results, Tryz.results191, go_sem, c0, c1]) rfl ⟨by rw [hR.out], (by repeat (first | with_reducible exact hW1 | with_reducible apply below_drewN' | with_reducible apply Below.drew | (with_reducible refine Below.alloc ?_ (by first | omega | (simp; omega) | simp | (have := (hW1).size; omega) | (have := (hW1).size; simp; omega)) _) | (with_reducible refine Below.setCell ?_ (by first | omega | (simp; omega) | simp | (have := (hW1).size; omega) | (have := (hW1).size; simp; omega)) _) | exact hW1))⟩
  | true =>
    have hR : Hid (limR ⟨a, b⟩ = (⟨a, b⟩, 0)) := if_pos hf
    simp only [hf] at hI
    have HI := fun W => Lib.hid (hI W)
    clear hI hf
    go_enter Tryz.func191, Tryz.ntmps191
    go_wp2_with fail
    generalize ((w.alloc (.cells #[.int .i64 a, .int .i64 b] 51)).alloc (.cells #[.int .i64 0, .int .i64 0] 51)) = W at *
    refine Calls.mono (HI _).out ?_; rintro e w1 ⟨rfl, hb1⟩
    have X1 := X0.below hb1 X0.lt
    have R1 := R0.below hb1 R0.lt
    have hW1 := hW.trans (hb1.mono hW.size)
    have x0 : w1.cell? ⟨w.heap.size, 0, none⟩ = some (.int .i64 a) := X1.cell 0
    have x1 : w1.cell? ⟨w.heap.size, 1, none⟩ = some (.int .i64 b) := X1.cell 1
    have c0 : w1.cell? ⟨w.heap.size + 1, 0, none⟩ = some (.int .i64 0) := R1.cell 0
    have c1 : w1.cell? ⟨w.heap.size + 1, 1, none⟩ = some (.int .i64 0) := R1.cell 1
    have f0 : w1.frozen? ⟨w.heap.size + 1, 0, none⟩ = false := R1.frozen 0
    have f1 : w1.frozen? ⟨w.heap.size + 1, 1, none⟩ = false := R1.frozen 1
    have hs := hW1.size
    go_wp2
    refine bodyPost_ret (v := .tuple #[.agg #[.int .i64 a, .int .i64 b], .int .i64 0]) (by simp [results, Tryz.results191, go_sem, c0, c1]) rfl ⟨by rw [hR.out], (by repeat (first | with_reducible exact hW1 | with_reducible apply below_drewN' | with_reducible apply Below.drew | (with_reducible refine Below.alloc ?_ (by first | omega | (simp; omega) | simp | (have := (hW1).size; omega) | (have := (hW1).size; simp; omega)) _) | (with_reducible refine Below.setCell ?_ (by first | omega | (simp; omega) | simp | (have := (hW1).size; omega) | (have := (hW1).size; simp; omega)) _) | exact hW1))⟩
end Go.Proofs.YtednjmldjbndhaaGreat
