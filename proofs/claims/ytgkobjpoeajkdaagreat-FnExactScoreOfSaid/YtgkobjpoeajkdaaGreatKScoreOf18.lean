/- Rounding fractions to figures: the program's and the reference's. Conditions: the digits' bounds. Rounding fractions to figures: the reference's. Conditions: the digits' bounds. Products and quotients of figures: the program's and the reference's. Conditions: both figures are valid. Products and quotients of valid figures: the program's and the reference's. Conditions: both figures are valid. Comparing figures: the program's and the reference's. Conditions: for the reference's, the digits have at most four places. -/
import Derived.BigQuiet
import Derived.Test.YtgkobjpoeajkdaaGreatKScoreOf5
import Derived.Test.YtgkobjpoeajkdaaGreatKScoreOf16
namespace Go.Proofs.YtgkobjpoeajkdaaGreat
open Go.RowKit
/-- a quotient's digits and tens, 10000 taken back to 1000 -/
def finR (x T : Int) : Figure := if x = 10000 then ⟨1000, T + 1⟩ else ⟨x, T⟩
def mulF (P t : Int) : Figure := if P < 10000000 then finR ((2 * P + 1000) / 2000) (t + 6) else finR ((2 * P + 10000) / 20000) (t + 7)
set_option maxRecDepth 100000 in
theorem nearN_c (n d : Int) (w : World) (hn : 0 ≤ n ∧ n ≤ 1000000000) (hd : 0 < d ∧ d ≤ 1000000000) : Calls Tryz.prog 254 #[.int .i64 n, .int .i64 d] w fun e w' => e = .returned (.int .i64 ((2 * n + d) / (2 * d))) ∧ w = w' := by
  obtain ⟨hn1, hn2⟩ := hn
  obtain ⟨hd1, hd2⟩ := hd
  have h0 : ¬ d < 0 := by omega
  go_enter Tryz.func254, Tryz.ntmps254
  go_wp2_with (go_at_call 171; refine (down_c _ _ _ (by omega) (by omega)).mono ?_; rintro e w' ⟨rfl, rfl⟩)
  go_ret
  exact ⟨rfl, rfl⟩
set_option maxRecDepth 100000 in
set_option maxHeartbeats 800000 in
theorem roundedMul_c (P t : Int) (w : World) (hP : 1000000 ≤ P ∧ P ≤ 99980001) (ht : -1000 ≤ t ∧ t ≤ 1000) : Calls Tryz.prog 236 #[.int .i64 P, .int .i64 1, .int .i64 t] w fun e w' =>
    e = .returned (.agg #[.int .i64 (mulF P t).digits, .int .i64 (mulF P t).tens]) ∧ Below w.heap.size w w' := by
  obtain ⟨hP1, hP2⟩ := hP
  obtain ⟨ht1, ht2⟩ := ht
  have Br := Blk.new w 65 #[.int .i64 0, .int .i64 0]
  have hB : Below w.heap.size w (w.alloc (.cells #[.int .i64 0, .int .i64 0] 65)) := (by repeat (first | with_reducible exact Below.refl _ _ | with_reducible apply below_drewN' | with_reducible apply Below.drew | (with_reducible refine Below.alloc ?_ (by first | omega | (simp; omega) | simp) _) | (with_reducible refine Below.setCell ?_ (by first | omega | (simp; omega) | simp) _) | exact Below.refl _ _))
  go_enter Tryz.func236, Tryz.ntmps236
  go_wp2_with fail
  generalize w.alloc (.cells #[.int .i64 0, .int .i64 0] 65) = W at *
  have c0 : W.cell? ⟨w.heap.size, 0, none⟩ = some (.int .i64 0) := Br.cell 0
  have c1 : W.cell? ⟨w.heap.size, 1, none⟩ = some (.int .i64 0) := Br.cell 1
  have f0 : W.frozen? ⟨w.heap.size, 0, none⟩ = false := Br.frozen 0
  have f1 : W.frozen? ⟨w.heap.size, 1, none⟩ = false := Br.frozen 1
  go_loop [0, 2] (fun n u => n = .int .i64 P ∧ u = .int .i64 (t + 3)) (fun _ _ => 0)
  case atStart => exact ⟨rfl, rfl⟩
  case round =>
    obtain ⟨rfl, rfl⟩ := hrel
    go_wp2_with fail
    go_loop [1, 2] (fun d u => (d = .int .i64 1 ∧ u = .int .i64 (t + 3)) ∨ (d = .int .i64 10 ∧ u = .int .i64 (t + 4)) ∨ (d = .int .i64 100 ∧ u = .int .i64 (t + 5)) ∨ (d = .int .i64 1000 ∧ u = .int .i64 (t + 6)) ∨ (d = .int .i64 10000 ∧ u = .int .i64 (t + 7) ∧ ¬ P < 10000000)) (fun d _ => 10000 - (intOf d).toNat)
    case atStart => exact .inl ⟨rfl, rfl⟩
    case round =>
      rcases hrel with ⟨rfl, rfl⟩ | ⟨rfl, rfl⟩ | ⟨rfl, rfl⟩ | ⟨rfl, rfl⟩ | ⟨rfl, rfl, h7⟩
      · go_wp2
        go_round
        case rel => exact .inr (.inl ⟨rfl, congrArg (Value.int .i64) (by omega)⟩)
        case measure => simp [intOf]
      · go_wp2
        go_round
        case rel => exact .inr (.inr (.inl ⟨rfl, congrArg (Value.int .i64) (by omega)⟩))
        case measure => simp [intOf]
      · go_wp2
        go_round
        case rel => exact .inr (.inr (.inr (.inl ⟨rfl, congrArg (Value.int .i64) (by omega)⟩)))
        case measure => simp [intOf]
      · by_cases h7 : P < 10000000
        · have HF : Hid (mulF P t = finR ((2 * P + 1000) / 2000) (t + 6)) := if_pos h7
          have hN := fun W => nearN_c P 1000 W (by omega) (by omega)
          rw [show (2 : Int) * 1000 = 2000 from rfl] at hN
          have hN' := fun W => Lib.hid (hN W)
          clear hN
          have hx : 0 ≤ (2 * P + 1000) / 2000 ∧ (2 * P + 1000) / 2000 ≤ 10000 := by omega
          generalize (2 * P + 1000) / 2000 = x at *
          by_cases h9 : x = 10000
          · subst h9
            go_wp2_with (go_at_call 254; refine Calls.mono (hN' _).out ?_; rintro e w5 ⟨rfl, rfl⟩)
            refine bodyPost_ret (v := .agg #[.int .i64 1000, .int .i64 (t + 6 + 1)]) (by simp [results, Tryz.results236, go_sem, c0, c1]) rfl ⟨by rw [HF.out]; rfl, (by repeat (first | with_reducible exact hB | with_reducible apply below_drewN' | with_reducible apply Below.drew | (with_reducible refine Below.alloc ?_ (by first | omega | (simp; omega) | simp) _) | (with_reducible refine Below.setCell ?_ (by first | omega | (simp; omega) | simp) _) | exact hB))⟩
          · go_wp2_with (go_at_call 254; refine Calls.mono (hN' _).out ?_; rintro e w5 ⟨rfl, rfl⟩)
            refine bodyPost_ret (v := .agg #[.int .i64 x, .int .i64 (t + 6)]) (by simp [results, Tryz.results236, go_sem, c0, c1]) rfl ⟨by rw [HF.out]; unfold finR; rw [if_neg h9], (by repeat (first | with_reducible exact hB | with_reducible apply below_drewN' | with_reducible apply Below.drew | (with_reducible refine Below.alloc ?_ (by first | omega | (simp; omega) | simp) _) | (with_reducible refine Below.setCell ?_ (by first | omega | (simp; omega) | simp) _) | exact hB))⟩
        · go_wp2
          go_round
          case rel => exact .inr (.inr (.inr (.inr ⟨rfl, congrArg (Value.int .i64) (by omega), h7⟩)))
          case measure => simp [intOf]
      · have HF : Hid (mulF P t = finR ((2 * P + 10000) / 20000) (t + 7)) := if_neg h7
        have hN := fun W => nearN_c P 10000 W (by omega) (by omega)
        rw [show (2 : Int) * 10000 = 20000 from rfl] at hN
        have hN' := fun W => Lib.hid (hN W)
        clear hN
        have hx : 0 ≤ (2 * P + 10000) / 20000 ∧ (2 * P + 10000) / 20000 ≤ 10000 := by omega
        generalize (2 * P + 10000) / 20000 = x at *
        by_cases h9 : x = 10000
        · subst h9
          go_wp2_with (go_at_call 254; refine Calls.mono (hN' _).out ?_; rintro e w5 ⟨rfl, rfl⟩)
          refine bodyPost_ret (v := .agg #[.int .i64 1000, .int .i64 (t + 7 + 1)]) (by simp [results, Tryz.results236, go_sem, c0, c1]) rfl ⟨by rw [HF.out]; rfl, (by repeat (first | with_reducible exact hB | with_reducible apply below_drewN' | with_reducible apply Below.drew | (with_reducible refine Below.alloc ?_ (by first | omega | (simp; omega) | simp) _) | (with_reducible refine Below.setCell ?_ (by first | omega | (simp; omega) | simp) _) | exact hB))⟩
        · go_wp2_with (go_at_call 254; refine Calls.mono (hN' _).out ?_; rintro e w5 ⟨rfl, rfl⟩)
          refine bodyPost_ret (v := .agg #[.int .i64 x, .int .i64 (t + 7)]) (by simp [results, Tryz.results236, go_sem, c0, c1]) rfl ⟨by rw [HF.out]; unfold finR; rw [if_neg h9], (by repeat (first | with_reducible exact hB | with_reducible apply below_drewN' | with_reducible apply Below.drew | (with_reducible refine Below.alloc ?_ (by first | omega | (simp; omega) | simp) _) | (with_reducible refine Below.setCell ?_ (by first | omega | (simp; omega) | simp) _) | exact hB))⟩
def divF (n d t : Int) : Figure := if d ≤ n then finR ((2 * (n * 1000) + d) / (2 * d)) t else finR ((2 * (n * 10000) + d) / (2 * d)) (t - 1)
set_option maxRecDepth 100000 in
set_option maxHeartbeats 800000 in
theorem roundedDiv_c (n d t : Int) (w : World) (hn : 1000 ≤ n ∧ n ≤ 9999) (hd : 1000 ≤ d ∧ d ≤ 9999) (ht : -1000 ≤ t ∧ t ≤ 1000) : Calls Tryz.prog 236 #[.int .i64 n, .int .i64 d, .int .i64 t] w fun e w' =>
    e = .returned (.agg #[.int .i64 (divF n d t).digits, .int .i64 (divF n d t).tens]) ∧ Below w.heap.size w w' := by
  obtain ⟨hn1, hn2⟩ := hn
  obtain ⟨hd1, hd2⟩ := hd
  obtain ⟨ht1, ht2⟩ := ht
  have Br := Blk.new w 65 #[.int .i64 0, .int .i64 0]
  have hB : Below w.heap.size w (w.alloc (.cells #[.int .i64 0, .int .i64 0] 65)) := (by repeat (first | with_reducible exact Below.refl _ _ | with_reducible apply below_drewN' | with_reducible apply Below.drew | (with_reducible refine Below.alloc ?_ (by first | omega | (simp; omega) | simp) _) | (with_reducible refine Below.setCell ?_ (by first | omega | (simp; omega) | simp) _) | exact Below.refl _ _))
  go_enter Tryz.func236, Tryz.ntmps236
  go_wp2_with fail
  generalize w.alloc (.cells #[.int .i64 0, .int .i64 0] 65) = W at *
  have c0 : W.cell? ⟨w.heap.size, 0, none⟩ = some (.int .i64 0) := Br.cell 0
  have c1 : W.cell? ⟨w.heap.size, 1, none⟩ = some (.int .i64 0) := Br.cell 1
  have f0 : W.frozen? ⟨w.heap.size, 0, none⟩ = false := Br.frozen 0
  have f1 : W.frozen? ⟨w.heap.size, 1, none⟩ = false := Br.frozen 1
  go_loop [0, 2] (fun m u => (m = .int .i64 n ∧ u = .int .i64 (t + 3)) ∨ (m = .int .i64 (n * 10) ∧ u = .int .i64 (t + 2)) ∨ (m = .int .i64 (n * 100) ∧ u = .int .i64 (t + 1)) ∨ (m = .int .i64 (n * 1000) ∧ u = .int .i64 t) ∨ (m = .int .i64 (n * 10000) ∧ u = .int .i64 (t - 1) ∧ ¬ d ≤ n)) (fun m _ => 100000000 - (intOf m).toNat)
  case atStart => exact .inl ⟨rfl, rfl⟩
  case round =>
    rcases hrel with ⟨rfl, rfl⟩ | ⟨rfl, rfl⟩ | ⟨rfl, rfl⟩ | ⟨rfl, rfl⟩ | ⟨rfl, rfl, h7⟩
    · have hc : n < 1000 * d := by omega
      go_wp2
      go_round
      case rel => exact .inr (.inl ⟨rfl, congrArg (Value.int .i64) (by omega)⟩)
      case measure => simp [intOf]; omega
    · have hc : n * 10 < 1000 * d := by omega
      go_wp2
      go_round
      case rel => exact .inr (.inr (.inl ⟨congrArg (Value.int .i64) (by omega), congrArg (Value.int .i64) (by omega)⟩))
      case measure => simp [intOf]; omega
    · have hc : n * 100 < 1000 * d := by omega
      go_wp2
      go_round
      case rel => exact .inr (.inr (.inr (.inl ⟨congrArg (Value.int .i64) (by omega), congrArg (Value.int .i64) (by omega)⟩)))
      case measure => simp [intOf]; omega
    · by_cases h7 : d ≤ n
      · have HF : Hid (divF n d t = finR ((2 * (n * 1000) + d) / (2 * d)) t) := if_pos h7
        have hc : ¬ n * 1000 < 1000 * d := by omega
        have hc2 : n * 1000 < 10000 * d := by omega
        go_wp2_with fail
        go_loop [1, 2] (fun dd u => dd = .int .i64 d ∧ u = .int .i64 (t)) (fun _ _ => 0)
        case atStart => exact ⟨rfl, rfl⟩
        case round =>
          obtain ⟨rfl, rfl⟩ := hrel
          have hN := fun W => nearN_c (n * 1000) d W (by omega) (by omega)
          have hN' := fun W => Lib.hid (hN W)
          clear hN
          generalize (2 * (n * 1000) + d) / (2 * d) = x at *
          by_cases h9 : x = 10000
          · subst h9
            go_wp2_with (go_at_call 254; refine Calls.mono (hN' _).out ?_; rintro e w5 ⟨rfl, rfl⟩)
            refine bodyPost_ret (v := .agg #[.int .i64 1000, .int .i64 (t + 1)]) (by simp [results, Tryz.results236, go_sem, c0, c1]) rfl ⟨by rw [HF.out]; rfl, (by repeat (first | with_reducible exact hB | with_reducible apply below_drewN' | with_reducible apply Below.drew | (with_reducible refine Below.alloc ?_ (by first | omega | (simp; omega) | simp) _) | (with_reducible refine Below.setCell ?_ (by first | omega | (simp; omega) | simp) _) | exact hB))⟩
          · go_wp2_with (go_at_call 254; refine Calls.mono (hN' _).out ?_; rintro e w5 ⟨rfl, rfl⟩)
            refine bodyPost_ret (v := .agg #[.int .i64 x, .int .i64 (t)]) (by simp [results, Tryz.results236, go_sem, c0, c1]) rfl ⟨by rw [HF.out]; unfold finR; rw [if_neg h9], (by repeat (first | with_reducible exact hB | with_reducible apply below_drewN' | with_reducible apply Below.drew | (with_reducible refine Below.alloc ?_ (by first | omega | (simp; omega) | simp) _) | (with_reducible refine Below.setCell ?_ (by first | omega | (simp; omega) | simp) _) | exact hB))⟩
      · have hc : n * 1000 < 1000 * d := by omega
        go_wp2
        go_round
        case rel => exact .inr (.inr (.inr (.inr ⟨congrArg (Value.int .i64) (by omega), rfl, h7⟩)))
        case measure => simp [intOf]; omega
    · have HF : Hid (divF n d t = finR ((2 * (n * 10000) + d) / (2 * d)) (t - 1)) := if_neg h7
      have hc : ¬ n * 10000 < 1000 * d := by omega
      have hc2 : n * 10000 < 10000 * d := by omega
      go_wp2_with fail
      go_loop [1, 2] (fun dd u => dd = .int .i64 d ∧ u = .int .i64 (t - 1)) (fun _ _ => 0)
      case atStart => exact ⟨rfl, rfl⟩
      case round =>
        obtain ⟨rfl, rfl⟩ := hrel
        have hN := fun W => nearN_c (n * 10000) d W (by omega) (by omega)
        have hN' := fun W => Lib.hid (hN W)
        clear hN
        generalize (2 * (n * 10000) + d) / (2 * d) = x at *
        by_cases h9 : x = 10000
        · subst h9
          go_wp2_with (go_at_call 254; refine Calls.mono (hN' _).out ?_; rintro e w5 ⟨rfl, rfl⟩)
          refine bodyPost_ret (v := .agg #[.int .i64 1000, .int .i64 (t - 1 + 1)]) (by simp [results, Tryz.results236, go_sem, c0, c1]) rfl ⟨by rw [HF.out]; rfl, (by repeat (first | with_reducible exact hB | with_reducible apply below_drewN' | with_reducible apply Below.drew | (with_reducible refine Below.alloc ?_ (by first | omega | (simp; omega) | simp) _) | (with_reducible refine Below.setCell ?_ (by first | omega | (simp; omega) | simp) _) | exact hB))⟩
        · go_wp2_with (go_at_call 254; refine Calls.mono (hN' _).out ?_; rintro e w5 ⟨rfl, rfl⟩)
          refine bodyPost_ret (v := .agg #[.int .i64 x, .int .i64 (t - 1)]) (by simp [results, Tryz.results236, go_sem, c0, c1]) rfl ⟨by rw [HF.out]; unfold finR; rw [if_neg h9], (by repeat (first | with_reducible exact hB | with_reducible apply below_drewN' | with_reducible apply Below.drew | (with_reducible refine Below.alloc ?_ (by first | omega | (simp; omega) | simp) _) | (with_reducible refine Below.setCell ?_ (by first | omega | (simp; omega) | simp) _) | exact hB))⟩
end Go.Proofs.YtgkobjpoeajkdaaGreat
namespace Go.Proofs.YtgkobjpoeajkdaaGreat
open Go.RowKit
set_option maxRecDepth 100000 in
theorem l01NearN_c (n d : Int) (w : World) (hn : 0 ≤ n ∧ n ≤ 1000000000) (hd : 0 < d ∧ d ≤ 1000000000) : Calls Tryz.prog 253 #[.int .i64 n, .int .i64 d] w fun e w' => e = .returned (.int .i64 ((2 * n + d) / (2 * d))) ∧ w = w' := by
  obtain ⟨hn1, hn2⟩ := hn
  obtain ⟨hd1, hd2⟩ := hd
  have h0 : ¬ d < 0 := by omega
  go_enter Tryz.func253, Tryz.ntmps253
  go_wp2_with (go_at_call 226; refine (l01Floor_c _ _ _ (by omega) (by omega)).mono ?_; rintro e w' ⟨rfl, rfl⟩)
  go_ret
  exact ⟨rfl, rfl⟩
set_option maxRecDepth 100000 in
set_option maxHeartbeats 800000 in
theorem l02RoundMul_c (P t : Int) (w : World) (hP : 1000000 ≤ P ∧ P ≤ 99980001) (ht : -1000 ≤ t ∧ t ≤ 1000) : Calls Tryz.prog 233 #[.int .i64 P, .int .i64 1, .int .i64 t] w fun e w' =>
    e = .returned (.agg #[.int .i64 (mulF P t).digits, .int .i64 (mulF P t).tens]) ∧ Below w.heap.size w w' := by
  obtain ⟨hP1, hP2⟩ := hP
  obtain ⟨ht1, ht2⟩ := ht
  have Br := Blk.new w 65 #[.int .i64 0, .int .i64 0]
  have hB : Below w.heap.size w (w.alloc (.cells #[.int .i64 0, .int .i64 0] 65)) := (by repeat (first | with_reducible exact Below.refl _ _ | with_reducible apply below_drewN' | with_reducible apply Below.drew | (with_reducible refine Below.alloc ?_ (by first | omega | (simp; omega) | simp) _) | (with_reducible refine Below.setCell ?_ (by first | omega | (simp; omega) | simp) _) | exact Below.refl _ _))
  go_enter Tryz.func233, Tryz.ntmps233
  go_wp2_with fail
  generalize w.alloc (.cells #[.int .i64 0, .int .i64 0] 65) = W at *
  have c0 : W.cell? ⟨w.heap.size, 0, none⟩ = some (.int .i64 0) := Br.cell 0
  have c1 : W.cell? ⟨w.heap.size, 1, none⟩ = some (.int .i64 0) := Br.cell 1
  have f0 : W.frozen? ⟨w.heap.size, 0, none⟩ = false := Br.frozen 0
  have f1 : W.frozen? ⟨w.heap.size, 1, none⟩ = false := Br.frozen 1
  go_loop [1, 2] (fun d u => (d = .int .i64 1 ∧ u = .int .i64 (t + 3)) ∨ (d = .int .i64 10 ∧ u = .int .i64 (t + 4)) ∨ (d = .int .i64 100 ∧ u = .int .i64 (t + 5)) ∨ (d = .int .i64 1000 ∧ u = .int .i64 (t + 6)) ∨ (d = .int .i64 10000 ∧ u = .int .i64 (t + 7) ∧ ¬ P < 10000000)) (fun d _ => 10000 - (intOf d).toNat)
  case atStart => exact .inl ⟨rfl, rfl⟩
  case round =>
    rcases hrel with ⟨rfl, rfl⟩ | ⟨rfl, rfl⟩ | ⟨rfl, rfl⟩ | ⟨rfl, rfl⟩ | ⟨rfl, rfl, h7⟩
    · go_wp2
      go_round
      case rel => exact .inr (.inl ⟨rfl, congrArg (Value.int .i64) (by omega)⟩)
      case measure => simp [intOf]
    · go_wp2
      go_round
      case rel => exact .inr (.inr (.inl ⟨rfl, congrArg (Value.int .i64) (by omega)⟩))
      case measure => simp [intOf]
    · go_wp2
      go_round
      case rel => exact .inr (.inr (.inr (.inl ⟨rfl, congrArg (Value.int .i64) (by omega)⟩)))
      case measure => simp [intOf]
    · by_cases h7 : P < 10000000
      · have HF : Hid (mulF P t = finR ((2 * P + 1000) / 2000) (t + 6)) := if_pos h7
        have hN := fun W => l01NearN_c P 1000 W (by omega) (by omega)
        rw [show (2 : Int) * 1000 = 2000 from rfl] at hN
        have hN' := fun W => Lib.hid (hN W)
        clear hN
        have hx : 0 ≤ (2 * P + 1000) / 2000 ∧ (2 * P + 1000) / 2000 ≤ 10000 := by omega
        generalize (2 * P + 1000) / 2000 = x at *
        go_wp2_with fail
        go_loop [0, 2] (fun m u => m = .int .i64 P ∧ u = .int .i64 (t + 6)) (fun _ _ => 0)
        case atStart => exact ⟨rfl, rfl⟩
        case round =>
          obtain ⟨rfl, rfl⟩ := hrel
          by_cases h9 : x = 10000
          · subst h9
            go_wp2_with (go_at_call 253; refine Calls.mono (hN' _).out ?_; rintro e w5 ⟨rfl, rfl⟩)
            refine bodyPost_ret (v := .agg #[.int .i64 1000, .int .i64 (t + 6 + 1)]) (by simp [results, Tryz.results233, go_sem, c0, c1]) rfl ⟨by rw [HF.out]; rfl, (by repeat (first | with_reducible exact hB | with_reducible apply below_drewN' | with_reducible apply Below.drew | (with_reducible refine Below.alloc ?_ (by first | omega | (simp; omega) | simp) _) | (with_reducible refine Below.setCell ?_ (by first | omega | (simp; omega) | simp) _) | exact hB))⟩
          · go_wp2_with (go_at_call 253; refine Calls.mono (hN' _).out ?_; rintro e w5 ⟨rfl, rfl⟩)
            refine bodyPost_ret (v := .agg #[.int .i64 x, .int .i64 (t + 6)]) (by simp [results, Tryz.results233, go_sem, c0, c1]) rfl ⟨by rw [HF.out]; unfold finR; rw [if_neg h9], (by repeat (first | with_reducible exact hB | with_reducible apply below_drewN' | with_reducible apply Below.drew | (with_reducible refine Below.alloc ?_ (by first | omega | (simp; omega) | simp) _) | (with_reducible refine Below.setCell ?_ (by first | omega | (simp; omega) | simp) _) | exact hB))⟩
      · go_wp2
        go_round
        case rel => exact .inr (.inr (.inr (.inr ⟨rfl, congrArg (Value.int .i64) (by omega), h7⟩)))
        case measure => simp [intOf]
    · have HF : Hid (mulF P t = finR ((2 * P + 10000) / 20000) (t + 7)) := if_neg h7
      have hN := fun W => l01NearN_c P 10000 W (by omega) (by omega)
      rw [show (2 : Int) * 10000 = 20000 from rfl] at hN
      have hN' := fun W => Lib.hid (hN W)
      clear hN
      have hx : 0 ≤ (2 * P + 10000) / 20000 ∧ (2 * P + 10000) / 20000 ≤ 10000 := by omega
      generalize (2 * P + 10000) / 20000 = x at *
      go_wp2_with fail
      go_loop [0, 2] (fun m u => m = .int .i64 P ∧ u = .int .i64 (t + 7)) (fun _ _ => 0)
      case atStart => exact ⟨rfl, rfl⟩
      case round =>
        obtain ⟨rfl, rfl⟩ := hrel
        by_cases h9 : x = 10000
        · subst h9
          go_wp2_with (go_at_call 253; refine Calls.mono (hN' _).out ?_; rintro e w5 ⟨rfl, rfl⟩)
          refine bodyPost_ret (v := .agg #[.int .i64 1000, .int .i64 (t + 7 + 1)]) (by simp [results, Tryz.results233, go_sem, c0, c1]) rfl ⟨by rw [HF.out]; rfl, (by repeat (first | with_reducible exact hB | with_reducible apply below_drewN' | with_reducible apply Below.drew | (with_reducible refine Below.alloc ?_ (by first | omega | (simp; omega) | simp) _) | (with_reducible refine Below.setCell ?_ (by first | omega | (simp; omega) | simp) _) | exact hB))⟩
        · go_wp2_with (go_at_call 253; refine Calls.mono (hN' _).out ?_; rintro e w5 ⟨rfl, rfl⟩)
          refine bodyPost_ret (v := .agg #[.int .i64 x, .int .i64 (t + 7)]) (by simp [results, Tryz.results233, go_sem, c0, c1]) rfl ⟨by rw [HF.out]; unfold finR; rw [if_neg h9], (by repeat (first | with_reducible exact hB | with_reducible apply below_drewN' | with_reducible apply Below.drew | (with_reducible refine Below.alloc ?_ (by first | omega | (simp; omega) | simp) _) | (with_reducible refine Below.setCell ?_ (by first | omega | (simp; omega) | simp) _) | exact hB))⟩
set_option maxRecDepth 100000 in
set_option maxHeartbeats 800000 in
theorem l02RoundDiv_c (n d t : Int) (w : World) (hn : 1000 ≤ n ∧ n ≤ 9999) (hd : 1000 ≤ d ∧ d ≤ 9999) (ht : -1000 ≤ t ∧ t ≤ 1000) : Calls Tryz.prog 233 #[.int .i64 n, .int .i64 d, .int .i64 t] w fun e w' =>
    e = .returned (.agg #[.int .i64 (divF n d t).digits, .int .i64 (divF n d t).tens]) ∧ Below w.heap.size w w' := by
  obtain ⟨hn1, hn2⟩ := hn
  obtain ⟨hd1, hd2⟩ := hd
  obtain ⟨ht1, ht2⟩ := ht
  have Br := Blk.new w 65 #[.int .i64 0, .int .i64 0]
  have hB : Below w.heap.size w (w.alloc (.cells #[.int .i64 0, .int .i64 0] 65)) := (by repeat (first | with_reducible exact Below.refl _ _ | with_reducible apply below_drewN' | with_reducible apply Below.drew | (with_reducible refine Below.alloc ?_ (by first | omega | (simp; omega) | simp) _) | (with_reducible refine Below.setCell ?_ (by first | omega | (simp; omega) | simp) _) | exact Below.refl _ _))
  go_enter Tryz.func233, Tryz.ntmps233
  go_wp2_with fail
  generalize w.alloc (.cells #[.int .i64 0, .int .i64 0] 65) = W at *
  have c0 : W.cell? ⟨w.heap.size, 0, none⟩ = some (.int .i64 0) := Br.cell 0
  have c1 : W.cell? ⟨w.heap.size, 1, none⟩ = some (.int .i64 0) := Br.cell 1
  have f0 : W.frozen? ⟨w.heap.size, 0, none⟩ = false := Br.frozen 0
  have f1 : W.frozen? ⟨w.heap.size, 1, none⟩ = false := Br.frozen 1
  have hc0 : n < 10000 * d := by omega
  go_loop [1, 2] (fun dd u => dd = .int .i64 d ∧ u = .int .i64 (t + 3)) (fun _ _ => 0)
  case atStart => exact ⟨rfl, rfl⟩
  case round =>
    obtain ⟨rfl, rfl⟩ := hrel
    go_wp2_with fail
    go_loop [0, 2] (fun m u => (m = .int .i64 n ∧ u = .int .i64 (t + 3)) ∨ (m = .int .i64 (n * 10) ∧ u = .int .i64 (t + 2)) ∨ (m = .int .i64 (n * 100) ∧ u = .int .i64 (t + 1)) ∨ (m = .int .i64 (n * 1000) ∧ u = .int .i64 t) ∨ (m = .int .i64 (n * 10000) ∧ u = .int .i64 (t - 1) ∧ ¬ d ≤ n)) (fun m _ => 100000000 - (intOf m).toNat)
    case atStart => exact .inl ⟨rfl, rfl⟩
    case round =>
      rcases hrel with ⟨rfl, rfl⟩ | ⟨rfl, rfl⟩ | ⟨rfl, rfl⟩ | ⟨rfl, rfl⟩ | ⟨rfl, rfl, h7⟩
      · have hc : n < 1000 * d := by omega
        go_wp2
        go_round
        case rel => exact .inr (.inl ⟨congrArg (Value.int .i64) (by omega), congrArg (Value.int .i64) (by omega)⟩)
        case measure => simp [intOf]; omega
      · have hc : n * 10 < 1000 * d := by omega
        go_wp2
        go_round
        case rel => exact .inr (.inr (.inl ⟨congrArg (Value.int .i64) (by omega), congrArg (Value.int .i64) (by omega)⟩))
        case measure => simp [intOf]; omega
      · have hc : n * 100 < 1000 * d := by omega
        go_wp2
        go_round
        case rel => exact .inr (.inr (.inr (.inl ⟨congrArg (Value.int .i64) (by omega), congrArg (Value.int .i64) (by omega)⟩)))
        case measure => simp [intOf]; omega
      · by_cases h7 : d ≤ n
        · have HF : Hid (divF n d t = finR ((2 * (n * 1000) + d) / (2 * d)) t) := if_pos h7
          have hc : ¬ n * 1000 < 1000 * d := by omega
          have hc2 : n * 1000 < 10000 * d := by omega
          have hN := fun W => l01NearN_c (n * 1000) d W (by omega) (by omega)
          have hN' := fun W => Lib.hid (hN W)
          clear hN
          generalize (2 * (n * 1000) + d) / (2 * d) = x at *
          by_cases h9 : x = 10000
          · subst h9
            go_wp2_with (go_at_call 253; refine Calls.mono (hN' _).out ?_; rintro e w5 ⟨rfl, rfl⟩)
            refine bodyPost_ret (v := .agg #[.int .i64 1000, .int .i64 (t + 1)]) (by simp [results, Tryz.results233, go_sem, c0, c1]) rfl ⟨by rw [HF.out]; rfl, (by repeat (first | with_reducible exact hB | with_reducible apply below_drewN' | with_reducible apply Below.drew | (with_reducible refine Below.alloc ?_ (by first | omega | (simp; omega) | simp) _) | (with_reducible refine Below.setCell ?_ (by first | omega | (simp; omega) | simp) _) | exact hB))⟩
          · go_wp2_with (go_at_call 253; refine Calls.mono (hN' _).out ?_; rintro e w5 ⟨rfl, rfl⟩)
            refine bodyPost_ret (v := .agg #[.int .i64 x, .int .i64 (t)]) (by simp [results, Tryz.results233, go_sem, c0, c1]) rfl ⟨by rw [HF.out]; unfold finR; rw [if_neg h9], (by repeat (first | with_reducible exact hB | with_reducible apply below_drewN' | with_reducible apply Below.drew | (with_reducible refine Below.alloc ?_ (by first | omega | (simp; omega) | simp) _) | (with_reducible refine Below.setCell ?_ (by first | omega | (simp; omega) | simp) _) | exact hB))⟩
        · have hc : n * 1000 < 1000 * d := by omega
          go_wp2
          go_round
          case rel => exact .inr (.inr (.inr (.inr ⟨congrArg (Value.int .i64) (by omega), rfl, h7⟩)))
          case measure => simp [intOf]; omega
      · have HF : Hid (divF n d t = finR ((2 * (n * 10000) + d) / (2 * d)) (t - 1)) := if_neg h7
        have hc : ¬ n * 10000 < 1000 * d := by omega
        have hc2 : n * 10000 < 10000 * d := by omega
        have hN := fun W => l01NearN_c (n * 10000) d W (by omega) (by omega)
        have hN' := fun W => Lib.hid (hN W)
        clear hN
        generalize (2 * (n * 10000) + d) / (2 * d) = x at *
        by_cases h9 : x = 10000
        · subst h9
          go_wp2_with (go_at_call 253; refine Calls.mono (hN' _).out ?_; rintro e w5 ⟨rfl, rfl⟩)
          refine bodyPost_ret (v := .agg #[.int .i64 1000, .int .i64 (t - 1 + 1)]) (by simp [results, Tryz.results233, go_sem, c0, c1]) rfl ⟨by rw [HF.out]; rfl, (by repeat (first | with_reducible exact hB | with_reducible apply below_drewN' | with_reducible apply Below.drew | (with_reducible refine Below.alloc ?_ (by first | omega | (simp; omega) | simp) _) | (with_reducible refine Below.setCell ?_ (by first | omega | (simp; omega) | simp) _) | exact hB))⟩
        · go_wp2_with (go_at_call 253; refine Calls.mono (hN' _).out ?_; rintro e w5 ⟨rfl, rfl⟩)
          refine bodyPost_ret (v := .agg #[.int .i64 x, .int .i64 (t - 1)]) (by simp [results, Tryz.results233, go_sem, c0, c1]) rfl ⟨by rw [HF.out]; unfold finR; rw [if_neg h9], (by repeat (first | with_reducible exact hB | with_reducible apply below_drewN' | with_reducible apply Below.drew | (with_reducible refine Below.alloc ?_ (by first | omega | (simp; omega) | simp) _) | (with_reducible refine Below.setCell ?_ (by first | omega | (simp; omega) | simp) _) | exact hB))⟩
end Go.Proofs.YtgkobjpoeajkdaaGreat
namespace Go.Proofs.YtgkobjpoeajkdaaGreat
open Go.RowKit
/-- a figure, or ErrLimit -/
def limR (f : Figure) : Figure × Int := if figOK f = true then (f, 0) else (⟨0, 0⟩, 3)
set_option maxRecDepth 100000 in
theorem limitedG_c (a b : Int) (w : World) : Calls Tryz.prog 235 #[.agg #[.int .i64 a, .int .i64 b]] w fun e w' => e = .returned (.tuple #[.agg #[.int .i64 (limR ⟨a, b⟩).1.digits, .int .i64 (limR ⟨a, b⟩).1.tens], .int .i64 (limR ⟨a, b⟩).2]) ∧ Below w.heap.size w w' := by
  have hI := fun W => implIsFigure_c ⟨a, b⟩ W
  unfold Figure.agg at hI
  have hW : Below w.heap.size w ((w.alloc (.cells #[.int .i64 a, .int .i64 b] 65)).alloc (.cells #[.int .i64 0, .int .i64 0] 65)) := (by repeat (first | with_reducible exact Below.refl _ _ | with_reducible apply below_drewN' | with_reducible apply Below.drew | (with_reducible refine Below.alloc ?_ (by first | omega | (simp; omega) | simp) _) | (with_reducible refine Below.setCell ?_ (by first | omega | (simp; omega) | simp) _) | exact Below.refl _ _))
  have X0 := (Blk.new w 65 #[.int .i64 a, .int .i64 b]).alloc (.cells #[.int .i64 0, .int .i64 0] 65)
  have R0 := Blk.new' (w.alloc (.cells #[.int .i64 a, .int .i64 b] 65)) 65 #[.int .i64 0, .int .i64 0] (g := w.heap.size + 1) (by simp)
  cases hf : figOK ⟨a, b⟩ with
  | false =>
    have hR : Hid (limR ⟨a, b⟩ = (⟨0, 0⟩, 3)) := if_neg (by rw [hf]; simp)
    simp only [hf] at hI
    have HI := fun W => Lib.hid (hI W)
    clear hI hf
    go_enter Tryz.func235, Tryz.ntmps235
    go_wp2_with fail
    generalize ((w.alloc (.cells #[.int .i64 a, .int .i64 b] 65)).alloc (.cells #[.int .i64 0, .int .i64 0] 65)) = W at *
    refine Calls.mono (HI _).out ?_; rintro e w1 ⟨rfl, hb1⟩
    have R1 := R0.below hb1 R0.lt
    have hW1 := hW.trans (hb1.mono hW.size)
    have c0 : w1.cell? ⟨w.heap.size + 1, 0, none⟩ = some (.int .i64 0) := R1.cell 0
    have c1 : w1.cell? ⟨w.heap.size + 1, 1, none⟩ = some (.int .i64 0) := R1.cell 1
    have f0 : w1.frozen? ⟨w.heap.size + 1, 0, none⟩ = false := R1.frozen 0
    have f1 : w1.frozen? ⟨w.heap.size + 1, 1, none⟩ = false := R1.frozen 1
    have hs := hW1.size
    go_wp2
    refine bodyPost_ret (v := .tuple #[.agg #[.int .i64 0, .int .i64 0], .int .i64 3]) (by simp [results, Tryz.results235, go_sem, c0, c1]) rfl ⟨by rw [hR.out], (by repeat (first | with_reducible exact hW1 | with_reducible apply below_drewN' | with_reducible apply Below.drew | (with_reducible refine Below.alloc ?_ (by first | omega | (simp; omega) | simp) _) | (with_reducible refine Below.setCell ?_ (by first | omega | (simp; omega) | simp) _) | exact hW1))⟩
  | true =>
    have hR : Hid (limR ⟨a, b⟩ = (⟨a, b⟩, 0)) := if_pos hf
    simp only [hf] at hI
    have HI := fun W => Lib.hid (hI W)
    clear hI hf
    go_enter Tryz.func235, Tryz.ntmps235
    go_wp2_with fail
    generalize ((w.alloc (.cells #[.int .i64 a, .int .i64 b] 65)).alloc (.cells #[.int .i64 0, .int .i64 0] 65)) = W at *
    refine Calls.mono (HI _).out ?_; rintro e w1 ⟨rfl, hb1⟩
    have X1 := X0.below hb1 X0.lt
    have R1 := R0.below hb1 R0.lt
    have hW1 := hW.trans (hb1.mono hW.size)
    have x0 : w1.cell? ⟨w.heap.size, 0, none⟩ = some (.int .i64 a) := X1.cell 0
    have x1 : w1.cell? ⟨w.heap.size, 1, none⟩ = some (.int .i64 b) := X1.cell 1
    have c0 : w1.cell? ⟨w.heap.size + 1, 0, none⟩ = some (.int .i64 0) := R1.cell 0
    have c1 : w1.cell? ⟨w.heap.size + 1, 1, none⟩ = some (.int .i64 0) := R1.cell 1
    have f0 : w1.frozen? ⟨w.heap.size + 1, 0, none⟩ = false := R1.frozen 0
    have f1 : w1.frozen? ⟨w.heap.size + 1, 1, none⟩ = false := R1.frozen 1
    have hs := hW1.size
    go_wp2
    refine bodyPost_ret (v := .tuple #[.agg #[.int .i64 a, .int .i64 b], .int .i64 0]) (by simp [results, Tryz.results235, go_sem, c0, c1]) rfl ⟨by rw [hR.out], (by repeat (first | with_reducible exact hW1 | with_reducible apply below_drewN' | with_reducible apply Below.drew | (with_reducible refine Below.alloc ?_ (by first | omega | (simp; omega) | simp) _) | (with_reducible refine Below.setCell ?_ (by first | omega | (simp; omega) | simp) _) | exact hW1))⟩
set_option maxRecDepth 100000 in
theorem l02Result_c (a b : Int) (w : World) : Calls Tryz.prog 232 #[.agg #[.int .i64 a, .int .i64 b]] w fun e w' => e = .returned (.tuple #[.agg #[.int .i64 (limR ⟨a, b⟩).1.digits, .int .i64 (limR ⟨a, b⟩).1.tens], .int .i64 (limR ⟨a, b⟩).2]) ∧ Below w.heap.size w w' := by
  have hI := fun W => specIsFigure_c ⟨a, b⟩ W
  unfold Figure.agg at hI
  have hW : Below w.heap.size w ((w.alloc (.cells #[.int .i64 a, .int .i64 b] 65)).alloc (.cells #[.int .i64 0, .int .i64 0] 65)) := (by repeat (first | with_reducible exact Below.refl _ _ | with_reducible apply below_drewN' | with_reducible apply Below.drew | (with_reducible refine Below.alloc ?_ (by first | omega | (simp; omega) | simp) _) | (with_reducible refine Below.setCell ?_ (by first | omega | (simp; omega) | simp) _) | exact Below.refl _ _))
  have X0 := (Blk.new w 65 #[.int .i64 a, .int .i64 b]).alloc (.cells #[.int .i64 0, .int .i64 0] 65)
  have R0 := Blk.new' (w.alloc (.cells #[.int .i64 a, .int .i64 b] 65)) 65 #[.int .i64 0, .int .i64 0] (g := w.heap.size + 1) (by simp)
  cases hf : figOK ⟨a, b⟩ with
  | false =>
    have hR : Hid (limR ⟨a, b⟩ = (⟨0, 0⟩, 3)) := if_neg (by rw [hf]; simp)
    simp only [hf] at hI
    have HI := fun W => Lib.hid (hI W)
    clear hI hf
    go_enter Tryz.func232, Tryz.ntmps232
    go_wp2_with fail
    generalize ((w.alloc (.cells #[.int .i64 a, .int .i64 b] 65)).alloc (.cells #[.int .i64 0, .int .i64 0] 65)) = W at *
    refine Calls.mono (HI _).out ?_; rintro e w1 ⟨rfl, hb1⟩
    have R1 := R0.below hb1 R0.lt
    have hW1 := hW.trans (hb1.mono hW.size)
    have c0 : w1.cell? ⟨w.heap.size + 1, 0, none⟩ = some (.int .i64 0) := R1.cell 0
    have c1 : w1.cell? ⟨w.heap.size + 1, 1, none⟩ = some (.int .i64 0) := R1.cell 1
    have f0 : w1.frozen? ⟨w.heap.size + 1, 0, none⟩ = false := R1.frozen 0
    have f1 : w1.frozen? ⟨w.heap.size + 1, 1, none⟩ = false := R1.frozen 1
    have hs := hW1.size
    go_wp2
    refine bodyPost_ret (v := .tuple #[.agg #[.int .i64 0, .int .i64 0], .int .i64 3]) (by simp [results, Tryz.results232, go_sem, c0, c1]) rfl ⟨by rw [hR.out], (by repeat (first | with_reducible exact hW1 | with_reducible apply below_drewN' | with_reducible apply Below.drew | (with_reducible refine Below.alloc ?_ (by first | omega | (simp; omega) | simp) _) | (with_reducible refine Below.setCell ?_ (by first | omega | (simp; omega) | simp) _) | exact hW1))⟩
  | true =>
    have hR : Hid (limR ⟨a, b⟩ = (⟨a, b⟩, 0)) := if_pos hf
    simp only [hf] at hI
    have HI := fun W => Lib.hid (hI W)
    clear hI hf
    go_enter Tryz.func232, Tryz.ntmps232
    go_wp2_with fail
    generalize ((w.alloc (.cells #[.int .i64 a, .int .i64 b] 65)).alloc (.cells #[.int .i64 0, .int .i64 0] 65)) = W at *
    refine Calls.mono (HI _).out ?_; rintro e w1 ⟨rfl, hb1⟩
    have X1 := X0.below hb1 X0.lt
    have R1 := R0.below hb1 R0.lt
    have hW1 := hW.trans (hb1.mono hW.size)
    have x0 : w1.cell? ⟨w.heap.size, 0, none⟩ = some (.int .i64 a) := X1.cell 0
    have x1 : w1.cell? ⟨w.heap.size, 1, none⟩ = some (.int .i64 b) := X1.cell 1
    have c0 : w1.cell? ⟨w.heap.size + 1, 0, none⟩ = some (.int .i64 0) := R1.cell 0
    have c1 : w1.cell? ⟨w.heap.size + 1, 1, none⟩ = some (.int .i64 0) := R1.cell 1
    have f0 : w1.frozen? ⟨w.heap.size + 1, 0, none⟩ = false := R1.frozen 0
    have f1 : w1.frozen? ⟨w.heap.size + 1, 1, none⟩ = false := R1.frozen 1
    have hs := hW1.size
    go_wp2
    refine bodyPost_ret (v := .tuple #[.agg #[.int .i64 a, .int .i64 b], .int .i64 0]) (by simp [results, Tryz.results232, go_sem, c0, c1]) rfl ⟨by rw [hR.out], (by repeat (first | with_reducible exact hW1 | with_reducible apply below_drewN' | with_reducible apply Below.drew | (with_reducible refine Below.alloc ?_ (by first | omega | (simp; omega) | simp) _) | (with_reducible refine Below.setCell ?_ (by first | omega | (simp; omega) | simp) _) | exact hW1))⟩
end Go.Proofs.YtgkobjpoeajkdaaGreat
namespace Go.Proofs.YtgkobjpoeajkdaaGreat
open Go.RowKit
def mulQ (a b : Figure) : Figure × Int := limR (mulF (a.digits * b.digits) (a.tens + b.tens - 6))
def divQ (a b : Figure) : Figure × Int := limR (divF a.digits b.digits (a.tens - b.tens))
theorem figOK_bd {f : Figure} (h : figOK f = true) : (1000 ≤ f.digits ∧ f.digits ≤ 9999) ∧ -30 ≤ f.tens ∧ f.tens ≤ 30 := by
  unfold figOK at h
  rwa [Bool.and_eq_true, inB_true, inB_true] at h
theorem limR_ok {f : Figure} (h : (limR f).2 = 0) : figOK (limR f).1 = true := by
  unfold limR at *
  split at h
  · rename_i hf
    rw [if_pos hf]
    exact hf
  · cases h
theorem prodF_bd {a b : Int} (h : 1000 ≤ a ∧ a ≤ 9999) (h' : 1000 ≤ b ∧ b ≤ 9999) : 1000000 ≤ a * b ∧ a * b ≤ 99980001 :=
  by
  have h1 : 1000 * 1000 ≤ a * b := Int.mul_le_mul h.1 h'.1 (by omega) (by omega)
  have h2 : a * b ≤ 9999 * 9999 := Int.mul_le_mul h.2 h'.2 (by omega) (by omega)
  omega
theorem two_figs {w : World} {g : Nat} {t : TypeId} {d n d' n' : Int} (h : Blk w g t #[.int .i64 d, .int .i64 n, .int .i64 d', .int .i64 n']) (hg : g < w.heap.size) : Sl w w.heap.size 2 (some ⟨g, 0, none⟩) ([(⟨d, n⟩ : Figure), ⟨d', n'⟩].map Figure.cells) :=
  (Sl.of_blk h _ rfl (by simp [Figure.cells])).more hg
theorem l02TwoG_c (a b : Figure) (w : World) (ha : figOK a = true) (hb : figOK b = true) : Calls Tryz.prog 231 #[a.agg, b.agg] w fun e w' => e = .returned (.bool true) ∧ Below w.heap.size w w' := by
  have HI : ∀ d n, figOK ⟨d, n⟩ = true → ∀ W, Hid (Calls Tryz.prog 134 #[.agg #[.int .i64 d, .int .i64 n]] W fun e w' => e = .returned (.bool true) ∧ Below W.heap.size W w') := by
    intro d n h W
    rw [← h]
    exact specIsFigure_c ⟨d, n⟩ W
  obtain ⟨d, n⟩ := a
  obtain ⟨d', n'⟩ := b
  have HA := HI d n ha
  have HB := HI d' n' hb
  clear HI ha hb
  unfold Figure.agg
  simp only
  have hW : Below w.heap.size w ((w.alloc (.cells #[.int .i64 d, .int .i64 n] 65)).alloc (.cells #[.int .i64 d', .int .i64 n'] 65)) := (by repeat (first | with_reducible exact Below.refl _ _ | with_reducible apply below_drewN' | with_reducible apply Below.drew | (with_reducible refine Below.alloc ?_ (by first | omega | (simp; omega) | simp) _) | (with_reducible refine Below.setCell ?_ (by first | omega | (simp; omega) | simp) _) | exact Below.refl _ _))
  have Y0 := Blk.new' (w.alloc (.cells #[.int .i64 d, .int .i64 n] 65)) 65 #[.int .i64 d', .int .i64 n'] (g := w.heap.size + 1) (by simp)
  go_enter Tryz.func231, Tryz.ntmps231
  go_wp2_with fail
  generalize ((w.alloc (.cells #[.int .i64 d, .int .i64 n] 65)).alloc (.cells #[.int .i64 d', .int .i64 n'] 65)) = W at *
  refine Calls.mono (HA _).out ?_; rintro e w1 ⟨rfl, hb1⟩
  have Y1 := Y0.below hb1 Y0.lt
  have hW1 := hW.trans (hb1.mono hW.size)
  have y0 : w1.cell? ⟨w.heap.size + 1, 0, none⟩ = some (.int .i64 d') := Y1.cell 0
  have y1 : w1.cell? ⟨w.heap.size + 1, 1, none⟩ = some (.int .i64 n') := Y1.cell 1
  go_wp2_with fail
  refine Calls.mono (HB _).out ?_; rintro e w2 ⟨rfl, hb2⟩
  have hW2 := hW1.trans (hb2.mono hW1.size)
  go_wp2
  go_ret
  exact ⟨rfl, (by repeat (first | with_reducible exact hW2 | with_reducible apply below_drewN' | with_reducible apply Below.drew | (with_reducible refine Below.alloc ?_ (by first | omega | (simp; omega) | simp) _) | (with_reducible refine Below.setCell ?_ (by first | omega | (simp; omega) | simp) _) | exact hW2))⟩
set_option maxRecDepth 100000 in
set_option maxHeartbeats 800000 in
theorem implMulF_c (a b : Figure) (w : World) (ha : figOK a = true) (hb : figOK b = true) : Calls Tryz.prog 194 #[a.agg, b.agg] w fun e w' => e = .returned (.tuple #[(mulQ a b).1.agg, .int .i64 (mulQ a b).2]) ∧ Below w.heap.size w w' := by
  have hC := fun (W : World) (g : Nat) hB => areFigures_c (some ⟨g, 0, none⟩) 2 [a, b] W (by simp) (two_figs (d := a.digits) (n := a.tens) (d' := b.digits) (n' := b.tens) (g := g) (t := 65) hB hB.lt)
  rw [show [a, b].all figOK = true by simp [ha, hb]] at hC
  have HC := fun W g hB => Lib.hid (hC W g hB)
  clear hC
  obtain ⟨⟨a1, a2⟩, a3, a4⟩ := figOK_bd ha
  obtain ⟨⟨b1, b2⟩, b3, b4⟩ := figOK_bd hb
  clear ha hb
  obtain ⟨d, t⟩ := a
  obtain ⟨d', t'⟩ := b
  unfold mulQ Figure.agg
  simp only at *
  obtain ⟨p1, p2⟩ := prodF_bd ⟨a1, a2⟩ ⟨b1, b2⟩
  have hR := fun W => roundedMul_c (d * d') (t + t' - 6) W ⟨p1, p2⟩ (by omega)
  generalize mulF (d * d') (t + t' - 6) = F at *
  generalize hP : d * d' = P at *
  obtain ⟨x, y⟩ := F
  have hL := fun W => limitedG_c x y W
  generalize limR ⟨x, y⟩ = G at *
  obtain ⟨⟨gx, gy⟩, gc⟩ := G
  simp only at hR hL ⊢
  have HR := fun W => Lib.hid (hR W)
  have HL := fun W => Lib.hid (hL W)
  clear hR hL
  have hW : Below w.heap.size w ((((w.alloc (.cells #[.int .i64 d, .int .i64 t] 65)).alloc (.cells #[.int .i64 d', .int .i64 t'] 65)).alloc (.cells #[.int .i64 0, .int .i64 0] 65)).alloc (.cells #[.int .i64 d, .int .i64 t, .int .i64 d', .int .i64 t'] 65)) := (by repeat (first | with_reducible exact Below.refl _ _ | with_reducible apply below_drewN' | with_reducible apply Below.drew | (with_reducible refine Below.alloc ?_ (by first | omega | (simp; omega) | simp) _) | (with_reducible refine Below.setCell ?_ (by first | omega | (simp; omega) | simp) _) | exact Below.refl _ _))
  have X0 := (((Blk.new w 65 #[.int .i64 d, .int .i64 t]).alloc (.cells #[.int .i64 d', .int .i64 t'] 65)).alloc (.cells #[.int .i64 0, .int .i64 0] 65)).alloc (.cells #[.int .i64 d, .int .i64 t, .int .i64 d', .int .i64 t'] 65)
  have Y0 := ((Blk.new' (w.alloc (.cells #[.int .i64 d, .int .i64 t] 65)) 65 #[.int .i64 d', .int .i64 t'] (g := w.heap.size + 1) (by simp)).alloc (.cells #[.int .i64 0, .int .i64 0] 65)).alloc (.cells #[.int .i64 d, .int .i64 t, .int .i64 d', .int .i64 t'] 65)
  have R0 := (Blk.new' ((w.alloc (.cells #[.int .i64 d, .int .i64 t] 65)).alloc (.cells #[.int .i64 d', .int .i64 t'] 65)) 65 #[.int .i64 0, .int .i64 0] (g := w.heap.size + 1 + 1) (by simp)).alloc (.cells #[.int .i64 d, .int .i64 t, .int .i64 d', .int .i64 t'] 65)
  have V0 := Blk.new' (((w.alloc (.cells #[.int .i64 d, .int .i64 t] 65)).alloc (.cells #[.int .i64 d', .int .i64 t'] 65)).alloc (.cells #[.int .i64 0, .int .i64 0] 65)) 65 #[.int .i64 d, .int .i64 t, .int .i64 d', .int .i64 t'] (g := w.heap.size + 1 + 1 + 1) (by simp)
  go_enter Tryz.func194, Tryz.ntmps194
  go_wp2_with fail
  generalize ((((w.alloc (.cells #[.int .i64 d, .int .i64 t] 65)).alloc (.cells #[.int .i64 d', .int .i64 t'] 65)).alloc (.cells #[.int .i64 0, .int .i64 0] 65)).alloc (.cells #[.int .i64 d, .int .i64 t, .int .i64 d', .int .i64 t'] 65)) = W at *
  refine Calls.mono (HC W _ V0).out ?_; rintro e w1 ⟨rfl, hb1⟩
  clear V0 HC
  have X1 := X0.below hb1 X0.lt
  have Y1 := Y0.below hb1 Y0.lt
  have R1 := R0.below hb1 R0.lt
  have hW1 := hW.trans (hb1.mono hW.size)
  clear X0 Y0 R0 hW hb1
  have x0 : w1.cell? ⟨w.heap.size, 0, none⟩ = some (.int .i64 d) := X1.cell 0
  have x1 : w1.cell? ⟨w.heap.size, 1, none⟩ = some (.int .i64 t) := X1.cell 1
  have y0 : w1.cell? ⟨w.heap.size + 1, 0, none⟩ = some (.int .i64 d') := Y1.cell 0
  have y1 : w1.cell? ⟨w.heap.size + 1, 1, none⟩ = some (.int .i64 t') := Y1.cell 1
  go_wp2_with fail
  refine Calls.mono (HR _).out ?_; rintro e w2 ⟨rfl, hb2⟩
  have R2 := R1.below hb2 R1.lt
  have hW2 := hW1.trans (hb2.mono hW1.size)
  clear x0 x1 y0 y1 X1 Y1 R1 hW1 hb2
  go_wp2_with fail
  refine Calls.mono (HL _).out ?_; rintro e w3 ⟨rfl, hb3⟩
  have R3 := R2.below hb3 R2.lt
  have hW3 := hW2.trans (hb3.mono hW2.size)
  have c0 : w3.cell? ⟨w.heap.size + 1 + 1, 0, none⟩ = some (.int .i64 0) := R3.cell 0
  have c1 : w3.cell? ⟨w.heap.size + 1 + 1, 1, none⟩ = some (.int .i64 0) := R3.cell 1
  have f0 : w3.frozen? ⟨w.heap.size + 1 + 1, 0, none⟩ = false := R3.frozen 0
  have f1 : w3.frozen? ⟨w.heap.size + 1 + 1, 1, none⟩ = false := R3.frozen 1
  have hs := hW3.size
  clear R2 hW2 hb3
  go_wp2
  refine bodyPost_ret (v := .tuple #[.agg #[.int .i64 gx, .int .i64 gy], .int .i64 gc]) (by simp [results, Tryz.results194, go_sem, c0, c1]) rfl ⟨rfl, (by repeat (first | with_reducible exact hW3 | with_reducible apply below_drewN' | with_reducible apply Below.drew | (with_reducible refine Below.alloc ?_ (by first | omega | (simp; omega) | simp) _) | (with_reducible refine Below.setCell ?_ (by first | omega | (simp; omega) | simp) _) | exact hW3))⟩
set_option maxRecDepth 100000 in
set_option maxHeartbeats 800000 in
theorem implDivF_c (a b : Figure) (w : World) (ha : figOK a = true) (hb : figOK b = true) : Calls Tryz.prog 193 #[a.agg, b.agg] w fun e w' => e = .returned (.tuple #[(divQ a b).1.agg, .int .i64 (divQ a b).2]) ∧ Below w.heap.size w w' := by
  have hC := fun (W : World) (g : Nat) hB => areFigures_c (some ⟨g, 0, none⟩) 2 [a, b] W (by simp) (two_figs (d := a.digits) (n := a.tens) (d' := b.digits) (n' := b.tens) (g := g) (t := 65) hB hB.lt)
  rw [show [a, b].all figOK = true by simp [ha, hb]] at hC
  have HC := fun W g hB => Lib.hid (hC W g hB)
  clear hC
  obtain ⟨⟨a1, a2⟩, a3, a4⟩ := figOK_bd ha
  obtain ⟨⟨b1, b2⟩, b3, b4⟩ := figOK_bd hb
  clear ha hb
  obtain ⟨d, t⟩ := a
  obtain ⟨d', t'⟩ := b
  unfold divQ Figure.agg
  simp only at *
  have hR := fun W => roundedDiv_c d d' (t - t') W ⟨a1, a2⟩ ⟨b1, b2⟩ (by omega)
  generalize divF d d' (t - t') = F at *
  obtain ⟨x, y⟩ := F
  have hL := fun W => limitedG_c x y W
  generalize limR ⟨x, y⟩ = G at *
  obtain ⟨⟨gx, gy⟩, gc⟩ := G
  simp only at hR hL ⊢
  have HR := fun W => Lib.hid (hR W)
  have HL := fun W => Lib.hid (hL W)
  clear hR hL
  have hW : Below w.heap.size w ((((w.alloc (.cells #[.int .i64 d, .int .i64 t] 65)).alloc (.cells #[.int .i64 d', .int .i64 t'] 65)).alloc (.cells #[.int .i64 0, .int .i64 0] 65)).alloc (.cells #[.int .i64 d, .int .i64 t, .int .i64 d', .int .i64 t'] 65)) := (by repeat (first | with_reducible exact Below.refl _ _ | with_reducible apply below_drewN' | with_reducible apply Below.drew | (with_reducible refine Below.alloc ?_ (by first | omega | (simp; omega) | simp) _) | (with_reducible refine Below.setCell ?_ (by first | omega | (simp; omega) | simp) _) | exact Below.refl _ _))
  have X0 := (((Blk.new w 65 #[.int .i64 d, .int .i64 t]).alloc (.cells #[.int .i64 d', .int .i64 t'] 65)).alloc (.cells #[.int .i64 0, .int .i64 0] 65)).alloc (.cells #[.int .i64 d, .int .i64 t, .int .i64 d', .int .i64 t'] 65)
  have Y0 := ((Blk.new' (w.alloc (.cells #[.int .i64 d, .int .i64 t] 65)) 65 #[.int .i64 d', .int .i64 t'] (g := w.heap.size + 1) (by simp)).alloc (.cells #[.int .i64 0, .int .i64 0] 65)).alloc (.cells #[.int .i64 d, .int .i64 t, .int .i64 d', .int .i64 t'] 65)
  have R0 := (Blk.new' ((w.alloc (.cells #[.int .i64 d, .int .i64 t] 65)).alloc (.cells #[.int .i64 d', .int .i64 t'] 65)) 65 #[.int .i64 0, .int .i64 0] (g := w.heap.size + 1 + 1) (by simp)).alloc (.cells #[.int .i64 d, .int .i64 t, .int .i64 d', .int .i64 t'] 65)
  have V0 := Blk.new' (((w.alloc (.cells #[.int .i64 d, .int .i64 t] 65)).alloc (.cells #[.int .i64 d', .int .i64 t'] 65)).alloc (.cells #[.int .i64 0, .int .i64 0] 65)) 65 #[.int .i64 d, .int .i64 t, .int .i64 d', .int .i64 t'] (g := w.heap.size + 1 + 1 + 1) (by simp)
  go_enter Tryz.func193, Tryz.ntmps193
  go_wp2_with fail
  generalize ((((w.alloc (.cells #[.int .i64 d, .int .i64 t] 65)).alloc (.cells #[.int .i64 d', .int .i64 t'] 65)).alloc (.cells #[.int .i64 0, .int .i64 0] 65)).alloc (.cells #[.int .i64 d, .int .i64 t, .int .i64 d', .int .i64 t'] 65)) = W at *
  refine Calls.mono (HC W _ V0).out ?_; rintro e w1 ⟨rfl, hb1⟩
  clear V0 HC
  have X1 := X0.below hb1 X0.lt
  have Y1 := Y0.below hb1 Y0.lt
  have R1 := R0.below hb1 R0.lt
  have hW1 := hW.trans (hb1.mono hW.size)
  clear X0 Y0 R0 hW hb1
  have x0 : w1.cell? ⟨w.heap.size, 0, none⟩ = some (.int .i64 d) := X1.cell 0
  have x1 : w1.cell? ⟨w.heap.size, 1, none⟩ = some (.int .i64 t) := X1.cell 1
  have y0 : w1.cell? ⟨w.heap.size + 1, 0, none⟩ = some (.int .i64 d') := Y1.cell 0
  have y1 : w1.cell? ⟨w.heap.size + 1, 1, none⟩ = some (.int .i64 t') := Y1.cell 1
  go_wp2_with fail
  refine Calls.mono (HR _).out ?_; rintro e w2 ⟨rfl, hb2⟩
  have R2 := R1.below hb2 R1.lt
  have hW2 := hW1.trans (hb2.mono hW1.size)
  clear x0 x1 y0 y1 X1 Y1 R1 hW1 hb2
  go_wp2_with fail
  refine Calls.mono (HL _).out ?_; rintro e w3 ⟨rfl, hb3⟩
  have R3 := R2.below hb3 R2.lt
  have hW3 := hW2.trans (hb3.mono hW2.size)
  have c0 : w3.cell? ⟨w.heap.size + 1 + 1, 0, none⟩ = some (.int .i64 0) := R3.cell 0
  have c1 : w3.cell? ⟨w.heap.size + 1 + 1, 1, none⟩ = some (.int .i64 0) := R3.cell 1
  have f0 : w3.frozen? ⟨w.heap.size + 1 + 1, 0, none⟩ = false := R3.frozen 0
  have f1 : w3.frozen? ⟨w.heap.size + 1 + 1, 1, none⟩ = false := R3.frozen 1
  have hs := hW3.size
  clear R2 hW2 hb3
  go_wp2
  refine bodyPost_ret (v := .tuple #[.agg #[.int .i64 gx, .int .i64 gy], .int .i64 gc]) (by simp [results, Tryz.results193, go_sem, c0, c1]) rfl ⟨rfl, (by repeat (first | with_reducible exact hW3 | with_reducible apply below_drewN' | with_reducible apply Below.drew | (with_reducible refine Below.alloc ?_ (by first | omega | (simp; omega) | simp) _) | (with_reducible refine Below.setCell ?_ (by first | omega | (simp; omega) | simp) _) | exact hW3))⟩
set_option maxRecDepth 100000 in
set_option maxHeartbeats 800000 in
theorem specMulF_c (a b : Figure) (w : World) (ha : figOK a = true) (hb : figOK b = true) : Calls Tryz.prog 191 #[a.agg, b.agg] w fun e w' => e = .returned (.tuple #[(mulQ a b).1.agg, .int .i64 (mulQ a b).2]) ∧ Below w.heap.size w w' := by
  have hC := fun W => l02TwoG_c a b W ha hb
  unfold Figure.agg at hC
  have HC := fun W => Lib.hid (hC W)
  clear hC
  obtain ⟨⟨a1, a2⟩, a3, a4⟩ := figOK_bd ha
  obtain ⟨⟨b1, b2⟩, b3, b4⟩ := figOK_bd hb
  clear ha hb
  obtain ⟨d, t⟩ := a
  obtain ⟨d', t'⟩ := b
  unfold mulQ Figure.agg
  simp only at *
  obtain ⟨p1, p2⟩ := prodF_bd ⟨a1, a2⟩ ⟨b1, b2⟩
  have hR := fun W => l02RoundMul_c (d * d') (t + t' - 6) W ⟨p1, p2⟩ (by omega)
  generalize mulF (d * d') (t + t' - 6) = F at *
  generalize hP : d * d' = P at *
  obtain ⟨x, y⟩ := F
  have hL := fun W => l02Result_c x y W
  generalize limR ⟨x, y⟩ = G at *
  obtain ⟨⟨gx, gy⟩, gc⟩ := G
  simp only at hR hL ⊢
  have HR := fun W => Lib.hid (hR W)
  have HL := fun W => Lib.hid (hL W)
  clear hR hL
  have hW : Below w.heap.size w (((w.alloc (.cells #[.int .i64 d, .int .i64 t] 65)).alloc (.cells #[.int .i64 d', .int .i64 t'] 65)).alloc (.cells #[.int .i64 0, .int .i64 0] 65)) := (by repeat (first | with_reducible exact Below.refl _ _ | with_reducible apply below_drewN' | with_reducible apply Below.drew | (with_reducible refine Below.alloc ?_ (by first | omega | (simp; omega) | simp) _) | (with_reducible refine Below.setCell ?_ (by first | omega | (simp; omega) | simp) _) | exact Below.refl _ _))
  have X0 := ((Blk.new w 65 #[.int .i64 d, .int .i64 t]).alloc (.cells #[.int .i64 d', .int .i64 t'] 65)).alloc (.cells #[.int .i64 0, .int .i64 0] 65)
  have Y0 := (Blk.new' (w.alloc (.cells #[.int .i64 d, .int .i64 t] 65)) 65 #[.int .i64 d', .int .i64 t'] (g := w.heap.size + 1) (by simp)).alloc (.cells #[.int .i64 0, .int .i64 0] 65)
  have R0 := Blk.new' ((w.alloc (.cells #[.int .i64 d, .int .i64 t] 65)).alloc (.cells #[.int .i64 d', .int .i64 t'] 65)) 65 #[.int .i64 0, .int .i64 0] (g := w.heap.size + 1 + 1) (by simp)
  go_enter Tryz.func191, Tryz.ntmps191
  go_wp2_with fail
  generalize (((w.alloc (.cells #[.int .i64 d, .int .i64 t] 65)).alloc (.cells #[.int .i64 d', .int .i64 t'] 65)).alloc (.cells #[.int .i64 0, .int .i64 0] 65)) = W at *
  refine Calls.mono (HC W).out ?_; rintro e w1 ⟨rfl, hb1⟩
  clear HC
  have X1 := X0.below hb1 X0.lt
  have Y1 := Y0.below hb1 Y0.lt
  have R1 := R0.below hb1 R0.lt
  have hW1 := hW.trans (hb1.mono hW.size)
  clear X0 Y0 R0 hW hb1
  have x0 : w1.cell? ⟨w.heap.size, 0, none⟩ = some (.int .i64 d) := X1.cell 0
  have x1 : w1.cell? ⟨w.heap.size, 1, none⟩ = some (.int .i64 t) := X1.cell 1
  have y0 : w1.cell? ⟨w.heap.size + 1, 0, none⟩ = some (.int .i64 d') := Y1.cell 0
  have y1 : w1.cell? ⟨w.heap.size + 1, 1, none⟩ = some (.int .i64 t') := Y1.cell 1
  go_wp2_with fail
  refine Calls.mono (HR _).out ?_; rintro e w2 ⟨rfl, hb2⟩
  have R2 := R1.below hb2 R1.lt
  have hW2 := hW1.trans (hb2.mono hW1.size)
  clear x0 x1 y0 y1 X1 Y1 R1 hW1 hb2
  go_wp2_with fail
  refine Calls.mono (HL _).out ?_; rintro e w3 ⟨rfl, hb3⟩
  have R3 := R2.below hb3 R2.lt
  have hW3 := hW2.trans (hb3.mono hW2.size)
  have c0 : w3.cell? ⟨w.heap.size + 1 + 1, 0, none⟩ = some (.int .i64 0) := R3.cell 0
  have c1 : w3.cell? ⟨w.heap.size + 1 + 1, 1, none⟩ = some (.int .i64 0) := R3.cell 1
  have f0 : w3.frozen? ⟨w.heap.size + 1 + 1, 0, none⟩ = false := R3.frozen 0
  have f1 : w3.frozen? ⟨w.heap.size + 1 + 1, 1, none⟩ = false := R3.frozen 1
  have hs := hW3.size
  clear R2 hW2 hb3
  go_wp2
  refine bodyPost_ret (v := .tuple #[.agg #[.int .i64 gx, .int .i64 gy], .int .i64 gc]) (by simp [results, Tryz.results191, go_sem, c0, c1]) rfl ⟨rfl, (by repeat (first | with_reducible exact hW3 | with_reducible apply below_drewN' | with_reducible apply Below.drew | (with_reducible refine Below.alloc ?_ (by first | omega | (simp; omega) | simp) _) | (with_reducible refine Below.setCell ?_ (by first | omega | (simp; omega) | simp) _) | exact hW3))⟩
set_option maxRecDepth 100000 in
set_option maxHeartbeats 800000 in
theorem specDivF_c (a b : Figure) (w : World) (ha : figOK a = true) (hb : figOK b = true) : Calls Tryz.prog 192 #[a.agg, b.agg] w fun e w' => e = .returned (.tuple #[(divQ a b).1.agg, .int .i64 (divQ a b).2]) ∧ Below w.heap.size w w' := by
  have hC := fun W => l02TwoG_c a b W ha hb
  unfold Figure.agg at hC
  have HC := fun W => Lib.hid (hC W)
  clear hC
  obtain ⟨⟨a1, a2⟩, a3, a4⟩ := figOK_bd ha
  obtain ⟨⟨b1, b2⟩, b3, b4⟩ := figOK_bd hb
  clear ha hb
  obtain ⟨d, t⟩ := a
  obtain ⟨d', t'⟩ := b
  unfold divQ Figure.agg
  simp only at *
  have hR := fun W => l02RoundDiv_c d d' (t - t') W ⟨a1, a2⟩ ⟨b1, b2⟩ (by omega)
  generalize divF d d' (t - t') = F at *
  obtain ⟨x, y⟩ := F
  have hL := fun W => l02Result_c x y W
  generalize limR ⟨x, y⟩ = G at *
  obtain ⟨⟨gx, gy⟩, gc⟩ := G
  simp only at hR hL ⊢
  have HR := fun W => Lib.hid (hR W)
  have HL := fun W => Lib.hid (hL W)
  clear hR hL
  have hW : Below w.heap.size w (((w.alloc (.cells #[.int .i64 d, .int .i64 t] 65)).alloc (.cells #[.int .i64 d', .int .i64 t'] 65)).alloc (.cells #[.int .i64 0, .int .i64 0] 65)) := (by repeat (first | with_reducible exact Below.refl _ _ | with_reducible apply below_drewN' | with_reducible apply Below.drew | (with_reducible refine Below.alloc ?_ (by first | omega | (simp; omega) | simp) _) | (with_reducible refine Below.setCell ?_ (by first | omega | (simp; omega) | simp) _) | exact Below.refl _ _))
  have X0 := ((Blk.new w 65 #[.int .i64 d, .int .i64 t]).alloc (.cells #[.int .i64 d', .int .i64 t'] 65)).alloc (.cells #[.int .i64 0, .int .i64 0] 65)
  have Y0 := (Blk.new' (w.alloc (.cells #[.int .i64 d, .int .i64 t] 65)) 65 #[.int .i64 d', .int .i64 t'] (g := w.heap.size + 1) (by simp)).alloc (.cells #[.int .i64 0, .int .i64 0] 65)
  have R0 := Blk.new' ((w.alloc (.cells #[.int .i64 d, .int .i64 t] 65)).alloc (.cells #[.int .i64 d', .int .i64 t'] 65)) 65 #[.int .i64 0, .int .i64 0] (g := w.heap.size + 1 + 1) (by simp)
  go_enter Tryz.func192, Tryz.ntmps192
  go_wp2_with fail
  generalize (((w.alloc (.cells #[.int .i64 d, .int .i64 t] 65)).alloc (.cells #[.int .i64 d', .int .i64 t'] 65)).alloc (.cells #[.int .i64 0, .int .i64 0] 65)) = W at *
  refine Calls.mono (HC W).out ?_; rintro e w1 ⟨rfl, hb1⟩
  clear HC
  have X1 := X0.below hb1 X0.lt
  have Y1 := Y0.below hb1 Y0.lt
  have R1 := R0.below hb1 R0.lt
  have hW1 := hW.trans (hb1.mono hW.size)
  clear X0 Y0 R0 hW hb1
  have x0 : w1.cell? ⟨w.heap.size, 0, none⟩ = some (.int .i64 d) := X1.cell 0
  have x1 : w1.cell? ⟨w.heap.size, 1, none⟩ = some (.int .i64 t) := X1.cell 1
  have y0 : w1.cell? ⟨w.heap.size + 1, 0, none⟩ = some (.int .i64 d') := Y1.cell 0
  have y1 : w1.cell? ⟨w.heap.size + 1, 1, none⟩ = some (.int .i64 t') := Y1.cell 1
  go_wp2_with fail
  refine Calls.mono (HR _).out ?_; rintro e w2 ⟨rfl, hb2⟩
  have R2 := R1.below hb2 R1.lt
  have hW2 := hW1.trans (hb2.mono hW1.size)
  clear x0 x1 y0 y1 X1 Y1 R1 hW1 hb2
  go_wp2_with fail
  refine Calls.mono (HL _).out ?_; rintro e w3 ⟨rfl, hb3⟩
  have R3 := R2.below hb3 R2.lt
  have hW3 := hW2.trans (hb3.mono hW2.size)
  have c0 : w3.cell? ⟨w.heap.size + 1 + 1, 0, none⟩ = some (.int .i64 0) := R3.cell 0
  have c1 : w3.cell? ⟨w.heap.size + 1 + 1, 1, none⟩ = some (.int .i64 0) := R3.cell 1
  have f0 : w3.frozen? ⟨w.heap.size + 1 + 1, 0, none⟩ = false := R3.frozen 0
  have f1 : w3.frozen? ⟨w.heap.size + 1 + 1, 1, none⟩ = false := R3.frozen 1
  have hs := hW3.size
  clear R2 hW2 hb3
  go_wp2
  refine bodyPost_ret (v := .tuple #[.agg #[.int .i64 gx, .int .i64 gy], .int .i64 gc]) (by simp [results, Tryz.results192, go_sem, c0, c1]) rfl ⟨rfl, (by repeat (first | with_reducible exact hW3 | with_reducible apply below_drewN' | with_reducible apply Below.drew | (with_reducible refine Below.alloc ?_ (by first | omega | (simp; omega) | simp) _) | (with_reducible refine Below.setCell ?_ (by first | omega | (simp; omega) | simp) _) | exact hW3))⟩
end Go.Proofs.YtgkobjpoeajkdaaGreat
namespace Go.Proofs.YtgkobjpoeajkdaaGreat
open Go.RowKit
def cmpZ (a b : Int) : Int := if a < b then -1 else if b < a then 1 else 0
def or2 (x y : Int) : Int := if x ≠ 0 then x else y
def cmpF (a b : Figure) : Int := or2 (cmpZ a.tens b.tens) (cmpZ a.digits b.digits)
def leF (a b : Figure) : Bool := decide (cmpF a b ≤ 0)
theorem cmpZ_cases (a b : Int) : (a < b ∧ cmpZ a b = -1) ∨ (b < a ∧ cmpZ a b = 1) ∨ (a = b ∧ cmpZ a b = 0) := by
  unfold cmpZ
  by_cases h1 : a < b
  · exact .inl ⟨h1, if_pos h1⟩
  · by_cases h2 : b < a
    · exact .inr (.inl ⟨h2, by rw [if_neg h1, if_pos h2]⟩)
    · exact .inr (.inr ⟨by omega, by rw [if_neg h1, if_neg h2]⟩)
theorem cmpZ_bd (a b : Int) : -1 ≤ cmpZ a b ∧ cmpZ a b ≤ 1 := by
  rcases cmpZ_cases a b with ⟨_, h⟩ | ⟨_, h⟩ | ⟨_, h⟩ <;> omega
theorem leF_iff {a b : Figure} : leF a b = true ↔ a.tens < b.tens ∨ (a.tens = b.tens ∧ a.digits ≤ b.digits) := by
  unfold leF cmpF or2
  rw [decide_eq_true_eq]
  rcases cmpZ_cases a.tens b.tens with ⟨h1, h⟩ | ⟨h1, h⟩ | ⟨h1, h⟩ <;> rcases cmpZ_cases a.digits b.digits with ⟨h2, h'⟩ | ⟨h2, h'⟩ | ⟨h2, h'⟩ <;> rw [h] <;> (try rw [h']) <;> simp <;> omega
theorem cmpF_num {a b : Figure} (ha : 0 ≤ a.digits ∧ a.digits ≤ 9999) (hb : 0 ≤ b.digits ∧ b.digits ≤ 9999) : cmpF a b = cmpZ (10000 * a.tens + a.digits) (10000 * b.tens + b.digits) := by
  unfold cmpF or2
  rcases cmpZ_cases a.tens b.tens with ⟨h1, h⟩ | ⟨h1, h⟩ | ⟨h1, h⟩ <;> rcases cmpZ_cases a.digits b.digits with ⟨h2, h'⟩ | ⟨h2, h'⟩ | ⟨h2, h'⟩ <;> rcases cmpZ_cases (10000 * a.tens + a.digits) (10000 * b.tens + b.digits) with ⟨h3, h''⟩ | ⟨h3, h''⟩ | ⟨h3, h''⟩ <;> rw [h, h', h''] <;> simp <;> omega
theorem isNaNZ_c (a : Int) (w : World) : Calls Tryz.prog 241 #[.int .i64 a] w fun e w' => e = .returned (.bool false) ∧ w = w' := by
  go_enter Tryz.func241, Tryz.ntmps241
  go_wp2
  go_ret
  exact ⟨by simp, rfl⟩
theorem compareZ_c (a b : Int) (w : World) : Calls Tryz.prog 205 #[.int .i64 a, .int .i64 b] w fun e w' => e = .returned (.int .i64 (cmpZ a b)) ∧ w = w' := by
  rcases cmpZ_cases a b with ⟨h1, e1⟩ | ⟨h2, e1⟩ | ⟨h3, e1⟩
  · rw [e1]
    clear e1
    go_enter Tryz.func205, Tryz.ntmps205
    go_wp2_with (go_at_call 241; refine (isNaNZ_c _ _).mono ?_; rintro e w' ⟨rfl, rfl⟩)
    go_ret
    exact ⟨rfl, rfl⟩
  · rw [e1]
    clear e1
    have h1 : ¬ a < b := by omega
    go_enter Tryz.func205, Tryz.ntmps205
    go_wp2_with (go_at_call 241; refine (isNaNZ_c _ _).mono ?_; rintro e w' ⟨rfl, rfl⟩)
    go_ret
    exact ⟨rfl, rfl⟩
  · rw [e1]
    clear e1
    have h1 : ¬ a < b := by omega
    have h2 : ¬ b < a := by omega
    go_enter Tryz.func205, Tryz.ntmps205
    go_wp2_with (go_at_call 241; refine (isNaNZ_c _ _).mono ?_; rintro e w' ⟨rfl, rfl⟩)
    go_ret
    exact ⟨rfl, rfl⟩
set_option maxRecDepth 100000 in
theorem or2_c (b : Nat) (x y : Int) (w : World) (c0 : w.cell? ⟨b, 0, none⟩ = some (.int .i64 x)) (c1 : w.cell? ⟨b, 1, none⟩ = some (.int .i64 y)) :
    Calls Tryz.prog 204 #[.slice (some ⟨b, 0, none⟩) 2 2] w fun e w' => e = .returned (.int .i64 (or2 x y)) ∧ w = w' := by
  go_enter Tryz.func204, Tryz.ntmps204
  go_wp2_with fail
  go_loop [8] (fun i => ∃ k : Nat, k ≤ 2 ∧ i = .int .i64 k ∧ Hid ((1 ≤ k → x = 0) ∧ (2 ≤ k → y = 0))) (fun i => 2 - (intOf i).toNat)
  case atStart => exact ⟨0, by omega, rfl, ⟨fun h => by omega, fun h => by omega⟩⟩
  case round =>
    obtain ⟨k, hk, rfl, H⟩ := hrel
    have h4 : k = 0 ∨ k = 1 ∨ k = 2 := by omega
    rcases h4 with rfl | rfl | rfl
    · by_cases hx : x = 0
      · have hx' : (x != 0) = false := by simp [hx]
        have HX := Lib.hid hx
        clear hx
        go_wp2
        go_round
        case rel => exact ⟨1, by omega, by first | rfl | go_num, (show Hid _ from ⟨fun _ => HX.out, fun h => by omega⟩)⟩
        case measure => simp [intOf]
      · have hx' : (x != 0) = true := by simp [hx]
        have HX := Lib.hid hx
        clear hx
        go_wp2
        go_ret
        exact ⟨ret_int (by unfold or2; rw [if_pos HX.out]), rfl⟩
    · have H1 := Lib.hid (H.out.1 (by omega))
      by_cases hx : y = 0
      · have hx' : (y != 0) = false := by simp [hx]
        have HX := Lib.hid hx
        clear hx H
        go_wp2
        go_round
        case rel => exact ⟨2, by omega, by first | rfl | go_num, (show Hid _ from ⟨fun _ => H1.out, fun _ => HX.out⟩)⟩
        case measure => simp [intOf]
      · have hx' : (y != 0) = true := by simp [hx]
        have HX := Lib.hid hx
        clear hx H
        go_wp2
        go_ret
        exact ⟨ret_int (by unfold or2; rw [if_neg (by rw [H1.out]; simp)]), rfl⟩
    · have H1 := Lib.hid (H.out.1 (by omega))
      have H2 := Lib.hid (H.out.2 (by omega))
      clear H
      go_wp2
      go_ret
      exact ⟨ret_int (by unfold or2; rw [if_neg (by rw [H1.out]; simp), H2.out]), rfl⟩
/-- two figures lie in their boxes -/
structure TwF (w0 : World) (a b : Figure) (v : World) : Prop where
  hb : Below w0.heap.size w0 v
  b1 : Blk v w0.heap.size 65 #[.int .i64 a.digits, .int .i64 a.tens]
  b2 : Blk v (w0.heap.size + 1) 65 #[.int .i64 b.digits, .int .i64 b.tens]
theorem TwF.below {w0 v v' : World} {a b : Figure} (h : TwF w0 a b v) (hb : Below v.heap.size v v') : TwF w0 a b v' := ⟨h.hb.trans (hb.mono h.hb.size), h.b1.below hb h.b1.lt, h.b2.below hb h.b2.lt⟩
theorem TwF.drew {w0 v : World} {a b : Figure} (h : TwF w0 a b v) : TwF w0 a b v.drew := ⟨h.hb.drew, h.b1, h.b2⟩
theorem TwF.init {w0 : World} {a b : Figure} : TwF w0 a b ((w0.alloc (.cells #[.int .i64 a.digits, .int .i64 a.tens] 65)).alloc (.cells #[.int .i64 b.digits, .int .i64 b.tens] 65)) :=
  ⟨(by repeat (first | with_reducible exact Below.refl _ _ | with_reducible apply below_drewN' | with_reducible apply Below.drew | (with_reducible refine Below.alloc ?_ (by first | omega | (simp; omega) | simp) _) | (with_reducible refine Below.setCell ?_ (by first | omega | (simp; omega) | simp) _) | exact Below.refl _ _)), (Blk.new _ _ _).alloc _, Blk.new' _ _ _ (by simp)⟩
set_option maxRecDepth 100000 in
theorem compareFigures_c (a b : Figure) (w : World) : Calls Tryz.prog 163 #[a.agg, b.agg] w fun e w' => e = .returned (.int .i64 (cmpF a b)) ∧ Below w.heap.size w w' := by
  have hT0 : TwF w a b _ := TwF.init
  unfold cmpF
  obtain ⟨d, t⟩ := a
  obtain ⟨d', t'⟩ := b
  unfold Figure.agg
  simp only at hT0 ⊢
  have HC := fun (x y : Int) W => Lib.hid ((compareZ_c x y W).mono fun _ w' h => (⟨h.1, by rw [← h.2]; exact Below.refl _ _⟩ : _ ∧ Below W.heap.size W w'))
  have HO := fun b W c0 c1 => Lib.hid (or2_c b (cmpZ t t') (cmpZ d d') W c0 c1)
  generalize hx : cmpZ t t' = x at *
  generalize hy : cmpZ d d' = y at *
  have HX := Lib.hid hx
  have HY := Lib.hid hy
  clear hx hy
  go_enter Tryz.func163, Tryz.ntmps163
  go_wp2_with fail
  generalize (w.alloc (.cells #[.int .i64 d, .int .i64 t] 65)).alloc (.cells #[.int .i64 d', .int .i64 t'] 65) = W at *
  refine wp_region_sink 10 (fun a0 fL bA v => ∃ v5 v6 v7 v8 v9 v10 v11 v12 v13 v14 : Value, bA = (((((((((a0.put (some 5) v5).put (some 6) v6).put (some 7) v7).put (some 8) v8).put (some 9) v9).put (some 10) v10).put (some 11) v11).put (some 12) v12).put (some 13) v13).put (some 14) v14 ∧ (TwF w ⟨d, t⟩ ⟨d', t'⟩ v) ∧ (fL 0 = true → v5 = .pointer (some ⟨w.heap.size, 1, none⟩)) ∧ (fL 1 = true → v6 = .int .i64 t) ∧ (fL 2 = true → v7 = .pointer (some ⟨w.heap.size + 1, 1, none⟩)) ∧ (fL 3 = true → v8 = .int .i64 t') ∧ (fL 4 = true → v9 = .int .i64 x) ∧ (fL 5 = true → v10 = .pointer (some ⟨w.heap.size, 0, none⟩)) ∧ (fL 6 = true → v11 = .int .i64 d) ∧ (fL 7 = true → v12 = .pointer (some ⟨w.heap.size + 1, 0, none⟩)) ∧ (fL 8 = true → v13 = .int .i64 d') ∧ (fL 9 = true → v14 = .int .i64 y)) (by kernel_rfl) (by decide +kernel) ?_ ?_ ?_
  · exact ⟨undef, undef, undef, undef, undef, undef, undef, undef, undef, undef, by simp only [Act.put, List.setIfInBounds_toArray, List.set_cons_zero, List.set_cons_succ], hT0.drew, nofun, nofun, nofun, nofun, nofun, nofun, nofun, nofun, nofun, nofun⟩
  · rintro fL bA v ⟨v5, v6, v7, v8, v9, v10, v11, v12, v13, v14, rfl, hS, q0, q1, q2, q3, q4, q5, q6, q7, q8, q9⟩ i hi hf o ho hall
    simp only [Act.put, List.setIfInBounds_toArray, List.set_cons_zero, List.set_cons_succ]
    have hn : i = 0 ∨ i = 1 ∨ i = 2 ∨ i = 3 ∨ i = 4 ∨ i = 5 ∨ i = 6 ∨ i = 7 ∨ i = 8 ∨ i = 9 := by omega
    clear hi
    rcases hn with rfl | rfl | rfl | rfl | rfl | rfl | rfl | rfl | rfl | rfl
    · obtain rfl := Option.some.inj ho
      clear hall ho
      refine wpOp_step rfl (fun K hK => ?_)
      go_simp
      exact hK _ _ ⟨_, _, _, _, _, _, _, _, _, _, rfl, hS, fun _ => rfl, q1, q2, q3, q4, q5, q6, q7, q8, q9⟩
    · obtain rfl := Option.some.inj ho
      obtain rfl := q0 (hall ⟨0, .data⟩ (by simp) rfl)
      have y0 : v.cell? ⟨w.heap.size, 1, none⟩ = some (.int .i64 t) := hS.b1.cell 1
      clear hall ho
      refine wpOp_step rfl (fun K hK => ?_)
      go_simp
      exact hK _ _ ⟨_, _, _, _, _, _, _, _, _, _, rfl, hS, fun _ => rfl, fun _ => rfl, q2, q3, q4, q5, q6, q7, q8, q9⟩
    · obtain rfl := Option.some.inj ho
      clear hall ho
      refine wpOp_step rfl (fun K hK => ?_)
      go_simp
      exact hK _ _ ⟨_, _, _, _, _, _, _, _, _, _, rfl, hS, q0, q1, fun _ => rfl, q3, q4, q5, q6, q7, q8, q9⟩
    · obtain rfl := Option.some.inj ho
      obtain rfl := q2 (hall ⟨2, .data⟩ (by simp) rfl)
      have y0 : v.cell? ⟨w.heap.size + 1, 1, none⟩ = some (.int .i64 t') := hS.b2.cell 1
      clear hall ho
      refine wpOp_step rfl (fun K hK => ?_)
      go_simp
      exact hK _ _ ⟨_, _, _, _, _, _, _, _, _, _, rfl, hS, q0, q1, fun _ => rfl, fun _ => rfl, q4, q5, q6, q7, q8, q9⟩
    · obtain rfl := Option.some.inj ho
      obtain rfl := q1 (hall ⟨1, .data⟩ (by simp) rfl)
      obtain rfl := q3 (hall ⟨3, .data⟩ (by simp) rfl)
      clear hall ho
      refine wpOp_step rfl (fun K hK => ?_)
      go_simp
      refine Calls.mono ((by have h := (HC t t' v).out; rw [HX.out] at h; exact h)) ?_; rintro e w1 ⟨rfl, hb1⟩
      go_simp
      exact hK _ _ ⟨_, _, _, _, _, _, _, _, _, _, rfl, hS.below hb1, q0, fun _ => rfl, q2, fun _ => rfl, fun _ => rfl, q5, q6, q7, q8, q9⟩
    · obtain rfl := Option.some.inj ho
      clear hall ho
      refine wpOp_step rfl (fun K hK => ?_)
      go_simp
      exact hK _ _ ⟨_, _, _, _, _, _, _, _, _, _, rfl, hS, q0, q1, q2, q3, q4, fun _ => rfl, q6, q7, q8, q9⟩
    · obtain rfl := Option.some.inj ho
      obtain rfl := q5 (hall ⟨5, .data⟩ (by simp) rfl)
      have y0 : v.cell? ⟨w.heap.size, 0, none⟩ = some (.int .i64 d) := hS.b1.cell 0
      clear hall ho
      refine wpOp_step rfl (fun K hK => ?_)
      go_simp
      exact hK _ _ ⟨_, _, _, _, _, _, _, _, _, _, rfl, hS, q0, q1, q2, q3, q4, fun _ => rfl, fun _ => rfl, q7, q8, q9⟩
    · obtain rfl := Option.some.inj ho
      clear hall ho
      refine wpOp_step rfl (fun K hK => ?_)
      go_simp
      exact hK _ _ ⟨_, _, _, _, _, _, _, _, _, _, rfl, hS, q0, q1, q2, q3, q4, q5, q6, fun _ => rfl, q8, q9⟩
    · obtain rfl := Option.some.inj ho
      obtain rfl := q7 (hall ⟨7, .data⟩ (by simp) rfl)
      have y0 : v.cell? ⟨w.heap.size + 1, 0, none⟩ = some (.int .i64 d') := hS.b2.cell 0
      clear hall ho
      refine wpOp_step rfl (fun K hK => ?_)
      go_simp
      exact hK _ _ ⟨_, _, _, _, _, _, _, _, _, _, rfl, hS, q0, q1, q2, q3, q4, q5, q6, fun _ => rfl, fun _ => rfl, q9⟩
    · obtain rfl := Option.some.inj ho
      obtain rfl := q6 (hall ⟨6, .data⟩ (by simp) rfl)
      obtain rfl := q8 (hall ⟨8, .data⟩ (by simp) rfl)
      clear hall ho
      refine wpOp_step rfl (fun K hK => ?_)
      go_simp
      refine Calls.mono ((by have h := (HC d d' v).out; rw [HY.out] at h; exact h)) ?_; rintro e w1 ⟨rfl, hb1⟩
      go_simp
      exact hK _ _ ⟨_, _, _, _, _, _, _, _, _, _, rfl, hS.below hb1, q0, q1, q2, q3, q4, q5, fun _ => rfl, q7, fun _ => rfl, fun _ => rfl⟩
  · rintro fL bA v ⟨v5, v6, v7, v8, v9, v10, v11, v12, v13, v14, rfl, hS, q0, q1, q2, q3, q4, q5, q6, q7, q8, q9⟩ hall
    simp only [Act.put, List.setIfInBounds_toArray, List.set_cons_zero, List.set_cons_succ]
    obtain rfl := q0 (hall 0 (by omega))
    obtain rfl := q1 (hall 1 (by omega))
    obtain rfl := q2 (hall 2 (by omega))
    obtain rfl := q3 (hall 3 (by omega))
    obtain rfl := q4 (hall 4 (by omega))
    obtain rfl := q5 (hall 5 (by omega))
    obtain rfl := q6 (hall 6 (by omega))
    obtain rfl := q7 (hall 7 (by omega))
    obtain rfl := q8 (hall 8 (by omega))
    obtain rfl := q9 (hall 9 (by omega))
    clear hall
    simp only [List.drop_succ_cons, List.drop_zero]
    have hb := hS.hb
    have hsz := hb.size
    have N := Blk.new v 3 #[.int .i64 x, .int .i64 y]
    have HO' := HO v.heap.size _ (N.cell 0) (N.cell 1)
    clear hS hT0 HC HO N
    go_wp2_with fail
    refine Calls.mono HO'.out ?_; rintro e w1 ⟨rfl, rfl⟩
    go_wp2
    go_ret
    exact ⟨rfl, (by repeat (first | with_reducible exact hb | with_reducible apply below_drewN' | with_reducible apply Below.drew | (with_reducible refine Below.alloc ?_ (by first | omega | (simp; omega) | simp) _) | (with_reducible refine Below.setCell ?_ (by first | omega | (simp; omega) | simp) _) | exact hb))⟩
set_option maxRecDepth 100000 in
theorem l02Compare_c (a b : Figure) (w : World) (ha : figOK a = true) (hb : figOK b = true) : Calls Tryz.prog 141 #[a.agg, b.agg] w fun e w' => e = .returned (.int .i64 (cmpF a b)) ∧ Below w.heap.size w w' := by
  obtain ⟨⟨a1, a2⟩, a3, a4⟩ := figOK_bd ha
  obtain ⟨⟨b1, b2⟩, b3, b4⟩ := figOK_bd hb
  rw [cmpF_num ⟨by omega, a2⟩ ⟨by omega, b2⟩]
  clear ha hb
  obtain ⟨d, t⟩ := a
  obtain ⟨d', t'⟩ := b
  unfold Figure.agg
  simp only at *
  rcases cmpZ_cases (10000 * t + d) (10000 * t' + d') with ⟨h1, e1⟩ | ⟨h2, e1⟩ | ⟨h3, e1⟩
  · rw [e1]
    clear e1
    go_enter Tryz.func141, Tryz.ntmps141
    go_wp2_with fail
    go_quiet (fail)
    go_wp2
    go_ret
    exact ⟨rfl, (by repeat (first | with_reducible exact Below.refl _ _ | with_reducible apply below_drewN' | with_reducible apply Below.drew | (with_reducible refine Below.alloc ?_ (by first | omega | (simp; omega) | simp) _) | (with_reducible refine Below.setCell ?_ (by first | omega | (simp; omega) | simp) _) | exact Below.refl _ _))⟩
  · rw [e1]
    clear e1
    have h1 : ¬ (10000 * t + d) < (10000 * t' + d') := by omega
    go_enter Tryz.func141, Tryz.ntmps141
    go_wp2_with fail
    go_quiet (fail)
    go_wp2
    go_ret
    exact ⟨rfl, (by repeat (first | with_reducible exact Below.refl _ _ | with_reducible apply below_drewN' | with_reducible apply Below.drew | (with_reducible refine Below.alloc ?_ (by first | omega | (simp; omega) | simp) _) | (with_reducible refine Below.setCell ?_ (by first | omega | (simp; omega) | simp) _) | exact Below.refl _ _))⟩
  · rw [e1]
    clear e1
    have h1 : ¬ (10000 * t + d) < (10000 * t' + d') := by omega
    have h2 : ¬ (10000 * t' + d') < (10000 * t + d) := by omega
    clear h3
    go_enter Tryz.func141, Tryz.ntmps141
    go_wp2_with fail
    go_quiet (fail)
    go_wp2
    go_ret
    exact ⟨rfl, (by repeat (first | with_reducible exact Below.refl _ _ | with_reducible apply below_drewN' | with_reducible apply Below.drew | (with_reducible refine Below.alloc ?_ (by first | omega | (simp; omega) | simp) _) | (with_reducible refine Below.setCell ?_ (by first | omega | (simp; omega) | simp) _) | exact Below.refl _ _))⟩
set_option maxRecDepth 100000 in
theorem lies_c (f lo hi : Figure) (w : World) : Calls Tryz.prog 143 #[f.agg, lo.agg, hi.agg] w fun e w' => e = .returned (.bool (leF lo f && leF f hi)) ∧ Below w.heap.size w w' := by
  have hC1 := fun W => compareFigures_c lo f W
  have hC2 := fun W => compareFigures_c f hi W
  unfold leF
  generalize cmpF lo f = x at *
  generalize cmpF f hi = y at *
  obtain ⟨d, t⟩ := f
  obtain ⟨d1, t1⟩ := lo
  obtain ⟨d2, t2⟩ := hi
  unfold Figure.agg at *
  simp only at *
  have HC1 := fun W => Lib.hid (hC1 W)
  have HC2 := fun W => Lib.hid (hC2 W)
  clear hC1 hC2
  have hW : Below w.heap.size w (((w.alloc (.cells #[.int .i64 d, .int .i64 t] 65)).alloc (.cells #[.int .i64 d1, .int .i64 t1] 65)).alloc (.cells #[.int .i64 d2, .int .i64 t2] 65)) := (by repeat (first | with_reducible exact Below.refl _ _ | with_reducible apply below_drewN' | with_reducible apply Below.drew | (with_reducible refine Below.alloc ?_ (by first | omega | (simp; omega) | simp) _) | (with_reducible refine Below.setCell ?_ (by first | omega | (simp; omega) | simp) _) | exact Below.refl _ _))
  have X0 := ((Blk.new w 65 #[.int .i64 d, .int .i64 t]).alloc (.cells #[.int .i64 d1, .int .i64 t1] 65)).alloc (.cells #[.int .i64 d2, .int .i64 t2] 65)
  have Y0 := Blk.new' ((w.alloc (.cells #[.int .i64 d, .int .i64 t] 65)).alloc (.cells #[.int .i64 d1, .int .i64 t1] 65)) 65 #[.int .i64 d2, .int .i64 t2] (g := w.heap.size + 1 + 1) (by simp)
  go_enter Tryz.func143, Tryz.ntmps143
  go_wp2_with fail
  generalize ((w.alloc (.cells #[.int .i64 d, .int .i64 t] 65)).alloc (.cells #[.int .i64 d1, .int .i64 t1] 65)).alloc (.cells #[.int .i64 d2, .int .i64 t2] 65) = W at *
  refine Calls.mono (HC1 _).out ?_; rintro e w1 ⟨rfl, hb1⟩
  have X1 := X0.below hb1 X0.lt
  have Y1 := Y0.below hb1 Y0.lt
  have hW1 := hW.trans (hb1.mono hW.size)
  have x0 : w1.cell? ⟨w.heap.size, 0, none⟩ = some (.int .i64 d) := X1.cell 0
  have x1 : w1.cell? ⟨w.heap.size, 1, none⟩ = some (.int .i64 t) := X1.cell 1
  have y0 : w1.cell? ⟨w.heap.size + 1 + 1, 0, none⟩ = some (.int .i64 d2) := Y1.cell 0
  have y1 : w1.cell? ⟨w.heap.size + 1 + 1, 1, none⟩ = some (.int .i64 t2) := Y1.cell 1
  clear X0 Y0 X1 Y1 hW hb1
  by_cases hx : x ≤ 0
  · have hd : decide (x ≤ 0) = true := decide_eq_true hx
    go_wp2_with (go_at_call 163; refine Calls.mono (HC2 _).out ?_; rintro e w2 ⟨rfl, hb2⟩; have hW2 := hW1.trans (hb2.mono hW1.size))
    go_ret
    exact ⟨by rw [hd]; rfl, (by repeat (first | with_reducible exact hW2 | with_reducible apply below_drewN' | with_reducible apply Below.drew | (with_reducible refine Below.alloc ?_ (by first | omega | (simp; omega) | simp) _) | (with_reducible refine Below.setCell ?_ (by first | omega | (simp; omega) | simp) _) | exact hW2))⟩
  · have hd : decide (x ≤ 0) = false := decide_eq_false hx
    go_wp2
    go_ret
    exact ⟨by rw [hd]; rfl, (by repeat (first | with_reducible exact hW1 | with_reducible apply below_drewN' | with_reducible apply Below.drew | (with_reducible refine Below.alloc ?_ (by first | omega | (simp; omega) | simp) _) | (with_reducible refine Below.setCell ?_ (by first | omega | (simp; omega) | simp) _) | exact hW1))⟩
end Go.Proofs.YtgkobjpoeajkdaaGreat
