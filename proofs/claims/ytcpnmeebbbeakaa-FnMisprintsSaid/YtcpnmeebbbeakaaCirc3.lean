/- Multiplying two figures' digits: impl.MultiplyFigures at Tens 0, walked. -/
import Derived.Test.YtcpnmeebbbeakaaCirc2
namespace Go.Proofs.Ytcpnmeebbbeakaa
open Go.RowKit
def mulR (P : Int) : Int × Int :=
  if P < 10000000 then (if (2 * P + 1000) / 2000 = 10000 then (1000, 1) else ((2 * P + 1000) / 2000, 0))
  else (if (2 * P + 10000) / 20000 = 10000 then (1000, 2) else ((2 * P + 10000) / 20000, 1))
theorem mulR_prod (a b : Int) : (mulR (a * b)).1 = prodD a b := by
  unfold mulR prodD
  split <;> split <;> rfl
theorem mulR_bd {P : Int} (h : 1000000 ≤ P ∧ P ≤ 99980001) : (1000 ≤ (mulR P).1 ∧ (mulR P).1 ≤ 9999) ∧ 0 ≤ (mulR P).2 ∧ (mulR P).2 ≤ 2 := by
  unfold mulR
  split <;> split <;> simp only <;> omega
set_option maxRecDepth 100000 in
theorem near_c (n d : Int) (w : World) (hn : 0 ≤ n ∧ n ≤ 1000000000) (hd : 0 < d ∧ d ≤ 1000000000) : Calls Try.prog 171 #[.int .i64 n, .int .i64 d] w fun e w' => e = .returned (.int .i64 ((2 * n + d) / (2 * d))) ∧ w = w' := by
  obtain ⟨hn1, hn2⟩ := hn
  obtain ⟨hd1, hd2⟩ := hd
  have h0 : ¬ d < 0 := by omega
  go_enter Try.func171, Try.ntmps171
  go_wp2_with (go_at_call 126; refine (down_c _ _ _ (by omega) (by omega)).mono ?_; rintro e w' ⟨rfl, rfl⟩)
  go_ret
  exact ⟨rfl, rfl⟩
set_option maxRecDepth 100000 in
set_option maxHeartbeats 800000 in
theorem rounded_c (P : Int) (w : World) (hP : 1000000 ≤ P ∧ P ≤ 99980001) : Calls Try.prog 123 #[.int .i64 P, .int .i64 1, .int .i64 (-6)] w fun e w' => e = .returned (.agg #[.int .i64 (mulR P).1, .int .i64 (mulR P).2]) ∧ Below w.heap.size w w' := by
  obtain ⟨hP1, hP2⟩ := hP
  have Br := Blk.new w 36 #[.int .i64 0, .int .i64 0]
  have hB : Below w.heap.size w (w.alloc (.cells #[.int .i64 0, .int .i64 0] 36)) := (by repeat (first | with_reducible exact Below.refl _ _ | with_reducible apply below_drewN' | with_reducible apply Below.drew | (with_reducible refine Below.alloc ?_ (by first | omega | (simp; omega) | simp) _) | (with_reducible refine Below.setCell ?_ (by first | omega | (simp; omega) | simp) _) | exact Below.refl _ _))
  have hd : mulR P = if P < 10000000 then (if (2 * P + 1000) / 2000 = 10000 then (1000, 1) else ((2 * P + 1000) / 2000, 0)) else (if (2 * P + 10000) / 20000 = 10000 then (1000, 2) else ((2 * P + 10000) / 20000, 1)) := rfl
  generalize mulR P = mr at *
  go_enter Try.func123, Try.ntmps123
  go_wp2_with fail
  generalize w.alloc (.cells #[.int .i64 0, .int .i64 0] 36) = W at *
  have c0 : W.cell? ⟨w.heap.size, 0, none⟩ = some (.int .i64 0) := Br.cell 0
  have c1 : W.cell? ⟨w.heap.size, 1, none⟩ = some (.int .i64 0) := Br.cell 1
  have f0 : W.frozen? ⟨w.heap.size, 0, none⟩ = false := Br.frozen 0
  have f1 : W.frozen? ⟨w.heap.size, 1, none⟩ = false := Br.frozen 1
  have z := Br.lt
  go_loop [0, 2] (fun n t => n = .int .i64 P ∧ t = .int .i64 (-3)) (fun _ _ => 0)
  case atStart => exact ⟨rfl, rfl⟩
  case round =>
    obtain ⟨rfl, rfl⟩ := hrel
    go_wp2_with fail
    go_loop [1, 2] (fun d t => (d = .int .i64 1 ∧ t = .int .i64 (-3)) ∨ (d = .int .i64 10 ∧ t = .int .i64 (-2)) ∨ (d = .int .i64 100 ∧ t = .int .i64 (-1)) ∨ (d = .int .i64 1000 ∧ t = .int .i64 0) ∨ (d = .int .i64 10000 ∧ t = .int .i64 1 ∧ 10000000 ≤ P)) (fun d _ => (20000 - intOf d).toNat)
    case atStart => exact .inl ⟨rfl, rfl⟩
    case round =>
      rcases hrel with ⟨rfl, rfl⟩ | ⟨rfl, rfl⟩ | ⟨rfl, rfl⟩ | ⟨rfl, rfl⟩ | ⟨rfl, rfl, h7⟩
      · go_wp2
        go_round
        case rel => exact .inr (.inl ⟨rfl, rfl⟩)
        case measure => simp [intOf]
      · go_wp2
        go_round
        case rel => exact .inr (.inr (.inl ⟨rfl, rfl⟩))
        case measure => simp [intOf]
      · go_wp2
        go_round
        case rel => exact .inr (.inr (.inr (.inl ⟨rfl, rfl⟩)))
        case measure => simp [intOf]
      · by_cases h7 : P < 10000000
        · rw [if_pos h7] at hd
          by_cases h9 : (2 * P + 1000) / 2000 = 10000
          · rw [if_pos h9] at hd
            have Hd := Lib.hid hd; clear hd
            have hN := fun W => near_c P 1000 W (by omega) (by omega)
            rw [show (2 * P + 1000) / (2 * 1000) = 10000 from h9] at hN
            have hN' := fun W => Lib.hid (hN W); clear hN
            go_wp2_with (go_at_call 171; refine (hN' _).out.mono ?_; rintro e w5 ⟨rfl, rfl⟩)
            refine bodyPost_ret (v := .agg #[.int .i64 1000, .int .i64 1]) (by simp [results, Try.results123, go_sem, c0, c1]) rfl ⟨by rw [Hd.out], (by repeat (first | with_reducible exact hB | with_reducible apply below_drewN' | with_reducible apply Below.drew | (with_reducible refine Below.alloc ?_ (by first | omega | (simp; omega) | simp) _) | (with_reducible refine Below.setCell ?_ (by first | omega | (simp; omega) | simp) _) | exact hB))⟩
          · rw [if_neg h9] at hd
            have Hd := Lib.hid hd; clear hd
            have hN := fun W => near_c P 1000 W (by omega) (by omega)
            rw [show (2 : Int) * 1000 = 2000 from rfl] at hN
            have hN' := fun W => Lib.hid (hN W); clear hN
            generalize (2 * P + 1000) / 2000 = x at *
            go_wp2_with (go_at_call 171; refine (hN' _).out.mono ?_; rintro e w5 ⟨rfl, rfl⟩)
            refine bodyPost_ret (v := .agg #[.int .i64 x, .int .i64 0]) (by simp [results, Try.results123, go_sem, c0, c1]) rfl ⟨by rw [Hd.out], (by repeat (first | with_reducible exact hB | with_reducible apply below_drewN' | with_reducible apply Below.drew | (with_reducible refine Below.alloc ?_ (by first | omega | (simp; omega) | simp) _) | (with_reducible refine Below.setCell ?_ (by first | omega | (simp; omega) | simp) _) | exact hB))⟩
        · go_wp2
          go_round
          case rel => exact .inr (.inr (.inr (.inr ⟨rfl, rfl, by omega⟩)))
          case measure => simp [intOf]
      · rw [if_neg (by omega)] at hd
        by_cases h9 : (2 * P + 10000) / 20000 = 10000
        · exfalso; omega
        · rw [if_neg h9] at hd
          have Hd := Lib.hid hd; clear hd
          have hN := fun W => near_c P 10000 W (by omega) (by omega)
          rw [show (2 : Int) * 10000 = 20000 from rfl] at hN
          have hN' := fun W => Lib.hid (hN W); clear hN
          generalize (2 * P + 10000) / 20000 = x at *
          go_wp2_with (go_at_call 171; refine (hN' _).out.mono ?_; rintro e w5 ⟨rfl, rfl⟩)
          refine bodyPost_ret (v := .agg #[.int .i64 x, .int .i64 1]) (by simp [results, Try.results123, go_sem, c0, c1]) rfl ⟨by rw [Hd.out], (by repeat (first | with_reducible exact hB | with_reducible apply below_drewN' | with_reducible apply Below.drew | (with_reducible refine Below.alloc ?_ (by first | omega | (simp; omega) | simp) _) | (with_reducible refine Below.setCell ?_ (by first | omega | (simp; omega) | simp) _) | exact hB))⟩
set_option maxRecDepth 100000 in
theorem limited_c (f : Figure) (w : World) (hf : figOK f = true) : Calls Try.prog 122 #[f.agg] w fun e w' => e = .returned (.tuple #[f.agg, .int .i64 0]) ∧ Below w.heap.size w w' := by
  have hI := fun W => implIsFigure_c f W
  rw [hf] at hI
  have hI' := fun W => Lib.hid (hI W); clear hI
  obtain ⟨a, b⟩ := f
  unfold Figure.agg at *
  simp only at *
  go_enter Try.func122, Try.ntmps122
  go_wp2_with (go_at_call 170; refine (hI' _).out.mono ?_; rintro e w1 ⟨rfl, hb1⟩; have Bx := ((Blk.new w 36 #[.int .i64 a, .int .i64 b]).alloc (.cells #[.int .i64 0, .int .i64 0] 36)).below hb1 (by first | (simp; done) | (simp; omega)); have Bg := (Blk.new' (w.alloc (.cells #[.int .i64 a, .int .i64 b] 36)) 36 #[.int .i64 0, .int .i64 0] (g := w.heap.size + 1) (by simp)).below hb1 (by simp); have x0 : w1.cell? ⟨w.heap.size, 0, none⟩ = some (.int .i64 a) := Bx.cell 0; have x1 : w1.cell? ⟨w.heap.size, 1, none⟩ = some (.int .i64 b) := Bx.cell 1; have c0 : w1.cell? ⟨w.heap.size + 1, 0, none⟩ = some (.int .i64 0) := Bg.cell 0; have c1 : w1.cell? ⟨w.heap.size + 1, 1, none⟩ = some (.int .i64 0) := Bg.cell 1; have f0 := Bg.frozen 0; have f1 := Bg.frozen 1; have z := Bg.lt)
  have hB1 : Below w.heap.size w w1 := ((by repeat (first | with_reducible exact Below.refl _ _ | with_reducible apply below_drewN' | with_reducible apply Below.drew | (with_reducible refine Below.alloc ?_ (by first | omega | (simp; omega) | simp) _) | (with_reducible refine Below.setCell ?_ (by first | omega | (simp; omega) | simp) _) | exact Below.refl _ _)) : Below w.heap.size w ((w.alloc (.cells #[.int .i64 a, .int .i64 b] 36)).alloc (.cells #[.int .i64 0, .int .i64 0] 36))).trans (hb1.mono (by first | (simp; done) | (simp; omega)))
  refine bodyPost_ret (v := .tuple #[.agg #[.int .i64 a, .int .i64 b], .int .i64 0]) (by simp [results, Try.results122, go_sem, c0, c1]) rfl ⟨rfl, (by repeat (first | with_reducible exact hB1 | with_reducible apply below_drewN' | with_reducible apply Below.drew | (with_reducible refine Below.alloc ?_ (by first | omega | (simp; omega) | simp) _) | (with_reducible refine Below.setCell ?_ (by first | omega | (simp; omega) | simp) _) | exact hB1))⟩
set_option maxRecDepth 100000 in
set_option maxHeartbeats 800000 in
theorem multiplyFigures_c (d d' : Int) (w : World) (h : 1000 ≤ d ∧ d ≤ 9999) (h' : 1000 ≤ d' ∧ d' ≤ 9999) : Calls Try.prog 52 #[.agg #[.int .i64 d, .int .i64 0], .agg #[.int .i64 d', .int .i64 0]] w fun e w' => (∃ t : Int, e = .returned (.tuple #[.agg #[.int .i64 (prodD d d'), .int .i64 t], .int .i64 0])) ∧ Below w.heap.size w w' := by
  have hok : ([⟨d, 0⟩, ⟨d', 0⟩] : List Figure).all figOK = true := by simp [figOK, inB]; omega
  have hO := fun (W : World) (g : Nat) (hb : Blk W g 36 #[.int .i64 d, .int .i64 0, .int .i64 d', .int .i64 0]) => two_fig (f := ⟨d, 0⟩) (f' := ⟨d', 0⟩) hb hb.lt
  have hC := fun W A c hs => areFigures_c A c [⟨d, 0⟩, ⟨d', 0⟩] W (by simp) hs
  have hpb := prod_bd h h'
  have hmr := mulR_bd hpb
  have hpr := mulR_prod d d'
  have hR := fun W => rounded_c (d * d') W hpb
  rw [hok] at hC
  clear hok
  generalize hP : d * d' = P at *
  have hL := fun W => limited_c ⟨(mulR P).1, (mulR P).2⟩ W (by simp [figOK, inB]; omega)
  unfold Figure.agg at hL
  simp only at hL
  rw [hpr] at hR hL
  generalize (mulR P).2 = t at *
  generalize prodD d d' = x at *
  have HC := fun W A c hs => Lib.hid (hC W A c hs); clear hC
  have HR := fun W => Lib.hid (hR W); clear hR
  have HL := fun W => Lib.hid (hL W); clear hL
  obtain ⟨⟨m1, m2⟩, m3, m4⟩ := hmr
  obtain ⟨p1, p2⟩ := hpb
  go_enter Try.func52, Try.ntmps52
  go_wp2_with (go_at_call 121; refine (HC _ _ _ (hO _ _ (Blk.new' _ _ _ (by simp)))).out.mono ?_; rintro e w1 ⟨rfl, hb1⟩; have Ba := ((((Blk.new w 36 #[.int .i64 d, .int .i64 0]).alloc (.cells #[.int .i64 d', .int .i64 0] 36)).alloc (.cells #[.int .i64 0, .int .i64 0] 36)).alloc (.cells #[.int .i64 d, .int .i64 0, .int .i64 d', .int .i64 0] 36)).below hb1 (by first | (simp; done) | (simp; omega)); have Bb := (((Blk.new' (w.alloc (.cells #[.int .i64 d, .int .i64 0] 36)) 36 #[.int .i64 d', .int .i64 0] (g := w.heap.size + 1) (by simp)).alloc (.cells #[.int .i64 0, .int .i64 0] 36)).alloc (.cells #[.int .i64 d, .int .i64 0, .int .i64 d', .int .i64 0] 36)).below hb1 (by first | (simp; done) | (simp; omega)); have Bg := ((Blk.new' ((w.alloc (.cells #[.int .i64 d, .int .i64 0] 36)).alloc (.cells #[.int .i64 d', .int .i64 0] 36)) 36 #[.int .i64 0, .int .i64 0] (g := w.heap.size + 2) (by simp)).alloc (.cells #[.int .i64 d, .int .i64 0, .int .i64 d', .int .i64 0] 36)).below hb1 (by simp); have hB1 : Below w.heap.size w w1 := ((by repeat (first | with_reducible exact Below.refl _ _ | with_reducible apply below_drewN' | with_reducible apply Below.drew | (with_reducible refine Below.alloc ?_ (by first | omega | (simp; omega) | simp) _) | (with_reducible refine Below.setCell ?_ (by first | omega | (simp; omega) | simp) _) | exact Below.refl _ _)) : Below w.heap.size w ((((w.alloc (.cells #[.int .i64 d, .int .i64 0] 36)).alloc (.cells #[.int .i64 d', .int .i64 0] 36)).alloc (.cells #[.int .i64 0, .int .i64 0] 36)).alloc (.cells #[.int .i64 d, .int .i64 0, .int .i64 d', .int .i64 0] 36))).trans (hb1.mono (by first | (simp; done) | (simp; omega))); have x0 : w1.cell? ⟨w.heap.size, 0, none⟩ = some (.int .i64 d) := Ba.cell 0; have x1 : w1.cell? ⟨w.heap.size, 1, none⟩ = some (.int .i64 0) := Ba.cell 1; have y0 : w1.cell? ⟨w.heap.size + 1, 0, none⟩ = some (.int .i64 d') := Bb.cell 0; have y1 : w1.cell? ⟨w.heap.size + 1, 1, none⟩ = some (.int .i64 0) := Bb.cell 1)
  clear hb1 HC hO
  refine (HR _).out.mono ?_; rintro e w2 ⟨rfl, hb2⟩
  have Bg2 := Bg.below hb2 Bg.lt
  have hB2 := hB1.trans (hb2.mono hB1.size)
  go_wp2_with fail
  refine (HL _).out.mono ?_; rintro e w3 ⟨rfl, hb3⟩
  have Bg3 := Bg2.below hb3 Bg2.lt
  have hB3 := hB2.trans (hb3.mono hB2.size)
  have c0 : w3.cell? ⟨w.heap.size + 1 + 1, 0, none⟩ = some (.int .i64 0) := Bg3.cell 0
  have c1 : w3.cell? ⟨w.heap.size + 1 + 1, 1, none⟩ = some (.int .i64 0) := Bg3.cell 1
  have f0 : w3.frozen? ⟨w.heap.size + 1 + 1, 0, none⟩ = false := Bg3.frozen 0
  have f1 : w3.frozen? ⟨w.heap.size + 1 + 1, 1, none⟩ = false := Bg3.frozen 1
  have z := Bg3.lt
  have hB3s := hB3.size
  clear x0 x1 y0 y1
  go_wp2_with fail
  refine bodyPost_ret (v := .tuple #[.agg #[.int .i64 x, .int .i64 t], .int .i64 0]) (by simp [results, Try.results52, go_sem, c0, c1]) rfl ⟨⟨t, rfl⟩, (by repeat (first | with_reducible exact hB3 | with_reducible apply below_drewN' | with_reducible apply Below.drew | (with_reducible refine Below.alloc ?_ (by first | omega | (simp; omega) | simp) _) | (with_reducible refine Below.setCell ?_ (by first | omega | (simp; omega) | simp) _) | exact hB3))⟩
end Go.Proofs.Ytcpnmeebbbeakaa
