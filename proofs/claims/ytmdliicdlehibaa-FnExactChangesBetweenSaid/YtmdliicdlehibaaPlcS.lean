/- Places on a chart's scales: the reference's parts. Conditions: the chart's and the figure's bounds. -/
import Derived.Test.YtmdliicdlehibaaPnt
namespace Go.Proofs.Ytmdliicdlehibaa
open Go.RowKit
theorem l22Place_c (n : Int) (w : World) : Calls Try.prog 100 #[.int .i64 n] w fun e w' => e = .returned (.bool (inB n (-100000) 100000)) ∧ w = w' := by
  go_enter Try.func100, Try.ntmps100
  go_wp2_with (go_at_call 52; refine (l01In_c _ _ _ _).mono ?_; rintro e w' ⟨rfl, rfl⟩)
  go_ret
  exact ⟨rfl, rfl⟩
set_option maxRecDepth 100000 in
set_option maxHeartbeats 4000000 in
theorem l23Log_c (fd ft : Int) (s : ByteArray) (A : Option Addr) (n c : Nat) (wd lf rt k : Int) (f : Figure) (w : World) (hk : k = 0 ∨ k = 1) (hf : (1000 ≤ f.digits ∧ f.digits ≤ 9999) ∧ (-30 ≤ f.tens ∧ f.tens ≤ 30)) :
    Calls Try.prog 99 #[.agg #[.int .i64 fd, .int .i64 ft, .string s, .slice A n c, .int .i64 wd, .int .i64 lf, .int .i64 rt], .int .i64 k, f.agg] w fun e w' => e = .returned (.agg #[.int .i64 (figLo f.digits f.tens), .int .i64 (figHi f.digits f.tens)]) ∧ Below w.heap.size w w' := by
  have HL := fun W => l03Figure_c f W hf.1 hf.2
  have e1 : logLow (f.digits * 100000) + f.tens * 1048576 = figLo f.digits f.tens := rfl
  have e2 : logHigh (f.digits * 100000) + f.tens * 1048576 = figHi f.digits f.tens := rfl
  simp only [e1, e2] at HL
  generalize figLo f.digits f.tens = lo at *
  generalize figHi f.digits f.tens = hi at *
  clear e1 e2 hf
  unfold Figure.agg at HL ⊢
  replace HL := fun W => Lib.hid (HL W)
  have hW : Below w.heap.size w (((w.alloc (.cells #[.int .i64 fd, .int .i64 ft, .string s, .slice A n c, .int .i64 wd, .int .i64 lf, .int .i64 rt] 38)).alloc (.cells #[.int .i64 f.digits, .int .i64 f.tens] 34)).alloc (.cells #[.int .i64 0, .int .i64 0] 122)) := (by repeat (first | with_reducible exact Below.refl _ _ | with_reducible apply below_drewN' | with_reducible apply Below.drew | (with_reducible refine Below.alloc ?_ (by first | omega | (simp; omega) | simp | (have := (Below.refl _ _).size; omega) | (have := (Below.refl _ _).size; simp; omega)) _) | (with_reducible refine Below.setCell ?_ (by first | omega | (simp; omega) | simp | (have := (Below.refl _ _).size; omega) | (have := (Below.refl _ _).size; simp; omega)) _) | exact Below.refl _ _))
  have B2 := Blk.new' ((w.alloc (.cells #[.int .i64 fd, .int .i64 ft, .string s, .slice A n c, .int .i64 wd, .int .i64 lf, .int .i64 rt] 38)).alloc (.cells #[.int .i64 f.digits, .int .i64 f.tens] 34)) 122 #[.int .i64 0, .int .i64 0] (g := w.heap.size + 1 + 1) (by simp)
  rcases hk with rfl | rfl
  all_goals
    go_enter Try.func99, Try.ntmps99
    go_wp2_with fail
    refine Calls.mono (HL _).out ?_; rintro e w1 ⟨rfl, hb1⟩
    have hW1 := hW.trans (hb1.mono hW.size)
    have D2 := B2.below hb1 B2.lt
    have r0 : w1.cell? ⟨w.heap.size + 1 + 1, 0, none⟩ = some (.int .i64 0) := D2.cell 0
    have r1 : w1.cell? ⟨w.heap.size + 1 + 1, 1, none⟩ = some (.int .i64 0) := D2.cell 1
    have rf0 : w1.frozen? ⟨w.heap.size + 1 + 1, 0, none⟩ = false := D2.frozen 0
    have rf1 : w1.frozen? ⟨w.heap.size + 1 + 1, 1, none⟩ = false := D2.frozen 1
    go_wp2_with fail
    refine bodyPost_ret (v := .agg #[.int .i64 lo, .int .i64 hi]) (by simp [results, Try.results99, go_sem, r0, r1]) rfl ⟨rfl, (by repeat (first | with_reducible exact hW1 | with_reducible apply below_drewN' | with_reducible apply Below.drew | (with_reducible refine Below.alloc ?_ (by first | omega | (simp; omega) | simp | (have := (hW1).size; omega) | (have := (hW1).size; simp; omega)) _) | (with_reducible refine Below.setCell ?_ (by first | omega | (simp; omega) | simp | (have := (hW1).size; omega) | (have := (hW1).size; simp; omega)) _) | exact hW1))⟩
set_option maxRecDepth 100000 in
set_option maxHeartbeats 4000000 in
theorem l23Modulus_c (fd ft : Int) (s : ByteArray) (b off c : Nat) (p0 p1 wd lf rt k : Int) (w : World) (hk : k = 0 ∨ k = 1) (hb : b < w.heap.size) (c0 : w.cell? ⟨b, off, none⟩ = some (.int .i64 p0)) (c1 : w.cell? ⟨b, off + 1, none⟩ = some (.int .i64 p1))
    (hp0 : -6 ≤ p0 ∧ p0 ≤ 6) (hp1 : -6 ≤ p1 ∧ p1 ≤ 6) (hlf : 100 ≤ lf ∧ lf ≤ 20000) (hrt : 100 ≤ rt ∧ rt ≤ 20000) :
    Calls Try.prog 106 #[.agg #[.int .i64 fd, .int .i64 ft, .string s, .slice (some ⟨b, off, none⟩) 2 c, .int .i64 wd, .int .i64 lf, .int .i64 rt], .int .i64 k] w fun e w' => e = .returned (.tuple #[.int .i64 (if k = 0 then lf * p0 else rt * p1), .int .i64 1]) ∧ Below w.heap.size w w' := by
  have q0 : -120000 ≤ lf * p0 ∧ lf * p0 ≤ 120000 := mul_abs (a := lf) (b := p0) (A := 20000) (B := 6) (by omega) (by omega)
  have q1 : -120000 ≤ rt * p1 ∧ rt * p1 ≤ 120000 := mul_abs (a := rt) (b := p1) (A := 20000) (B := 6) (by omega) (by omega)
  have hW : Below w.heap.size w (w.alloc (.cells #[.int .i64 fd, .int .i64 ft, .string s, .slice (some ⟨b, off, none⟩) 2 c, .int .i64 wd, .int .i64 lf, .int .i64 rt] 38)) := (by repeat (first | with_reducible exact Below.refl _ _ | with_reducible apply below_drewN' | with_reducible apply Below.drew | (with_reducible refine Below.alloc ?_ (by first | omega | (simp; omega) | simp | (have := (Below.refl _ _).size; omega) | (have := (Below.refl _ _).size; simp; omega)) _) | (with_reducible refine Below.setCell ?_ (by first | omega | (simp; omega) | simp | (have := (Below.refl _ _).size; omega) | (have := (Below.refl _ _).size; simp; omega)) _) | exact Below.refl _ _))
  have B0 := Blk.new w 38 #[.int .i64 fd, .int .i64 ft, .string s, .slice (some ⟨b, off, none⟩) 2 c, .int .i64 wd, .int .i64 lf, .int .i64 rt]
  have x0 : (w.alloc (.cells #[.int .i64 fd, .int .i64 ft, .string s, .slice (some ⟨b, off, none⟩) 2 c, .int .i64 wd, .int .i64 lf, .int .i64 rt] 38)).cell? ⟨b, off, none⟩ = some (.int .i64 p0) := by rw [hW.cell hb]; exact c0
  have x1 : (w.alloc (.cells #[.int .i64 fd, .int .i64 ft, .string s, .slice (some ⟨b, off, none⟩) 2 c, .int .i64 wd, .int .i64 lf, .int .i64 rt] 38)).cell? ⟨b, off + 1, none⟩ = some (.int .i64 p1) := by rw [hW.cell hb]; exact c1
  rcases hk with rfl | rfl
  all_goals
    simp only [if_pos, reduceIte, Int.reduceEq]
    go_enter Try.func106, Try.ntmps106
    go_wp2_with fail
    generalize w.alloc (.cells #[.int .i64 fd, .int .i64 ft, .string s, .slice (some ⟨b, off, none⟩) 2 c, .int .i64 wd, .int .i64 lf, .int .i64 rt] 38) = W at *
    have y3 : W.cell? ⟨w.heap.size, 3, none⟩ = some (.slice (some ⟨b, off, none⟩) 2 c) := B0.cell 3
    have y5 : W.cell? ⟨w.heap.size, 5, none⟩ = some (.int .i64 lf) := B0.cell 5
    have y6 : W.cell? ⟨w.heap.size, 6, none⟩ = some (.int .i64 rt) := B0.cell 6
    go_quiet (fail)
    go_wp2_with fail
    first
      | refine bodyPost_ret (v := .tuple #[.int .i64 (lf * p0), .int .i64 1]) (by simp [results, Try.results106, go_sem]; done) rfl ⟨rfl, (by repeat (first | with_reducible exact hW | with_reducible apply below_drewN' | with_reducible apply Below.drew | (with_reducible refine Below.alloc ?_ (by first | omega | (simp; omega) | simp | (have := (hW).size; omega) | (have := (hW).size; simp; omega)) _) | (with_reducible refine Below.setCell ?_ (by first | omega | (simp; omega) | simp | (have := (hW).size; omega) | (have := (hW).size; simp; omega)) _) | exact hW))⟩
      | refine bodyPost_ret (v := .tuple #[.int .i64 (rt * p1), .int .i64 1]) (by simp [results, Try.results106, go_sem]; done) rfl ⟨rfl, (by repeat (first | with_reducible exact hW | with_reducible apply below_drewN' | with_reducible apply Below.drew | (with_reducible refine Below.alloc ?_ (by first | omega | (simp; omega) | simp | (have := (hW).size; omega) | (have := (hW).size; simp; omega)) _) | (with_reducible refine Below.setCell ?_ (by first | omega | (simp; omega) | simp | (have := (hW).size; omega) | (have := (hW).size; simp; omega)) _) | exact hW))⟩
end Go.Proofs.Ytmdliicdlehibaa
