/- Places on a chart's scales: the reference's scale. Conditions: the chart's bounds. -/
import Derived.Test.YtmdliicdlehibaaPlcS
namespace Go.Proofs.Ytmdliicdlehibaa
open Go.RowKit
set_option linter.unusedSimpArgs false
set_option maxRecDepth 100000 in
set_option maxHeartbeats 4000000 in
theorem l23Scale_c (fd ft : Int) (s : ByteArray) (b off c : Nat) (p0 p1 wd lf rt k lo hi : Int) (w : World) (hk : k = 0 ∨ k = 1) (hb : b < w.heap.size) (c0 : w.cell? ⟨b, off, none⟩ = some (.int .i64 p0)) (c1 : w.cell? ⟨b, off + 1, none⟩ = some (.int .i64 p1))
    (hp0 : -6 ≤ p0 ∧ p0 ≤ 6) (hp1 : -6 ≤ p1 ∧ p1 ≤ 6) (hlf : 100 ≤ lf ∧ lf ≤ 20000) (hrt : 100 ≤ rt ∧ rt ≤ 20000) (bd : (-33554432 ≤ lo ∧ lo ≤ 33554432) ∧ -33554432 ≤ hi ∧ hi ≤ 33554432) :
    Calls Try.prog 98 #[.agg #[.int .i64 fd, .int .i64 ft, .string s, .slice (some ⟨b, off, none⟩) 2 c, .int .i64 wd, .int .i64 lf, .int .i64 rt], .int .i64 k, .agg #[.int .i64 lo, .int .i64 hi]] w fun e w' => e = .returned (.agg #[.int .i64 (plLo (if k = 0 then lf * p0 else rt * p1) lo hi), .int .i64 (plHi (if k = 0 then lf * p0 else rt * p1) lo hi)]) ∧ Below w.heap.size w w' := by
  have q0 : -120000 ≤ lf * p0 ∧ lf * p0 ≤ 120000 := mul_abs (a := lf) (b := p0) (A := 20000) (B := 6) (by omega) (by omega)
  have q1 : -120000 ≤ rt * p1 ∧ rt * p1 ≤ 120000 := mul_abs (a := rt) (b := p1) (A := 20000) (B := 6) (by omega) (by omega)
  have hW : Below w.heap.size w (((w.alloc (.cells #[.int .i64 fd, .int .i64 ft, .string s, .slice (some ⟨b, off, none⟩) 2 c, .int .i64 wd, .int .i64 lf, .int .i64 rt] 38)).alloc (.cells #[.int .i64 lo, .int .i64 hi] 122)).alloc (.cells #[.int .i64 0, .int .i64 0] 122)) := (by repeat (first | with_reducible exact Below.refl _ _ | with_reducible apply below_drewN' | with_reducible apply Below.drew | (with_reducible refine Below.alloc ?_ (by first | omega | (simp; omega) | simp | (have := (Below.refl _ _).size; omega) | (have := (Below.refl _ _).size; simp; omega)) _) | (with_reducible refine Below.setCell ?_ (by first | omega | (simp; omega) | simp | (have := (Below.refl _ _).size; omega) | (have := (Below.refl _ _).size; simp; omega)) _) | exact Below.refl _ _))
  have HM := l23Modulus_c fd ft s b off c p0 p1 wd lf rt k _ hk (Nat.lt_of_lt_of_le hb hW.size) (by rw [hW.cell hb]; exact c0) (by rw [hW.cell hb]; exact c1) hp0 hp1 hlf hrt
  have qn : -120000 ≤ (if k = 0 then lf * p0 else rt * p1) ∧ (if k = 0 then lf * p0 else rt * p1) ≤ 120000 := by split <;> assumption
  generalize (if k = 0 then lf * p0 else rt * p1) = n at *
  have ml := mul_abs (A := 33554432) (B := 120000) bd.1 qn
  have mh := mul_abs (A := 33554432) (B := 120000) bd.2 qn
  simp only [Nat.reduceMul, Int.cast_ofNat_Int] at ml mh
  generalize hx1 : plLo n lo hi = X1
  generalize hx2 : plHi n lo hi = X2
  have hX : Hid (plLo n lo hi = X1 ∧ plHi n lo hi = X2) := ⟨hx1, hx2⟩
  clear hx1 hx2 qn q0 q1 bd
  unfold plLo plHi at hX
  replace HM := Lib.hid HM
  have B1 := (Blk.new' (w.alloc (.cells #[.int .i64 fd, .int .i64 ft, .string s, .slice (some ⟨b, off, none⟩) 2 c, .int .i64 wd, .int .i64 lf, .int .i64 rt] 38)) 122 #[.int .i64 lo, .int .i64 hi] (g := w.heap.size + 1) (by simp)).alloc (.cells #[.int .i64 0, .int .i64 0] 122)
  have B2 := Blk.new' ((w.alloc (.cells #[.int .i64 fd, .int .i64 ft, .string s, .slice (some ⟨b, off, none⟩) 2 c, .int .i64 wd, .int .i64 lf, .int .i64 rt] 38)).alloc (.cells #[.int .i64 lo, .int .i64 hi] 122)) 122 #[.int .i64 0, .int .i64 0] (g := w.heap.size + 1 + 1) (by simp)
  go_enter Try.func98, Try.ntmps98
  go_wp2_with fail
  refine Calls.mono HM.out ?_; rintro e w1 ⟨rfl, hb1⟩
  have hW1 := hW.trans (hb1.mono hW.size)
  have D1 := B1.below hb1 B1.lt
  have D2 := B2.below hb1 B2.lt
  have i0 : w1.cell? ⟨w.heap.size + 1, 0, none⟩ = some (.int .i64 lo) := D1.cell 0
  have i1 : w1.cell? ⟨w.heap.size + 1, 1, none⟩ = some (.int .i64 hi) := D1.cell 1
  clear B1 B2 HM hW hb1 c0 c1
  go_wp2_with fail
  go_quiet (fail)
  generalize lo * n = A at *
  generalize hi * n = B at *
  refine then_world (R := fun V => Blk V (w.heap.size + 1 + 1) 122 #[.int .i64 0, .int .i64 0] ∧ Below w.heap.size w V) ⟨D2, (by repeat (first | with_reducible exact hW1 | with_reducible apply below_drewN' | with_reducible apply Below.drew | (with_reducible refine Below.alloc ?_ (by first | omega | (simp; omega) | simp | (have := (hW1).size; omega) | (have := (hW1).size; simp; omega)) _) | (with_reducible refine Below.setCell ?_ (by first | omega | (simp; omega) | simp | (have := (hW1).size; omega) | (have := (hW1).size; simp; omega)) _) | exact hW1))⟩ (fun V hV => ?_)
  clear D1 D2 hW1 i0 i1
  obtain ⟨D2, hW2⟩ := hV
  have r0 : V.cell? ⟨w.heap.size + 1 + 1, 0, none⟩ = some (.int .i64 0) := D2.cell 0
  have r1 : V.cell? ⟨w.heap.size + 1 + 1, 1, none⟩ = some (.int .i64 0) := D2.cell 1
  have rf0 : V.frozen? ⟨w.heap.size + 1 + 1, 0, none⟩ = false := D2.frozen 0
  have rf1 : V.frozen? ⟨w.heap.size + 1 + 1, 1, none⟩ = false := D2.frozen 1
  rcases Int.lt_trichotomy B A with h | h | h
  · have h2 : ¬ A < B := by omega
    have em : min A B = B := by omega
    have eM : max A B = A := by omega
    have HD := fun W => Lib.hid (l01Floor_c B 1048576 W (by omega) (by omega))
    have HU := fun W => Lib.hid (l01Ceil_c A 1048576 W (by omega) (by omega))
    generalize ex : B / 1048576 = x at HD
    generalize ey : -(-A / 1048576) = y at HU
    clear ml mh
    go_wp2_with (first | (go_at_call 92; refine (HD _).out.mono ?_; rintro e w5 ⟨rfl, rfl⟩) | (go_at_call 107; refine (HU _).out.mono ?_; rintro e w5 ⟨rfl, rfl⟩))
    refine bodyPost_ret (v := .agg #[.int .i64 x, .int .i64 y]) (by simp [results, Try.results98, go_sem, r0, r1]) rfl ⟨?_, (by repeat (first | with_reducible exact hW2 | with_reducible apply below_drewN' | with_reducible apply Below.drew | (with_reducible refine Below.alloc ?_ (by first | omega | (simp; omega) | simp | (have := (hW2).size; omega) | (have := (hW2).size; simp; omega)) _) | (with_reducible refine Below.setCell ?_ (by first | omega | (simp; omega) | simp | (have := (hW2).size; omega) | (have := (hW2).size; simp; omega)) _) | exact hW2))⟩
    obtain ⟨u1, u2⟩ := hX.out
    rw [em, ex] at u1
    rw [eM, ey] at u2
    rw [← u1, ← u2]
  · subst h
    have em : min B B = B := by omega
    have eM : max B B = B := by omega
    have HD := fun W => Lib.hid (l01Floor_c B 1048576 W (by omega) (by omega))
    have HU := fun W => Lib.hid (l01Ceil_c B 1048576 W (by omega) (by omega))
    generalize ex : B / 1048576 = x at HD
    generalize ey : -(-B / 1048576) = y at HU
    clear ml mh
    go_wp2_with (first | (go_at_call 92; refine (HD _).out.mono ?_; rintro e w5 ⟨rfl, rfl⟩) | (go_at_call 107; refine (HU _).out.mono ?_; rintro e w5 ⟨rfl, rfl⟩))
    refine bodyPost_ret (v := .agg #[.int .i64 x, .int .i64 y]) (by simp [results, Try.results98, go_sem, r0, r1]) rfl ⟨?_, (by repeat (first | with_reducible exact hW2 | with_reducible apply below_drewN' | with_reducible apply Below.drew | (with_reducible refine Below.alloc ?_ (by first | omega | (simp; omega) | simp | (have := (hW2).size; omega) | (have := (hW2).size; simp; omega)) _) | (with_reducible refine Below.setCell ?_ (by first | omega | (simp; omega) | simp | (have := (hW2).size; omega) | (have := (hW2).size; simp; omega)) _) | exact hW2))⟩
    obtain ⟨u1, u2⟩ := hX.out
    rw [em, ex] at u1
    rw [eM, ey] at u2
    rw [← u1, ← u2]
  · have h2 : ¬ B < A := by omega
    have em : min A B = A := by omega
    have eM : max A B = B := by omega
    have HD := fun W => Lib.hid (l01Floor_c A 1048576 W (by omega) (by omega))
    have HU := fun W => Lib.hid (l01Ceil_c B 1048576 W (by omega) (by omega))
    generalize ex : A / 1048576 = x at HD
    generalize ey : -(-B / 1048576) = y at HU
    clear ml mh
    go_wp2_with (first | (go_at_call 92; refine (HD _).out.mono ?_; rintro e w5 ⟨rfl, rfl⟩) | (go_at_call 107; refine (HU _).out.mono ?_; rintro e w5 ⟨rfl, rfl⟩))
    refine bodyPost_ret (v := .agg #[.int .i64 x, .int .i64 y]) (by simp [results, Try.results98, go_sem, r0, r1]) rfl ⟨?_, (by repeat (first | with_reducible exact hW2 | with_reducible apply below_drewN' | with_reducible apply Below.drew | (with_reducible refine Below.alloc ?_ (by first | omega | (simp; omega) | simp | (have := (hW2).size; omega) | (have := (hW2).size; simp; omega)) _) | (with_reducible refine Below.setCell ?_ (by first | omega | (simp; omega) | simp | (have := (hW2).size; omega) | (have := (hW2).size; simp; omega)) _) | exact hW2))⟩
    obtain ⟨u1, u2⟩ := hX.out
    rw [em, ex] at u1
    rw [eM, ey] at u2
    rw [← u1, ← u2]
end Go.Proofs.Ytmdliicdlehibaa
