/- The place of a mark, and by how much a place differs from it. No condition beyond bounds. -/
import Derived.Test.YtkjommcmeinkaaaGreatKRw13
set_option linter.unusedSimpArgs false
namespace Go.Proofs.YtkjommcmeinkaaaGreat
open Go.RowKit
theorem div_bd1048576 {x : Int} (h : -1099511627776 ≤ x ∧ x ≤ 1099511627776) {d : Int} (hd : d = 2 ∨ d = 3 ∨ d = 9000) : -1099511627776 ≤ x / d ∧ x / d ≤ 1099511627776 := by
  rcases hd with rfl | rfl | rfl <;> omega
theorem posOf_bd (s m : Int) (hm : 1000 ≤ m ∧ m ≤ 9999) : (-1099511627776 ≤ (posOf s m).1 ∧ (posOf s m).1 ≤ 1099511627776) ∧ (-1099511627776 ≤ (posOf s m).2 ∧ (posOf s m).2 ≤ 1099511627776) := by
  have hx : 100000000 ≤ m * 100000 ∧ m * 100000 ≤ 1000000000 := by omega
  have h1 := logLow_bd hx
  have h2 := logHigh_bd hx
  have h3 := logLow_bd (x := 314200000) (by omega)
  have h4 := logHigh_bd (x := 314200000) (by omega)
  unfold posOf
  simp only
  generalize logLow (m * 100000) = lo at *
  generalize logHigh (m * 100000) = hi at *
  generalize logLow 314200000 = plo at *
  generalize logHigh 314200000 = phi at *
  split
  · simp only; omega
  · split
    · simp only; omega
    · split
      · simp only; omega
      · split
        · split <;> (simp only; omega)
        · split <;> (simp only; omega)
def plOf (s m n : Int) : Int × Int := ((posOf s m).1 * n / 1048576, -(-((posOf s m).2 * n) / 1048576))
set_option maxRecDepth 100000 in
set_option maxHeartbeats 1000000 in
theorem place_c (s m n : Int) (w : World) (hs : 0 ≤ s ∧ s ≤ 5) (hm : 1000 ≤ m ∧ m ≤ 9999) (hn : 1 ≤ n ∧ n ≤ 100000) :
    Calls Tryz.prog 67 #[.int .i64 s, .agg #[.int .i64 m, .int .i64 0], .int .i64 n] w fun e w' => e = .returned (.agg #[.int .i64 (plOf s m n).1, .int .i64 (plOf s m n).2]) ∧ Below w.heap.size w w' := by
  have HP := fun W => Lib.hid (position_c s m W hs hm)
  obtain ⟨⟨p1, p2⟩, p3, p4⟩ := posOf_bd s m hm
  unfold plOf
  generalize posOf s m = ps at *
  obtain ⟨lo, hi⟩ := ps
  simp only at *
  obtain ⟨n1, n2⟩ := hn
  have m1 : -109951162777600000 ≤ lo * n ∧ lo * n ≤ 109951162777600000 := by
    constructor
    · have := Int.mul_le_mul_of_nonneg_right p1 (show 0 ≤ n by omega)
      omega
    · have := Int.mul_le_mul_of_nonneg_right p2 (show 0 ≤ n by omega)
      omega
  have m2 : -109951162777600000 ≤ hi * n ∧ hi * n ≤ 109951162777600000 := by
    constructor
    · have := Int.mul_le_mul_of_nonneg_right p3 (show 0 ≤ n by omega)
      omega
    · have := Int.mul_le_mul_of_nonneg_right p4 (show 0 ≤ n by omega)
      omega
  have HD := fun W => Lib.hid (down_c (lo * n) 1048576 W (by omega) (by omega))
  have HU := fun W => Lib.hid (up_c (hi * n) 1048576 W (by omega) (by omega))
  have s1 : IntKind.i64.wrap (lo * n) = lo * n := IntWalk.i64_in _ (by omega)
  have s2 : IntKind.i64.wrap (hi * n) = hi * n := IntWalk.i64_in _ (by omega)
  clear m1 m2
  generalize lo * n / 1048576 = x at *
  generalize -(-(hi * n) / 1048576) = y at *
  go_enter Tryz.func67, Tryz.ntmps67
  go_wp2_with (first | (go_at_call 84; refine (HP _).out.mono ?_; rintro e w1 ⟨rfl, hb1⟩))
  have Bg := (Blk.new' (w.alloc (.cells #[.int .i64 m, .int .i64 0] 87)) 84 #[.int .i64 0, .int .i64 0] (g := w.heap.size + 1) (by simp)).below hb1 (by simp)
  have hB1 : Below w.heap.size w w1 := ((Below.alloc (Below.alloc (Below.refl _ _) (Nat.le_refl _) _) (by simp) _ : Below w.heap.size w ((w.alloc (.cells #[.int .i64 m, .int .i64 0] 87)).alloc (.cells #[.int .i64 0, .int .i64 0] 84)))).trans (hb1.mono (by first | (simp; done) | (simp; omega)))
  have hB1s := hB1.size
  have Ba := Blk.new w1 84 #[.int .i64 lo, .int .i64 hi]
  have zg := Bg.lt
  have Bg' := Bg.alloc (.cells #[.int .i64 lo, .int .i64 hi] 84)
  have hB3 := hB1.alloc hB1s (.cells #[.int .i64 lo, .int .i64 hi] 84)
  generalize w1.alloc (.cells #[.int .i64 lo, .int .i64 hi] 84) = W3 at *
  have c0 : W3.cell? ⟨w.heap.size + 1, 0, none⟩ = some (.int .i64 0) := Bg'.cell 0
  have c1 : W3.cell? ⟨w.heap.size + 1, 1, none⟩ = some (.int .i64 0) := Bg'.cell 1
  have f0 : W3.frozen? ⟨w.heap.size + 1, 0, none⟩ = false := Bg'.frozen 0
  have f1 : W3.frozen? ⟨w.heap.size + 1, 1, none⟩ = false := Bg'.frozen 1
  have c0' : W3.drew.cell? ⟨w.heap.size + 1, 0, none⟩ = some (.int .i64 0) := Bg'.cell 0
  have c1' : W3.drew.cell? ⟨w.heap.size + 1, 1, none⟩ = some (.int .i64 0) := Bg'.cell 1
  have f0' : W3.drew.frozen? ⟨w.heap.size + 1, 0, none⟩ = false := Bg'.frozen 0
  have f1' : W3.drew.frozen? ⟨w.heap.size + 1, 1, none⟩ = false := Bg'.frozen 1
  have hI : (fun w' => Blk w' w1.heap.size 84 #[.int .i64 lo, .int .i64 hi] ∧ Below w.heap.size w w' ∧ w'.cell? ⟨w1.heap.size, 0, none⟩ = some (.int .i64 lo) ∧ w'.cell? ⟨w1.heap.size, 1, none⟩ = some (.int .i64 hi)) W3.drew := ⟨Ba.drewN 1, hB3.drew, Ba.cell 0, Ba.cell 1⟩
  have hS : ∀ u v, (fun w' => Blk w' w1.heap.size 84 #[.int .i64 lo, .int .i64 hi] ∧ Below w.heap.size w w' ∧ w'.cell? ⟨w1.heap.size, 0, none⟩ = some (.int .i64 lo) ∧ w'.cell? ⟨w1.heap.size, 1, none⟩ = some (.int .i64 hi)) ((W3.drew.setCell ⟨w.heap.size + 1, 0, none⟩ u).setCell ⟨w.heap.size + 1, 1, none⟩ v) := fun u v =>
    have hb := (hI.1.far (p := ⟨w.heap.size + 1, 0, none⟩) (by simp only; omega) u).far (p := ⟨w.heap.size + 1, 1, none⟩) (by simp only; omega) v
    ⟨hb, (hI.2.1.setCell (p := ⟨w.heap.size + 1, 0, none⟩) (by simp only; omega) u).setCell (p := ⟨w.heap.size + 1, 1, none⟩) (by simp only; omega) v, hb.cell 0, hb.cell 1⟩
  clear Ba Bg Bg' hb1
  go_region_held3 (fun w' => Blk w' w1.heap.size 84 #[.int .i64 lo, .int .i64 hi] ∧ Below w.heap.size w w' ∧ w'.cell? ⟨w1.heap.size, 0, none⟩ = some (.int .i64 lo) ∧ w'.cell? ⟨w1.heap.size, 1, none⟩ = some (.int .i64 hi))
    (first | exact hI | assumption | exact hS _ _ | fail)
    (first | (go_at_call 85; refine (HD _).out.mono ?_; rintro e w5 ⟨rfl, rfl⟩) | (go_at_call 86; refine (HU _).out.mono ?_; rintro e w5 ⟨rfl, rfl⟩))
  have hB := (show Blk _ w1.heap.size _ _ ∧ Below w.heap.size w _ ∧ _ by assumption).2.1
  go_wp2_with fail
  refine bodyPost_ret (v := .agg #[.int .i64 x, .int .i64 y]) (by simp [results, Tryz.results67, go_sem, c0, c1]) rfl ⟨rfl, (by repeat (first | with_reducible exact hB | with_reducible apply below_drewN' | with_reducible apply Below.drew | (with_reducible refine Below.alloc ?_ (by first | omega | (simp; omega) | simp | (have := (hB).size; omega) | (have := (hB).size; simp; omega)) _) | (with_reducible refine Below.setCell ?_ (by first | omega | (simp; omega) | simp | (have := (hB).size; omega) | (have := (hB).size; simp; omega)) _) | exact hB))⟩
def away (s n m at_ : Int) : Int := if at_ < (plOf s m n).1 then at_ - (plOf s m n).1 else if (plOf s m n).2 < at_ then at_ - (plOf s m n).2 else 0
end Go.Proofs.YtkjommcmeinkaaaGreat
