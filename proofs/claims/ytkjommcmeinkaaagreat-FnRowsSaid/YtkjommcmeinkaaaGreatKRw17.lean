/- PlaceDifference, the program's and the reference's, and the law on it, walked. No condition. -/
import Derived.Test.YtkjommcmeinkaaaGreatKRw14
import Derived.Test.YtkjommcmeinkaaaGreatKRw16
set_option linter.unusedSimpArgs false
namespace Go.Proofs.YtkjommcmeinkaaaGreat
open Go.RowKit
theorem plOf_bd (s m n : Int) (hm : 1000 ≤ m ∧ m ≤ 9999) (hn : 1 ≤ n ∧ n ≤ 100000) : (-1099511627776 ≤ (plOf s m n).1 ∧ (plOf s m n).1 ≤ 1099511627776) ∧ (-1099511627776 ≤ (plOf s m n).2 ∧ (plOf s m n).2 ≤ 1099511627776) := by
  obtain ⟨⟨p1, p2⟩, p3, p4⟩ := posOf_bd s m hm
  unfold plOf
  simp only
  generalize (posOf s m).1 = lo at *
  generalize (posOf s m).2 = hi at *
  have q1 := Int.mul_le_mul_of_nonneg_right p1 (show 0 ≤ n by omega)
  have q2 := Int.mul_le_mul_of_nonneg_right p2 (show 0 ≤ n by omega)
  have q3 := Int.mul_le_mul_of_nonneg_right p3 (show 0 ≤ n by omega)
  have q4 := Int.mul_le_mul_of_nonneg_right p4 (show 0 ≤ n by omega)
  generalize lo * n = x at *
  generalize hi * n = y at *
  omega
set_option maxRecDepth 100000 in
theorem placeDifference_c (s n m at_ : Int) (w : World) (hs : 0 ≤ s ∧ s ≤ 5) (hm : 1000 ≤ m ∧ m ≤ 9999) (hn : 1 ≤ n ∧ n ≤ 100000) (ha : 0 ≤ at_ ∧ at_ ≤ 100000) :
    Calls Tryz.prog 45 #[.int .i64 s, .int .i64 n, .int .i64 m, .int .i64 at_] w fun e w' => e = .returned (.int .i64 (away s n m at_)) ∧ Below w.heap.size w w' := by
  have HP := fun W => Lib.hid (place_c s m n W hs hm hn)
  obtain ⟨⟨p1, p2⟩, p3, p4⟩ := plOf_bd s m n hm hn
  have HR : Hid (away s n m at_ = if at_ < (plOf s m n).1 then at_ - (plOf s m n).1 else if (plOf s m n).2 < at_ then at_ - (plOf s m n).2 else 0) := rfl
  generalize plOf s m n = pl at *
  obtain ⟨lo, hi⟩ := pl
  simp only at *
  obtain ⟨a1, a2⟩ := ha
  by_cases h1 : at_ < lo
  · have HR' : Hid (away s n m at_ = at_ - lo) := by unfold Hid; rw [HR.out, if_pos h1]
    clear HR
    go_enter Tryz.func45, Tryz.ntmps45
    go_wp2_with (go_at_call 67; refine (HP _).out.mono ?_; rintro e w1 ⟨rfl, hb1⟩)
    go_ret
    have hz := hb1.size
    exact ⟨ret_int HR'.out.symm, (by repeat (first | with_reducible exact hb1 | with_reducible apply below_drewN' | with_reducible apply Below.drew | (with_reducible refine Below.alloc ?_ (by first | omega | (simp; omega) | simp | (have := (hb1).size; omega) | (have := (hb1).size; simp; omega)) _) | (with_reducible refine Below.setCell ?_ (by first | omega | (simp; omega) | simp | (have := (hb1).size; omega) | (have := (hb1).size; simp; omega)) _) | exact hb1))⟩
  · by_cases h2 : hi < at_
    · have HR' : Hid (away s n m at_ = at_ - hi) := by unfold Hid; rw [HR.out, if_neg h1, if_pos h2]
      clear HR
      go_enter Tryz.func45, Tryz.ntmps45
      go_wp2_with (go_at_call 67; refine (HP _).out.mono ?_; rintro e w1 ⟨rfl, hb1⟩)
      go_ret
      have hz := hb1.size
      exact ⟨ret_int HR'.out.symm, (by repeat (first | with_reducible exact hb1 | with_reducible apply below_drewN' | with_reducible apply Below.drew | (with_reducible refine Below.alloc ?_ (by first | omega | (simp; omega) | simp | (have := (hb1).size; omega) | (have := (hb1).size; simp; omega)) _) | (with_reducible refine Below.setCell ?_ (by first | omega | (simp; omega) | simp | (have := (hb1).size; omega) | (have := (hb1).size; simp; omega)) _) | exact hb1))⟩
    · have HR' : Hid (away s n m at_ = 0) := by unfold Hid; rw [HR.out, if_neg h1, if_neg h2]
      clear HR
      go_enter Tryz.func45, Tryz.ntmps45
      go_wp2_with (go_at_call 67; refine (HP _).out.mono ?_; rintro e w1 ⟨rfl, hb1⟩)
      go_ret
      have hz := hb1.size
      exact ⟨ret_int HR'.out.symm, (by repeat (first | with_reducible exact hb1 | with_reducible apply below_drewN' | with_reducible apply Below.drew | (with_reducible refine Below.alloc ?_ (by first | omega | (simp; omega) | simp | (have := (hb1).size; omega) | (have := (hb1).size; simp; omega)) _) | (with_reducible refine Below.setCell ?_ (by first | omega | (simp; omega) | simp | (have := (hb1).size; omega) | (have := (hb1).size; simp; omega)) _) | exact hb1))⟩
set_option maxRecDepth 100000 in
theorem l29Away_c (s n m at_ : Int) (w : World) (hs : 0 ≤ s ∧ s ≤ 5) (hm : 1000 ≤ m ∧ m ≤ 9999) (hn : 1 ≤ n ∧ n ≤ 100000) (ha : 0 ≤ at_ ∧ at_ ≤ 100000) :
    Calls Tryz.prog 53 #[.int .i64 s, .int .i64 n, .int .i64 m, .int .i64 at_] w fun e w' => e = .returned (.int .i64 (away s n m at_)) ∧ Below w.heap.size w w' := by
  obtain ⟨⟨b1, b2⟩, b3, b4⟩ := posOf_bd s m hm
  have HQ := fun W => Lib.hid (l05Position_c s m W hs hm)
  have HP := fun W => Lib.hid (l05Place_c (posOf s m).1 (posOf s m).2 n W ⟨b1, b2⟩ ⟨b3, b4⟩ hn)
  obtain ⟨⟨p1, p2⟩, p3, p4⟩ := plOf_bd s m n hm hn
  have HR : Hid (away s n m at_ = if at_ < (plOf s m n).1 then at_ - (plOf s m n).1 else if (plOf s m n).2 < at_ then at_ - (plOf s m n).2 else 0) := rfl
  unfold plOf at *
  simp only at *
  generalize (posOf s m).1 * n / 1048576 = lo at *
  generalize -(-((posOf s m).2 * n) / 1048576) = hi at *
  generalize posOf s m = ps at *
  clear b1 b2 b3 b4
  obtain ⟨a1, a2⟩ := ha
  by_cases h1 : at_ < lo
  · have HR' : Hid (away s n m at_ = at_ - lo) := by unfold Hid; rw [HR.out, if_pos h1]
    clear HR
    go_enter Tryz.func53, Tryz.ntmps53
    go_wp2_with (first | (go_at_call 69; refine (HQ _).out.mono ?_; rintro e w0 ⟨rfl, hb0⟩) | (go_at_call 68; refine (HP _).out.mono ?_; rintro e w1 ⟨rfl, hb1⟩; have hb1 := hb0.trans (hb1.mono hb0.size)))
    go_ret
    have hz := hb1.size
    exact ⟨ret_int HR'.out.symm, (by repeat (first | with_reducible exact hb1 | with_reducible apply below_drewN' | with_reducible apply Below.drew | (with_reducible refine Below.alloc ?_ (by first | omega | (simp; omega) | simp | (have := (hb1).size; omega) | (have := (hb1).size; simp; omega)) _) | (with_reducible refine Below.setCell ?_ (by first | omega | (simp; omega) | simp | (have := (hb1).size; omega) | (have := (hb1).size; simp; omega)) _) | exact hb1))⟩
  · by_cases h2 : hi < at_
    · have HR' : Hid (away s n m at_ = at_ - hi) := by unfold Hid; rw [HR.out, if_neg h1, if_pos h2]
      clear HR
      go_enter Tryz.func53, Tryz.ntmps53
      go_wp2_with (first | (go_at_call 69; refine (HQ _).out.mono ?_; rintro e w0 ⟨rfl, hb0⟩) | (go_at_call 68; refine (HP _).out.mono ?_; rintro e w1 ⟨rfl, hb1⟩; have hb1 := hb0.trans (hb1.mono hb0.size)))
      go_ret
      have hz := hb1.size
      exact ⟨ret_int HR'.out.symm, (by repeat (first | with_reducible exact hb1 | with_reducible apply below_drewN' | with_reducible apply Below.drew | (with_reducible refine Below.alloc ?_ (by first | omega | (simp; omega) | simp | (have := (hb1).size; omega) | (have := (hb1).size; simp; omega)) _) | (with_reducible refine Below.setCell ?_ (by first | omega | (simp; omega) | simp | (have := (hb1).size; omega) | (have := (hb1).size; simp; omega)) _) | exact hb1))⟩
    · have HR' : Hid (away s n m at_ = 0) := by unfold Hid; rw [HR.out, if_neg h1, if_neg h2]
      clear HR
      go_enter Tryz.func53, Tryz.ntmps53
      go_wp2_with (first | (go_at_call 69; refine (HQ _).out.mono ?_; rintro e w0 ⟨rfl, hb0⟩) | (go_at_call 68; refine (HP _).out.mono ?_; rintro e w1 ⟨rfl, hb1⟩; have hb1 := hb0.trans (hb1.mono hb0.size)))
      go_ret
      have hz := hb1.size
      exact ⟨ret_int HR'.out.symm, (by repeat (first | with_reducible exact hb1 | with_reducible apply below_drewN' | with_reducible apply Below.drew | (with_reducible refine Below.alloc ?_ (by first | omega | (simp; omega) | simp | (have := (hb1).size; omega) | (have := (hb1).size; simp; omega)) _) | (with_reducible refine Below.setCell ?_ (by first | omega | (simp; omega) | simp | (have := (hb1).size; omega) | (have := (hb1).size; simp; omega)) _) | exact hb1))⟩
theorem checkPrint_c (scale len : Int) (A : Option Addr) (c : Nat) (l : List Tick) (tol : Int) (w : World) (hl : l.length ≤ 140737488351232) (hs : Sl w w.heap.size 3 A (l.map Tick.cells)) :
    Calls Tryz.prog 23 #[.int .i64 scale, .int .i64 len, .slice A l.length c, .int .i64 tol] w fun e w' => e = .returned (.int .i64 (printCode scale len l tol)) ∧ Below w.heap.size w w' := by
  have H := Lib.hid (checkRow_c A c l w hl hs)
  clear hs
  by_cases h0 : rowCode l = 0
  · have H0 : Hid (printCode scale len l tol = (if inB scale 0 5 && inB len 1 100000 && inB tol 0 200 then 0 else 2)) := by unfold Hid printCode; rw [if_pos h0]
    rw [h0] at H
    clear h0
    cases h1 : inB scale 0 5 <;> cases h2 : inB len 1 100000 <;> cases h3 : inB tol 0 200
    all_goals
      go_enter Tryz.func23, Tryz.ntmps23
      go_wp2_with (first | (go_at_call 28; refine H.out.mono ?_; rintro e w1 ⟨rfl, hb1⟩) | (go_at_call 29; refine (implIsScale_c _ _).mono ?_; rintro e w' ⟨rfl, rfl⟩) | (go_at_call 46; refine (isLength_c _ _).mono ?_; rintro e w' ⟨rfl, rfl⟩) | (go_at_call 47; refine (within_c _ _ _ _).mono ?_; rintro e w' ⟨rfl, rfl⟩))
      go_ret
      exact ⟨ret_int (by rw [H0.out, h1, h2, h3]; rfl), hb1⟩
  · have H0 : Hid (printCode scale len l tol = rowCode l) := by unfold Hid printCode; rw [if_neg h0]
    have hne : (rowCode l != 0) = true := by simp [h0]
    have h0' := Lib.hid h0; clear h0
    go_enter Tryz.func23, Tryz.ntmps23
    go_wp2_with (first | (go_at_call 28; refine H.out.mono ?_; rintro e w1 ⟨rfl, hb1⟩))
    go_ret
    exact ⟨ret_int H0.out.symm, hb1⟩
end Go.Proofs.YtkjommcmeinkaaaGreat
