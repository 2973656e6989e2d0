/- The law on ResumeTime, walked. -/
import Derived.Test.YtpibncahhajlbaaRest
namespace Go.Proofs.Ytpibncahhajlbaa
open Go.RowKit
set_option maxRecDepth 100000 in
theorem lawResumeTime_c (done : Int) (A : Option Addr) (c : Nat) (l : List Stroke) (w : World) (hl : l.length ≤ 140737488351232) (hs : Sl w w.heap.size 3 A (l.map Stroke.cells)) :
    Calls Try.prog 12 #[.slice A l.length c, .int .i64 done] w fun e w' => e = .returned (.bool true) ∧ Below w.heap.size w w' := by
  have hsz := szStrokeS_c A l.length c 1048576 w hl (by omega)
  by_cases hbig : (1048576 : Int) < l.length
  · rw [if_pos hbig] at hsz
    have H := Lib.hid hsz; clear hsz hs
    go_enter Try.func12, Try.ntmps12
    go_wp2_with (go_at_call 19; refine H.out.mono ?_; rintro e w1 ⟨rfl, rfl⟩)
    go_ret
    exact ⟨rfl, Below.refl _ _⟩
  · rw [if_neg hbig] at hsz
    have H := Lib.hid hsz; clear hsz
    have hlen : l.length ≤ 1048576 := by omega
    go_enter Try.func12, Try.ntmps12
    go_wp2_with (go_at_call 19; refine H.out.mono ?_; rintro e w1 ⟨rfl, rfl⟩)
    refine (toStrokeS_c A c l w hlen hs).mono ?_; rintro e w1 ⟨A1, c1, rfl, hO1, hb1⟩
    go_wp2_with fail
    refine (specResumeTime_c A1 c1 l done w1 hlen hO1.le_cap hO1.sl).mono ?_; rintro e w2 ⟨rfl, hb2⟩
    have hB2 := hb1.trans (hb2.mono hb1.size)
    go_wp2_with fail
    refine (toStrokeS_c A c l w2 hlen ((hs.below hB2).more hB2.size)).mono ?_; rintro e w3 ⟨A3, c3, rfl, hO3, hb3⟩
    have hB3 := hB2.trans (hb3.mono hB2.size)
    go_wp2_with fail
    refine (implResumeTime_c A3 c3 l done w3 hlen hO3.le_cap hO3.sl).mono ?_; rintro e w4 ⟨rfl, hb4⟩
    have hB4 := hB3.trans (hb4.mono hB3.size)
    have hO4 := hO3.below hb4
    go_wp2_with fail
    refine (toStrokeS_c A c l w4 hlen ((hs.below hB4).more hB4.size)).mono ?_; rintro e w5 ⟨A5, c5, rfl, hO5, hb5⟩
    have hB5 := hB4.trans (hb5.mono hB4.size)
    have hO6 := hO4.below hb5
    go_wp2_with fail
    refine (eqStrokeS_c A3 A5 c3 c5 l w5 hl hO6.sl hO5.sl).mono ?_; rintro e w6 ⟨rfl, hb6⟩
    go_wp2
    go_ret
    exact ⟨rfl, hB5.trans (hb6.mono hB5.size)⟩
end Go.Proofs.Ytpibncahhajlbaa
