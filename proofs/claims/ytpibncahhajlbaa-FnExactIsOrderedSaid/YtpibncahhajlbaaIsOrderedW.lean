/- The law on IsOrdered, walked. -/
import Derived.Test.YtpibncahhajlbaaOrdered
namespace Go.Proofs.Ytpibncahhajlbaa
open Go.RowKit
set_option maxRecDepth 100000 in
theorem lawIsOrdered_c (scale : Int) (A : Option Addr) (c : Nat) (l : List Tick) (w : World) (hl : l.length ≤ 140737488351232) (hs : Sl w w.heap.size 3 A (l.map Tick.cells)) :
    Calls Try.prog 9 #[.int .i64 scale, .slice A l.length c] w fun e w' => e = .returned (.bool true) ∧ Below w.heap.size w w' := by
  have hsz := szTickS_c A l.length c 1048576 w hl (by omega)
  by_cases hbig : (1048576 : Int) < l.length
  · rw [if_pos hbig] at hsz
    have H := Lib.hid hsz; clear hsz hs
    go_enter Try.func9, Try.ntmps9
    go_wp2_with (go_at_call 31; refine H.out.mono ?_; rintro e w1 ⟨rfl, rfl⟩)
    go_ret
    exact ⟨rfl, Below.refl _ _⟩
  · rw [if_neg hbig] at hsz
    have H := Lib.hid hsz; clear hsz
    have hlen : l.length ≤ 1048576 := by omega
    go_enter Try.func9, Try.ntmps9
    go_wp2_with (go_at_call 31; refine H.out.mono ?_; rintro e w1 ⟨rfl, rfl⟩)
    refine (toTickS_c A c l w hlen hs).mono ?_; rintro e w1 ⟨A1, c1, rfl, hO1, hb1⟩
    go_wp2_with fail
    refine (specIsOrdered_c scale A1 c1 l w1 hl hO1.sl).mono ?_; rintro e w2 ⟨rfl, hb2⟩
    have hB2 := hb1.trans (hb2.mono hb1.size)
    go_wp2_with fail
    refine (toTickS_c A c l w2 hlen ((hs.below hB2).more hB2.size)).mono ?_; rintro e w3 ⟨A3, c3, rfl, hO3, hb3⟩
    have hB3 := hB2.trans (hb3.mono hB2.size)
    go_wp2_with fail
    refine (implIsOrdered_c scale A3 c3 l w3 hl hO3.sl).mono ?_; rintro e w4 ⟨rfl, hb4⟩
    have hB4 := hB3.trans (hb4.mono hB3.size)
    have hO4 := hO3.below hb4
    go_wp2_with fail
    refine (toTickS_c A c l w4 hlen ((hs.below hB4).more hB4.size)).mono ?_; rintro e w5 ⟨A5, c5, rfl, hO5, hb5⟩
    have hB5 := hB4.trans (hb5.mono hB4.size)
    have hO6 := hO4.below hb5
    go_wp2_with fail
    refine (eqTickS_c A3 A5 c3 c5 l w5 hl hO6.sl hO5.sl).mono ?_; rintro e w6 ⟨rfl, hb6⟩
    go_wp2
    go_ret
    exact ⟨rfl, hB5.trans (hb6.mono hB5.size)⟩
end Go.Proofs.Ytpibncahhajlbaa
