/- FnExactProgramText: the walk. Conditions: what an argument always is; what the library's table holds. -/
import Derived.Test.YtkkgomldahjocaaDoorStrT3
import Derived.Test.YtkkgomldahjocaaDoorStroke
namespace Go.Proofs.YtkkgomldahjocaaDoor
open Go.RowKit
set_option linter.unusedSimpArgs false
set_option maxRecDepth 100000 in
theorem lawProgramText_c (A : Option Addr) (c : Nat) (l : List Stroke) (w : World) (hl : l.length ≤ 140737488351232) (hs : Sl w w.heap.size 3 A (l.map Stroke.cells)) (hT : LwT w) :
    Calls Tryd.prog 3 #[.slice A l.length c] w fun e w' => e = .returned (.bool true) ∧ Below w.heap.size w w' := by
  have hsz := szStrokeS_c A l.length c 1048576 w hl (by omega)
  by_cases hbig : (1048576 : Int) < l.length
  · rw [if_pos hbig] at hsz
    have H := Lib.hid hsz; clear hsz hs
    go_enter Tryd.func3, Tryd.ntmps3
    go_wp2_with (go_at_call 6; refine H.out.mono ?_; rintro e w1 ⟨rfl, rfl⟩)
    go_ret
    exact ⟨rfl, Below.refl _ _⟩
  · rw [if_neg hbig] at hsz
    have H := Lib.hid hsz; clear hsz
    have hlen : l.length ≤ 1048576 := by omega
    have HS := Lib.hid (fun A1 c1 W hO => specProgramText_c A1 c1 l W hl hO)
    have HI := Lib.hid (fun A1 c1 W hO hT => implProgramText_c A1 c1 l W hl hO hT)
    have HT : Hid (∀ W, Below w.heap.size w W → LwT W) := Lib.hid (fun W h => hT.below h)
    generalize bs (progR l) = R at *
    generalize strokesCode l = cd at *
    clear hT
    go_enter Tryd.func3, Tryd.ntmps3
    go_wp2_with (go_at_call 6; refine H.out.mono ?_; rintro e w1 ⟨rfl, rfl⟩)
    refine (toStrokeS_c A c l w hlen hs).mono ?_; rintro e w1 ⟨A1, c1, rfl, hO1, hb1⟩
    go_wp2_with fail
    refine Calls.mono (HS.out A1 c1 w1 hO1.sl) ?_; rintro e w2 ⟨rfl, hb2⟩
    have hB2 := hb1.trans (hb2.mono hb1.size)
    go_wp2_with fail
    refine (toStrokeS_c A c l w2 hlen ((hs.below hB2).more hB2.size)).mono ?_; rintro e w3 ⟨A3, c3, rfl, hO3, hb3⟩
    have hB3 := hB2.trans (hb3.mono hB2.size)
    go_wp2_with fail
    refine Calls.mono (HI.out A3 c3 w3 hO3.sl (HT.out w3 hB3)) ?_; rintro e w4 ⟨rfl, hb4⟩
    have hB4 := hB3.trans (hb4.mono hB3.size)
    have hO4 := hO3.below hb4
    have hRR : (R.toList == R.toList) = true := by simp
    go_wp2_with fail
    refine (toStrokeS_c A c l w4 hlen ((hs.below hB4).more hB4.size)).mono ?_; rintro e w5 ⟨A5, c5, rfl, hO5, hb5⟩
    have hB5 := hB4.trans (hb5.mono hB4.size)
    have hO6 := hO4.below hb5
    go_wp2_with fail
    refine (eqStrokeS_c A3 A5 c3 c5 l w5 hl hO6.sl hO5.sl).mono ?_; rintro e w6 ⟨rfl, hb6⟩
    go_wp2
    go_ret
    exact ⟨rfl, hB5.trans (hb6.mono hB5.size)⟩
end Go.Proofs.YtkkgomldahjocaaDoor
