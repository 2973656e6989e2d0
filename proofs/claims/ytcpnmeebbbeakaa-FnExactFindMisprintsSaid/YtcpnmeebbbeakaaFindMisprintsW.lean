/- The law on FindMisprints, walked. -/
import Derived.Test.YtcpnmeebbbeakaaFind2
namespace Go.Proofs.Ytcpnmeebbbeakaa
open Go.RowKit
set_option maxRecDepth 100000 in
set_option maxHeartbeats 1000000 in
theorem lawFindMisprints_c (s : Int) (n : Int) (tol : Int) (A : Option Addr) (c : Nat) (l : List Tick) (w : World) (hl : l.length ≤ 140737488351232) (hs : Sl w w.heap.size 3 A (l.map Tick.cells)) :
    Calls Try.prog 12 #[.int .i64 s, .int .i64 n, .slice A l.length c, .int .i64 tol] w fun e w' => e = .returned (.bool true) ∧ Below w.heap.size w w' := by
  have hsz := szTickS_c A l.length c 1048576 w hl (by omega)
  by_cases hbig : (1048576 : Int) < l.length
  · rw [if_pos hbig] at hsz
    have H := Lib.hid hsz; clear hsz hs
    go_enter Try.func12, Try.ntmps12
    go_wp2_with (go_at_call 15; refine H.out.mono ?_; rintro e w1 ⟨rfl, rfl⟩)
    go_ret
    exact ⟨rfl, Below.refl _ _⟩
  · rw [if_neg hbig] at hsz
    have H := Lib.hid hsz; clear hsz
    have hlen : l.length ≤ 1048576 := by omega
    obtain ⟨R, code, hrl, hS, hI⟩ : ∃ (R : List Int) (code : Int), R.length ≤ 10000000 ∧
        (∀ (A1 : Option Addr) (c1 : Nat) (w1 : World), l.length ≤ c1 → Sl w1 w1.heap.size 3 A1 (l.map Tick.cells) → Calls Try.prog 68 #[.int .i64 s, .int .i64 n, .slice A1 l.length c1, .int .i64 tol] w1 (PostRows 2 1 R.length (R.map ic) code w1)) ∧
        (∀ (A1 : Option Addr) (c1 : Nat) (w1 : World), l.length ≤ c1 → Sl w1 w1.heap.size 3 A1 (l.map Tick.cells) → Calls Try.prog 69 #[.int .i64 s, .int .i64 n, .slice A1 l.length c1, .int .i64 tol] w1 (PostRows 2 1 R.length (R.map ic) code w1)) :=
      ⟨fmRes s n tol l, printCode s n l tol, (by have := fmRes_len s n tol l; omega), fun A1 c1 w1 hc hs => specFindMisprints_c s n tol A1 c1 l w1 (by omega) hs, fun A1 c1 w1 hc hs => implFindMisprints_c s n tol A1 c1 l w1 (by omega) hs⟩
    have hS := Lib.hid hS
    have hI := Lib.hid hI
    go_enter Try.func12, Try.ntmps12
    go_wp2_with (go_at_call 15; refine H.out.mono ?_; rintro e w1 ⟨rfl, rfl⟩)
    refine (toTickS_c A c l w hlen hs).mono ?_; rintro e w1 ⟨A1, c1, rfl, hO1, hb1⟩
    go_wp2_with fail
    refine (hS.out A1 c1 w1 hO1.le_cap hO1.sl).mono ?_; rintro e w2 ⟨Aw, cw, rfl, hOw, hb2⟩
    have hB2 := hb1.trans (hb2.mono hb1.size)
    have s12 := hb2.size
    go_wp2_with fail
    refine (toTickS_c A c l w2 hlen ((hs.below hB2).more hB2.size)).mono ?_; rintro e w3 ⟨A3, c3, rfl, hO3, hb3⟩
    have hB3 := hB2.trans (hb3.mono hB2.size)
    have hOw3 := hOw.below hb3
    have s23 := hb3.size
    go_wp2_with fail
    refine (hI.out A3 c3 w3 hO3.le_cap hO3.sl).mono ?_; rintro e w4 ⟨Ag, cg, rfl, hOg, hb4⟩
    have hB4 := hB3.trans (hb4.mono hB3.size)
    have hOw4 := hOw3.below hb4
    have hOx4 := hO3.below hb4
    have s34 := hb4.size
    go_wp2_with fail
    refine (eqInt64S_c Ag Aw cg cw R w4 (by omega) hOg.sl hOw4.sl).mono ?_; rintro e w5 ⟨rfl, hb5⟩
    have hB5 := hB4.trans (hb5.mono hB4.size)
    have hOw5 := hOw4.below hb5
    have hOx5 := hOx4.below hb5
    have hOg5 := hOg.below hb5
    have s45 := hb5.size
    go_wp2_with fail
    refine (toTickS_c A c l w5 hlen ((hs.below hB5).more hB5.size)).mono ?_; rintro e w6 ⟨A6, c6, rfl, hO6, hb6⟩
    have hB6 := hB5.trans (hb6.mono hB5.size)
    have hOw6 := hOw5.below hb6
    have hOx6 := hOx5.below hb6
    have hOg6 := hOg5.below hb6
    have s56 := hb6.size
    go_wp2_with fail
    refine (eqTickS_c A3 A6 c3 c6 l w6 hl hOx6.sl hO6.sl).mono ?_; rintro e w7 ⟨rfl, hb7⟩
    have hB7 := hB6.trans (hb7.mono hB6.size)
    have hOw7 := hOw6.below hb7
    have hOx7 := hOx6.below hb7
    have hOg7 := hOg6.below hb7
    have s67 := hb7.size
    have s01 := hb1.size
    go_wp2_with fail
    have hmk := markTickS_c A3 c3 w2.heap.size 1 (l.map Tick.cells) w7 (by omega) (by simp; omega) (by rw [List.length_map]; exact hOx7)
    rw [List.length_map] at hmk
    refine hmk.mono ?_; rintro e w8 ⟨rfl, hOx8, hg8⟩
    have hB8 := below_app hB7 hg8 hB7.size (fun g hg => Nat.le_trans hB2.size (hOx7.ownGe g hg))
    have hOw8 := hOw7.kept hg8 (own_apart hOw hOx7)
    have hOg8 := hOg7.kept hg8 (own_apart' hO3 hOg7)
    have s78 := hg8.size
    clear hmk
    go_wp2_with fail
    refine (eqInt64S_c Ag Aw cg cw R w8 (by omega) hOg8.sl hOw8.sl).mono ?_; rintro e w9 ⟨rfl, hb9⟩
    have hB9 := hB8.trans (hb9.mono hB8.size)
    have hOw9 := hOw8.below hb9
    have hOg9 := hOg8.below hb9
    have s89 := hb9.size
    go_wp2_with fail
    have hmk := markInt64S_c Ag cg w3.heap.size 1 (R.map ic) w9 (by omega) (by simp; omega) (by rw [List.length_map]; exact hOg9)
    rw [List.length_map] at hmk
    refine hmk.mono ?_; rintro e w10 ⟨rfl, hOg10, hg10⟩
    have hB10 := below_app hB9 hg10 hB9.size (fun g hg => Nat.le_trans hB3.size (hOg9.ownGe g hg))
    have hOw10 := hOw9.kept hg10 (own_apart hOw (hOg9.mono s23))
    have s910 := hg10.size
    clear hmk
    go_wp2_with fail
    refine (heldInt64S_c Ag R.length cg 1 w10 (by omega) (by omega) hOg10.sl).mono ?_; rintro e w10' ⟨rfl, rfl⟩
    go_wp2_with fail
    refine (toTickS_c A c l w10 hlen ((hs.below hB10).more hB10.size)).mono ?_; rintro e w11 ⟨A11, c11, rfl, hO11, hb11⟩
    have hB11 := hB10.trans (hb11.mono hB10.size)
    have hOw11 := hOw10.below hb11
    have hOg11 := hOg10.below hb11
    go_wp2_with fail
    refine (hI.out A11 c11 w11 hO11.le_cap hO11.sl).mono ?_; rintro e w12 ⟨Ah, ch, rfl, hOh, hb12⟩
    have hB12 := hB11.trans (hb12.mono hB11.size)
    have hOw12 := hOw11.below hb12
    have hOg12 := hOg11.below hb12
    go_wp2_with fail
    refine (eqInt64S_c Ah Aw ch cw R w12 (by omega) hOh.sl hOw12.sl).mono ?_; rintro e w13 ⟨rfl, hb13⟩
    have hB13 := hB12.trans (hb13.mono hB12.size)
    have hOg13 := hOg12.below hb13
    go_wp2_with fail
    refine (heldInt64S_c Ag R.length cg 1 w13 (by omega) (by omega) hOg13.sl).mono ?_; rintro e w14 ⟨rfl, rfl⟩
    go_wp2
    go_ret
    exact ⟨rfl, hB13⟩
end Go.Proofs.Ytcpnmeebbbeakaa
