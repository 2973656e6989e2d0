/- The law on DoubleMarks, walked. -/
import Derived.Test.YtdlipjgdkjdgnaaDbl2
namespace Go.Proofs.Ytdlipjgdkjdgnaa
open Go.RowKit
set_option maxRecDepth 100000 in
set_option maxHeartbeats 4000000 in
theorem lawDoubleMarks_c (rowA : Option Addr) (rowc : Nat) (row : List Tick) (w : World) (rowhl : row.length ≤ 140737488351232) (rowhs : Sl w w.heap.size 3 rowA (row.map Tick.cells)) :
    Calls Try.prog 4 #[.slice rowA row.length rowc] w fun e w' => e = .returned (.bool true) ∧ Below w.heap.size w w' := by
  have hsz0 := szTickS_c rowA row.length rowc (1048576) w rowhl (by omega)
  by_cases hbig0 : (1048576 : Int) < row.length
  · rw [if_pos hbig0] at hsz0
    have H0 := Lib.hid hsz0
    clear hsz0 rowhs
    go_enter Try.func4, Try.ntmps4
    go_wp2_with (first | (go_at_call 9; refine H0.out.mono ?_; rintro e w1 ⟨rfl, rfl⟩))
    go_ret
    exact ⟨rfl, Below.refl _ _⟩
  rw [if_neg hbig0] at hsz0
  have H0 := Lib.hid hsz0; clear hsz0
  have hlen0 : row.length ≤ 1048576 := by omega
  obtain ⟨R, code, hrl, hS, hI⟩ : ∃ (R : List Int) (code : Int), R.length ≤ 10000000 ∧ 
      (∀ (row1A : Option Addr) (row1c : Nat) (w1 : World), row.length ≤ row1c → Sl w1 w1.heap.size 3 row1A (row.map Tick.cells) → Calls Try.prog 21 #[.slice row1A row.length row1c] w1 (PostRows 2 1 R.length (R.map ic) code w1)) ∧
      (∀ (row1A : Option Addr) (row1c : Nat) (w1 : World), row.length ≤ row1c → Sl w1 w1.heap.size 3 row1A (row.map Tick.cells) → Calls Try.prog 22 #[.slice row1A row.length row1c] w1 (PostRows 2 1 R.length (R.map ic) code w1)) :=
    ⟨dblR row, rowCode row, (by have := dblR_len row; omega), fun row1A row1c w1 rowhc rowhs => specDouble_c row1A row1c row w1 rowhl rowhs, fun row1A row1c w1 rowhc rowhs => implDouble_c row1A row1c row w1 rowhl rowhs⟩
  have hS := Lib.hid hS
  have hI := Lib.hid hI
  go_enter Try.func4, Try.ntmps4
  go_wp2_with (go_at_call 9; refine H0.out.mono ?_; rintro e w1 ⟨rfl, rfl⟩)
  refine (toTickS_c rowA rowc row w hlen0 rowhs).mono ?_; rintro e w1 ⟨A_srow, c_srow, rfl, O_srow, hb_srow⟩
  have B_w1 := hb_srow
  have S_w1 := hb_srow.size
  go_wp2_with fail
  refine (hS.out A_srow c_srow w1 O_srow.le_cap (O_srow.sl)).mono ?_; rintro e w2 ⟨A_w, c_w, rfl, O_w, hb_w⟩
  have srow_w2 := O_srow.below hb_w
  have B_w2 := B_w1.trans (hb_w.mono B_w1.size)
  have S_w2 := hb_w.size
  go_wp2_with fail
  refine (toTickS_c rowA rowc row w2 hlen0 ((rowhs.below B_w2).more B_w2.size)).mono ?_; rintro e w3 ⟨A_xrow, c_xrow, rfl, O_xrow, hb_xrow⟩
  have w_w3 := O_w.below hb_xrow
  have B_w3 := B_w2.trans (hb_xrow.mono B_w2.size)
  have S_w3 := hb_xrow.size
  go_wp2_with fail
  refine (hI.out A_xrow c_xrow w3 O_xrow.le_cap (O_xrow.sl)).mono ?_; rintro e w4 ⟨A_g, c_g, rfl, O_g, hb_g⟩
  have w_w4 := w_w3.below hb_g
  have xrow_w4 := O_xrow.below hb_g
  have B_w4 := B_w3.trans (hb_g.mono B_w3.size)
  have S_w4 := hb_g.size
  go_wp2_with fail
  refine (eqInt64S_c A_g A_w c_g c_w R w4 (by omega) O_g.sl w_w4.sl).mono ?_; rintro e w5 ⟨rfl, hb_w5⟩
  have w_w5 := w_w4.below hb_w5
  have xrow_w5 := xrow_w4.below hb_w5
  have g_w5 := O_g.below hb_w5
  have B_w5 := B_w4.trans (hb_w5.mono B_w4.size)
  have S_w5 := hb_w5.size
  go_wp2_with fail
  refine (toTickS_c rowA rowc row w5 hlen0 ((rowhs.below B_w5).more B_w5.size)).mono ?_; rintro e w6 ⟨A_yrow, c_yrow, rfl, O_yrow, hb_yrow⟩
  have w_w6 := w_w5.below hb_yrow
  have xrow_w6 := xrow_w5.below hb_yrow
  have g_w6 := g_w5.below hb_yrow
  have B_w6 := B_w5.trans (hb_yrow.mono B_w5.size)
  have S_w6 := hb_yrow.size
  go_wp2_with fail
  refine (eqTickS_c A_xrow A_yrow c_xrow c_yrow row w6 rowhl xrow_w6.sl O_yrow.sl).mono ?_; rintro e w7 ⟨rfl, hb_w7⟩
  have w_w7 := w_w6.below hb_w7
  have xrow_w7 := xrow_w6.below hb_w7
  have g_w7 := g_w6.below hb_w7
  have yrow_w7 := O_yrow.below hb_w7
  have B_w7 := B_w6.trans (hb_w7.mono B_w6.size)
  have S_w7 := hb_w7.size
  go_wp2_with fail
  have hmk := markTickS_c A_xrow c_xrow w2.heap.size (1) (row.map Tick.cells) w7 (by omega) (by simp; omega) (by rw [List.length_map]; exact xrow_w7)
  rw [List.length_map] at hmk
  refine hmk.mono ?_; rintro e w8 ⟨rfl, M_xrow, hg_xrow⟩
  clear hmk
  have B_w8 := below_app B_w7 hg_xrow B_w7.size (fun g hg => Nat.le_trans (by omega) (xrow_w7.ownGe g hg))
  have w_w8 := w_w7.kept hg_xrow (own_apart O_w xrow_w7)
  have g_w8 := g_w7.kept hg_xrow (own_apart' O_xrow g_w7)
  have S_w8 := hg_xrow.size
  go_wp2_with fail
  refine (eqInt64S_c A_g A_w c_g c_w R w8 (by omega) g_w8.sl w_w8.sl).mono ?_; rintro e w9 ⟨rfl, hb_w9⟩
  have w_w9 := w_w8.below hb_w9
  have g_w9 := g_w8.below hb_w9
  have B_w9 := B_w8.trans (hb_w9.mono B_w8.size)
  have S_w9 := hb_w9.size
  go_wp2_with fail
  have hmk := markInt64S_c A_g c_g w3.heap.size (1) (R.map ic) w9 (by omega) (by simp; omega) (by rw [List.length_map]; exact g_w9)
  rw [List.length_map] at hmk
  refine hmk.mono ?_; rintro e w10 ⟨rfl, M_g, hg_g⟩
  clear hmk
  have B_w10 := below_app B_w9 hg_g B_w9.size (fun g hg => Nat.le_trans (by omega) (g_w9.ownGe g hg))
  have w_w10 := w_w9.kept hg_g (own_apart O_w g_w9)
  have S_w10 := hg_g.size
  go_wp2_with fail
  refine (heldInt64S_c A_g R.length c_g 1 w10 (by omega) (by omega) M_g.sl).mono ?_; rintro e w'' ⟨rfl, rfl⟩
  go_wp2_with fail
  refine (toTickS_c rowA rowc row w10 hlen0 ((rowhs.below B_w10).more B_w10.size)).mono ?_; rintro e w11 ⟨A_zrow, c_zrow, rfl, O_zrow, hb_zrow⟩
  have w_w11 := w_w10.below hb_zrow
  have g_w11 := M_g.below hb_zrow
  have B_w11 := B_w10.trans (hb_zrow.mono B_w10.size)
  have S_w11 := hb_zrow.size
  go_wp2_with fail
  refine (hI.out A_zrow c_zrow w11 O_zrow.le_cap (O_zrow.sl)).mono ?_; rintro e w12 ⟨A_h, c_h, rfl, O_h, hb_h⟩
  have w_w12 := w_w11.below hb_h
  have g_w12 := g_w11.below hb_h
  have zrow_w12 := O_zrow.below hb_h
  have B_w12 := B_w11.trans (hb_h.mono B_w11.size)
  have S_w12 := hb_h.size
  go_wp2_with fail
  refine (eqInt64S_c A_h A_w c_h c_w R w12 (by omega) O_h.sl w_w12.sl).mono ?_; rintro e w13 ⟨rfl, hb_w13⟩
  have w_w13 := w_w12.below hb_w13
  have g_w13 := g_w12.below hb_w13
  have h_w13 := O_h.below hb_w13
  have B_w13 := B_w12.trans (hb_w13.mono B_w12.size)
  have S_w13 := hb_w13.size
  go_wp2_with fail
  refine (heldInt64S_c A_g R.length c_g 1 w13 (by omega) (by omega) g_w13.sl).mono ?_; rintro e w'' ⟨rfl, rfl⟩
  go_wp2
  go_ret
  exact ⟨rfl, B_w13⟩
end Go.Proofs.Ytdlipjgdkjdgnaa
