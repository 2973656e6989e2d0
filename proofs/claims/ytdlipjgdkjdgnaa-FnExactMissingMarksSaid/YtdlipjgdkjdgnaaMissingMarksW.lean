/- The law on MissingMarks, walked. -/
import Derived.Test.YtdlipjgdkjdgnaaMiss2
namespace Go.Proofs.Ytdlipjgdkjdgnaa
open Go.RowKit
set_option maxRecDepth 100000 in
set_option maxHeartbeats 4000000 in
theorem lawMissingMarks_c (gA : Option Addr) (gc : Nat) (g : List Part) (rowA : Option Addr) (rowc : Nat) (row : List Tick) (a : Int) (b : Int) (w : World) (ghl : g.length ≤ 140737488351232) (ghs : Sl w w.heap.size 3 gA (g.map Part.cells)) (rowhl : row.length ≤ 140737488351232) (rowhs : Sl w w.heap.size 3 rowA (row.map Tick.cells)) :
    Calls Try.prog 3 #[.slice gA g.length gc, .slice rowA row.length rowc, .int .i64 a, .int .i64 b] w fun e w' => e = .returned (.bool true) ∧ Below w.heap.size w w' := by
  have hsz0 := szPartS_c gA g.length gc (1048576) w ghl (by omega)
  by_cases hbig0 : (1048576 : Int) < g.length
  · rw [if_pos hbig0] at hsz0
    have H0 := Lib.hid hsz0
    clear hsz0 ghs rowhs
    go_enter Try.func3, Try.ntmps3
    go_wp2_with (first | (go_at_call 8; refine H0.out.mono ?_; rintro e w1 ⟨rfl, rfl⟩))
    go_ret
    exact ⟨rfl, Below.refl _ _⟩
  rw [if_neg hbig0] at hsz0
  have H0 := Lib.hid hsz0; clear hsz0
  have hlen0 : g.length ≤ 1048576 := by omega
  have hsz1 := szTickS_c rowA row.length rowc (1048576 - g.length) w rowhl (by omega)
  by_cases hbig1 : (1048576 - g.length : Int) < row.length
  · rw [if_pos hbig1] at hsz1
    have H1 := Lib.hid hsz1
    clear hsz1 ghs rowhs
    go_enter Try.func3, Try.ntmps3
    go_wp2_with (first | (go_at_call 8; refine H0.out.mono ?_; rintro e w1 ⟨rfl, rfl⟩) | (go_at_call 9; refine H1.out.mono ?_; rintro e w1 ⟨rfl, rfl⟩))
    go_ret
    exact ⟨rfl, Below.refl _ _⟩
  rw [if_neg hbig1] at hsz1
  have H1 := Lib.hid hsz1; clear hsz1
  have hlen1 : row.length ≤ 1048576 := by omega
  obtain ⟨R, code, hrl, hS, hI⟩ : ∃ (R : List Int) (code : Int), R.length ≤ 10000000 ∧ 
      (∀ (g1A : Option Addr) (g1c : Nat) (row1A : Option Addr) (row1c : Nat) (w1 : World), g.length ≤ g1c → Sl w1 w1.heap.size 3 g1A (g.map Part.cells) → row.length ≤ row1c → Sl w1 w1.heap.size 3 row1A (row.map Tick.cells) → Calls Try.prog 10 #[.slice g1A g.length g1c, .slice row1A row.length row1c, .int .i64 a, .int .i64 b] w1 (PostRows 2 1 R.length (R.map ic) code w1)) ∧
      (∀ (g1A : Option Addr) (g1c : Nat) (row1A : Option Addr) (row1c : Nat) (w1 : World), g.length ≤ g1c → Sl w1 w1.heap.size 3 g1A (g.map Part.cells) → row.length ≤ row1c → Sl w1 w1.heap.size 3 row1A (row.map Tick.cells) → Calls Try.prog 13 #[.slice g1A g.length g1c, .slice row1A row.length row1c, .int .i64 a, .int .i64 b] w1 (PostRows 2 1 R.length (R.map ic) code w1)) :=
    ⟨missR g row a b, missCode g row a b, (by have := missR_len g row a b; omega), fun g1A g1c row1A row1c w1 ghc ghs rowhc rowhs => specMissing_c g1A g1c g row1A row1c row a b w1 ghl ghs rowhl rowhs, fun g1A g1c row1A row1c w1 ghc ghs rowhc rowhs => implMissing_c g1A g1c g row1A row1c row a b w1 ghl ghs rowhl rowhs⟩
  have hS := Lib.hid hS
  have hI := Lib.hid hI
  go_enter Try.func3, Try.ntmps3
  go_wp2_with (first | (go_at_call 8; refine H0.out.mono ?_; rintro e w1 ⟨rfl, rfl⟩) | (go_at_call 9; refine H1.out.mono ?_; rintro e w1 ⟨rfl, rfl⟩))
  refine (toPartS_c gA gc g w hlen0 ghs).mono ?_; rintro e w1 ⟨A_sg, c_sg, rfl, O_sg, hb_sg⟩
  have B_w1 := hb_sg
  have S_w1 := hb_sg.size
  go_wp2_with fail
  refine (toTickS_c rowA rowc row w1 hlen1 ((rowhs.below B_w1).more B_w1.size)).mono ?_; rintro e w2 ⟨A_srow, c_srow, rfl, O_srow, hb_srow⟩
  have sg_w2 := O_sg.below hb_srow
  have B_w2 := B_w1.trans (hb_srow.mono B_w1.size)
  have S_w2 := hb_srow.size
  go_wp2_with fail
  refine (hS.out A_sg c_sg A_srow c_srow w2 sg_w2.le_cap (sg_w2.sl) O_srow.le_cap (O_srow.sl)).mono ?_; rintro e w3 ⟨A_w, c_w, rfl, O_w, hb_w⟩
  have sg_w3 := sg_w2.below hb_w
  have srow_w3 := O_srow.below hb_w
  have B_w3 := B_w2.trans (hb_w.mono B_w2.size)
  have S_w3 := hb_w.size
  go_wp2_with fail
  refine (toPartS_c gA gc g w3 hlen0 ((ghs.below B_w3).more B_w3.size)).mono ?_; rintro e w4 ⟨A_xg, c_xg, rfl, O_xg, hb_xg⟩
  have w_w4 := O_w.below hb_xg
  have B_w4 := B_w3.trans (hb_xg.mono B_w3.size)
  have S_w4 := hb_xg.size
  go_wp2_with fail
  refine (toTickS_c rowA rowc row w4 hlen1 ((rowhs.below B_w4).more B_w4.size)).mono ?_; rintro e w5 ⟨A_xrow, c_xrow, rfl, O_xrow, hb_xrow⟩
  have w_w5 := w_w4.below hb_xrow
  have xg_w5 := O_xg.below hb_xrow
  have B_w5 := B_w4.trans (hb_xrow.mono B_w4.size)
  have S_w5 := hb_xrow.size
  go_wp2_with fail
  refine (hI.out A_xg c_xg A_xrow c_xrow w5 xg_w5.le_cap (xg_w5.sl) O_xrow.le_cap (O_xrow.sl)).mono ?_; rintro e w6 ⟨A_g, c_g, rfl, O_g, hb_g⟩
  have w_w6 := w_w5.below hb_g
  have xg_w6 := xg_w5.below hb_g
  have xrow_w6 := O_xrow.below hb_g
  have B_w6 := B_w5.trans (hb_g.mono B_w5.size)
  have S_w6 := hb_g.size
  go_wp2_with fail
  refine (eqInt64S_c A_g A_w c_g c_w R w6 (by omega) O_g.sl w_w6.sl).mono ?_; rintro e w7 ⟨rfl, hb_w7⟩
  have w_w7 := w_w6.below hb_w7
  have xg_w7 := xg_w6.below hb_w7
  have xrow_w7 := xrow_w6.below hb_w7
  have g_w7 := O_g.below hb_w7
  have B_w7 := B_w6.trans (hb_w7.mono B_w6.size)
  have S_w7 := hb_w7.size
  go_wp2_with fail
  refine (toPartS_c gA gc g w7 hlen0 ((ghs.below B_w7).more B_w7.size)).mono ?_; rintro e w8 ⟨A_yg, c_yg, rfl, O_yg, hb_yg⟩
  have w_w8 := w_w7.below hb_yg
  have xg_w8 := xg_w7.below hb_yg
  have xrow_w8 := xrow_w7.below hb_yg
  have g_w8 := g_w7.below hb_yg
  have B_w8 := B_w7.trans (hb_yg.mono B_w7.size)
  have S_w8 := hb_yg.size
  go_wp2_with fail
  refine (eqPartS_c A_xg A_yg c_xg c_yg g w8 ghl xg_w8.sl O_yg.sl).mono ?_; rintro e w9 ⟨rfl, hb_w9⟩
  have w_w9 := w_w8.below hb_w9
  have xg_w9 := xg_w8.below hb_w9
  have xrow_w9 := xrow_w8.below hb_w9
  have g_w9 := g_w8.below hb_w9
  have yg_w9 := O_yg.below hb_w9
  have B_w9 := B_w8.trans (hb_w9.mono B_w8.size)
  have S_w9 := hb_w9.size
  go_wp2_with fail
  refine (toTickS_c rowA rowc row w9 hlen1 ((rowhs.below B_w9).more B_w9.size)).mono ?_; rintro e w10 ⟨A_yrow, c_yrow, rfl, O_yrow, hb_yrow⟩
  have w_w10 := w_w9.below hb_yrow
  have xg_w10 := xg_w9.below hb_yrow
  have xrow_w10 := xrow_w9.below hb_yrow
  have g_w10 := g_w9.below hb_yrow
  have B_w10 := B_w9.trans (hb_yrow.mono B_w9.size)
  have S_w10 := hb_yrow.size
  go_wp2_with fail
  refine (eqTickS_c A_xrow A_yrow c_xrow c_yrow row w10 rowhl xrow_w10.sl O_yrow.sl).mono ?_; rintro e w11 ⟨rfl, hb_w11⟩
  have w_w11 := w_w10.below hb_w11
  have xg_w11 := xg_w10.below hb_w11
  have xrow_w11 := xrow_w10.below hb_w11
  have g_w11 := g_w10.below hb_w11
  have yrow_w11 := O_yrow.below hb_w11
  have B_w11 := B_w10.trans (hb_w11.mono B_w10.size)
  have S_w11 := hb_w11.size
  go_wp2_with fail
  have hmk := markPartS_c A_xg c_xg w3.heap.size (1) (g.map Part.cells) w11 (by omega) (by simp; omega) (by rw [List.length_map]; exact xg_w11)
  rw [List.length_map] at hmk
  refine hmk.mono ?_; rintro e w12 ⟨rfl, M_xg, hg_xg⟩
  clear hmk
  have B_w12 := below_app B_w11 hg_xg B_w11.size (fun g hg => Nat.le_trans (by omega) (xg_w11.ownGe g hg))
  have w_w12 := w_w11.kept hg_xg (own_apart O_w xg_w11)
  have xrow_w12 := xrow_w11.kept hg_xg (own_apart' O_xg xrow_w11)
  have g_w12 := g_w11.kept hg_xg (own_apart' O_xg g_w11)
  have S_w12 := hg_xg.size
  go_wp2_with fail
  have hmk := markTickS_c A_xrow c_xrow w4.heap.size (1 + g.length * 3) (row.map Tick.cells) w12 (by omega) (by simp; omega) (by rw [List.length_map]; exact xrow_w12)
  rw [List.length_map] at hmk
  refine hmk.mono ?_; rintro e w13 ⟨rfl, M_xrow, hg_xrow⟩
  clear hmk
  have B_w13 := below_app B_w12 hg_xrow B_w12.size (fun g hg => Nat.le_trans (by omega) (xrow_w12.ownGe g hg))
  have w_w13 := w_w12.kept hg_xrow (own_apart O_w xrow_w12)
  have g_w13 := g_w12.kept hg_xrow (own_apart' O_xrow g_w12)
  have S_w13 := hg_xrow.size
  go_wp2_with fail
  refine (eqInt64S_c A_g A_w c_g c_w R w13 (by omega) g_w13.sl w_w13.sl).mono ?_; rintro e w14 ⟨rfl, hb_w14⟩
  have w_w14 := w_w13.below hb_w14
  have g_w14 := g_w13.below hb_w14
  have B_w14 := B_w13.trans (hb_w14.mono B_w13.size)
  have S_w14 := hb_w14.size
  go_wp2_with fail
  have hmk := markInt64S_c A_g c_g w5.heap.size (1) (R.map ic) w14 (by omega) (by simp; omega) (by rw [List.length_map]; exact g_w14)
  rw [List.length_map] at hmk
  refine hmk.mono ?_; rintro e w15 ⟨rfl, M_g, hg_g⟩
  clear hmk
  have B_w15 := below_app B_w14 hg_g B_w14.size (fun g hg => Nat.le_trans (by omega) (g_w14.ownGe g hg))
  have w_w15 := w_w14.kept hg_g (own_apart O_w g_w14)
  have S_w15 := hg_g.size
  go_wp2_with fail
  refine (heldInt64S_c A_g R.length c_g 1 w15 (by omega) (by omega) M_g.sl).mono ?_; rintro e w'' ⟨rfl, rfl⟩
  go_wp2_with fail
  refine (toPartS_c gA gc g w15 hlen0 ((ghs.below B_w15).more B_w15.size)).mono ?_; rintro e w16 ⟨A_zg, c_zg, rfl, O_zg, hb_zg⟩
  have w_w16 := w_w15.below hb_zg
  have g_w16 := M_g.below hb_zg
  have B_w16 := B_w15.trans (hb_zg.mono B_w15.size)
  have S_w16 := hb_zg.size
  go_wp2_with fail
  refine (toTickS_c rowA rowc row w16 hlen1 ((rowhs.below B_w16).more B_w16.size)).mono ?_; rintro e w17 ⟨A_zrow, c_zrow, rfl, O_zrow, hb_zrow⟩
  have w_w17 := w_w16.below hb_zrow
  have g_w17 := g_w16.below hb_zrow
  have zg_w17 := O_zg.below hb_zrow
  have B_w17 := B_w16.trans (hb_zrow.mono B_w16.size)
  have S_w17 := hb_zrow.size
  go_wp2_with fail
  refine (hI.out A_zg c_zg A_zrow c_zrow w17 zg_w17.le_cap (zg_w17.sl) O_zrow.le_cap (O_zrow.sl)).mono ?_; rintro e w18 ⟨A_h, c_h, rfl, O_h, hb_h⟩
  have w_w18 := w_w17.below hb_h
  have g_w18 := g_w17.below hb_h
  have zg_w18 := zg_w17.below hb_h
  have zrow_w18 := O_zrow.below hb_h
  have B_w18 := B_w17.trans (hb_h.mono B_w17.size)
  have S_w18 := hb_h.size
  go_wp2_with fail
  refine (eqInt64S_c A_h A_w c_h c_w R w18 (by omega) O_h.sl w_w18.sl).mono ?_; rintro e w19 ⟨rfl, hb_w19⟩
  have w_w19 := w_w18.below hb_w19
  have g_w19 := g_w18.below hb_w19
  have h_w19 := O_h.below hb_w19
  have B_w19 := B_w18.trans (hb_w19.mono B_w18.size)
  have S_w19 := hb_w19.size
  go_wp2_with fail
  refine (heldInt64S_c A_g R.length c_g 1 w19 (by omega) (by omega) g_w19.sl).mono ?_; rintro e w'' ⟨rfl, rfl⟩
  go_wp2
  go_ret
  exact ⟨rfl, B_w19⟩
end Go.Proofs.Ytdlipjgdkjdgnaa
