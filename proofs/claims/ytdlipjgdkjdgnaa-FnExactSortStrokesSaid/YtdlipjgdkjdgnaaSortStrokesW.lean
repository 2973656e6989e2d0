/- The law on SortStrokes, walked. -/
import Derived.Test.YtdlipjgdkjdgnaaSortT
namespace Go.Proofs.Ytdlipjgdkjdgnaa
open Go.RowKit
set_option maxRecDepth 100000 in
set_option maxHeartbeats 4000000 in
theorem lawSortStrokes_c (listA : Option Addr) (listc : Nat) (list : List Stroke) (w : World) (listhl : list.length ≤ 140737488351232) (lisths : Sl w w.heap.size 3 listA (list.map Stroke.cells)) :
    Calls Try.prog 5 #[.slice listA list.length listc] w fun e w' => e = .returned (.bool true) ∧ Below w.heap.size w w' := by
  have hsz0 := szStrokeS_c listA list.length listc (1048576) w listhl (by omega)
  by_cases hbig0 : (1048576 : Int) < list.length
  · rw [if_pos hbig0] at hsz0
    have H0 := Lib.hid hsz0
    clear hsz0 lisths
    go_enter Try.func5, Try.ntmps5
    go_wp2_with (first | (go_at_call 23; refine H0.out.mono ?_; rintro e w1 ⟨rfl, rfl⟩))
    go_ret
    exact ⟨rfl, Below.refl _ _⟩
  rw [if_neg hbig0] at hsz0
  have H0 := Lib.hid hsz0; clear hsz0
  have hlen0 : list.length ≤ 1048576 := by omega
  obtain ⟨R, code, hrl, hS, hI⟩ : ∃ (R : List Stroke) (code : Int), R.length ≤ 10000000 ∧ 
      (∀ (list1A : Option Addr) (list1c : Nat) (w1 : World), list.length ≤ list1c → Sl w1 w1.heap.size 3 list1A (list.map Stroke.cells) → Calls Try.prog 24 #[.slice list1A list.length list1c] w1 (PostRows 91 3 R.length (R.map Stroke.cells) code w1)) ∧
      (∀ (list1A : Option Addr) (list1c : Nat) (w1 : World), list.length ≤ list1c → Sl w1 w1.heap.size 3 list1A (list.map Stroke.cells) → Calls Try.prog 26 #[.slice list1A list.length list1c] w1 (PostRows 91 3 R.length (R.map Stroke.cells) code w1)) :=
    ⟨sortR list, strokesCode list, (by have := sortR_len list; omega), fun list1A list1c w1 listhc lisths => specSortStrokes_c list1A list1c list w1 listhl lisths, fun list1A list1c w1 listhc lisths => implSortStrokes_c list1A list1c list w1 listhl lisths⟩
  have hS := Lib.hid hS
  have hI := Lib.hid hI
  go_enter Try.func5, Try.ntmps5
  go_wp2_with (go_at_call 23; refine H0.out.mono ?_; rintro e w1 ⟨rfl, rfl⟩)
  refine (toStrokeS_c listA listc list w hlen0 lisths).mono ?_; rintro e w1 ⟨A_slist, c_slist, rfl, O_slist, hb_slist⟩
  have B_w1 := hb_slist
  have S_w1 := hb_slist.size
  go_wp2_with fail
  refine (hS.out A_slist c_slist w1 O_slist.le_cap (O_slist.sl)).mono ?_; rintro e w2 ⟨A_w, c_w, rfl, O_w, hb_w⟩
  have slist_w2 := O_slist.below hb_w
  have B_w2 := B_w1.trans (hb_w.mono B_w1.size)
  have S_w2 := hb_w.size
  go_wp2_with fail
  refine (toStrokeS_c listA listc list w2 hlen0 ((lisths.below B_w2).more B_w2.size)).mono ?_; rintro e w3 ⟨A_xlist, c_xlist, rfl, O_xlist, hb_xlist⟩
  have w_w3 := O_w.below hb_xlist
  have B_w3 := B_w2.trans (hb_xlist.mono B_w2.size)
  have S_w3 := hb_xlist.size
  go_wp2_with fail
  refine (hI.out A_xlist c_xlist w3 O_xlist.le_cap (O_xlist.sl)).mono ?_; rintro e w4 ⟨A_g, c_g, rfl, O_g, hb_g⟩
  have w_w4 := w_w3.below hb_g
  have xlist_w4 := O_xlist.below hb_g
  have B_w4 := B_w3.trans (hb_g.mono B_w3.size)
  have S_w4 := hb_g.size
  go_wp2_with fail
  refine (eqStrokeS_c A_g A_w c_g c_w R w4 (by omega) O_g.sl w_w4.sl).mono ?_; rintro e w5 ⟨rfl, hb_w5⟩
  have w_w5 := w_w4.below hb_w5
  have xlist_w5 := xlist_w4.below hb_w5
  have g_w5 := O_g.below hb_w5
  have B_w5 := B_w4.trans (hb_w5.mono B_w4.size)
  have S_w5 := hb_w5.size
  go_wp2_with fail
  refine (toStrokeS_c listA listc list w5 hlen0 ((lisths.below B_w5).more B_w5.size)).mono ?_; rintro e w6 ⟨A_ylist, c_ylist, rfl, O_ylist, hb_ylist⟩
  have w_w6 := w_w5.below hb_ylist
  have xlist_w6 := xlist_w5.below hb_ylist
  have g_w6 := g_w5.below hb_ylist
  have B_w6 := B_w5.trans (hb_ylist.mono B_w5.size)
  have S_w6 := hb_ylist.size
  go_wp2_with fail
  refine (eqStrokeS_c A_xlist A_ylist c_xlist c_ylist list w6 listhl xlist_w6.sl O_ylist.sl).mono ?_; rintro e w7 ⟨rfl, hb_w7⟩
  have w_w7 := w_w6.below hb_w7
  have xlist_w7 := xlist_w6.below hb_w7
  have g_w7 := g_w6.below hb_w7
  have ylist_w7 := O_ylist.below hb_w7
  have B_w7 := B_w6.trans (hb_w7.mono B_w6.size)
  have S_w7 := hb_w7.size
  go_wp2_with fail
  have hmk := markStrokeS_c A_xlist c_xlist w2.heap.size (1) (list.map Stroke.cells) w7 (by omega) (by simp; omega) (by rw [List.length_map]; exact xlist_w7)
  rw [List.length_map] at hmk
  refine hmk.mono ?_; rintro e w8 ⟨rfl, M_xlist, hg_xlist⟩
  clear hmk
  have B_w8 := below_app B_w7 hg_xlist B_w7.size (fun g hg => Nat.le_trans (by omega) (xlist_w7.ownGe g hg))
  have w_w8 := w_w7.kept hg_xlist (own_apart O_w xlist_w7)
  have g_w8 := g_w7.kept hg_xlist (own_apart' O_xlist g_w7)
  have S_w8 := hg_xlist.size
  go_wp2_with fail
  refine (eqStrokeS_c A_g A_w c_g c_w R w8 (by omega) g_w8.sl w_w8.sl).mono ?_; rintro e w9 ⟨rfl, hb_w9⟩
  have w_w9 := w_w8.below hb_w9
  have g_w9 := g_w8.below hb_w9
  have B_w9 := B_w8.trans (hb_w9.mono B_w8.size)
  have S_w9 := hb_w9.size
  go_wp2_with fail
  have hmk := markStrokeS_c A_g c_g w3.heap.size (1) (R.map Stroke.cells) w9 (by omega) (by simp; omega) (by rw [List.length_map]; exact g_w9)
  rw [List.length_map] at hmk
  refine hmk.mono ?_; rintro e w10 ⟨rfl, M_g, hg_g⟩
  clear hmk
  have B_w10 := below_app B_w9 hg_g B_w9.size (fun g hg => Nat.le_trans (by omega) (g_w9.ownGe g hg))
  have w_w10 := w_w9.kept hg_g (own_apart O_w g_w9)
  have S_w10 := hg_g.size
  go_wp2_with fail
  refine (heldStrokeS_c A_g R.length c_g 1 w10 (by omega) (by omega) M_g.sl).mono ?_; rintro e w'' ⟨rfl, rfl⟩
  go_wp2_with fail
  refine (toStrokeS_c listA listc list w10 hlen0 ((lisths.below B_w10).more B_w10.size)).mono ?_; rintro e w11 ⟨A_zlist, c_zlist, rfl, O_zlist, hb_zlist⟩
  have w_w11 := w_w10.below hb_zlist
  have g_w11 := M_g.below hb_zlist
  have B_w11 := B_w10.trans (hb_zlist.mono B_w10.size)
  have S_w11 := hb_zlist.size
  go_wp2_with fail
  refine (hI.out A_zlist c_zlist w11 O_zlist.le_cap (O_zlist.sl)).mono ?_; rintro e w12 ⟨A_h, c_h, rfl, O_h, hb_h⟩
  have w_w12 := w_w11.below hb_h
  have g_w12 := g_w11.below hb_h
  have zlist_w12 := O_zlist.below hb_h
  have B_w12 := B_w11.trans (hb_h.mono B_w11.size)
  have S_w12 := hb_h.size
  go_wp2_with fail
  refine (eqStrokeS_c A_h A_w c_h c_w R w12 (by omega) O_h.sl w_w12.sl).mono ?_; rintro e w13 ⟨rfl, hb_w13⟩
  have w_w13 := w_w12.below hb_w13
  have g_w13 := g_w12.below hb_w13
  have h_w13 := O_h.below hb_w13
  have B_w13 := B_w12.trans (hb_w13.mono B_w12.size)
  have S_w13 := hb_w13.size
  go_wp2_with fail
  refine (heldStrokeS_c A_g R.length c_g 1 w13 (by omega) (by omega) g_w13.sl).mono ?_; rintro e w'' ⟨rfl, rfl⟩
  go_wp2
  go_ret
  exact ⟨rfl, B_w13⟩
end Go.Proofs.Ytdlipjgdkjdgnaa
