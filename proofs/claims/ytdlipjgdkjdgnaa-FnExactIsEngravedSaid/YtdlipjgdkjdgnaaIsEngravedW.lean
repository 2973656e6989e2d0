/- The law on IsEngraved, walked. -/
import Derived.Test.YtdlipjgdkjdgnaaEng2
namespace Go.Proofs.Ytdlipjgdkjdgnaa
open Go.RowKit
set_option maxRecDepth 100000 in
set_option maxHeartbeats 4000000 in
theorem lawIsEngraved_c (ticksA : Option Addr) (ticksc : Nat) (ticks : List Tick) (listA : Option Addr) (listc : Nat) (list : List Stroke) (w : World) (tickshl : ticks.length ≤ 140737488351232) (tickshs : Sl w w.heap.size 3 ticksA (ticks.map Tick.cells)) (listhl : list.length ≤ 140737488351232) (lisths : Sl w w.heap.size 3 listA (list.map Stroke.cells)) :
    Calls Try.prog 6 #[.slice ticksA ticks.length ticksc, .slice listA list.length listc] w fun e w' => e = .returned (.bool true) ∧ Below w.heap.size w w' := by
  have hsz0 := szTickS_c ticksA ticks.length ticksc (1048576) w tickshl (by omega)
  by_cases hbig0 : (1048576 : Int) < ticks.length
  · rw [if_pos hbig0] at hsz0
    have H0 := Lib.hid hsz0
    clear hsz0 tickshs lisths
    go_enter Try.func6, Try.ntmps6
    go_wp2_with (first | (go_at_call 9; refine H0.out.mono ?_; rintro e w1 ⟨rfl, rfl⟩))
    go_ret
    exact ⟨rfl, Below.refl _ _⟩
  rw [if_neg hbig0] at hsz0
  have H0 := Lib.hid hsz0; clear hsz0
  have hlen0 : ticks.length ≤ 1048576 := by omega
  have hsz1 := szStrokeS_c listA list.length listc (1048576 - ticks.length) w listhl (by omega)
  by_cases hbig1 : (1048576 - ticks.length : Int) < list.length
  · rw [if_pos hbig1] at hsz1
    have H1 := Lib.hid hsz1
    clear hsz1 tickshs lisths
    go_enter Try.func6, Try.ntmps6
    go_wp2_with (first | (go_at_call 9; refine H0.out.mono ?_; rintro e w1 ⟨rfl, rfl⟩) | (go_at_call 23; refine H1.out.mono ?_; rintro e w1 ⟨rfl, rfl⟩))
    go_ret
    exact ⟨rfl, Below.refl _ _⟩
  rw [if_neg hbig1] at hsz1
  have H1 := Lib.hid hsz1; clear hsz1
  have hlen1 : list.length ≤ 1048576 := by omega
  obtain ⟨R, code, hS, hI⟩ : ∃ (R : Bool) (code : Int), 
      (∀ (ticks1A : Option Addr) (ticks1c : Nat) (list1A : Option Addr) (list1c : Nat) (w1 : World), ticks.length ≤ ticks1c → Sl w1 w1.heap.size 3 ticks1A (ticks.map Tick.cells) → list.length ≤ list1c → Sl w1 w1.heap.size 3 list1A (list.map Stroke.cells) → Calls Try.prog 30 #[.slice ticks1A ticks.length ticks1c, .slice list1A list.length list1c] w1 fun e w' => e = .returned (.tuple #[.bool R, .int .i64 code]) ∧ Below w1.heap.size w1 w') ∧
      (∀ (ticks1A : Option Addr) (ticks1c : Nat) (list1A : Option Addr) (list1c : Nat) (w1 : World), ticks.length ≤ ticks1c → Sl w1 w1.heap.size 3 ticks1A (ticks.map Tick.cells) → list.length ≤ list1c → Sl w1 w1.heap.size 3 list1A (list.map Stroke.cells) → Calls Try.prog 31 #[.slice ticks1A ticks.length ticks1c, .slice list1A list.length list1c] w1 fun e w' => e = .returned (.tuple #[.bool R, .int .i64 code]) ∧ Below w1.heap.size w1 w') :=
    ⟨engB ticks list, engC ticks list, fun ticks1A ticks1c list1A list1c w1 tickshc tickshs listhc lisths => specIsEngraved_c ticks1A ticks1c ticks list1A list1c list w1 tickshl tickshs listhl lisths, fun ticks1A ticks1c list1A list1c w1 tickshc tickshs listhc lisths => implIsEngraved_c ticks1A ticks1c ticks list1A list1c list w1 tickshl tickshs listhl lisths⟩
  have hS := Lib.hid hS
  have hI := Lib.hid hI
  go_enter Try.func6, Try.ntmps6
  go_wp2_with (first | (go_at_call 9; refine H0.out.mono ?_; rintro e w1 ⟨rfl, rfl⟩) | (go_at_call 23; refine H1.out.mono ?_; rintro e w1 ⟨rfl, rfl⟩))
  refine (toTickS_c ticksA ticksc ticks w hlen0 tickshs).mono ?_; rintro e w1 ⟨A_sticks, c_sticks, rfl, O_sticks, hb_sticks⟩
  have B_w1 := hb_sticks
  have S_w1 := hb_sticks.size
  go_wp2_with fail
  refine (toStrokeS_c listA listc list w1 hlen1 ((lisths.below B_w1).more B_w1.size)).mono ?_; rintro e w2 ⟨A_slist, c_slist, rfl, O_slist, hb_slist⟩
  have sticks_w2 := O_sticks.below hb_slist
  have B_w2 := B_w1.trans (hb_slist.mono B_w1.size)
  have S_w2 := hb_slist.size
  go_wp2_with fail
  refine (hS.out A_sticks c_sticks A_slist c_slist w2 sticks_w2.le_cap (sticks_w2.sl) O_slist.le_cap (O_slist.sl)).mono ?_; rintro e w3 ⟨rfl, hb_w⟩
  have sticks_w3 := sticks_w2.below hb_w
  have slist_w3 := O_slist.below hb_w
  have B_w3 := B_w2.trans (hb_w.mono B_w2.size)
  have S_w3 := hb_w.size
  go_wp2_with fail
  refine (toTickS_c ticksA ticksc ticks w3 hlen0 ((tickshs.below B_w3).more B_w3.size)).mono ?_; rintro e w4 ⟨A_xticks, c_xticks, rfl, O_xticks, hb_xticks⟩
  have B_w4 := B_w3.trans (hb_xticks.mono B_w3.size)
  have S_w4 := hb_xticks.size
  go_wp2_with fail
  refine (toStrokeS_c listA listc list w4 hlen1 ((lisths.below B_w4).more B_w4.size)).mono ?_; rintro e w5 ⟨A_xlist, c_xlist, rfl, O_xlist, hb_xlist⟩
  have xticks_w5 := O_xticks.below hb_xlist
  have B_w5 := B_w4.trans (hb_xlist.mono B_w4.size)
  have S_w5 := hb_xlist.size
  go_wp2_with fail
  refine (hI.out A_xticks c_xticks A_xlist c_xlist w5 xticks_w5.le_cap (xticks_w5.sl) O_xlist.le_cap (O_xlist.sl)).mono ?_; rintro e w6 ⟨rfl, hb_g⟩
  have xticks_w6 := xticks_w5.below hb_g
  have xlist_w6 := O_xlist.below hb_g
  have B_w6 := B_w5.trans (hb_g.mono B_w5.size)
  have S_w6 := hb_g.size
  go_wp2_with fail
  refine (toTickS_c ticksA ticksc ticks w6 hlen0 ((tickshs.below B_w6).more B_w6.size)).mono ?_; rintro e w7 ⟨A_yticks, c_yticks, rfl, O_yticks, hb_yticks⟩
  have xticks_w7 := xticks_w6.below hb_yticks
  have xlist_w7 := xlist_w6.below hb_yticks
  have B_w7 := B_w6.trans (hb_yticks.mono B_w6.size)
  have S_w7 := hb_yticks.size
  go_wp2_with fail
  refine (eqTickS_c A_xticks A_yticks c_xticks c_yticks ticks w7 tickshl xticks_w7.sl O_yticks.sl).mono ?_; rintro e w8 ⟨rfl, hb_w8⟩
  have xticks_w8 := xticks_w7.below hb_w8
  have xlist_w8 := xlist_w7.below hb_w8
  have yticks_w8 := O_yticks.below hb_w8
  have B_w8 := B_w7.trans (hb_w8.mono B_w7.size)
  have S_w8 := hb_w8.size
  go_wp2_with fail
  refine (toStrokeS_c listA listc list w8 hlen1 ((lisths.below B_w8).more B_w8.size)).mono ?_; rintro e w9 ⟨A_ylist, c_ylist, rfl, O_ylist, hb_ylist⟩
  have xticks_w9 := xticks_w8.below hb_ylist
  have xlist_w9 := xlist_w8.below hb_ylist
  have B_w9 := B_w8.trans (hb_ylist.mono B_w8.size)
  have S_w9 := hb_ylist.size
  go_wp2_with fail
  refine (eqStrokeS_c A_xlist A_ylist c_xlist c_ylist list w9 listhl xlist_w9.sl O_ylist.sl).mono ?_; rintro e w10 ⟨rfl, hb_w10⟩
  have xticks_w10 := xticks_w9.below hb_w10
  have xlist_w10 := xlist_w9.below hb_w10
  have ylist_w10 := O_ylist.below hb_w10
  have B_w10 := B_w9.trans (hb_w10.mono B_w9.size)
  have S_w10 := hb_w10.size
  go_wp2
  go_ret
  exact ⟨rfl, B_w10⟩
end Go.Proofs.Ytdlipjgdkjdgnaa
