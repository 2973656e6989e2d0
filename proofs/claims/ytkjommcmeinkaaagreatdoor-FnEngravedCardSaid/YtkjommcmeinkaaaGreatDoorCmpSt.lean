/- The comparisons by which strokes are sorted: the closures' contracts, and that they are strict weak orders that part whatever differs. No condition. -/
import Derived.Test.YtkjommcmeinkaaaGreatDoorStroke
import Derived.Shelf.SlSortCmp.KitK
import Derived.Deep.RegionHeld3
import Derived.Deep.DrawnRows
namespace Go.Proofs.YtkjommcmeinkaaaGreatDoor
open Go.RowKit Go.Lib Go.Sort
instance : Inhabited Stroke := ⟨⟨0, 0, 0⟩⟩
/-- new blocks and draws, nothing else -/
def Grows (W w' : World) : Prop := ∃ q os, w' = grow (W.drewN q) os
theorem Grows.refl_ (W : World) : Grows W W := ⟨0, #[], by simp; rfl⟩
theorem Grows.alloc {W w' : World} (h : Grows W w') (o : Obj) : Grows W (w'.alloc o) := by
  obtain ⟨q, os, rfl⟩ := h
  exact ⟨q, os ++ #[o], by rw [alloc_eq_grow, grow_grow]⟩
theorem Grows.drew {W w' : World} (h : Grows W w') : Grows W w'.drew := by
  obtain ⟨q, os, rfl⟩ := h
  exact ⟨q + 1, os, rfl⟩
def cmpI (a b : Int) : Int := if a < b then -1 else if b < a then 1 else 0
def or3 (x y z : Int) : Int := if x ≠ 0 then x else if y ≠ 0 then y else z
theorem cmpI_bd (a b : Int) : -1 ≤ cmpI a b ∧ cmpI a b ≤ 1 := by unfold cmpI; split <;> (try split) <;> omega
theorem isNaN_c (a : Int) (w : World) : Calls Tryz.prog 42 #[.int .i64 a] w fun e w' => e = .returned (.bool false) ∧ w = w' := by
  go_enter Tryz.func42, Tryz.ntmps42
  go_wp2
  go_ret
  exact ⟨by simp, rfl⟩
theorem compare_c (a b : Int) (w : World) : Calls Tryz.prog 23 #[.int .i64 a, .int .i64 b] w fun e w' => e = .returned (.int .i64 (cmpI a b)) ∧ w = w' := by
  by_cases h1 : a < b
  · have e1 : cmpI a b = -1 := by unfold cmpI; rw [if_pos h1]
    rw [e1]
    clear e1
    go_enter Tryz.func23, Tryz.ntmps23
    go_wp2_with (go_at_call 42; refine (isNaN_c _ _).mono ?_; rintro e w' ⟨rfl, rfl⟩)
    go_ret
    exact ⟨rfl, rfl⟩
  · by_cases h2 : b < a
    · have e1 : cmpI a b = 1 := by unfold cmpI; rw [if_neg h1, if_pos h2]
      rw [e1]
      clear e1
      go_enter Tryz.func23, Tryz.ntmps23
      go_wp2_with (go_at_call 42; refine (isNaN_c _ _).mono ?_; rintro e w' ⟨rfl, rfl⟩)
      go_ret
      exact ⟨rfl, rfl⟩
    · have e1 : cmpI a b = 0 := by unfold cmpI; rw [if_neg h1, if_neg h2]
      rw [e1]
      clear e1
      go_enter Tryz.func23, Tryz.ntmps23
      go_wp2_with (go_at_call 42; refine (isNaN_c _ _).mono ?_; rintro e w' ⟨rfl, rfl⟩)
      go_ret
      exact ⟨rfl, rfl⟩
set_option maxRecDepth 100000 in
theorem or3_c (b : Nat) (x y z : Int) (w : World) (c0 : w.cell? ⟨b, 0, none⟩ = some (.int .i64 x)) (c1 : w.cell? ⟨b, 1, none⟩ = some (.int .i64 y)) (c2 : w.cell? ⟨b, 2, none⟩ = some (.int .i64 z)) :
    Calls Tryz.prog 24 #[.slice (some ⟨b, 0, none⟩) 3 3] w fun e w' => e = .returned (.int .i64 (or3 x y z)) ∧ w = w' := by
  go_enter Tryz.func24, Tryz.ntmps24
  go_wp2_with fail
  go_loop [8] (fun i => ∃ k : Nat, k ≤ 3 ∧ i = .int .i64 k ∧ Hid ((1 ≤ k → x = 0) ∧ (2 ≤ k → y = 0) ∧ (3 ≤ k → z = 0))) (fun i => 3 - (intOf i).toNat)
  case atStart => exact ⟨0, by omega, rfl, ⟨fun h => by omega, fun h => by omega, fun h => by omega⟩⟩
  case round =>
    obtain ⟨k, hk, rfl, H⟩ := hrel
    have h4 : k = 0 ∨ k = 1 ∨ k = 2 ∨ k = 3 := by omega
    rcases h4 with rfl | rfl | rfl | rfl
    · by_cases hx : x = 0
      · have hx' : (x != 0) = false := by simp [hx]
        have HX := Lib.hid hx
        clear hx
        go_wp2
        go_round
        case rel => exact ⟨1, by omega, by first | rfl | go_num, (show Hid _ from ⟨fun _ => HX.out, fun h => by omega, fun h => by omega⟩)⟩
        case measure => simp [intOf]
      · have hx' : (x != 0) = true := by simp [hx]
        have HX := Lib.hid hx
        clear hx
        go_wp2
        go_ret
        exact ⟨ret_int (by unfold or3; rw [if_pos HX.out]), rfl⟩
    · by_cases hx : y = 0
      · have hx' : (y != 0) = false := by simp [hx]
        have HX := Lib.hid hx
        clear hx
        go_wp2
        go_round
        case rel => exact ⟨2, by omega, by first | rfl | go_num, (show Hid _ from ⟨fun _ => H.out.1 (by omega), fun _ => HX.out, fun h => by omega⟩)⟩
        case measure => simp [intOf]
      · have hx' : (y != 0) = true := by simp [hx]
        have HX := Lib.hid hx
        clear hx
        go_wp2
        go_ret
        exact ⟨ret_int (by unfold or3; rw [if_neg (by simp [H.out.1 (by omega)]), if_pos HX.out]), rfl⟩
    · by_cases hx : z = 0
      · have hx' : (z != 0) = false := by simp [hx]
        have HX := Lib.hid hx
        clear hx
        go_wp2
        go_round
        case rel => exact ⟨3, by omega, by first | rfl | go_num, (show Hid _ from ⟨fun _ => H.out.1 (by omega), fun _ => H.out.2.1 (by omega), fun _ => HX.out⟩)⟩
        case measure => simp [intOf]
      · have hx' : (z != 0) = true := by simp [hx]
        have HX := Lib.hid hx
        clear hx
        go_wp2
        go_ret
        exact ⟨ret_int (by unfold or3; rw [if_neg (by simp [H.out.1 (by omega)]), if_neg (by simp [H.out.2.1 (by omega)])]), rfl⟩
    · go_wp2
      go_ret
      exact ⟨ret_int (by unfold or3; rw [if_neg (by simp [H.out.1 (by omega)]), if_neg (by simp [H.out.2.1 (by omega)])]; exact (H.out.2.2 (by omega)).symm), rfl⟩
def cfSort (x y : Stroke) : Int := or3 (cmpI x.tool y.tool) (if x.tool = 2 then -cmpI x.place y.place else cmpI x.place y.place) (cmpI x.long y.long)
def cfOrd (x y : Stroke) : Int := or3 (cmpI x.place y.place) (cmpI x.tool y.tool) (cmpI x.long y.long)
def StrokeLt (x y : Stroke) : Prop := x.tool < y.tool ∨ (x.tool = y.tool ∧ ((x.tool = 2 ∧ y.place < x.place) ∨ (x.tool ≠ 2 ∧ x.place < y.place) ∨ (x.place = y.place ∧ x.long < y.long)))
def OrdLt (x y : Stroke) : Prop := x.place < y.place ∨ (x.place = y.place ∧ (x.tool < y.tool ∨ (x.tool = y.tool ∧ x.long < y.long)))
theorem cmpI_lt {a b : Int} : (a < b ∧ cmpI a b = -1) ∨ (b < a ∧ cmpI a b = 1) ∨ (a = b ∧ cmpI a b = 0) := by
  unfold cmpI; split
  · exact .inl ⟨‹_›, rfl⟩
  · split
    · exact .inr (.inl ⟨‹_›, rfl⟩)
    · exact .inr (.inr ⟨by omega, rfl⟩)
theorem or3_s (x y z : Int) : (x ≠ 0 ∧ or3 x y z = x) ∨ (x = 0 ∧ y ≠ 0 ∧ or3 x y z = y) ∨ (x = 0 ∧ y = 0 ∧ or3 x y z = z) := by
  unfold or3; split
  · exact .inl ⟨‹_›, rfl⟩
  · split
    · exact .inr (.inl ⟨by omega, ‹_›, rfl⟩)
    · exact .inr (.inr ⟨by omega, by omega, rfl⟩)
theorem cfSort_lt (x y : Stroke) : cfSort x y < 0 ↔ StrokeLt x y := by
  unfold cfSort StrokeLt
  have h1 := @cmpI_lt x.tool y.tool
  have h2 := @cmpI_lt x.place y.place
  have h3 := @cmpI_lt x.long y.long
  by_cases ht : x.tool = 2
  · rw [if_pos ht]
    have h4 := or3_s (cmpI x.tool y.tool) (-cmpI x.place y.place) (cmpI x.long y.long)
    omega
  · rw [if_neg ht]
    have h4 := or3_s (cmpI x.tool y.tool) (cmpI x.place y.place) (cmpI x.long y.long)
    omega
theorem cfOrd_lt (x y : Stroke) : cfOrd x y < 0 ↔ OrdLt x y := by
  unfold cfOrd OrdLt
  have h1 := @cmpI_lt x.tool y.tool
  have h2 := @cmpI_lt x.place y.place
  have h3 := @cmpI_lt x.long y.long
  have h4 := or3_s (cmpI x.place y.place) (cmpI x.tool y.tool) (cmpI x.long y.long)
  omega
theorem ltSort_t {x y : Stroke} : ltOf cfSort x y = true ↔ StrokeLt x y := by unfold ltOf; rw [decide_eq_true_eq]; exact cfSort_lt x y
theorem ltSort_f {x y : Stroke} : ltOf cfSort x y = false ↔ ¬ StrokeLt x y := by unfold ltOf; rw [decide_eq_false_iff_not]; exact not_congr (cfSort_lt x y)
theorem ltOrd_t {x y : Stroke} : ltOf cfOrd x y = true ↔ OrdLt x y := by unfold ltOf; rw [decide_eq_true_eq]; exact cfOrd_lt x y
theorem ltOrd_f {x y : Stroke} : ltOf cfOrd x y = false ↔ ¬ OrdLt x y := by unfold ltOf; rw [decide_eq_false_iff_not]; exact not_congr (cfOrd_lt x y)
theorem swoSort : SWO (ltOf cfSort) where
  irrefl x := by rw [ltSort_f]; unfold StrokeLt; omega
  trans x y z h1 h2 := by rw [ltSort_t] at *; unfold StrokeLt at *; omega
  ntrans x y z h1 h2 := by rw [ltSort_f] at *; unfold StrokeLt at *; omega
theorem swoOrd : SWO (ltOf cfOrd) where
  irrefl x := by rw [ltOrd_f]; unfold OrdLt; omega
  trans x y z h1 h2 := by rw [ltOrd_t] at *; unfold OrdLt at *; omega
  ntrans x y z h1 h2 := by rw [ltOrd_f] at *; unfold OrdLt at *; omega
theorem totSort (x y : Stroke) (h1 : ltOf cfSort x y = false) (h2 : ltOf cfSort y x = false) : x = y := by
  rw [ltSort_f] at *; unfold StrokeLt at *
  apply Stroke.ext <;> omega
theorem totOrd (x y : Stroke) (h1 : ltOf cfOrd x y = false) (h2 : ltOf cfOrd y x = false) : x = y := by
  rw [ltOrd_f] at *; unfold OrdLt at *
  apply Stroke.ext <;> omega
attribute [local go_sem ↓] Go.wp_at_zero Go.wp_at_succ
set_option maxRecDepth 100000 in
set_option maxHeartbeats 1000000 in
theorem sortClo_c (x y : Stroke) (W : World) : Calls Tryz.prog 22 #[.agg x.cells.toArray, .agg y.cells.toArray] W fun e w' => e = .returned (.int .i64 (cfSort x y)) ∧ Grows W w' := by
  obtain ⟨a, b, c⟩ := x
  obtain ⟨d, e, f⟩ := y
  have hcf : cfSort ⟨a, b, c⟩ ⟨d, e, f⟩ = or3 (cmpI a d) (if a = 2 then -cmpI b e else cmpI b e) (cmpI c f) := rfl
  rw [hcf]
  clear hcf
  change Calls Tryz.prog 22 #[.agg #[.int .i64 a, .int .i64 b, .int .i64 c], .agg #[.int .i64 d, .int .i64 e, .int .i64 f]] W _
  have g0 := Grows.alloc (Grows.alloc (Grows.refl_ W) (.cells #[.int .i64 a, .int .i64 b, .int .i64 c] 35)) (.cells #[.int .i64 d, .int .i64 e, .int .i64 f] 35)
  have H1 := fun w => Lib.hid (compare_c b e w)
  have H2 := fun w => Lib.hid (compare_c a d w)
  have H3 := fun w => Lib.hid (compare_c c f w)
  have b1 := cmpI_bd b e
  obtain ⟨b1, b2⟩ := b1
  have B0 : Blk ((W.alloc (.cells #[.int .i64 a, .int .i64 b, .int .i64 c] 35)).alloc (.cells #[.int .i64 d, .int .i64 e, .int .i64 f] 35)) W.heap.size 35 #[.int .i64 a, .int .i64 b, .int .i64 c] := (Blk.new _ _ _).alloc _
  have B1 : Blk ((W.alloc (.cells #[.int .i64 a, .int .i64 b, .int .i64 c] 35)).alloc (.cells #[.int .i64 d, .int .i64 e, .int .i64 f] 35)) (W.heap.size + 1) 35 #[.int .i64 d, .int .i64 e, .int .i64 f] := Blk.new' _ _ _ (by simp)
  have x0 : ((W.alloc (.cells #[.int .i64 a, .int .i64 b, .int .i64 c] 35)).alloc (.cells #[.int .i64 d, .int .i64 e, .int .i64 f] 35)).cell? ⟨W.heap.size, 0, none⟩ = some (.int .i64 a) := B0.cell 0
  have x1 : ((W.alloc (.cells #[.int .i64 a, .int .i64 b, .int .i64 c] 35)).alloc (.cells #[.int .i64 d, .int .i64 e, .int .i64 f] 35)).cell? ⟨W.heap.size, 1, none⟩ = some (.int .i64 b) := B0.cell 1
  have x2 : ((W.alloc (.cells #[.int .i64 a, .int .i64 b, .int .i64 c] 35)).alloc (.cells #[.int .i64 d, .int .i64 e, .int .i64 f] 35)).cell? ⟨W.heap.size, 2, none⟩ = some (.int .i64 c) := B0.cell 2
  have y0 : ((W.alloc (.cells #[.int .i64 a, .int .i64 b, .int .i64 c] 35)).alloc (.cells #[.int .i64 d, .int .i64 e, .int .i64 f] 35)).cell? ⟨W.heap.size + 1, 0, none⟩ = some (.int .i64 d) := B1.cell 0
  have y1 : ((W.alloc (.cells #[.int .i64 a, .int .i64 b, .int .i64 c] 35)).alloc (.cells #[.int .i64 d, .int .i64 e, .int .i64 f] 35)).cell? ⟨W.heap.size + 1, 1, none⟩ = some (.int .i64 e) := B1.cell 1
  have y2 : ((W.alloc (.cells #[.int .i64 a, .int .i64 b, .int .i64 c] 35)).alloc (.cells #[.int .i64 d, .int .i64 e, .int .i64 f] 35)).cell? ⟨W.heap.size + 1, 2, none⟩ = some (.int .i64 f) := B1.cell 2
  clear B0 B1
  by_cases h2 : a = 2
  · have h2' : (a == 2) = true := by simp [h2]
    rw [if_pos h2]
    clear h2
    generalize cmpI b e = p at *
    generalize cmpI a d = q at *
    generalize cmpI c f = r at *
    go_enter Tryz.func22, Tryz.ntmps22
    go_wp2_with (go_at_call 23; with_reducible refine (H1 _).out.mono ?_; rintro e w' ⟨rfl, rfl⟩)
    generalize (W.alloc (.cells #[.int .i64 a, .int .i64 b, .int .i64 c] 35)).alloc (.cells #[.int .i64 d, .int .i64 e, .int .i64 f] 35) = w1 at *
    go_region_held3 (fun w' => w'.cell? ⟨W.heap.size, 0, none⟩ = some (.int .i64 a) ∧ w'.cell? ⟨W.heap.size, 2, none⟩ = some (.int .i64 c) ∧ w'.cell? ⟨W.heap.size + 1, 0, none⟩ = some (.int .i64 d) ∧ w'.cell? ⟨W.heap.size + 1, 2, none⟩ = some (.int .i64 f)) (go_keep) (first | (go_at_call 23; with_reducible refine (H2 _).out.mono ?_; rintro e w' ⟨rfl, rfl⟩) | (go_at_call 23; with_reducible refine (H3 _).out.mono ?_; rintro e w' ⟨rfl, rfl⟩) | (go_at_call 24; refine (or3_c _ q (-p) r _ (by simp) (by simp) (by simp)).mono ?_; rintro e w' ⟨rfl, rfl⟩))
    all_goals go_wp2
    all_goals go_ret
    all_goals exact ⟨rfl, by repeat (first | exact g0 | apply Grows.drew | apply Grows.alloc)⟩
  · have h2' : (a == 2) = false := by simp [h2]
    rw [if_neg h2]
    clear h2
    generalize cmpI b e = p at *
    generalize cmpI a d = q at *
    generalize cmpI c f = r at *
    go_enter Tryz.func22, Tryz.ntmps22
    go_wp2_with (go_at_call 23; with_reducible refine (H1 _).out.mono ?_; rintro e w' ⟨rfl, rfl⟩)
    generalize (W.alloc (.cells #[.int .i64 a, .int .i64 b, .int .i64 c] 35)).alloc (.cells #[.int .i64 d, .int .i64 e, .int .i64 f] 35) = w1 at *
    go_region_held3 (fun w' => w'.cell? ⟨W.heap.size, 0, none⟩ = some (.int .i64 a) ∧ w'.cell? ⟨W.heap.size, 2, none⟩ = some (.int .i64 c) ∧ w'.cell? ⟨W.heap.size + 1, 0, none⟩ = some (.int .i64 d) ∧ w'.cell? ⟨W.heap.size + 1, 2, none⟩ = some (.int .i64 f)) (go_keep) (first | (go_at_call 23; with_reducible refine (H2 _).out.mono ?_; rintro e w' ⟨rfl, rfl⟩) | (go_at_call 23; with_reducible refine (H3 _).out.mono ?_; rintro e w' ⟨rfl, rfl⟩) | (go_at_call 24; refine (or3_c _ q p r _ (by simp) (by simp) (by simp)).mono ?_; rintro e w' ⟨rfl, rfl⟩))
    all_goals go_wp2
    all_goals go_ret
    all_goals exact ⟨rfl, by repeat (first | exact g0 | apply Grows.drew | apply Grows.alloc)⟩
end Go.Proofs.YtkjommcmeinkaaaGreatDoor
