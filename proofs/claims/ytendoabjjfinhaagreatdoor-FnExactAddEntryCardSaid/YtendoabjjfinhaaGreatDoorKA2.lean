/- Comparing figures: the program's and the reference's. Conditions: for the reference's, the digits have at most four places. The small functions behind a mark's place: differences, halves and thirds of intervals. No condition beyond bounds. Sums of intervals, and the reference's logarithm of a figure. Conditions: bounds. Releases: plain. No program. Places on a chart's scales: the program's. Conditions: the chart's and the figure's bounds. -/
import Derived.BigQuiet
import Derived.Deep.RegionHeld3
import Derived.IntWalk
import Derived.Test.YtendoabjjfinhaaGreatDoorKA1
set_option linter.unusedSimpArgs false
namespace Go.Proofs.YtendoabjjfinhaaGreatDoor
open Go.RowKit
def cmpZ (a b : Int) : Int := if a < b then -1 else if b < a then 1 else 0
def or2 (x y : Int) : Int := if x ≠ 0 then x else y
def cmpF (a b : Figure) : Int := or2 (cmpZ a.tens b.tens) (cmpZ a.digits b.digits)
def leF (a b : Figure) : Bool := decide (cmpF a b ≤ 0)
theorem cmpZ_cases (a b : Int) : (a < b ∧ cmpZ a b = -1) ∨ (b < a ∧ cmpZ a b = 1) ∨ (a = b ∧ cmpZ a b = 0) := by
  unfold cmpZ
  by_cases h1 : a < b
  · exact .inl ⟨h1, if_pos h1⟩
  · by_cases h2 : b < a
    · exact .inr (.inl ⟨h2, by rw [if_neg h1, if_pos h2]⟩)
    · exact .inr (.inr ⟨by omega, by rw [if_neg h1, if_neg h2]⟩)
theorem cmpZ_bd (a b : Int) : -1 ≤ cmpZ a b ∧ cmpZ a b ≤ 1 := by
  rcases cmpZ_cases a b with ⟨_, h⟩ | ⟨_, h⟩ | ⟨_, h⟩ <;> omega
theorem leF_iff {a b : Figure} : leF a b = true ↔ a.tens < b.tens ∨ (a.tens = b.tens ∧ a.digits ≤ b.digits) := by
  unfold leF cmpF or2
  rw [decide_eq_true_eq]
  rcases cmpZ_cases a.tens b.tens with ⟨h1, h⟩ | ⟨h1, h⟩ | ⟨h1, h⟩ <;> rcases cmpZ_cases a.digits b.digits with ⟨h2, h'⟩ | ⟨h2, h'⟩ | ⟨h2, h'⟩ <;> rw [h] <;> (try rw [h']) <;> simp <;> omega
theorem cmpF_num {a b : Figure} (ha : 0 ≤ a.digits ∧ a.digits ≤ 9999) (hb : 0 ≤ b.digits ∧ b.digits ≤ 9999) : cmpF a b = cmpZ (10000 * a.tens + a.digits) (10000 * b.tens + b.digits) := by
  unfold cmpF or2
  rcases cmpZ_cases a.tens b.tens with ⟨h1, h⟩ | ⟨h1, h⟩ | ⟨h1, h⟩ <;> rcases cmpZ_cases a.digits b.digits with ⟨h2, h'⟩ | ⟨h2, h'⟩ | ⟨h2, h'⟩ <;> rcases cmpZ_cases (10000 * a.tens + a.digits) (10000 * b.tens + b.digits) with ⟨h3, h''⟩ | ⟨h3, h''⟩ | ⟨h3, h''⟩ <;> rw [h, h', h''] <;> simp <;> omega
theorem isNaNZ_c (a : Int) (w : World) : Calls Tryz.prog 163 #[.int .i64 a] w fun e w' => e = .returned (.bool false) ∧ w = w' := by
  go_enter Tryz.func163, Tryz.ntmps163
  go_wp2
  go_ret
  exact ⟨by simp, rfl⟩
theorem compareZ_c (a b : Int) (w : World) : Calls Tryz.prog 136 #[.int .i64 a, .int .i64 b] w fun e w' => e = .returned (.int .i64 (cmpZ a b)) ∧ w = w' := by
  rcases cmpZ_cases a b with ⟨h1, e1⟩ | ⟨h2, e1⟩ | ⟨h3, e1⟩
  · rw [e1]
    clear e1
    go_enter Tryz.func136, Tryz.ntmps136
    go_wp2_with (go_at_call 163; refine (isNaNZ_c _ _).mono ?_; rintro e w' ⟨rfl, rfl⟩)
    go_ret
    exact ⟨rfl, rfl⟩
  · rw [e1]
    clear e1
    have h1 : ¬ a < b := by omega
    go_enter Tryz.func136, Tryz.ntmps136
    go_wp2_with (go_at_call 163; refine (isNaNZ_c _ _).mono ?_; rintro e w' ⟨rfl, rfl⟩)
    go_ret
    exact ⟨rfl, rfl⟩
  · rw [e1]
    clear e1
    have h1 : ¬ a < b := by omega
    have h2 : ¬ b < a := by omega
    go_enter Tryz.func136, Tryz.ntmps136
    go_wp2_with (go_at_call 163; refine (isNaNZ_c _ _).mono ?_; rintro e w' ⟨rfl, rfl⟩)
    go_ret
    exact ⟨rfl, rfl⟩
set_option maxRecDepth 100000 in
theorem or2_c (b : Nat) (x y : Int) (w : World) (c0 : w.cell? ⟨b, 0, none⟩ = some (.int .i64 x)) (c1 : w.cell? ⟨b, 1, none⟩ = some (.int .i64 y)) :
    Calls Tryz.prog 135 #[.slice (some ⟨b, 0, none⟩) 2 2] w fun e w' => e = .returned (.int .i64 (or2 x y)) ∧ w = w' := by
  go_enter Tryz.func135, Tryz.ntmps135
  go_wp2_with fail
  go_loop [8] (fun i => ∃ k : Nat, k ≤ 2 ∧ i = .int .i64 k ∧ Hid ((1 ≤ k → x = 0) ∧ (2 ≤ k → y = 0))) (fun i => 2 - (intOf i).toNat)
  case atStart => exact ⟨0, by omega, rfl, ⟨fun h => by omega, fun h => by omega⟩⟩
  case round =>
    obtain ⟨k, hk, rfl, H⟩ := hrel
    have h4 : k = 0 ∨ k = 1 ∨ k = 2 := by omega
    rcases h4 with rfl | rfl | rfl
    · by_cases hx : x = 0
      · have hx' : (x != 0) = false := by simp [hx]
        have HX := Lib.hid hx
        clear hx
        go_wp2
        go_round
        case rel => exact ⟨1, by omega, by first | rfl | go_num, (show Hid _ from ⟨fun _ => HX.out, fun h => by omega⟩)⟩
        case measure => simp [intOf]
      · have hx' : (x != 0) = true := by simp [hx]
        have HX := Lib.hid hx
        clear hx
        go_wp2
        go_ret
        exact ⟨ret_int (by unfold or2; rw [if_pos HX.out]), rfl⟩
    · have H1 := Lib.hid (H.out.1 (by omega))
      by_cases hx : y = 0
      · have hx' : (y != 0) = false := by simp [hx]
        have HX := Lib.hid hx
        clear hx H
        go_wp2
        go_round
        case rel => exact ⟨2, by omega, by first | rfl | go_num, (show Hid _ from ⟨fun _ => H1.out, fun _ => HX.out⟩)⟩
        case measure => simp [intOf]
      · have hx' : (y != 0) = true := by simp [hx]
        have HX := Lib.hid hx
        clear hx H
        go_wp2
        go_ret
        exact ⟨ret_int (by unfold or2; rw [if_neg (by rw [H1.out]; simp)]), rfl⟩
    · have H1 := Lib.hid (H.out.1 (by omega))
      have H2 := Lib.hid (H.out.2 (by omega))
      clear H
      go_wp2
      go_ret
      exact ⟨ret_int (by unfold or2; rw [if_neg (by rw [H1.out]; simp), H2.out]), rfl⟩
/-- two figures lie in their boxes -/
structure TwF (w0 : World) (a b : Figure) (v : World) : Prop where
  hb : Below w0.heap.size w0 v
  b1 : Blk v w0.heap.size 40 #[.int .i64 a.digits, .int .i64 a.tens]
  b2 : Blk v (w0.heap.size + 1) 40 #[.int .i64 b.digits, .int .i64 b.tens]
theorem TwF.below {w0 v v' : World} {a b : Figure} (h : TwF w0 a b v) (hb : Below v.heap.size v v') : TwF w0 a b v' := ⟨h.hb.trans (hb.mono h.hb.size), h.b1.below hb h.b1.lt, h.b2.below hb h.b2.lt⟩
theorem TwF.drew {w0 v : World} {a b : Figure} (h : TwF w0 a b v) : TwF w0 a b v.drew := ⟨h.hb.drew, h.b1, h.b2⟩
theorem TwF.init {w0 : World} {a b : Figure} : TwF w0 a b ((w0.alloc (.cells #[.int .i64 a.digits, .int .i64 a.tens] 40)).alloc (.cells #[.int .i64 b.digits, .int .i64 b.tens] 40)) :=
  ⟨(by repeat (first | with_reducible exact Below.refl _ _ | with_reducible apply below_drewN' | with_reducible apply Below.drew | (with_reducible refine Below.alloc ?_ (by first | omega | (simp; omega) | simp | (have := (Below.refl _ _).size; omega) | (have := (Below.refl _ _).size; simp; omega)) _) | (with_reducible refine Below.setCell ?_ (by first | omega | (simp; omega) | simp | (have := (Below.refl _ _).size; omega) | (have := (Below.refl _ _).size; simp; omega)) _) | exact Below.refl _ _)), (Blk.new _ _ _).alloc _, Blk.new' _ _ _ (by simp)⟩
set_option maxRecDepth 100000 in
theorem compareFigures_c (a b : Figure) (w : World) : Calls Tryz.prog 100 #[a.agg, b.agg] w fun e w' => e = .returned (.int .i64 (cmpF a b)) ∧ Below w.heap.size w w' := by
  have hT0 : TwF w a b _ := TwF.init
  unfold cmpF
  obtain ⟨d, t⟩ := a
  obtain ⟨d', t'⟩ := b
  unfold Figure.agg
  simp only at hT0 ⊢
  have HC := fun (x y : Int) W => Lib.hid ((compareZ_c x y W).mono fun _ w' h => (⟨h.1, by rw [← h.2]; exact Below.refl _ _⟩ : _ ∧ Below W.heap.size W w'))
  have HO := fun b W c0 c1 => Lib.hid (or2_c b (cmpZ t t') (cmpZ d d') W c0 c1)
  generalize hx : cmpZ t t' = x at *
  generalize hy : cmpZ d d' = y at *
  have HX := Lib.hid hx
  have HY := Lib.hid hy
  clear hx hy
  go_enter Tryz.func100, Tryz.ntmps100
  go_wp2_with fail
  generalize (w.alloc (.cells #[.int .i64 d, .int .i64 t] 40)).alloc (.cells #[.int .i64 d', .int .i64 t'] 40) = W at *
  refine wp_region_sink 10 (fun a0 fL bA v => ∃ v5 v6 v7 v8 v9 v10 v11 v12 v13 v14 : Value, bA = (((((((((a0.put (some 5) v5).put (some 6) v6).put (some 7) v7).put (some 8) v8).put (some 9) v9).put (some 10) v10).put (some 11) v11).put (some 12) v12).put (some 13) v13).put (some 14) v14 ∧ (TwF w ⟨d, t⟩ ⟨d', t'⟩ v) ∧ (fL 0 = true → v5 = .pointer (some ⟨w.heap.size, 1, none⟩)) ∧ (fL 1 = true → v6 = .int .i64 t) ∧ (fL 2 = true → v7 = .pointer (some ⟨w.heap.size + 1, 1, none⟩)) ∧ (fL 3 = true → v8 = .int .i64 t') ∧ (fL 4 = true → v9 = .int .i64 x) ∧ (fL 5 = true → v10 = .pointer (some ⟨w.heap.size, 0, none⟩)) ∧ (fL 6 = true → v11 = .int .i64 d) ∧ (fL 7 = true → v12 = .pointer (some ⟨w.heap.size + 1, 0, none⟩)) ∧ (fL 8 = true → v13 = .int .i64 d') ∧ (fL 9 = true → v14 = .int .i64 y)) (by kernel_rfl) (by decide +kernel) ?_ ?_ ?_
  · exact ⟨undef, undef, undef, undef, undef, undef, undef, undef, undef, undef, by simp only [Act.put, List.setIfInBounds_toArray, List.set_cons_zero, List.set_cons_succ], hT0.drew, nofun, nofun, nofun, nofun, nofun, nofun, nofun, nofun, nofun, nofun⟩
  · rintro fL bA v ⟨v5, v6, v7, v8, v9, v10, v11, v12, v13, v14, rfl, hS, q0, q1, q2, q3, q4, q5, q6, q7, q8, q9⟩ i hi hf o ho hall
    simp only [Act.put, List.setIfInBounds_toArray, List.set_cons_zero, List.set_cons_succ]
    have hn : i = 0 ∨ i = 1 ∨ i = 2 ∨ i = 3 ∨ i = 4 ∨ i = 5 ∨ i = 6 ∨ i = 7 ∨ i = 8 ∨ i = 9 := by omega
    clear hi
    rcases hn with rfl | rfl | rfl | rfl | rfl | rfl | rfl | rfl | rfl | rfl
    · obtain rfl := Option.some.inj ho
      clear hall ho
      refine wpOp_step rfl (fun K hK => ?_)
      go_simp
      exact hK _ _ ⟨_, _, _, _, _, _, _, _, _, _, rfl, hS, fun _ => rfl, q1, q2, q3, q4, q5, q6, q7, q8, q9⟩
    · obtain rfl := Option.some.inj ho
      obtain rfl := q0 (hall ⟨0, .data⟩ (by simp) rfl)
      have y0 : v.cell? ⟨w.heap.size, 1, none⟩ = some (.int .i64 t) := hS.b1.cell 1
      clear hall ho
      refine wpOp_step rfl (fun K hK => ?_)
      go_simp
      exact hK _ _ ⟨_, _, _, _, _, _, _, _, _, _, rfl, hS, fun _ => rfl, fun _ => rfl, q2, q3, q4, q5, q6, q7, q8, q9⟩
    · obtain rfl := Option.some.inj ho
      clear hall ho
      refine wpOp_step rfl (fun K hK => ?_)
      go_simp
      exact hK _ _ ⟨_, _, _, _, _, _, _, _, _, _, rfl, hS, q0, q1, fun _ => rfl, q3, q4, q5, q6, q7, q8, q9⟩
    · obtain rfl := Option.some.inj ho
      obtain rfl := q2 (hall ⟨2, .data⟩ (by simp) rfl)
      have y0 : v.cell? ⟨w.heap.size + 1, 1, none⟩ = some (.int .i64 t') := hS.b2.cell 1
      clear hall ho
      refine wpOp_step rfl (fun K hK => ?_)
      go_simp
      exact hK _ _ ⟨_, _, _, _, _, _, _, _, _, _, rfl, hS, q0, q1, fun _ => rfl, fun _ => rfl, q4, q5, q6, q7, q8, q9⟩
    · obtain rfl := Option.some.inj ho
      obtain rfl := q1 (hall ⟨1, .data⟩ (by simp) rfl)
      obtain rfl := q3 (hall ⟨3, .data⟩ (by simp) rfl)
      clear hall ho
      refine wpOp_step rfl (fun K hK => ?_)
      go_simp
      refine Calls.mono ((by have h := (HC t t' v).out; rw [HX.out] at h; exact h)) ?_; rintro e w1 ⟨rfl, hb1⟩
      go_simp
      exact hK _ _ ⟨_, _, _, _, _, _, _, _, _, _, rfl, hS.below hb1, q0, fun _ => rfl, q2, fun _ => rfl, fun _ => rfl, q5, q6, q7, q8, q9⟩
    · obtain rfl := Option.some.inj ho
      clear hall ho
      refine wpOp_step rfl (fun K hK => ?_)
      go_simp
      exact hK _ _ ⟨_, _, _, _, _, _, _, _, _, _, rfl, hS, q0, q1, q2, q3, q4, fun _ => rfl, q6, q7, q8, q9⟩
    · obtain rfl := Option.some.inj ho
      obtain rfl := q5 (hall ⟨5, .data⟩ (by simp) rfl)
      have y0 : v.cell? ⟨w.heap.size, 0, none⟩ = some (.int .i64 d) := hS.b1.cell 0
      clear hall ho
      refine wpOp_step rfl (fun K hK => ?_)
      go_simp
      exact hK _ _ ⟨_, _, _, _, _, _, _, _, _, _, rfl, hS, q0, q1, q2, q3, q4, fun _ => rfl, fun _ => rfl, q7, q8, q9⟩
    · obtain rfl := Option.some.inj ho
      clear hall ho
      refine wpOp_step rfl (fun K hK => ?_)
      go_simp
      exact hK _ _ ⟨_, _, _, _, _, _, _, _, _, _, rfl, hS, q0, q1, q2, q3, q4, q5, q6, fun _ => rfl, q8, q9⟩
    · obtain rfl := Option.some.inj ho
      obtain rfl := q7 (hall ⟨7, .data⟩ (by simp) rfl)
      have y0 : v.cell? ⟨w.heap.size + 1, 0, none⟩ = some (.int .i64 d') := hS.b2.cell 0
      clear hall ho
      refine wpOp_step rfl (fun K hK => ?_)
      go_simp
      exact hK _ _ ⟨_, _, _, _, _, _, _, _, _, _, rfl, hS, q0, q1, q2, q3, q4, q5, q6, fun _ => rfl, fun _ => rfl, q9⟩
    · obtain rfl := Option.some.inj ho
      obtain rfl := q6 (hall ⟨6, .data⟩ (by simp) rfl)
      obtain rfl := q8 (hall ⟨8, .data⟩ (by simp) rfl)
      clear hall ho
      refine wpOp_step rfl (fun K hK => ?_)
      go_simp
      refine Calls.mono ((by have h := (HC d d' v).out; rw [HY.out] at h; exact h)) ?_; rintro e w1 ⟨rfl, hb1⟩
      go_simp
      exact hK _ _ ⟨_, _, _, _, _, _, _, _, _, _, rfl, hS.below hb1, q0, q1, q2, q3, q4, q5, fun _ => rfl, q7, fun _ => rfl, fun _ => rfl⟩
  · rintro fL bA v ⟨v5, v6, v7, v8, v9, v10, v11, v12, v13, v14, rfl, hS, q0, q1, q2, q3, q4, q5, q6, q7, q8, q9⟩ hall
    simp only [Act.put, List.setIfInBounds_toArray, List.set_cons_zero, List.set_cons_succ]
    obtain rfl := q0 (hall 0 (by omega))
    obtain rfl := q1 (hall 1 (by omega))
    obtain rfl := q2 (hall 2 (by omega))
    obtain rfl := q3 (hall 3 (by omega))
    obtain rfl := q4 (hall 4 (by omega))
    obtain rfl := q5 (hall 5 (by omega))
    obtain rfl := q6 (hall 6 (by omega))
    obtain rfl := q7 (hall 7 (by omega))
    obtain rfl := q8 (hall 8 (by omega))
    obtain rfl := q9 (hall 9 (by omega))
    clear hall
    simp only [List.drop_succ_cons, List.drop_zero]
    have hb := hS.hb
    have hsz := hb.size
    have N := Blk.new v 3 #[.int .i64 x, .int .i64 y]
    have HO' := HO v.heap.size _ (N.cell 0) (N.cell 1)
    clear hS hT0 HC HO N
    go_wp2_with fail
    refine Calls.mono HO'.out ?_; rintro e w1 ⟨rfl, rfl⟩
    go_wp2
    go_ret
    exact ⟨rfl, (by repeat (first | with_reducible exact hb | with_reducible apply below_drewN' | with_reducible apply Below.drew | (with_reducible refine Below.alloc ?_ (by first | omega | (simp; omega) | simp | (have := (hb).size; omega) | (have := (hb).size; simp; omega)) _) | (with_reducible refine Below.setCell ?_ (by first | omega | (simp; omega) | simp | (have := (hb).size; omega) | (have := (hb).size; simp; omega)) _) | exact hb))⟩
set_option maxRecDepth 100000 in
theorem l02Compare_c (a b : Figure) (w : World) (ha : figOK a = true) (hb : figOK b = true) : Calls Tryz.prog 105 #[a.agg, b.agg] w fun e w' => e = .returned (.int .i64 (cmpF a b)) ∧ Below w.heap.size w w' := by
  obtain ⟨⟨a1, a2⟩, a3, a4⟩ := fig_bd ha
  obtain ⟨⟨b1, b2⟩, b3, b4⟩ := fig_bd hb
  rw [cmpF_num ⟨by omega, a2⟩ ⟨by omega, b2⟩]
  clear ha hb
  obtain ⟨d, t⟩ := a
  obtain ⟨d', t'⟩ := b
  unfold Figure.agg
  simp only at *
  rcases cmpZ_cases (10000 * t + d) (10000 * t' + d') with ⟨h1, e1⟩ | ⟨h2, e1⟩ | ⟨h3, e1⟩
  · rw [e1]
    clear e1
    go_enter Tryz.func105, Tryz.ntmps105
    go_wp2_with fail
    go_quiet (fail)
    go_wp2
    go_ret
    exact ⟨rfl, (by repeat (first | with_reducible exact Below.refl _ _ | with_reducible apply below_drewN' | with_reducible apply Below.drew | (with_reducible refine Below.alloc ?_ (by first | omega | (simp; omega) | simp | (have := (Below.refl _ _).size; omega) | (have := (Below.refl _ _).size; simp; omega)) _) | (with_reducible refine Below.setCell ?_ (by first | omega | (simp; omega) | simp | (have := (Below.refl _ _).size; omega) | (have := (Below.refl _ _).size; simp; omega)) _) | exact Below.refl _ _))⟩
  · rw [e1]
    clear e1
    have h1 : ¬ (10000 * t + d) < (10000 * t' + d') := by omega
    go_enter Tryz.func105, Tryz.ntmps105
    go_wp2_with fail
    go_quiet (fail)
    go_wp2
    go_ret
    exact ⟨rfl, (by repeat (first | with_reducible exact Below.refl _ _ | with_reducible apply below_drewN' | with_reducible apply Below.drew | (with_reducible refine Below.alloc ?_ (by first | omega | (simp; omega) | simp | (have := (Below.refl _ _).size; omega) | (have := (Below.refl _ _).size; simp; omega)) _) | (with_reducible refine Below.setCell ?_ (by first | omega | (simp; omega) | simp | (have := (Below.refl _ _).size; omega) | (have := (Below.refl _ _).size; simp; omega)) _) | exact Below.refl _ _))⟩
  · rw [e1]
    clear e1
    have h1 : ¬ (10000 * t + d) < (10000 * t' + d') := by omega
    have h2 : ¬ (10000 * t' + d') < (10000 * t + d) := by omega
    clear h3
    go_enter Tryz.func105, Tryz.ntmps105
    go_wp2_with fail
    go_quiet (fail)
    go_wp2
    go_ret
    exact ⟨rfl, (by repeat (first | with_reducible exact Below.refl _ _ | with_reducible apply below_drewN' | with_reducible apply Below.drew | (with_reducible refine Below.alloc ?_ (by first | omega | (simp; omega) | simp | (have := (Below.refl _ _).size; omega) | (have := (Below.refl _ _).size; simp; omega)) _) | (with_reducible refine Below.setCell ?_ (by first | omega | (simp; omega) | simp | (have := (Below.refl _ _).size; omega) | (have := (Below.refl _ _).size; simp; omega)) _) | exact Below.refl _ _))⟩
end Go.Proofs.YtendoabjjfinhaaGreatDoor
namespace Go.Proofs.YtendoabjjfinhaaGreatDoor
open Go.RowKit
def iv (a b : Int) : Value := .agg #[.int .i64 a, .int .i64 b]
set_option maxRecDepth 100000 in
theorem difference_c (a b a' b' : Int) (w : World) (h : -1099511627776 ≤ a ∧ a ≤ 1099511627776) (h2 : -1099511627776 ≤ b ∧ b ≤ 1099511627776) (h3 : -1099511627776 ≤ a' ∧ a' ≤ 1099511627776) (h4 : -1099511627776 ≤ b' ∧ b' ≤ 1099511627776) :
    Calls Tryz.prog 179 #[.agg #[.int .i64 a, .int .i64 b], .agg #[.int .i64 a', .int .i64 b']] w fun e w' => e = .returned (.agg #[.int .i64 (a - b'), .int .i64 (b - a')]) ∧ Below w.heap.size w w' := by
  obtain ⟨p1, p2⟩ := h
  obtain ⟨p3, p4⟩ := h2
  obtain ⟨p5, p6⟩ := h3
  obtain ⟨p7, p8⟩ := h4
  go_enter Tryz.func179, Tryz.ntmps179
  go_wp2
  refine bodyPost_ret (v := .agg #[.int .i64 (a - b'), .int .i64 (b - a')]) (by simp [results, Tryz.results179, go_sem]) rfl ⟨rfl, (by repeat (first | with_reducible exact Below.refl _ _ | with_reducible apply below_drewN' | with_reducible apply Below.drew | (with_reducible refine Below.alloc ?_ (by first | omega | (simp; omega) | simp | (have := (Below.refl _ _).size; omega) | (have := (Below.refl _ _).size; simp; omega)) _) | (with_reducible refine Below.setCell ?_ (by first | omega | (simp; omega) | simp | (have := (Below.refl _ _).size; omega) | (have := (Below.refl _ _).size; simp; omega)) _) | exact Below.refl _ _))⟩
set_option maxRecDepth 100000 in
theorem l03Sub_c (a b a' b' : Int) (w : World) (h : -1099511627776 ≤ a ∧ a ≤ 1099511627776) (h2 : -1099511627776 ≤ b ∧ b ≤ 1099511627776) (h3 : -1099511627776 ≤ a' ∧ a' ≤ 1099511627776) (h4 : -1099511627776 ≤ b' ∧ b' ≤ 1099511627776) :
    Calls Tryz.prog 193 #[.agg #[.int .i64 a, .int .i64 b], .agg #[.int .i64 a', .int .i64 b']] w fun e w' => e = .returned (.agg #[.int .i64 (a - b'), .int .i64 (b - a')]) ∧ Below w.heap.size w w' := by
  obtain ⟨p1, p2⟩ := h
  obtain ⟨p3, p4⟩ := h2
  obtain ⟨p5, p6⟩ := h3
  obtain ⟨p7, p8⟩ := h4
  go_enter Tryz.func193, Tryz.ntmps193
  go_wp2
  refine bodyPost_ret (v := .agg #[.int .i64 (a - b'), .int .i64 (b - a')]) (by simp [results, Tryz.results193, go_sem]) rfl ⟨rfl, (by repeat (first | with_reducible exact Below.refl _ _ | with_reducible apply below_drewN' | with_reducible apply Below.drew | (with_reducible refine Below.alloc ?_ (by first | omega | (simp; omega) | simp | (have := (Below.refl _ _).size; omega) | (have := (Below.refl _ _).size; simp; omega)) _) | (with_reducible refine Below.setCell ?_ (by first | omega | (simp; omega) | simp | (have := (Below.refl _ _).size; omega) | (have := (Below.refl _ _).size; simp; omega)) _) | exact Below.refl _ _))⟩
end Go.Proofs.YtendoabjjfinhaaGreatDoor
namespace Go.Proofs.YtendoabjjfinhaaGreatDoor
open Go.RowKit
set_option maxRecDepth 100000 in
theorem l03Figure_c (f : Figure) (w : World) (h : 1000 ≤ f.digits ∧ f.digits ≤ 9999) (ht : -30 ≤ f.tens ∧ f.tens ≤ 30) :
    Calls Tryz.prog 194 #[f.agg] w fun e w' => e = .returned (.agg #[.int .i64 (logLow (f.digits * 100000) + f.tens * 1048576), .int .i64 (logHigh (f.digits * 100000) + f.tens * 1048576)]) ∧ Below w.heap.size w w' := by
  obtain ⟨d, t⟩ := f
  unfold Figure.agg
  simp only at *
  have hx : 100000000 ≤ d * 100000 ∧ d * 100000 ≤ 1000000000 := by omega
  have h1 := logLow_bd hx
  have h2 := logHigh_bd hx
  obtain ⟨h, h'⟩ := h
  obtain ⟨ht, ht'⟩ := ht
  have hlog := fun W => Lib.hid (l03Log_c (d * 100000) W hx)
  generalize logLow (d * 100000) = lo at *
  generalize logHigh (d * 100000) = hi at *
  go_enter Tryz.func194, Tryz.ntmps194
  go_wp2_with fail
  refine (hlog _).out.mono ?_; rintro e w1 ⟨rfl, hb1⟩
  have B0 : Blk w1 w.heap.size 40 #[.int .i64 d, .int .i64 t] := ((Blk.new w _ _).alloc _).below hb1 (by simp; omega)
  have B1 : Blk w1 (w.heap.size + 1) 179 #[.int .i64 0, .int .i64 0] := (Blk.new' _ _ _ (by simp)).below hb1 (by simp)
  have hb0 : Below w.heap.size w w1 := (((Below.refl _ _).alloc (Nat.le_refl _) _).alloc (by simp) _).trans (hb1.mono (by simp; omega))
  clear hb1
  have z0 := B0.lt
  have z1 := B1.lt
  have c1 : w1.cell? ⟨w.heap.size, 1, none⟩ = some (.int .i64 t) := B0.cell 1
  have d0 : w1.cell? ⟨w.heap.size + 1, 0, none⟩ = some (.int .i64 0) := B1.cell 0
  have d1 : w1.cell? ⟨w.heap.size + 1, 1, none⟩ = some (.int .i64 0) := B1.cell 1
  have f0 := B1.frozen 0
  have f1 := B1.frozen 1
  clear B0 B1
  go_wp2
  refine bodyPost_ret (v := .agg #[.int .i64 (lo + t * 1048576), .int .i64 (hi + t * 1048576)]) (by simp [results, Tryz.results194, go_sem, d0, d1, z1]) rfl ⟨rfl, ?_⟩
  have hbs := hb0.size
  exact (by repeat (first | with_reducible exact hb0 | with_reducible apply below_drewN' | with_reducible apply Below.drew | (with_reducible refine Below.alloc ?_ (by first | omega | (simp; omega) | simp | (have := (hb0).size; omega) | (have := (hb0).size; simp; omega)) _) | (with_reducible refine Below.setCell ?_ (by first | omega | (simp; omega) | simp | (have := (hb0).size; omega) | (have := (hb0).size; simp; omega)) _) | exact hb0))

def figLo (d t : Int) : Int := logLow (d * 100000) + t * 1048576
def figHi (d t : Int) : Int := logHigh (d * 100000) + t * 1048576
theorem figLo_bd {d t : Int} (h : 1000 ≤ d ∧ d ≤ 9999) (ht : -30 ≤ t ∧ t ≤ 30) : (-33554432 ≤ figLo d t ∧ figLo d t ≤ 33554432) ∧ (-33554432 ≤ figHi d t ∧ figHi d t ≤ 33554432) := by
  have h1 := logLow_bd (x := d * 100000) (by omega)
  have h2 := logHigh_bd (x := d * 100000) (by omega)
  unfold figLo figHi
  omega
end Go.Proofs.YtendoabjjfinhaaGreatDoor
namespace Go.Proofs.YtendoabjjfinhaaGreatDoor
open Go.RowKit
/-- a place on a scale with modulus n, as an interval -/
def plLo (n lo hi : Int) : Int := min (lo * n) (hi * n) / 1048576
def plHi (n lo hi : Int) : Int := -(-max (lo * n) (hi * n) / 1048576)
def plCode (n : Int) (f : Figure) : Int := if (inB (plLo n (figLo f.digits f.tens) (figHi f.digits f.tens)) (-100000) 100000 && inB (plHi n (figLo f.digits f.tens) (figHi f.digits f.tens)) (-100000) 100000) = true then 0 else 3
/-- whether a release is valid -/
def relB (fd ft : Int) (s : ByteArray) (l : List Int) (wd lf rt : Int) (lu hu lv hv : Figure) (ey bo : Int) : Bool :=
  chartB fd ft s l wd lf rt && (figOK lu && figOK hu && figOK lv && figOK hv) && (inB ey 0 200 && inB bo 0 1048576) && (decide (0 ≤ cmpF hu lu) && decide (0 ≤ cmpF hv lv)) &&
    (decide (plCode (lf * l.getD 0 0) lu = 0) && decide (plCode (lf * l.getD 0 0) hu = 0)) && (decide (plCode (rt * l.getD 1 0) lv = 0) && decide (plCode (rt * l.getD 1 0) hv = 0))
end Go.Proofs.YtendoabjjfinhaaGreatDoor
namespace Go.Proofs.YtendoabjjfinhaaGreatDoor
open Go.RowKit
def pl2 (n : Int) (f : Figure) : Int × Int := if plCode n f = 0 then (plLo n (figLo f.digits f.tens) (figHi f.digits f.tens), plHi n (figLo f.digits f.tens) (figHi f.digits f.tens)) else (0, 0)
theorem mul_abs {a b : Int} {A B : Nat} (ha : -(A : Int) ≤ a ∧ a ≤ A) (hb : -(B : Int) ≤ b ∧ b ≤ B) : -((A * B : Nat) : Int) ≤ a * b ∧ a * b ≤ (A * B : Nat) := by
  have h1 : a.natAbs ≤ A := by omega
  have h2 : b.natAbs ≤ B := by omega
  have h3 : (a * b).natAbs ≤ A * B := by rw [Int.natAbs_mul]; exact Nat.mul_le_mul h1 h2
  omega
theorem then_world {K : Act → World → Prop} {Q' : Exit → Act → World → Prop} {e : Exit} {a : Act} {W : World} {R : World → Prop} (h0 : R W) (h : ∀ V, R V → Exit.then K Q' e a V) : Exit.then K Q' e a W := h _ h0
theorem isPlace_c (n : Int) (w : World) : Calls Tryz.prog 180 #[.int .i64 n] w fun e w' => e = .returned (.bool (inB n (-100000) 100000)) ∧ w = w' := by
  go_enter Tryz.func180, Tryz.ntmps180
  go_wp2_with (go_at_call 88; refine (within_c _ _ _ _).mono ?_; rintro e w' ⟨rfl, rfl⟩)
  go_ret
  exact ⟨rfl, rfl⟩
set_option maxRecDepth 100000 in
set_option maxHeartbeats 4000000 in
theorem chartPlace0_c (fd ft : Int) (s : ByteArray) (b off c : Nat) (p0 p1 wd lf rt : Int) (f : Figure) (w : World) (hb : b < w.heap.size) (c0 : w.cell? ⟨b, off, none⟩ = some (.int .i64 p0)) (c1 : w.cell? ⟨b, off + 1, none⟩ = some (.int .i64 p1))
    (hp0 : -6 ≤ p0 ∧ p0 ≤ 6) (hp1 : -6 ≤ p1 ∧ p1 ≤ 6) (hlf : 100 ≤ lf ∧ lf ≤ 20000) (hrt : 100 ≤ rt ∧ rt ≤ 20000) (hf : (1000 ≤ f.digits ∧ f.digits ≤ 9999) ∧ (-30 ≤ f.tens ∧ f.tens ≤ 30)) :
    Calls Tryz.prog 164 #[.agg #[.int .i64 fd, .int .i64 ft, .string s, .slice (some ⟨b, off, none⟩) 2 c, .int .i64 wd, .int .i64 lf, .int .i64 rt], .int .i64 0, f.agg] w fun e w' => e = .returned (.tuple #[.agg #[.int .i64 (pl2 (lf * p0) f).1, .int .i64 (pl2 (lf * p0) f).2], .int .i64 (plCode (lf * p0) f)]) ∧ Below w.heap.size w w' := by
  have q0 : -120000 ≤ lf * p0 ∧ lf * p0 ≤ 120000 := mul_abs (a := lf) (b := p0) (A := 20000) (B := 6) (by omega) (by omega)
  have q1 : -120000 ≤ rt * p1 ∧ rt * p1 ≤ 120000 := mul_abs (a := rt) (b := p1) (A := 20000) (B := 6) (by omega) (by omega)
  have HL := fun W => figureLog_c f W hf.1 hf.2
  have e1 : logLow (f.digits * 100000) + f.tens * 1048576 = figLo f.digits f.tens := rfl
  have e2 : logHigh (f.digits * 100000) + f.tens * 1048576 = figHi f.digits f.tens := rfl
  simp only [e1, e2] at HL
  have bd := figLo_bd hf.1 hf.2
  generalize hx1 : (pl2 (lf * p0) f).1 = X1
  generalize hx2 : (pl2 (lf * p0) f).2 = X2
  generalize hx3 : plCode (lf * p0) f = X3
  have hX : Hid ((pl2 (lf * p0) f).1 = X1 ∧ (pl2 (lf * p0) f).2 = X2 ∧ plCode (lf * p0) f = X3) := ⟨hx1, hx2, hx3⟩
  clear hx1 hx2 hx3
  unfold pl2 plCode plLo plHi at hX
  generalize figLo f.digits f.tens = lo at *
  generalize figHi f.digits f.tens = hi at *
  clear e1 e2 hf
  unfold Figure.agg at HL ⊢
  replace HL := fun W => Lib.hid (HL W)
  have hW : Below w.heap.size w (((w.alloc (.cells #[.int .i64 fd, .int .i64 ft, .string s, .slice (some ⟨b, off, none⟩) 2 c, .int .i64 wd, .int .i64 lf, .int .i64 rt] 44)).alloc (.cells #[.int .i64 f.digits, .int .i64 f.tens] 40)).alloc (.cells #[.int .i64 0, .int .i64 0] 179)) := (by repeat (first | with_reducible exact Below.refl _ _ | with_reducible apply below_drewN' | with_reducible apply Below.drew | (with_reducible refine Below.alloc ?_ (by first | omega | (simp; omega) | simp | (have := (Below.refl _ _).size; omega) | (have := (Below.refl _ _).size; simp; omega)) _) | (with_reducible refine Below.setCell ?_ (by first | omega | (simp; omega) | simp | (have := (Below.refl _ _).size; omega) | (have := (Below.refl _ _).size; simp; omega)) _) | exact Below.refl _ _))
  have B0 := ((Blk.new w 44 #[.int .i64 fd, .int .i64 ft, .string s, .slice (some ⟨b, off, none⟩) 2 c, .int .i64 wd, .int .i64 lf, .int .i64 rt]).alloc (.cells #[.int .i64 f.digits, .int .i64 f.tens] 40)).alloc (.cells #[.int .i64 0, .int .i64 0] 179)
  have B2 := Blk.new' ((w.alloc (.cells #[.int .i64 fd, .int .i64 ft, .string s, .slice (some ⟨b, off, none⟩) 2 c, .int .i64 wd, .int .i64 lf, .int .i64 rt] 44)).alloc (.cells #[.int .i64 f.digits, .int .i64 f.tens] 40)) 179 #[.int .i64 0, .int .i64 0] (g := w.heap.size + 1 + 1) (by simp)
  go_enter Tryz.func164, Tryz.ntmps164
  go_wp2_with fail
  refine Calls.mono (HL _).out ?_; rintro e w1 ⟨rfl, hb1⟩
  have hW1 := hW.trans (hb1.mono hW.size)
  have D0 := (B0.below hb1 B0.lt).alloc (.cells #[.int .i64 lo, .int .i64 hi] 179)
  have D2 := (B2.below hb1 B2.lt).alloc (.cells #[.int .i64 lo, .int .i64 hi] 179)
  have z2 := (B2.below hb1 B2.lt).lt
  have D8 := Blk.new w1 179 #[.int .i64 lo, .int .i64 hi]
  have hW2 : Below w.heap.size w (w1.alloc (.cells #[.int .i64 lo, .int .i64 hi] 179)) := (by repeat (first | with_reducible exact hW1 | with_reducible apply below_drewN' | with_reducible apply Below.drew | (with_reducible refine Below.alloc ?_ (by first | omega | (simp; omega) | simp | (have := (hW1).size; omega) | (have := (hW1).size; simp; omega)) _) | (with_reducible refine Below.setCell ?_ (by first | omega | (simp; omega) | simp | (have := (hW1).size; omega) | (have := (hW1).size; simp; omega)) _) | exact hW1))
  have x0 : (w1.alloc (.cells #[.int .i64 lo, .int .i64 hi] 179)).cell? ⟨b, off, none⟩ = some (.int .i64 p0) := by rw [hW2.cell hb]; exact c0
  have x1 : (w1.alloc (.cells #[.int .i64 lo, .int .i64 hi] 179)).cell? ⟨b, off + 1, none⟩ = some (.int .i64 p1) := by rw [hW2.cell hb]; exact c1
  clear B0 B2 hW hb1 hW1 HL
  go_wp2_with fail
  generalize w1.alloc (.cells #[.int .i64 lo, .int .i64 hi] 179) = W at *
  generalize w1.heap.size = g at *
  have y3 : W.cell? ⟨w.heap.size, 3, none⟩ = some (.slice (some ⟨b, off, none⟩) 2 c) := D0.cell 3
  have y5 : W.cell? ⟨w.heap.size, 5, none⟩ = some (.int .i64 lf) := D0.cell 5
  have y6 : W.cell? ⟨w.heap.size, 6, none⟩ = some (.int .i64 rt) := D0.cell 6
  have i0 : W.cell? ⟨g, 0, none⟩ = some (.int .i64 lo) := D8.cell 0
  have i1 : W.cell? ⟨g, 1, none⟩ = some (.int .i64 hi) := D8.cell 1
  go_quiet (fail)
  go_wp2_with fail
  generalize lf * p0 = n at *
  have ml := mul_abs (A := 33554432) (B := 120000) bd.1 q0
  have mh := mul_abs (A := 33554432) (B := 120000) bd.2 q0
  simp only [Nat.reduceMul, Int.cast_ofNat_Int] at ml mh
  go_quiet (fail)
  generalize lo * n = A at *
  generalize hi * n = B at *
  clear bd q0 q1 x0 x1 y3 y5 y6 i0 i1 D0 D8 c0 c1
  refine then_world (R := fun V => Blk V (w.heap.size + 1 + 1) 179 #[.int .i64 0, .int .i64 0] ∧ Below w.heap.size w V) ⟨D2, (by repeat (first | with_reducible exact hW2 | with_reducible apply below_drewN' | with_reducible apply Below.drew | (with_reducible refine Below.alloc ?_ (by first | omega | (simp; omega) | simp | (have := (hW2).size; omega) | (have := (hW2).size; simp; omega)) _) | (with_reducible refine Below.setCell ?_ (by first | omega | (simp; omega) | simp | (have := (hW2).size; omega) | (have := (hW2).size; simp; omega)) _) | exact hW2))⟩ (fun V hV => ?_)
  clear D2 hW2 z2
  obtain ⟨D2, hW2⟩ := hV
  have z3 := D2.lt
  have r0 : V.cell? ⟨w.heap.size + 1 + 1, 0, none⟩ = some (.int .i64 0) := D2.cell 0
  have r1 : V.cell? ⟨w.heap.size + 1 + 1, 1, none⟩ = some (.int .i64 0) := D2.cell 1
  have rf0 : V.frozen? ⟨w.heap.size + 1 + 1, 0, none⟩ = false := D2.frozen 0
  have rf1 : V.frozen? ⟨w.heap.size + 1 + 1, 1, none⟩ = false := D2.frozen 1
  rcases Int.lt_trichotomy B A with h | h | h
  · have h2 : ¬ A < B := by omega
    have em : min A B = B := by omega
    have eM : max A B = A := by omega
    have HD := fun W => Lib.hid (down_c B 1048576 W (by omega) (by omega))
    have HU := fun W => Lib.hid (up_c A 1048576 W (by omega) (by omega))
    have HX := fun W => isPlace_c (B / 1048576) W
    have HY := fun W => isPlace_c (-(-A / 1048576)) W
    
    generalize ex : B / 1048576 = x at HD HX
    generalize ey : -(-A / 1048576) = y at HU HY
    clear ml mh
    have hp : ∀ bx by_ : Bool, inB x (-100000) 100000 = bx → inB y (-100000) 100000 = by_ → Hid ((if (inB (min A B / 1048576) (-100000) 100000 && inB (-(-max A B / 1048576)) (-100000) 100000) = true then (0 : Int) else 3) = if (bx && by_) = true then 0 else 3) := fun bx by_ h1 h2 => by rw [em, eM, ex, ey, h1, h2]; rfl
    cases hx : inB x (-100000) 100000 with
    | false =>
      simp only [hx] at HX
      replace HX := fun W => Lib.hid (HX W)
      go_wp2_with (first | (go_at_call 114; refine (HD _).out.mono ?_; rintro e w5 ⟨rfl, rfl⟩) | (go_at_call 102; refine (HU _).out.mono ?_; rintro e w5 ⟨rfl, rfl⟩) | (go_at_call 180; refine (HX _).out.mono ?_; rintro e w5 ⟨rfl, rfl⟩))
      refine bodyPost_ret (v := .tuple #[.agg #[.int .i64 0, .int .i64 0], .int .i64 3]) (by simp [results, Tryz.results164, go_sem, r0, r1, z3]) rfl ⟨?_, (by repeat (first | with_reducible exact hW2 | with_reducible apply below_drewN' | with_reducible apply Below.drew | (with_reducible refine Below.alloc ?_ (by first | omega | (simp; omega) | simp | (have := (hW2).size; omega) | (have := (hW2).size; simp; omega)) _) | (with_reducible refine Below.setCell ?_ (by first | omega | (simp; omega) | simp | (have := (hW2).size; omega) | (have := (hW2).size; simp; omega)) _) | exact hW2))⟩
      obtain ⟨u1, u2, u3⟩ := hX.out
      rw [(hp false _ hx rfl).out] at u1 u2 u3
      simp [em, eM, ex, ey] at u1 u2 u3
      rw [← u1, ← u2, ← u3]
    | true =>
      simp only [hx] at HX
      replace HX := fun W => Lib.hid (HX W)
      cases hy : inB y (-100000) 100000 with
      | false =>
        simp only [hy] at HY
        replace HY := fun W => Lib.hid (HY W)
        go_wp2_with (first | (go_at_call 114; refine (HD _).out.mono ?_; rintro e w5 ⟨rfl, rfl⟩) | (go_at_call 102; refine (HU _).out.mono ?_; rintro e w5 ⟨rfl, rfl⟩) | (go_at_call 180; refine (HX _).out.mono ?_; rintro e w5 ⟨rfl, rfl⟩) | (go_at_call 180; refine (HY _).out.mono ?_; rintro e w5 ⟨rfl, rfl⟩))
        refine bodyPost_ret (v := .tuple #[.agg #[.int .i64 0, .int .i64 0], .int .i64 3]) (by simp [results, Tryz.results164, go_sem, r0, r1, z3]) rfl ⟨?_, (by repeat (first | with_reducible exact hW2 | with_reducible apply below_drewN' | with_reducible apply Below.drew | (with_reducible refine Below.alloc ?_ (by first | omega | (simp; omega) | simp | (have := (hW2).size; omega) | (have := (hW2).size; simp; omega)) _) | (with_reducible refine Below.setCell ?_ (by first | omega | (simp; omega) | simp | (have := (hW2).size; omega) | (have := (hW2).size; simp; omega)) _) | exact hW2))⟩
        obtain ⟨u1, u2, u3⟩ := hX.out
        rw [(hp true false hx hy).out] at u1 u2 u3
        simp [em, eM, ex, ey] at u1 u2 u3
        rw [← u1, ← u2, ← u3]
      | true =>
        simp only [hy] at HY
        replace HY := fun W => Lib.hid (HY W)
        go_wp2_with (first | (go_at_call 114; refine (HD _).out.mono ?_; rintro e w5 ⟨rfl, rfl⟩) | (go_at_call 102; refine (HU _).out.mono ?_; rintro e w5 ⟨rfl, rfl⟩) | (go_at_call 180; refine (HX _).out.mono ?_; rintro e w5 ⟨rfl, rfl⟩) | (go_at_call 180; refine (HY _).out.mono ?_; rintro e w5 ⟨rfl, rfl⟩))
        refine bodyPost_ret (v := .tuple #[.agg #[.int .i64 x, .int .i64 y], .int .i64 0]) (by simp [results, Tryz.results164, go_sem, r0, r1, z3]) rfl ⟨?_, (by repeat (first | with_reducible exact hW2 | with_reducible apply below_drewN' | with_reducible apply Below.drew | (with_reducible refine Below.alloc ?_ (by first | omega | (simp; omega) | simp | (have := (hW2).size; omega) | (have := (hW2).size; simp; omega)) _) | (with_reducible refine Below.setCell ?_ (by first | omega | (simp; omega) | simp | (have := (hW2).size; omega) | (have := (hW2).size; simp; omega)) _) | exact hW2))⟩
        obtain ⟨u1, u2, u3⟩ := hX.out
        rw [(hp true true hx hy).out] at u1 u2 u3
        simp [em, eM, ex, ey] at u1 u2 u3
        rw [← u1, ← u2, ← u3]
  · subst h
    have em : min B B = B := by omega
    have eM : max B B = B := by omega
    have HD := fun W => Lib.hid (down_c B 1048576 W (by omega) (by omega))
    have HU := fun W => Lib.hid (up_c B 1048576 W (by omega) (by omega))
    have HX := fun W => isPlace_c (B / 1048576) W
    have HY := fun W => isPlace_c (-(-B / 1048576)) W
    
    generalize ex : B / 1048576 = x at HD HX
    generalize ey : -(-B / 1048576) = y at HU HY
    clear ml mh
    have hp : ∀ bx by_ : Bool, inB x (-100000) 100000 = bx → inB y (-100000) 100000 = by_ → Hid ((if (inB (min B B / 1048576) (-100000) 100000 && inB (-(-max B B / 1048576)) (-100000) 100000) = true then (0 : Int) else 3) = if (bx && by_) = true then 0 else 3) := fun bx by_ h1 h2 => by rw [em, eM, ex, ey, h1, h2]; rfl
    cases hx : inB x (-100000) 100000 with
    | false =>
      simp only [hx] at HX
      replace HX := fun W => Lib.hid (HX W)
      go_wp2_with (first | (go_at_call 114; refine (HD _).out.mono ?_; rintro e w5 ⟨rfl, rfl⟩) | (go_at_call 102; refine (HU _).out.mono ?_; rintro e w5 ⟨rfl, rfl⟩) | (go_at_call 180; refine (HX _).out.mono ?_; rintro e w5 ⟨rfl, rfl⟩))
      refine bodyPost_ret (v := .tuple #[.agg #[.int .i64 0, .int .i64 0], .int .i64 3]) (by simp [results, Tryz.results164, go_sem, r0, r1, z3]) rfl ⟨?_, (by repeat (first | with_reducible exact hW2 | with_reducible apply below_drewN' | with_reducible apply Below.drew | (with_reducible refine Below.alloc ?_ (by first | omega | (simp; omega) | simp | (have := (hW2).size; omega) | (have := (hW2).size; simp; omega)) _) | (with_reducible refine Below.setCell ?_ (by first | omega | (simp; omega) | simp | (have := (hW2).size; omega) | (have := (hW2).size; simp; omega)) _) | exact hW2))⟩
      obtain ⟨u1, u2, u3⟩ := hX.out
      rw [(hp false _ hx rfl).out] at u1 u2 u3
      simp [em, eM, ex, ey] at u1 u2 u3
      rw [← u1, ← u2, ← u3]
    | true =>
      simp only [hx] at HX
      replace HX := fun W => Lib.hid (HX W)
      cases hy : inB y (-100000) 100000 with
      | false =>
        simp only [hy] at HY
        replace HY := fun W => Lib.hid (HY W)
        go_wp2_with (first | (go_at_call 114; refine (HD _).out.mono ?_; rintro e w5 ⟨rfl, rfl⟩) | (go_at_call 102; refine (HU _).out.mono ?_; rintro e w5 ⟨rfl, rfl⟩) | (go_at_call 180; refine (HX _).out.mono ?_; rintro e w5 ⟨rfl, rfl⟩) | (go_at_call 180; refine (HY _).out.mono ?_; rintro e w5 ⟨rfl, rfl⟩))
        refine bodyPost_ret (v := .tuple #[.agg #[.int .i64 0, .int .i64 0], .int .i64 3]) (by simp [results, Tryz.results164, go_sem, r0, r1, z3]) rfl ⟨?_, (by repeat (first | with_reducible exact hW2 | with_reducible apply below_drewN' | with_reducible apply Below.drew | (with_reducible refine Below.alloc ?_ (by first | omega | (simp; omega) | simp | (have := (hW2).size; omega) | (have := (hW2).size; simp; omega)) _) | (with_reducible refine Below.setCell ?_ (by first | omega | (simp; omega) | simp | (have := (hW2).size; omega) | (have := (hW2).size; simp; omega)) _) | exact hW2))⟩
        obtain ⟨u1, u2, u3⟩ := hX.out
        rw [(hp true false hx hy).out] at u1 u2 u3
        simp [em, eM, ex, ey] at u1 u2 u3
        rw [← u1, ← u2, ← u3]
      | true =>
        simp only [hy] at HY
        replace HY := fun W => Lib.hid (HY W)
        go_wp2_with (first | (go_at_call 114; refine (HD _).out.mono ?_; rintro e w5 ⟨rfl, rfl⟩) | (go_at_call 102; refine (HU _).out.mono ?_; rintro e w5 ⟨rfl, rfl⟩) | (go_at_call 180; refine (HX _).out.mono ?_; rintro e w5 ⟨rfl, rfl⟩) | (go_at_call 180; refine (HY _).out.mono ?_; rintro e w5 ⟨rfl, rfl⟩))
        refine bodyPost_ret (v := .tuple #[.agg #[.int .i64 x, .int .i64 y], .int .i64 0]) (by simp [results, Tryz.results164, go_sem, r0, r1, z3]) rfl ⟨?_, (by repeat (first | with_reducible exact hW2 | with_reducible apply below_drewN' | with_reducible apply Below.drew | (with_reducible refine Below.alloc ?_ (by first | omega | (simp; omega) | simp | (have := (hW2).size; omega) | (have := (hW2).size; simp; omega)) _) | (with_reducible refine Below.setCell ?_ (by first | omega | (simp; omega) | simp | (have := (hW2).size; omega) | (have := (hW2).size; simp; omega)) _) | exact hW2))⟩
        obtain ⟨u1, u2, u3⟩ := hX.out
        rw [(hp true true hx hy).out] at u1 u2 u3
        simp [em, eM, ex, ey] at u1 u2 u3
        rw [← u1, ← u2, ← u3]
  · have h2 : ¬ B < A := by omega
    have em : min A B = A := by omega
    have eM : max A B = B := by omega
    have HD := fun W => Lib.hid (down_c A 1048576 W (by omega) (by omega))
    have HU := fun W => Lib.hid (up_c B 1048576 W (by omega) (by omega))
    have HX := fun W => isPlace_c (A / 1048576) W
    have HY := fun W => isPlace_c (-(-B / 1048576)) W
    
    generalize ex : A / 1048576 = x at HD HX
    generalize ey : -(-B / 1048576) = y at HU HY
    clear ml mh
    have hp : ∀ bx by_ : Bool, inB x (-100000) 100000 = bx → inB y (-100000) 100000 = by_ → Hid ((if (inB (min A B / 1048576) (-100000) 100000 && inB (-(-max A B / 1048576)) (-100000) 100000) = true then (0 : Int) else 3) = if (bx && by_) = true then 0 else 3) := fun bx by_ h1 h2 => by rw [em, eM, ex, ey, h1, h2]; rfl
    cases hx : inB x (-100000) 100000 with
    | false =>
      simp only [hx] at HX
      replace HX := fun W => Lib.hid (HX W)
      go_wp2_with (first | (go_at_call 114; refine (HD _).out.mono ?_; rintro e w5 ⟨rfl, rfl⟩) | (go_at_call 102; refine (HU _).out.mono ?_; rintro e w5 ⟨rfl, rfl⟩) | (go_at_call 180; refine (HX _).out.mono ?_; rintro e w5 ⟨rfl, rfl⟩))
      refine bodyPost_ret (v := .tuple #[.agg #[.int .i64 0, .int .i64 0], .int .i64 3]) (by simp [results, Tryz.results164, go_sem, r0, r1, z3]) rfl ⟨?_, (by repeat (first | with_reducible exact hW2 | with_reducible apply below_drewN' | with_reducible apply Below.drew | (with_reducible refine Below.alloc ?_ (by first | omega | (simp; omega) | simp | (have := (hW2).size; omega) | (have := (hW2).size; simp; omega)) _) | (with_reducible refine Below.setCell ?_ (by first | omega | (simp; omega) | simp | (have := (hW2).size; omega) | (have := (hW2).size; simp; omega)) _) | exact hW2))⟩
      obtain ⟨u1, u2, u3⟩ := hX.out
      rw [(hp false _ hx rfl).out] at u1 u2 u3
      simp [em, eM, ex, ey] at u1 u2 u3
      rw [← u1, ← u2, ← u3]
    | true =>
      simp only [hx] at HX
      replace HX := fun W => Lib.hid (HX W)
      cases hy : inB y (-100000) 100000 with
      | false =>
        simp only [hy] at HY
        replace HY := fun W => Lib.hid (HY W)
        go_wp2_with (first | (go_at_call 114; refine (HD _).out.mono ?_; rintro e w5 ⟨rfl, rfl⟩) | (go_at_call 102; refine (HU _).out.mono ?_; rintro e w5 ⟨rfl, rfl⟩) | (go_at_call 180; refine (HX _).out.mono ?_; rintro e w5 ⟨rfl, rfl⟩) | (go_at_call 180; refine (HY _).out.mono ?_; rintro e w5 ⟨rfl, rfl⟩))
        refine bodyPost_ret (v := .tuple #[.agg #[.int .i64 0, .int .i64 0], .int .i64 3]) (by simp [results, Tryz.results164, go_sem, r0, r1, z3]) rfl ⟨?_, (by repeat (first | with_reducible exact hW2 | with_reducible apply below_drewN' | with_reducible apply Below.drew | (with_reducible refine Below.alloc ?_ (by first | omega | (simp; omega) | simp | (have := (hW2).size; omega) | (have := (hW2).size; simp; omega)) _) | (with_reducible refine Below.setCell ?_ (by first | omega | (simp; omega) | simp | (have := (hW2).size; omega) | (have := (hW2).size; simp; omega)) _) | exact hW2))⟩
        obtain ⟨u1, u2, u3⟩ := hX.out
        rw [(hp true false hx hy).out] at u1 u2 u3
        simp [em, eM, ex, ey] at u1 u2 u3
        rw [← u1, ← u2, ← u3]
      | true =>
        simp only [hy] at HY
        replace HY := fun W => Lib.hid (HY W)
        go_wp2_with (first | (go_at_call 114; refine (HD _).out.mono ?_; rintro e w5 ⟨rfl, rfl⟩) | (go_at_call 102; refine (HU _).out.mono ?_; rintro e w5 ⟨rfl, rfl⟩) | (go_at_call 180; refine (HX _).out.mono ?_; rintro e w5 ⟨rfl, rfl⟩) | (go_at_call 180; refine (HY _).out.mono ?_; rintro e w5 ⟨rfl, rfl⟩))
        refine bodyPost_ret (v := .tuple #[.agg #[.int .i64 x, .int .i64 y], .int .i64 0]) (by simp [results, Tryz.results164, go_sem, r0, r1, z3]) rfl ⟨?_, (by repeat (first | with_reducible exact hW2 | with_reducible apply below_drewN' | with_reducible apply Below.drew | (with_reducible refine Below.alloc ?_ (by first | omega | (simp; omega) | simp | (have := (hW2).size; omega) | (have := (hW2).size; simp; omega)) _) | (with_reducible refine Below.setCell ?_ (by first | omega | (simp; omega) | simp | (have := (hW2).size; omega) | (have := (hW2).size; simp; omega)) _) | exact hW2))⟩
        obtain ⟨u1, u2, u3⟩ := hX.out
        rw [(hp true true hx hy).out] at u1 u2 u3
        simp [em, eM, ex, ey] at u1 u2 u3
        rw [← u1, ← u2, ← u3]
set_option maxRecDepth 100000 in
set_option maxHeartbeats 4000000 in
theorem chartPlace1_c (fd ft : Int) (s : ByteArray) (b off c : Nat) (p0 p1 wd lf rt : Int) (f : Figure) (w : World) (hb : b < w.heap.size) (c0 : w.cell? ⟨b, off, none⟩ = some (.int .i64 p0)) (c1 : w.cell? ⟨b, off + 1, none⟩ = some (.int .i64 p1))
    (hp0 : -6 ≤ p0 ∧ p0 ≤ 6) (hp1 : -6 ≤ p1 ∧ p1 ≤ 6) (hlf : 100 ≤ lf ∧ lf ≤ 20000) (hrt : 100 ≤ rt ∧ rt ≤ 20000) (hf : (1000 ≤ f.digits ∧ f.digits ≤ 9999) ∧ (-30 ≤ f.tens ∧ f.tens ≤ 30)) :
    Calls Tryz.prog 164 #[.agg #[.int .i64 fd, .int .i64 ft, .string s, .slice (some ⟨b, off, none⟩) 2 c, .int .i64 wd, .int .i64 lf, .int .i64 rt], .int .i64 1, f.agg] w fun e w' => e = .returned (.tuple #[.agg #[.int .i64 (pl2 (rt * p1) f).1, .int .i64 (pl2 (rt * p1) f).2], .int .i64 (plCode (rt * p1) f)]) ∧ Below w.heap.size w w' := by
  have q0 : -120000 ≤ lf * p0 ∧ lf * p0 ≤ 120000 := mul_abs (a := lf) (b := p0) (A := 20000) (B := 6) (by omega) (by omega)
  have q1 : -120000 ≤ rt * p1 ∧ rt * p1 ≤ 120000 := mul_abs (a := rt) (b := p1) (A := 20000) (B := 6) (by omega) (by omega)
  have HL := fun W => figureLog_c f W hf.1 hf.2
  have e1 : logLow (f.digits * 100000) + f.tens * 1048576 = figLo f.digits f.tens := rfl
  have e2 : logHigh (f.digits * 100000) + f.tens * 1048576 = figHi f.digits f.tens := rfl
  simp only [e1, e2] at HL
  have bd := figLo_bd hf.1 hf.2
  generalize hx1 : (pl2 (rt * p1) f).1 = X1
  generalize hx2 : (pl2 (rt * p1) f).2 = X2
  generalize hx3 : plCode (rt * p1) f = X3
  have hX : Hid ((pl2 (rt * p1) f).1 = X1 ∧ (pl2 (rt * p1) f).2 = X2 ∧ plCode (rt * p1) f = X3) := ⟨hx1, hx2, hx3⟩
  clear hx1 hx2 hx3
  unfold pl2 plCode plLo plHi at hX
  generalize figLo f.digits f.tens = lo at *
  generalize figHi f.digits f.tens = hi at *
  clear e1 e2 hf
  unfold Figure.agg at HL ⊢
  replace HL := fun W => Lib.hid (HL W)
  have hW : Below w.heap.size w (((w.alloc (.cells #[.int .i64 fd, .int .i64 ft, .string s, .slice (some ⟨b, off, none⟩) 2 c, .int .i64 wd, .int .i64 lf, .int .i64 rt] 44)).alloc (.cells #[.int .i64 f.digits, .int .i64 f.tens] 40)).alloc (.cells #[.int .i64 0, .int .i64 0] 179)) := (by repeat (first | with_reducible exact Below.refl _ _ | with_reducible apply below_drewN' | with_reducible apply Below.drew | (with_reducible refine Below.alloc ?_ (by first | omega | (simp; omega) | simp | (have := (Below.refl _ _).size; omega) | (have := (Below.refl _ _).size; simp; omega)) _) | (with_reducible refine Below.setCell ?_ (by first | omega | (simp; omega) | simp | (have := (Below.refl _ _).size; omega) | (have := (Below.refl _ _).size; simp; omega)) _) | exact Below.refl _ _))
  have B0 := ((Blk.new w 44 #[.int .i64 fd, .int .i64 ft, .string s, .slice (some ⟨b, off, none⟩) 2 c, .int .i64 wd, .int .i64 lf, .int .i64 rt]).alloc (.cells #[.int .i64 f.digits, .int .i64 f.tens] 40)).alloc (.cells #[.int .i64 0, .int .i64 0] 179)
  have B2 := Blk.new' ((w.alloc (.cells #[.int .i64 fd, .int .i64 ft, .string s, .slice (some ⟨b, off, none⟩) 2 c, .int .i64 wd, .int .i64 lf, .int .i64 rt] 44)).alloc (.cells #[.int .i64 f.digits, .int .i64 f.tens] 40)) 179 #[.int .i64 0, .int .i64 0] (g := w.heap.size + 1 + 1) (by simp)
  go_enter Tryz.func164, Tryz.ntmps164
  go_wp2_with fail
  refine Calls.mono (HL _).out ?_; rintro e w1 ⟨rfl, hb1⟩
  have hW1 := hW.trans (hb1.mono hW.size)
  have D0 := (B0.below hb1 B0.lt).alloc (.cells #[.int .i64 lo, .int .i64 hi] 179)
  have D2 := (B2.below hb1 B2.lt).alloc (.cells #[.int .i64 lo, .int .i64 hi] 179)
  have z2 := (B2.below hb1 B2.lt).lt
  have D8 := Blk.new w1 179 #[.int .i64 lo, .int .i64 hi]
  have hW2 : Below w.heap.size w (w1.alloc (.cells #[.int .i64 lo, .int .i64 hi] 179)) := (by repeat (first | with_reducible exact hW1 | with_reducible apply below_drewN' | with_reducible apply Below.drew | (with_reducible refine Below.alloc ?_ (by first | omega | (simp; omega) | simp | (have := (hW1).size; omega) | (have := (hW1).size; simp; omega)) _) | (with_reducible refine Below.setCell ?_ (by first | omega | (simp; omega) | simp | (have := (hW1).size; omega) | (have := (hW1).size; simp; omega)) _) | exact hW1))
  have x0 : (w1.alloc (.cells #[.int .i64 lo, .int .i64 hi] 179)).cell? ⟨b, off, none⟩ = some (.int .i64 p0) := by rw [hW2.cell hb]; exact c0
  have x1 : (w1.alloc (.cells #[.int .i64 lo, .int .i64 hi] 179)).cell? ⟨b, off + 1, none⟩ = some (.int .i64 p1) := by rw [hW2.cell hb]; exact c1
  clear B0 B2 hW hb1 hW1 HL
  go_wp2_with fail
  generalize w1.alloc (.cells #[.int .i64 lo, .int .i64 hi] 179) = W at *
  generalize w1.heap.size = g at *
  have y3 : W.cell? ⟨w.heap.size, 3, none⟩ = some (.slice (some ⟨b, off, none⟩) 2 c) := D0.cell 3
  have y5 : W.cell? ⟨w.heap.size, 5, none⟩ = some (.int .i64 lf) := D0.cell 5
  have y6 : W.cell? ⟨w.heap.size, 6, none⟩ = some (.int .i64 rt) := D0.cell 6
  have i0 : W.cell? ⟨g, 0, none⟩ = some (.int .i64 lo) := D8.cell 0
  have i1 : W.cell? ⟨g, 1, none⟩ = some (.int .i64 hi) := D8.cell 1
  go_quiet (fail)
  go_wp2_with fail
  go_quiet (fail)
  go_wp2_with fail
  generalize rt * p1 = n at *
  have ml := mul_abs (A := 33554432) (B := 120000) bd.1 q1
  have mh := mul_abs (A := 33554432) (B := 120000) bd.2 q1
  simp only [Nat.reduceMul, Int.cast_ofNat_Int] at ml mh
  go_quiet (fail)
  generalize lo * n = A at *
  generalize hi * n = B at *
  clear bd q0 q1 x0 x1 y3 y5 y6 i0 i1 D0 D8 c0 c1
  refine then_world (R := fun V => Blk V (w.heap.size + 1 + 1) 179 #[.int .i64 0, .int .i64 0] ∧ Below w.heap.size w V) ⟨D2, (by repeat (first | with_reducible exact hW2 | with_reducible apply below_drewN' | with_reducible apply Below.drew | (with_reducible refine Below.alloc ?_ (by first | omega | (simp; omega) | simp | (have := (hW2).size; omega) | (have := (hW2).size; simp; omega)) _) | (with_reducible refine Below.setCell ?_ (by first | omega | (simp; omega) | simp | (have := (hW2).size; omega) | (have := (hW2).size; simp; omega)) _) | exact hW2))⟩ (fun V hV => ?_)
  clear D2 hW2 z2
  obtain ⟨D2, hW2⟩ := hV
  have z3 := D2.lt
  have r0 : V.cell? ⟨w.heap.size + 1 + 1, 0, none⟩ = some (.int .i64 0) := D2.cell 0
  have r1 : V.cell? ⟨w.heap.size + 1 + 1, 1, none⟩ = some (.int .i64 0) := D2.cell 1
  have rf0 : V.frozen? ⟨w.heap.size + 1 + 1, 0, none⟩ = false := D2.frozen 0
  have rf1 : V.frozen? ⟨w.heap.size + 1 + 1, 1, none⟩ = false := D2.frozen 1
  rcases Int.lt_trichotomy B A with h | h | h
  · have h2 : ¬ A < B := by omega
    have em : min A B = B := by omega
    have eM : max A B = A := by omega
    have HD := fun W => Lib.hid (down_c B 1048576 W (by omega) (by omega))
    have HU := fun W => Lib.hid (up_c A 1048576 W (by omega) (by omega))
    have HX := fun W => isPlace_c (B / 1048576) W
    have HY := fun W => isPlace_c (-(-A / 1048576)) W
    
    generalize ex : B / 1048576 = x at HD HX
    generalize ey : -(-A / 1048576) = y at HU HY
    clear ml mh
    have hp : ∀ bx by_ : Bool, inB x (-100000) 100000 = bx → inB y (-100000) 100000 = by_ → Hid ((if (inB (min A B / 1048576) (-100000) 100000 && inB (-(-max A B / 1048576)) (-100000) 100000) = true then (0 : Int) else 3) = if (bx && by_) = true then 0 else 3) := fun bx by_ h1 h2 => by rw [em, eM, ex, ey, h1, h2]; rfl
    cases hx : inB x (-100000) 100000 with
    | false =>
      simp only [hx] at HX
      replace HX := fun W => Lib.hid (HX W)
      go_wp2_with (first | (go_at_call 114; refine (HD _).out.mono ?_; rintro e w5 ⟨rfl, rfl⟩) | (go_at_call 102; refine (HU _).out.mono ?_; rintro e w5 ⟨rfl, rfl⟩) | (go_at_call 180; refine (HX _).out.mono ?_; rintro e w5 ⟨rfl, rfl⟩))
      refine bodyPost_ret (v := .tuple #[.agg #[.int .i64 0, .int .i64 0], .int .i64 3]) (by simp [results, Tryz.results164, go_sem, r0, r1, z3]) rfl ⟨?_, (by repeat (first | with_reducible exact hW2 | with_reducible apply below_drewN' | with_reducible apply Below.drew | (with_reducible refine Below.alloc ?_ (by first | omega | (simp; omega) | simp | (have := (hW2).size; omega) | (have := (hW2).size; simp; omega)) _) | (with_reducible refine Below.setCell ?_ (by first | omega | (simp; omega) | simp | (have := (hW2).size; omega) | (have := (hW2).size; simp; omega)) _) | exact hW2))⟩
      obtain ⟨u1, u2, u3⟩ := hX.out
      rw [(hp false _ hx rfl).out] at u1 u2 u3
      simp [em, eM, ex, ey] at u1 u2 u3
      rw [← u1, ← u2, ← u3]
    | true =>
      simp only [hx] at HX
      replace HX := fun W => Lib.hid (HX W)
      cases hy : inB y (-100000) 100000 with
      | false =>
        simp only [hy] at HY
        replace HY := fun W => Lib.hid (HY W)
        go_wp2_with (first | (go_at_call 114; refine (HD _).out.mono ?_; rintro e w5 ⟨rfl, rfl⟩) | (go_at_call 102; refine (HU _).out.mono ?_; rintro e w5 ⟨rfl, rfl⟩) | (go_at_call 180; refine (HX _).out.mono ?_; rintro e w5 ⟨rfl, rfl⟩) | (go_at_call 180; refine (HY _).out.mono ?_; rintro e w5 ⟨rfl, rfl⟩))
        refine bodyPost_ret (v := .tuple #[.agg #[.int .i64 0, .int .i64 0], .int .i64 3]) (by simp [results, Tryz.results164, go_sem, r0, r1, z3]) rfl ⟨?_, (by repeat (first | with_reducible exact hW2 | with_reducible apply below_drewN' | with_reducible apply Below.drew | (with_reducible refine Below.alloc ?_ (by first | omega | (simp; omega) | simp | (have := (hW2).size; omega) | (have := (hW2).size; simp; omega)) _) | (with_reducible refine Below.setCell ?_ (by first | omega | (simp; omega) | simp | (have := (hW2).size; omega) | (have := (hW2).size; simp; omega)) _) | exact hW2))⟩
        obtain ⟨u1, u2, u3⟩ := hX.out
        rw [(hp true false hx hy).out] at u1 u2 u3
        simp [em, eM, ex, ey] at u1 u2 u3
        rw [← u1, ← u2, ← u3]
      | true =>
        simp only [hy] at HY
        replace HY := fun W => Lib.hid (HY W)
        go_wp2_with (first | (go_at_call 114; refine (HD _).out.mono ?_; rintro e w5 ⟨rfl, rfl⟩) | (go_at_call 102; refine (HU _).out.mono ?_; rintro e w5 ⟨rfl, rfl⟩) | (go_at_call 180; refine (HX _).out.mono ?_; rintro e w5 ⟨rfl, rfl⟩) | (go_at_call 180; refine (HY _).out.mono ?_; rintro e w5 ⟨rfl, rfl⟩))
        refine bodyPost_ret (v := .tuple #[.agg #[.int .i64 x, .int .i64 y], .int .i64 0]) (by simp [results, Tryz.results164, go_sem, r0, r1, z3]) rfl ⟨?_, (by repeat (first | with_reducible exact hW2 | with_reducible apply below_drewN' | with_reducible apply Below.drew | (with_reducible refine Below.alloc ?_ (by first | omega | (simp; omega) | simp | (have := (hW2).size; omega) | (have := (hW2).size; simp; omega)) _) | (with_reducible refine Below.setCell ?_ (by first | omega | (simp; omega) | simp | (have := (hW2).size; omega) | (have := (hW2).size; simp; omega)) _) | exact hW2))⟩
        obtain ⟨u1, u2, u3⟩ := hX.out
        rw [(hp true true hx hy).out] at u1 u2 u3
        simp [em, eM, ex, ey] at u1 u2 u3
        rw [← u1, ← u2, ← u3]
  · subst h
    have em : min B B = B := by omega
    have eM : max B B = B := by omega
    have HD := fun W => Lib.hid (down_c B 1048576 W (by omega) (by omega))
    have HU := fun W => Lib.hid (up_c B 1048576 W (by omega) (by omega))
    have HX := fun W => isPlace_c (B / 1048576) W
    have HY := fun W => isPlace_c (-(-B / 1048576)) W
    
    generalize ex : B / 1048576 = x at HD HX
    generalize ey : -(-B / 1048576) = y at HU HY
    clear ml mh
    have hp : ∀ bx by_ : Bool, inB x (-100000) 100000 = bx → inB y (-100000) 100000 = by_ → Hid ((if (inB (min B B / 1048576) (-100000) 100000 && inB (-(-max B B / 1048576)) (-100000) 100000) = true then (0 : Int) else 3) = if (bx && by_) = true then 0 else 3) := fun bx by_ h1 h2 => by rw [em, eM, ex, ey, h1, h2]; rfl
    cases hx : inB x (-100000) 100000 with
    | false =>
      simp only [hx] at HX
      replace HX := fun W => Lib.hid (HX W)
      go_wp2_with (first | (go_at_call 114; refine (HD _).out.mono ?_; rintro e w5 ⟨rfl, rfl⟩) | (go_at_call 102; refine (HU _).out.mono ?_; rintro e w5 ⟨rfl, rfl⟩) | (go_at_call 180; refine (HX _).out.mono ?_; rintro e w5 ⟨rfl, rfl⟩))
      refine bodyPost_ret (v := .tuple #[.agg #[.int .i64 0, .int .i64 0], .int .i64 3]) (by simp [results, Tryz.results164, go_sem, r0, r1, z3]) rfl ⟨?_, (by repeat (first | with_reducible exact hW2 | with_reducible apply below_drewN' | with_reducible apply Below.drew | (with_reducible refine Below.alloc ?_ (by first | omega | (simp; omega) | simp | (have := (hW2).size; omega) | (have := (hW2).size; simp; omega)) _) | (with_reducible refine Below.setCell ?_ (by first | omega | (simp; omega) | simp | (have := (hW2).size; omega) | (have := (hW2).size; simp; omega)) _) | exact hW2))⟩
      obtain ⟨u1, u2, u3⟩ := hX.out
      rw [(hp false _ hx rfl).out] at u1 u2 u3
      simp [em, eM, ex, ey] at u1 u2 u3
      rw [← u1, ← u2, ← u3]
    | true =>
      simp only [hx] at HX
      replace HX := fun W => Lib.hid (HX W)
      cases hy : inB y (-100000) 100000 with
      | false =>
        simp only [hy] at HY
        replace HY := fun W => Lib.hid (HY W)
        go_wp2_with (first | (go_at_call 114; refine (HD _).out.mono ?_; rintro e w5 ⟨rfl, rfl⟩) | (go_at_call 102; refine (HU _).out.mono ?_; rintro e w5 ⟨rfl, rfl⟩) | (go_at_call 180; refine (HX _).out.mono ?_; rintro e w5 ⟨rfl, rfl⟩) | (go_at_call 180; refine (HY _).out.mono ?_; rintro e w5 ⟨rfl, rfl⟩))
        refine bodyPost_ret (v := .tuple #[.agg #[.int .i64 0, .int .i64 0], .int .i64 3]) (by simp [results, Tryz.results164, go_sem, r0, r1, z3]) rfl ⟨?_, (by repeat (first | with_reducible exact hW2 | with_reducible apply below_drewN' | with_reducible apply Below.drew | (with_reducible refine Below.alloc ?_ (by first | omega | (simp; omega) | simp | (have := (hW2).size; omega) | (have := (hW2).size; simp; omega)) _) | (with_reducible refine Below.setCell ?_ (by first | omega | (simp; omega) | simp | (have := (hW2).size; omega) | (have := (hW2).size; simp; omega)) _) | exact hW2))⟩
        obtain ⟨u1, u2, u3⟩ := hX.out
        rw [(hp true false hx hy).out] at u1 u2 u3
        simp [em, eM, ex, ey] at u1 u2 u3
        rw [← u1, ← u2, ← u3]
      | true =>
        simp only [hy] at HY
        replace HY := fun W => Lib.hid (HY W)
        go_wp2_with (first | (go_at_call 114; refine (HD _).out.mono ?_; rintro e w5 ⟨rfl, rfl⟩) | (go_at_call 102; refine (HU _).out.mono ?_; rintro e w5 ⟨rfl, rfl⟩) | (go_at_call 180; refine (HX _).out.mono ?_; rintro e w5 ⟨rfl, rfl⟩) | (go_at_call 180; refine (HY _).out.mono ?_; rintro e w5 ⟨rfl, rfl⟩))
        refine bodyPost_ret (v := .tuple #[.agg #[.int .i64 x, .int .i64 y], .int .i64 0]) (by simp [results, Tryz.results164, go_sem, r0, r1, z3]) rfl ⟨?_, (by repeat (first | with_reducible exact hW2 | with_reducible apply below_drewN' | with_reducible apply Below.drew | (with_reducible refine Below.alloc ?_ (by first | omega | (simp; omega) | simp | (have := (hW2).size; omega) | (have := (hW2).size; simp; omega)) _) | (with_reducible refine Below.setCell ?_ (by first | omega | (simp; omega) | simp | (have := (hW2).size; omega) | (have := (hW2).size; simp; omega)) _) | exact hW2))⟩
        obtain ⟨u1, u2, u3⟩ := hX.out
        rw [(hp true true hx hy).out] at u1 u2 u3
        simp [em, eM, ex, ey] at u1 u2 u3
        rw [← u1, ← u2, ← u3]
  · have h2 : ¬ B < A := by omega
    have em : min A B = A := by omega
    have eM : max A B = B := by omega
    have HD := fun W => Lib.hid (down_c A 1048576 W (by omega) (by omega))
    have HU := fun W => Lib.hid (up_c B 1048576 W (by omega) (by omega))
    have HX := fun W => isPlace_c (A / 1048576) W
    have HY := fun W => isPlace_c (-(-B / 1048576)) W
    
    generalize ex : A / 1048576 = x at HD HX
    generalize ey : -(-B / 1048576) = y at HU HY
    clear ml mh
    have hp : ∀ bx by_ : Bool, inB x (-100000) 100000 = bx → inB y (-100000) 100000 = by_ → Hid ((if (inB (min A B / 1048576) (-100000) 100000 && inB (-(-max A B / 1048576)) (-100000) 100000) = true then (0 : Int) else 3) = if (bx && by_) = true then 0 else 3) := fun bx by_ h1 h2 => by rw [em, eM, ex, ey, h1, h2]; rfl
    cases hx : inB x (-100000) 100000 with
    | false =>
      simp only [hx] at HX
      replace HX := fun W => Lib.hid (HX W)
      go_wp2_with (first | (go_at_call 114; refine (HD _).out.mono ?_; rintro e w5 ⟨rfl, rfl⟩) | (go_at_call 102; refine (HU _).out.mono ?_; rintro e w5 ⟨rfl, rfl⟩) | (go_at_call 180; refine (HX _).out.mono ?_; rintro e w5 ⟨rfl, rfl⟩))
      refine bodyPost_ret (v := .tuple #[.agg #[.int .i64 0, .int .i64 0], .int .i64 3]) (by simp [results, Tryz.results164, go_sem, r0, r1, z3]) rfl ⟨?_, (by repeat (first | with_reducible exact hW2 | with_reducible apply below_drewN' | with_reducible apply Below.drew | (with_reducible refine Below.alloc ?_ (by first | omega | (simp; omega) | simp | (have := (hW2).size; omega) | (have := (hW2).size; simp; omega)) _) | (with_reducible refine Below.setCell ?_ (by first | omega | (simp; omega) | simp | (have := (hW2).size; omega) | (have := (hW2).size; simp; omega)) _) | exact hW2))⟩
      obtain ⟨u1, u2, u3⟩ := hX.out
      rw [(hp false _ hx rfl).out] at u1 u2 u3
      simp [em, eM, ex, ey] at u1 u2 u3
      rw [← u1, ← u2, ← u3]
    | true =>
      simp only [hx] at HX
      replace HX := fun W => Lib.hid (HX W)
      cases hy : inB y (-100000) 100000 with
      | false =>
        simp only [hy] at HY
        replace HY := fun W => Lib.hid (HY W)
        go_wp2_with (first | (go_at_call 114; refine (HD _).out.mono ?_; rintro e w5 ⟨rfl, rfl⟩) | (go_at_call 102; refine (HU _).out.mono ?_; rintro e w5 ⟨rfl, rfl⟩) | (go_at_call 180; refine (HX _).out.mono ?_; rintro e w5 ⟨rfl, rfl⟩) | (go_at_call 180; refine (HY _).out.mono ?_; rintro e w5 ⟨rfl, rfl⟩))
        refine bodyPost_ret (v := .tuple #[.agg #[.int .i64 0, .int .i64 0], .int .i64 3]) (by simp [results, Tryz.results164, go_sem, r0, r1, z3]) rfl ⟨?_, (by repeat (first | with_reducible exact hW2 | with_reducible apply below_drewN' | with_reducible apply Below.drew | (with_reducible refine Below.alloc ?_ (by first | omega | (simp; omega) | simp | (have := (hW2).size; omega) | (have := (hW2).size; simp; omega)) _) | (with_reducible refine Below.setCell ?_ (by first | omega | (simp; omega) | simp | (have := (hW2).size; omega) | (have := (hW2).size; simp; omega)) _) | exact hW2))⟩
        obtain ⟨u1, u2, u3⟩ := hX.out
        rw [(hp true false hx hy).out] at u1 u2 u3
        simp [em, eM, ex, ey] at u1 u2 u3
        rw [← u1, ← u2, ← u3]
      | true =>
        simp only [hy] at HY
        replace HY := fun W => Lib.hid (HY W)
        go_wp2_with (first | (go_at_call 114; refine (HD _).out.mono ?_; rintro e w5 ⟨rfl, rfl⟩) | (go_at_call 102; refine (HU _).out.mono ?_; rintro e w5 ⟨rfl, rfl⟩) | (go_at_call 180; refine (HX _).out.mono ?_; rintro e w5 ⟨rfl, rfl⟩) | (go_at_call 180; refine (HY _).out.mono ?_; rintro e w5 ⟨rfl, rfl⟩))
        refine bodyPost_ret (v := .tuple #[.agg #[.int .i64 x, .int .i64 y], .int .i64 0]) (by simp [results, Tryz.results164, go_sem, r0, r1, z3]) rfl ⟨?_, (by repeat (first | with_reducible exact hW2 | with_reducible apply below_drewN' | with_reducible apply Below.drew | (with_reducible refine Below.alloc ?_ (by first | omega | (simp; omega) | simp | (have := (hW2).size; omega) | (have := (hW2).size; simp; omega)) _) | (with_reducible refine Below.setCell ?_ (by first | omega | (simp; omega) | simp | (have := (hW2).size; omega) | (have := (hW2).size; simp; omega)) _) | exact hW2))⟩
        obtain ⟨u1, u2, u3⟩ := hX.out
        rw [(hp true true hx hy).out] at u1 u2 u3
        simp [em, eM, ex, ey] at u1 u2 u3
        rw [← u1, ← u2, ← u3]
end Go.Proofs.YtendoabjjfinhaaGreatDoor
