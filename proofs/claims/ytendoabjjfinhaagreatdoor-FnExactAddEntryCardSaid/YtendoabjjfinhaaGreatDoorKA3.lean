/- Points on a chart's scales: the program's. Conditions: the chart's and the figure's bounds. Places on a chart's scales: the reference's parts. Conditions: the chart's and the figure's bounds. Places on a chart's scales: the reference's scale. Conditions: the chart's bounds. append of rows to a slice of the call's own, in the words of Mem. Slices of int64: the laws' copies, comparisons and marks of them. No condition beyond the length. Errors: the structure, the laws' copies and comparisons of it. No condition beyond the length. -/
import Derived.Maps.AppendAt
import Derived.Deep.AppendLies
import Derived.OwnWalk
import Derived.StillTailTactics
import Derived.Test.YtendoabjjfinhaaGreatDoorKA1
import Derived.Test.YtendoabjjfinhaaGreatDoorKA2
set_option linter.unusedSimpArgs false
namespace Go.Proofs.YtendoabjjfinhaaGreatDoor
open Go.RowKit
def nearV (n d : Int) : Int := (2 * n + d) / (2 * d)
set_option maxRecDepth 100000 in
theorem nearC_c (n d : Int) (w : World) (hn : 0 ≤ n ∧ n ≤ 10000000000) (hd : 0 < d ∧ d ≤ 1000000000) : Calls Tryz.prog 165 #[.int .i64 n, .int .i64 d] w fun e w' => e = .returned (.int .i64 (nearV n d)) ∧ w = w' := by
  unfold nearV
  obtain ⟨hn1, hn2⟩ := hn
  obtain ⟨hd1, hd2⟩ := hd
  have h0 : ¬ d < 0 := by omega
  go_enter Tryz.func165, Tryz.ntmps165
  go_wp2_with (go_at_call 114; refine (down_c _ _ _ (by omega) (by omega)).mono ?_; rintro e w' ⟨rfl, rfl⟩)
  go_ret
  exact ⟨rfl, rfl⟩
theorem calls_same {P : Program} {f : FuncId} {args : Array Value} {W : World} {v : Value} (h : Calls P f args W fun e w' => e = .returned v ∧ W = w') : Calls P f args W fun e w' => e = .returned v ∧ Below W.heap.size W w' :=
  h.mono fun _ w' h => (⟨h.1, by rw [← h.2]; exact Below.refl _ _⟩ : _ ∧ Below W.heap.size W w')
theorem plCode_two (n : Int) (f : Figure) : plCode n f = 0 ∨ plCode n f = 3 := by
  unfold plCode
  split
  · exact .inl rfl
  · exact .inr rfl
theorem pl2_bd {n : Int} {f : Figure} (h : plCode n f = 0) : (-100000 ≤ (pl2 n f).1 ∧ (pl2 n f).1 ≤ 100000) ∧ (-100000 ≤ (pl2 n f).2 ∧ (pl2 n f).2 ≤ 100000) := by
  unfold pl2
  rw [if_pos h]
  unfold plCode at h
  split at h
  · rename_i h2
    simp only [Bool.and_eq_true] at h2
    exact ⟨inB_true.mp h2.1, inB_true.mp h2.2⟩
  · cases h
structure PnS (V : World) (wd nr : Int) (b : Bool) (v35 : Value) (v : World) : Prop where
  hb : Below V.heap.size V v
  sl : b = true → ∃ g, v35 = .slice (some ⟨g, 0, none⟩) 3 3 ∧ V.heap.size ≤ g ∧ Blk v g 2 #[.int .i64 0, .int .i64 wd, .int .i64 nr]
theorem PnS.below {V v v' : World} {wd nr : Int} {b : Bool} {v35 : Value} (h : PnS V wd nr b v35 v) (hb : Below v.heap.size v v') : PnS V wd nr b v35 v' :=
  ⟨h.hb.trans (hb.mono h.hb.size), fun e => let ⟨g, h1, h2, h3⟩ := h.sl e; ⟨g, h1, h2, h3.below hb h3.lt⟩⟩
theorem PnS.new {V v : World} {wd nr : Int} {b : Bool} {v35 : Value} (h : PnS V wd nr b v35 v) : PnS V wd nr true (.slice (some ⟨v.heap.size, 0, none⟩) 3 3) (v.alloc (.cells #[.int .i64 0, .int .i64 wd, .int .i64 nr] 2)) :=
  ⟨h.hb.alloc h.hb.size _, fun _ => ⟨_, rfl, h.hb.size, Blk.new _ _ _⟩⟩
set_option maxRecDepth 100000 in
set_option maxHeartbeats 4000000 in
theorem chartPoint0_c (fd ft : Int) (s : ByteArray) (b off c : Nat) (p0 p1 wd lf rt : Int) (f : Figure) (w : World) (hb : b < w.heap.size) (c0 : w.cell? ⟨b, off, none⟩ = some (.int .i64 p0)) (c1 : w.cell? ⟨b, off + 1, none⟩ = some (.int .i64 p1))
    (hp0 : -6 ≤ p0 ∧ p0 ≤ 6) (hp1 : -6 ≤ p1 ∧ p1 ≤ 6) (hwd : 1000 ≤ wd ∧ wd ≤ 100000) (hlf : 100 ≤ lf ∧ lf ≤ 20000) (hrt : 100 ≤ rt ∧ rt ≤ 20000) (hf : (1000 ≤ f.digits ∧ f.digits ≤ 9999) ∧ (-30 ≤ f.tens ∧ f.tens ≤ 30)) :
    Calls Tryz.prog 137 #[.agg #[.int .i64 fd, .int .i64 ft, .string s, .slice (some ⟨b, off, none⟩) 2 c, .int .i64 wd, .int .i64 lf, .int .i64 rt], .int .i64 0, f.agg] w fun e w' => (∃ x y, e = .returned (.tuple #[.agg #[.int .i64 x, .int .i64 y], .int .i64 (plCode (lf * p0) f)])) ∧ Below w.heap.size w w' := by
  have HP := fun W h1 h2 h3 => chartPlace0_c fd ft s b off c p0 p1 wd lf rt f W h1 h2 h3 hp0 hp1 hlf hrt hf
  have hz := @pl2_bd (lf * p0) f
  rcases plCode_two (lf * p0) f with hc | hc
  all_goals
    rw [hc] at HP hz ⊢
    clear hc
    generalize (pl2 (lf * p0) f).1 = P1 at *
    generalize (pl2 (lf * p0) f).2 = P2 at *
    unfold Figure.agg at HP ⊢
    replace HP := fun W h1 h2 h3 => Lib.hid (HP W h1 h2 h3)
    have hW : Below w.heap.size w (((w.alloc (.cells #[.int .i64 fd, .int .i64 ft, .string s, .slice (some ⟨b, off, none⟩) 2 c, .int .i64 wd, .int .i64 lf, .int .i64 rt] 44)).alloc (.cells #[.int .i64 f.digits, .int .i64 f.tens] 40)).alloc (.cells #[.int .i64 0, .int .i64 0] 154)) := (by repeat (first | with_reducible exact Below.refl _ _ | with_reducible apply below_drewN' | with_reducible apply Below.drew | (with_reducible refine Below.alloc ?_ (by first | omega | (simp; omega) | simp | (have := (Below.refl _ _).size; omega) | (have := (Below.refl _ _).size; simp; omega)) _) | (with_reducible refine Below.setCell ?_ (by first | omega | (simp; omega) | simp | (have := (Below.refl _ _).size; omega) | (have := (Below.refl _ _).size; simp; omega)) _) | exact Below.refl _ _))
    have HP := HP _ (Nat.lt_of_lt_of_le hb hW.size) (by rw [hW.cell hb]; exact c0) (by rw [hW.cell hb]; exact c1)
    have B0 := ((Blk.new w 44 #[.int .i64 fd, .int .i64 ft, .string s, .slice (some ⟨b, off, none⟩) 2 c, .int .i64 wd, .int .i64 lf, .int .i64 rt]).alloc (.cells #[.int .i64 f.digits, .int .i64 f.tens] 40)).alloc (.cells #[.int .i64 0, .int .i64 0] 154)
    have B2 := Blk.new' ((w.alloc (.cells #[.int .i64 fd, .int .i64 ft, .string s, .slice (some ⟨b, off, none⟩) 2 c, .int .i64 wd, .int .i64 lf, .int .i64 rt] 44)).alloc (.cells #[.int .i64 f.digits, .int .i64 f.tens] 40)) 154 #[.int .i64 0, .int .i64 0] (g := w.heap.size + 1 + 1) (by simp)
    go_enter Tryz.func137, Tryz.ntmps137
    go_wp2_with fail
    refine Calls.mono HP.out ?_; rintro e w1 ⟨rfl, hb1⟩
    have hW1 := hW.trans (hb1.mono hW.size)
    have D0 := (B0.below hb1 B0.lt).alloc (.cells #[.int .i64 P1, .int .i64 P2] 179)
    have C2 := B2.below hb1 B2.lt
    have D2 := (B2.below hb1 B2.lt).alloc (.cells #[.int .i64 P1, .int .i64 P2] 179)
    have z2 := (B2.below hb1 B2.lt).lt
    have D8 := Blk.new w1 179 #[.int .i64 P1, .int .i64 P2]
    have hW2 : Below w.heap.size w (w1.alloc (.cells #[.int .i64 P1, .int .i64 P2] 179)) := (by repeat (first | with_reducible exact hW1 | with_reducible apply below_drewN' | with_reducible apply Below.drew | (with_reducible refine Below.alloc ?_ (by first | omega | (simp; omega) | simp | (have := (hW1).size; omega) | (have := (hW1).size; simp; omega)) _) | (with_reducible refine Below.setCell ?_ (by first | omega | (simp; omega) | simp | (have := (hW1).size; omega) | (have := (hW1).size; simp; omega)) _) | exact hW1))
    have hs1 := hW1.size
    clear B0 B2 hW hb1 HP
  · have qn : 0 ≤ wd * lf ∧ wd * lf ≤ 2000000000 := ⟨Int.mul_nonneg (by omega) (by omega), (mul_abs (a := wd) (b := lf) (A := 100000) (B := 20000) (by omega) (by omega)).2⟩
    have HN := fun W => Lib.hid (nearC_c (wd * lf) (lf + rt) W (by omega) (by omega))
    generalize hnr : nearV (wd * lf) (lf + rt) = nr at HN
    clear hnr
    obtain ⟨⟨z5, z6⟩, z7, z8⟩ := hz (by first | trivial | rfl)
    clear hz
    have HD := fun W => Lib.hid (down_c (P1 + P2) 2 W (by omega) (by omega))
    have hw1 : IntKind.i64.wrap (wd * lf) = wd * lf := IntWalk.i64_in _ (by omega)
    have hw2 : IntKind.i64.wrap (lf + rt) = lf + rt := IntWalk.i64_in _ (by omega)
    go_wp2_with fail
    generalize w1.alloc (.cells #[.int .i64 P1, .int .i64 P2] 179) = V at *
    generalize w1.heap.size = g8 at *
    have zV := D8.lt
    refine wp_region_sink 15 (fun a0 fL bA v => ∃ v22 v23 v24 v25 v26 v27 v28 v29 v30 v31 v32 v33 v34 v35 v36 : Value, bA = ((((((((((((((a0.put (some 22) v22).put (some 23) v23).put (some 24) v24).put (some 25) v25).put (some 26) v26).put (some 27) v27).put (some 28) v28).put (some 29) v29).put (some 30) v30).put (some 31) v31).put (some 32) v32).put (some 33) v33).put (some 34) v34).put (some 35) v35).put (some 36) v36 ∧ (PnS V wd nr (fL 13) v35 v) ∧ (fL 0 = true → v22 = .pointer (some ⟨w.heap.size, 4, none⟩)) ∧ (fL 1 = true → v23 = .int .i64 wd) ∧ (fL 2 = true → v24 = .pointer (some ⟨w.heap.size, 4, none⟩)) ∧ (fL 3 = true → v25 = .int .i64 wd) ∧ (fL 4 = true → v26 = .pointer (some ⟨w.heap.size, 5, none⟩)) ∧ (fL 5 = true → v27 = .int .i64 lf) ∧ (fL 6 = true → v28 = .int .i64 (wd * lf)) ∧ (fL 7 = true → v29 = .pointer (some ⟨w.heap.size, 5, none⟩)) ∧ (fL 8 = true → v30 = .int .i64 lf) ∧ (fL 9 = true → v31 = .pointer (some ⟨w.heap.size, 6, none⟩)) ∧ (fL 10 = true → v32 = .int .i64 rt) ∧ (fL 11 = true → v33 = .int .i64 (lf + rt)) ∧ (fL 12 = true → v34 = .int .i64 nr) ∧ (fL 13 = true → True) ∧ (fL 14 = true → v36 = .int .i64 0)) (by kernel_rfl) (by decide +kernel) ?_ ?_ ?_
    · exact ⟨undef, undef, undef, undef, undef, undef, undef, undef, undef, undef, undef, undef, undef, undef, undef, by simp only [Act.put, List.setIfInBounds_toArray, List.set_cons_zero, List.set_cons_succ], ⟨(Below.refl _ _).drew, nofun⟩, nofun, nofun, nofun, nofun, nofun, nofun, nofun, nofun, nofun, nofun, nofun, nofun, nofun, nofun, nofun⟩
    · rintro fL bA v ⟨v22, v23, v24, v25, v26, v27, v28, v29, v30, v31, v32, v33, v34, v35, v36, rfl, hS, q0, q1, q2, q3, q4, q5, q6, q7, q8, q9, q10, q11, q12, q13, q14⟩ i hi hf o ho hall
      simp only [Act.put, List.setIfInBounds_toArray, List.set_cons_zero, List.set_cons_succ]
      have hn : i = 0 ∨ i = 1 ∨ i = 2 ∨ i = 3 ∨ i = 4 ∨ i = 5 ∨ i = 6 ∨ i = 7 ∨ i = 8 ∨ i = 9 ∨ i = 10 ∨ i = 11 ∨ i = 12 ∨ i = 13 ∨ i = 14 := by omega
      clear hi
      rcases hn with rfl | rfl | rfl | rfl | rfl | rfl | rfl | rfl | rfl | rfl | rfl | rfl | rfl | rfl | rfl
      · obtain rfl := Option.some.inj ho
        clear hall ho
        refine wpOp_step rfl (fun K hK => ?_)
        go_simp
        exact hK _ _ ⟨_, _, _, _, _, _, _, _, _, _, _, _, _, _, _, rfl, hS, fun _ => rfl, q1, q2, q3, q4, q5, q6, q7, q8, q9, q10, q11, q12, fun _ => trivial, q14⟩
      · obtain rfl := Option.some.inj ho
        obtain rfl := q0 (hall ⟨0, .data⟩ (by simp) rfl)
        have y0 : v.cell? ⟨w.heap.size, 4, none⟩ = some (.int .i64 wd) := (D0.below hS.hb D0.lt).cell 4
        clear hall ho
        refine wpOp_step rfl (fun K hK => ?_)
        go_simp
        exact hK _ _ ⟨_, _, _, _, _, _, _, _, _, _, _, _, _, _, _, rfl, hS, fun _ => rfl, fun _ => rfl, q2, q3, q4, q5, q6, q7, q8, q9, q10, q11, q12, fun _ => trivial, q14⟩
      · obtain rfl := Option.some.inj ho
        clear hall ho
        refine wpOp_step rfl (fun K hK => ?_)
        go_simp
        exact hK _ _ ⟨_, _, _, _, _, _, _, _, _, _, _, _, _, _, _, rfl, hS, q0, q1, fun _ => rfl, q3, q4, q5, q6, q7, q8, q9, q10, q11, q12, fun _ => trivial, q14⟩
      · obtain rfl := Option.some.inj ho
        obtain rfl := q2 (hall ⟨2, .data⟩ (by simp) rfl)
        have y0 : v.cell? ⟨w.heap.size, 4, none⟩ = some (.int .i64 wd) := (D0.below hS.hb D0.lt).cell 4
        clear hall ho
        refine wpOp_step rfl (fun K hK => ?_)
        go_simp
        exact hK _ _ ⟨_, _, _, _, _, _, _, _, _, _, _, _, _, _, _, rfl, hS, q0, q1, fun _ => rfl, fun _ => rfl, q4, q5, q6, q7, q8, q9, q10, q11, q12, fun _ => trivial, q14⟩
      · obtain rfl := Option.some.inj ho
        clear hall ho
        refine wpOp_step rfl (fun K hK => ?_)
        go_simp
        exact hK _ _ ⟨_, _, _, _, _, _, _, _, _, _, _, _, _, _, _, rfl, hS, q0, q1, q2, q3, fun _ => rfl, q5, q6, q7, q8, q9, q10, q11, q12, fun _ => trivial, q14⟩
      · obtain rfl := Option.some.inj ho
        obtain rfl := q4 (hall ⟨4, .data⟩ (by simp) rfl)
        have y0 : v.cell? ⟨w.heap.size, 5, none⟩ = some (.int .i64 lf) := (D0.below hS.hb D0.lt).cell 5
        clear hall ho
        refine wpOp_step rfl (fun K hK => ?_)
        go_simp
        exact hK _ _ ⟨_, _, _, _, _, _, _, _, _, _, _, _, _, _, _, rfl, hS, q0, q1, q2, q3, fun _ => rfl, fun _ => rfl, q6, q7, q8, q9, q10, q11, q12, fun _ => trivial, q14⟩
      · obtain rfl := Option.some.inj ho
        obtain rfl := q3 (hall ⟨3, .data⟩ (by simp) rfl)
        obtain rfl := q5 (hall ⟨5, .data⟩ (by simp) rfl)
        clear hall ho
        refine wpOp_step rfl (fun K hK => ?_)
        go_simp
        exact hK _ _ ⟨_, _, _, _, _, _, _, _, _, _, _, _, _, _, _, rfl, hS, q0, q1, q2, fun _ => rfl, q4, fun _ => rfl, fun _ => rfl, q7, q8, q9, q10, q11, q12, fun _ => trivial, q14⟩
      · obtain rfl := Option.some.inj ho
        clear hall ho
        refine wpOp_step rfl (fun K hK => ?_)
        go_simp
        exact hK _ _ ⟨_, _, _, _, _, _, _, _, _, _, _, _, _, _, _, rfl, hS, q0, q1, q2, q3, q4, q5, q6, fun _ => rfl, q8, q9, q10, q11, q12, fun _ => trivial, q14⟩
      · obtain rfl := Option.some.inj ho
        obtain rfl := q7 (hall ⟨7, .data⟩ (by simp) rfl)
        have y0 : v.cell? ⟨w.heap.size, 5, none⟩ = some (.int .i64 lf) := (D0.below hS.hb D0.lt).cell 5
        clear hall ho
        refine wpOp_step rfl (fun K hK => ?_)
        go_simp
        exact hK _ _ ⟨_, _, _, _, _, _, _, _, _, _, _, _, _, _, _, rfl, hS, q0, q1, q2, q3, q4, q5, q6, fun _ => rfl, fun _ => rfl, q9, q10, q11, q12, fun _ => trivial, q14⟩
      · obtain rfl := Option.some.inj ho
        clear hall ho
        refine wpOp_step rfl (fun K hK => ?_)
        go_simp
        exact hK _ _ ⟨_, _, _, _, _, _, _, _, _, _, _, _, _, _, _, rfl, hS, q0, q1, q2, q3, q4, q5, q6, q7, q8, fun _ => rfl, q10, q11, q12, fun _ => trivial, q14⟩
      · obtain rfl := Option.some.inj ho
        obtain rfl := q9 (hall ⟨9, .data⟩ (by simp) rfl)
        have y0 : v.cell? ⟨w.heap.size, 6, none⟩ = some (.int .i64 rt) := (D0.below hS.hb D0.lt).cell 6
        clear hall ho
        refine wpOp_step rfl (fun K hK => ?_)
        go_simp
        exact hK _ _ ⟨_, _, _, _, _, _, _, _, _, _, _, _, _, _, _, rfl, hS, q0, q1, q2, q3, q4, q5, q6, q7, q8, fun _ => rfl, fun _ => rfl, q11, q12, fun _ => trivial, q14⟩
      · obtain rfl := Option.some.inj ho
        obtain rfl := q8 (hall ⟨8, .data⟩ (by simp) rfl)
        obtain rfl := q10 (hall ⟨10, .data⟩ (by simp) rfl)
        clear hall ho
        refine wpOp_step rfl (fun K hK => ?_)
        go_simp
        exact hK _ _ ⟨_, _, _, _, _, _, _, _, _, _, _, _, _, _, _, rfl, hS, q0, q1, q2, q3, q4, q5, q6, q7, fun _ => rfl, q9, fun _ => rfl, fun _ => rfl, q12, fun _ => trivial, q14⟩
      · obtain rfl := Option.some.inj ho
        obtain rfl := q6 (hall ⟨6, .data⟩ (by simp) rfl)
        obtain rfl := q11 (hall ⟨11, .data⟩ (by simp) rfl)
        clear hall ho
        refine wpOp_step rfl (fun K hK => ?_)
        go_simp
        refine Calls.mono ((calls_same (HN v).out)) ?_; rintro e w1 ⟨rfl, hb1⟩
        go_simp
        exact hK _ _ ⟨_, _, _, _, _, _, _, _, _, _, _, _, _, _, _, rfl, hS.below hb1, q0, q1, q2, q3, q4, q5, fun _ => rfl, q7, q8, q9, q10, fun _ => rfl, fun _ => rfl, fun _ => trivial, q14⟩
      · obtain rfl := Option.some.inj ho
        obtain rfl := q1 (hall ⟨1, .data⟩ (by simp) rfl)
        obtain rfl := q12 (hall ⟨12, .data⟩ (by simp) rfl)
        clear hall ho
        refine wpOp_step rfl (fun K hK => ?_)
        go_simp
        exact hK _ _ ⟨_, _, _, _, _, _, _, _, _, _, _, _, _, _, _, rfl, hS.new, q0, fun _ => rfl, q2, q3, q4, q5, q6, q7, q8, q9, q10, q11, fun _ => rfl, fun _ => trivial, q14⟩
      · obtain rfl := Option.some.inj ho
        clear hall ho
        refine wpOp_step rfl (fun K hK => ?_)
        go_simp
        exact hK _ _ ⟨_, _, _, _, _, _, _, _, _, _, _, _, _, _, _, rfl, hS, q0, q1, q2, q3, q4, q5, q6, q7, q8, q9, q10, q11, q12, fun _ => trivial, fun _ => rfl⟩
    · rintro fL bA v ⟨v22, v23, v24, v25, v26, v27, v28, v29, v30, v31, v32, v33, v34, v35, v36, rfl, hS, q0, q1, q2, q3, q4, q5, q6, q7, q8, q9, q10, q11, q12, q13, q14⟩ hall
      simp only [Act.put, List.setIfInBounds_toArray, List.set_cons_zero, List.set_cons_succ]
      obtain rfl := q0 (hall 0 (by omega))
      obtain rfl := q1 (hall 1 (by omega))
      obtain rfl := q2 (hall 2 (by omega))
      obtain rfl := q3 (hall 3 (by omega))
      obtain rfl := q4 (hall 4 (by omega))
      obtain rfl := q5 (hall 5 (by omega))
      obtain rfl := q6 (hall 6 (by omega))
      obtain rfl := q7 (hall 7 (by omega))
      obtain rfl := q8 (hall 8 (by omega))
      obtain rfl := q9 (hall 9 (by omega))
      obtain rfl := q10 (hall 10 (by omega))
      obtain rfl := q11 (hall 11 (by omega))
      obtain rfl := q12 (hall 12 (by omega))
      have e13 : fL 13 = true := hall 13 (by omega)
      obtain rfl := q14 (hall 14 (by omega))
      clear hall
      simp only [List.drop_succ_cons, List.drop_zero]
      obtain ⟨g, rfl, hg, hB⟩ := hS.sl e13
      have hb2 := hS.hb
      have E2 := D2.below hb2 D2.lt
      have E8 := D8.below hb2 D8.lt
      have y0 : v.cell? ⟨g, 0, none⟩ = some (.int .i64 0) := hB.cell 0
      have i0 : v.cell? ⟨g8, 0, none⟩ = some (.int .i64 P1) := E8.cell 0
      have i1 : v.cell? ⟨g8, 1, none⟩ = some (.int .i64 P2) := E8.cell 1
      have r0 : v.cell? ⟨w.heap.size + 1 + 1, 0, none⟩ = some (.int .i64 0) := E2.cell 0
      have r1 : v.cell? ⟨w.heap.size + 1 + 1, 1, none⟩ = some (.int .i64 0) := E2.cell 1
      have rf0 : v.frozen? ⟨w.heap.size + 1 + 1, 0, none⟩ = false := E2.frozen 0
      have rf1 : v.frozen? ⟨w.heap.size + 1 + 1, 1, none⟩ = false := E2.frozen 1
      have hW3 := hW2.trans (hb2.mono hW2.size)
      clear hS D0 D2 D8 hW2 HN
      go_wp2_with (go_at_call 114; refine (HD _).out.mono ?_; rintro e w5 ⟨rfl, rfl⟩)
      refine bodyPost_ret (v := .tuple #[.agg #[.int .i64 0, .int .i64 ((P1 + P2) / 2)], .int .i64 0]) (by simp [results, Tryz.results137, go_sem, r0, r1]) rfl ⟨⟨_, _, rfl⟩, (by repeat (first | with_reducible exact hW3 | with_reducible apply below_drewN' | with_reducible apply Below.drew | (with_reducible refine Below.alloc ?_ (by first | omega | (simp; omega) | simp | (have := (hW3).size; omega) | (have := (hW3).size; simp; omega)) _) | (with_reducible refine Below.setCell ?_ (by first | omega | (simp; omega) | simp | (have := (hW3).size; omega) | (have := (hW3).size; simp; omega)) _) | exact hW3))⟩
  · have r0 : w1.cell? ⟨w.heap.size + 1 + 1, 0, none⟩ = some (.int .i64 0) := C2.cell 0
    have r1 : w1.cell? ⟨w.heap.size + 1 + 1, 1, none⟩ = some (.int .i64 0) := C2.cell 1
    have rf0 : w1.frozen? ⟨w.heap.size + 1 + 1, 0, none⟩ = false := C2.frozen 0
    have rf1 : w1.frozen? ⟨w.heap.size + 1 + 1, 1, none⟩ = false := C2.frozen 1
    go_wp2_with fail
    refine bodyPost_ret (v := .tuple #[.agg #[.int .i64 0, .int .i64 0], .int .i64 3]) (by simp [results, Tryz.results137, go_sem, r0, r1, z2]) rfl ⟨⟨_, _, rfl⟩, (by repeat (first | with_reducible exact hW1 | with_reducible apply below_drewN' | with_reducible apply Below.drew | (with_reducible refine Below.alloc ?_ (by first | omega | (simp; omega) | simp | (have := (hW1).size; omega) | (have := (hW1).size; simp; omega)) _) | (with_reducible refine Below.setCell ?_ (by first | omega | (simp; omega) | simp | (have := (hW1).size; omega) | (have := (hW1).size; simp; omega)) _) | exact hW1))⟩
set_option maxRecDepth 100000 in
set_option maxHeartbeats 4000000 in
theorem chartPoint1_c (fd ft : Int) (s : ByteArray) (b off c : Nat) (p0 p1 wd lf rt : Int) (f : Figure) (w : World) (hb : b < w.heap.size) (c0 : w.cell? ⟨b, off, none⟩ = some (.int .i64 p0)) (c1 : w.cell? ⟨b, off + 1, none⟩ = some (.int .i64 p1))
    (hp0 : -6 ≤ p0 ∧ p0 ≤ 6) (hp1 : -6 ≤ p1 ∧ p1 ≤ 6) (hwd : 1000 ≤ wd ∧ wd ≤ 100000) (hlf : 100 ≤ lf ∧ lf ≤ 20000) (hrt : 100 ≤ rt ∧ rt ≤ 20000) (hf : (1000 ≤ f.digits ∧ f.digits ≤ 9999) ∧ (-30 ≤ f.tens ∧ f.tens ≤ 30)) :
    Calls Tryz.prog 137 #[.agg #[.int .i64 fd, .int .i64 ft, .string s, .slice (some ⟨b, off, none⟩) 2 c, .int .i64 wd, .int .i64 lf, .int .i64 rt], .int .i64 1, f.agg] w fun e w' => (∃ x y, e = .returned (.tuple #[.agg #[.int .i64 x, .int .i64 y], .int .i64 (plCode (rt * p1) f)])) ∧ Below w.heap.size w w' := by
  have HP := fun W h1 h2 h3 => chartPlace1_c fd ft s b off c p0 p1 wd lf rt f W h1 h2 h3 hp0 hp1 hlf hrt hf
  have hz := @pl2_bd (rt * p1) f
  rcases plCode_two (rt * p1) f with hc | hc
  all_goals
    rw [hc] at HP hz ⊢
    clear hc
    generalize (pl2 (rt * p1) f).1 = P1 at *
    generalize (pl2 (rt * p1) f).2 = P2 at *
    unfold Figure.agg at HP ⊢
    replace HP := fun W h1 h2 h3 => Lib.hid (HP W h1 h2 h3)
    have hW : Below w.heap.size w (((w.alloc (.cells #[.int .i64 fd, .int .i64 ft, .string s, .slice (some ⟨b, off, none⟩) 2 c, .int .i64 wd, .int .i64 lf, .int .i64 rt] 44)).alloc (.cells #[.int .i64 f.digits, .int .i64 f.tens] 40)).alloc (.cells #[.int .i64 0, .int .i64 0] 154)) := (by repeat (first | with_reducible exact Below.refl _ _ | with_reducible apply below_drewN' | with_reducible apply Below.drew | (with_reducible refine Below.alloc ?_ (by first | omega | (simp; omega) | simp | (have := (Below.refl _ _).size; omega) | (have := (Below.refl _ _).size; simp; omega)) _) | (with_reducible refine Below.setCell ?_ (by first | omega | (simp; omega) | simp | (have := (Below.refl _ _).size; omega) | (have := (Below.refl _ _).size; simp; omega)) _) | exact Below.refl _ _))
    have HP := HP _ (Nat.lt_of_lt_of_le hb hW.size) (by rw [hW.cell hb]; exact c0) (by rw [hW.cell hb]; exact c1)
    have B0 := ((Blk.new w 44 #[.int .i64 fd, .int .i64 ft, .string s, .slice (some ⟨b, off, none⟩) 2 c, .int .i64 wd, .int .i64 lf, .int .i64 rt]).alloc (.cells #[.int .i64 f.digits, .int .i64 f.tens] 40)).alloc (.cells #[.int .i64 0, .int .i64 0] 154)
    have B2 := Blk.new' ((w.alloc (.cells #[.int .i64 fd, .int .i64 ft, .string s, .slice (some ⟨b, off, none⟩) 2 c, .int .i64 wd, .int .i64 lf, .int .i64 rt] 44)).alloc (.cells #[.int .i64 f.digits, .int .i64 f.tens] 40)) 154 #[.int .i64 0, .int .i64 0] (g := w.heap.size + 1 + 1) (by simp)
    go_enter Tryz.func137, Tryz.ntmps137
    go_wp2_with fail
    refine Calls.mono HP.out ?_; rintro e w1 ⟨rfl, hb1⟩
    have hW1 := hW.trans (hb1.mono hW.size)
    have D0 := (B0.below hb1 B0.lt).alloc (.cells #[.int .i64 P1, .int .i64 P2] 179)
    have C2 := B2.below hb1 B2.lt
    have D2 := (B2.below hb1 B2.lt).alloc (.cells #[.int .i64 P1, .int .i64 P2] 179)
    have z2 := (B2.below hb1 B2.lt).lt
    have D8 := Blk.new w1 179 #[.int .i64 P1, .int .i64 P2]
    have hW2 : Below w.heap.size w (w1.alloc (.cells #[.int .i64 P1, .int .i64 P2] 179)) := (by repeat (first | with_reducible exact hW1 | with_reducible apply below_drewN' | with_reducible apply Below.drew | (with_reducible refine Below.alloc ?_ (by first | omega | (simp; omega) | simp | (have := (hW1).size; omega) | (have := (hW1).size; simp; omega)) _) | (with_reducible refine Below.setCell ?_ (by first | omega | (simp; omega) | simp | (have := (hW1).size; omega) | (have := (hW1).size; simp; omega)) _) | exact hW1))
    have hs1 := hW1.size
    clear B0 B2 hW hb1 HP
  · have qn : 0 ≤ wd * lf ∧ wd * lf ≤ 2000000000 := ⟨Int.mul_nonneg (by omega) (by omega), (mul_abs (a := wd) (b := lf) (A := 100000) (B := 20000) (by omega) (by omega)).2⟩
    have HN := fun W => Lib.hid (nearC_c (wd * lf) (lf + rt) W (by omega) (by omega))
    generalize hnr : nearV (wd * lf) (lf + rt) = nr at HN
    clear hnr
    obtain ⟨⟨z5, z6⟩, z7, z8⟩ := hz (by first | trivial | rfl)
    clear hz
    have HD := fun W => Lib.hid (down_c (P1 + P2) 2 W (by omega) (by omega))
    have hw1 : IntKind.i64.wrap (wd * lf) = wd * lf := IntWalk.i64_in _ (by omega)
    have hw2 : IntKind.i64.wrap (lf + rt) = lf + rt := IntWalk.i64_in _ (by omega)
    go_wp2_with fail
    generalize w1.alloc (.cells #[.int .i64 P1, .int .i64 P2] 179) = V at *
    generalize w1.heap.size = g8 at *
    have zV := D8.lt
    refine wp_region_sink 15 (fun a0 fL bA v => ∃ v22 v23 v24 v25 v26 v27 v28 v29 v30 v31 v32 v33 v34 v35 v36 : Value, bA = ((((((((((((((a0.put (some 22) v22).put (some 23) v23).put (some 24) v24).put (some 25) v25).put (some 26) v26).put (some 27) v27).put (some 28) v28).put (some 29) v29).put (some 30) v30).put (some 31) v31).put (some 32) v32).put (some 33) v33).put (some 34) v34).put (some 35) v35).put (some 36) v36 ∧ (PnS V wd nr (fL 13) v35 v) ∧ (fL 0 = true → v22 = .pointer (some ⟨w.heap.size, 4, none⟩)) ∧ (fL 1 = true → v23 = .int .i64 wd) ∧ (fL 2 = true → v24 = .pointer (some ⟨w.heap.size, 4, none⟩)) ∧ (fL 3 = true → v25 = .int .i64 wd) ∧ (fL 4 = true → v26 = .pointer (some ⟨w.heap.size, 5, none⟩)) ∧ (fL 5 = true → v27 = .int .i64 lf) ∧ (fL 6 = true → v28 = .int .i64 (wd * lf)) ∧ (fL 7 = true → v29 = .pointer (some ⟨w.heap.size, 5, none⟩)) ∧ (fL 8 = true → v30 = .int .i64 lf) ∧ (fL 9 = true → v31 = .pointer (some ⟨w.heap.size, 6, none⟩)) ∧ (fL 10 = true → v32 = .int .i64 rt) ∧ (fL 11 = true → v33 = .int .i64 (lf + rt)) ∧ (fL 12 = true → v34 = .int .i64 nr) ∧ (fL 13 = true → True) ∧ (fL 14 = true → v36 = .int .i64 1)) (by kernel_rfl) (by decide +kernel) ?_ ?_ ?_
    · exact ⟨undef, undef, undef, undef, undef, undef, undef, undef, undef, undef, undef, undef, undef, undef, undef, by simp only [Act.put, List.setIfInBounds_toArray, List.set_cons_zero, List.set_cons_succ], ⟨(Below.refl _ _).drew, nofun⟩, nofun, nofun, nofun, nofun, nofun, nofun, nofun, nofun, nofun, nofun, nofun, nofun, nofun, nofun, nofun⟩
    · rintro fL bA v ⟨v22, v23, v24, v25, v26, v27, v28, v29, v30, v31, v32, v33, v34, v35, v36, rfl, hS, q0, q1, q2, q3, q4, q5, q6, q7, q8, q9, q10, q11, q12, q13, q14⟩ i hi hf o ho hall
      simp only [Act.put, List.setIfInBounds_toArray, List.set_cons_zero, List.set_cons_succ]
      have hn : i = 0 ∨ i = 1 ∨ i = 2 ∨ i = 3 ∨ i = 4 ∨ i = 5 ∨ i = 6 ∨ i = 7 ∨ i = 8 ∨ i = 9 ∨ i = 10 ∨ i = 11 ∨ i = 12 ∨ i = 13 ∨ i = 14 := by omega
      clear hi
      rcases hn with rfl | rfl | rfl | rfl | rfl | rfl | rfl | rfl | rfl | rfl | rfl | rfl | rfl | rfl | rfl
      · obtain rfl := Option.some.inj ho
        clear hall ho
        refine wpOp_step rfl (fun K hK => ?_)
        go_simp
        exact hK _ _ ⟨_, _, _, _, _, _, _, _, _, _, _, _, _, _, _, rfl, hS, fun _ => rfl, q1, q2, q3, q4, q5, q6, q7, q8, q9, q10, q11, q12, fun _ => trivial, q14⟩
      · obtain rfl := Option.some.inj ho
        obtain rfl := q0 (hall ⟨0, .data⟩ (by simp) rfl)
        have y0 : v.cell? ⟨w.heap.size, 4, none⟩ = some (.int .i64 wd) := (D0.below hS.hb D0.lt).cell 4
        clear hall ho
        refine wpOp_step rfl (fun K hK => ?_)
        go_simp
        exact hK _ _ ⟨_, _, _, _, _, _, _, _, _, _, _, _, _, _, _, rfl, hS, fun _ => rfl, fun _ => rfl, q2, q3, q4, q5, q6, q7, q8, q9, q10, q11, q12, fun _ => trivial, q14⟩
      · obtain rfl := Option.some.inj ho
        clear hall ho
        refine wpOp_step rfl (fun K hK => ?_)
        go_simp
        exact hK _ _ ⟨_, _, _, _, _, _, _, _, _, _, _, _, _, _, _, rfl, hS, q0, q1, fun _ => rfl, q3, q4, q5, q6, q7, q8, q9, q10, q11, q12, fun _ => trivial, q14⟩
      · obtain rfl := Option.some.inj ho
        obtain rfl := q2 (hall ⟨2, .data⟩ (by simp) rfl)
        have y0 : v.cell? ⟨w.heap.size, 4, none⟩ = some (.int .i64 wd) := (D0.below hS.hb D0.lt).cell 4
        clear hall ho
        refine wpOp_step rfl (fun K hK => ?_)
        go_simp
        exact hK _ _ ⟨_, _, _, _, _, _, _, _, _, _, _, _, _, _, _, rfl, hS, q0, q1, fun _ => rfl, fun _ => rfl, q4, q5, q6, q7, q8, q9, q10, q11, q12, fun _ => trivial, q14⟩
      · obtain rfl := Option.some.inj ho
        clear hall ho
        refine wpOp_step rfl (fun K hK => ?_)
        go_simp
        exact hK _ _ ⟨_, _, _, _, _, _, _, _, _, _, _, _, _, _, _, rfl, hS, q0, q1, q2, q3, fun _ => rfl, q5, q6, q7, q8, q9, q10, q11, q12, fun _ => trivial, q14⟩
      · obtain rfl := Option.some.inj ho
        obtain rfl := q4 (hall ⟨4, .data⟩ (by simp) rfl)
        have y0 : v.cell? ⟨w.heap.size, 5, none⟩ = some (.int .i64 lf) := (D0.below hS.hb D0.lt).cell 5
        clear hall ho
        refine wpOp_step rfl (fun K hK => ?_)
        go_simp
        exact hK _ _ ⟨_, _, _, _, _, _, _, _, _, _, _, _, _, _, _, rfl, hS, q0, q1, q2, q3, fun _ => rfl, fun _ => rfl, q6, q7, q8, q9, q10, q11, q12, fun _ => trivial, q14⟩
      · obtain rfl := Option.some.inj ho
        obtain rfl := q3 (hall ⟨3, .data⟩ (by simp) rfl)
        obtain rfl := q5 (hall ⟨5, .data⟩ (by simp) rfl)
        clear hall ho
        refine wpOp_step rfl (fun K hK => ?_)
        go_simp
        exact hK _ _ ⟨_, _, _, _, _, _, _, _, _, _, _, _, _, _, _, rfl, hS, q0, q1, q2, fun _ => rfl, q4, fun _ => rfl, fun _ => rfl, q7, q8, q9, q10, q11, q12, fun _ => trivial, q14⟩
      · obtain rfl := Option.some.inj ho
        clear hall ho
        refine wpOp_step rfl (fun K hK => ?_)
        go_simp
        exact hK _ _ ⟨_, _, _, _, _, _, _, _, _, _, _, _, _, _, _, rfl, hS, q0, q1, q2, q3, q4, q5, q6, fun _ => rfl, q8, q9, q10, q11, q12, fun _ => trivial, q14⟩
      · obtain rfl := Option.some.inj ho
        obtain rfl := q7 (hall ⟨7, .data⟩ (by simp) rfl)
        have y0 : v.cell? ⟨w.heap.size, 5, none⟩ = some (.int .i64 lf) := (D0.below hS.hb D0.lt).cell 5
        clear hall ho
        refine wpOp_step rfl (fun K hK => ?_)
        go_simp
        exact hK _ _ ⟨_, _, _, _, _, _, _, _, _, _, _, _, _, _, _, rfl, hS, q0, q1, q2, q3, q4, q5, q6, fun _ => rfl, fun _ => rfl, q9, q10, q11, q12, fun _ => trivial, q14⟩
      · obtain rfl := Option.some.inj ho
        clear hall ho
        refine wpOp_step rfl (fun K hK => ?_)
        go_simp
        exact hK _ _ ⟨_, _, _, _, _, _, _, _, _, _, _, _, _, _, _, rfl, hS, q0, q1, q2, q3, q4, q5, q6, q7, q8, fun _ => rfl, q10, q11, q12, fun _ => trivial, q14⟩
      · obtain rfl := Option.some.inj ho
        obtain rfl := q9 (hall ⟨9, .data⟩ (by simp) rfl)
        have y0 : v.cell? ⟨w.heap.size, 6, none⟩ = some (.int .i64 rt) := (D0.below hS.hb D0.lt).cell 6
        clear hall ho
        refine wpOp_step rfl (fun K hK => ?_)
        go_simp
        exact hK _ _ ⟨_, _, _, _, _, _, _, _, _, _, _, _, _, _, _, rfl, hS, q0, q1, q2, q3, q4, q5, q6, q7, q8, fun _ => rfl, fun _ => rfl, q11, q12, fun _ => trivial, q14⟩
      · obtain rfl := Option.some.inj ho
        obtain rfl := q8 (hall ⟨8, .data⟩ (by simp) rfl)
        obtain rfl := q10 (hall ⟨10, .data⟩ (by simp) rfl)
        clear hall ho
        refine wpOp_step rfl (fun K hK => ?_)
        go_simp
        exact hK _ _ ⟨_, _, _, _, _, _, _, _, _, _, _, _, _, _, _, rfl, hS, q0, q1, q2, q3, q4, q5, q6, q7, fun _ => rfl, q9, fun _ => rfl, fun _ => rfl, q12, fun _ => trivial, q14⟩
      · obtain rfl := Option.some.inj ho
        obtain rfl := q6 (hall ⟨6, .data⟩ (by simp) rfl)
        obtain rfl := q11 (hall ⟨11, .data⟩ (by simp) rfl)
        clear hall ho
        refine wpOp_step rfl (fun K hK => ?_)
        go_simp
        refine Calls.mono ((calls_same (HN v).out)) ?_; rintro e w1 ⟨rfl, hb1⟩
        go_simp
        exact hK _ _ ⟨_, _, _, _, _, _, _, _, _, _, _, _, _, _, _, rfl, hS.below hb1, q0, q1, q2, q3, q4, q5, fun _ => rfl, q7, q8, q9, q10, fun _ => rfl, fun _ => rfl, fun _ => trivial, q14⟩
      · obtain rfl := Option.some.inj ho
        obtain rfl := q1 (hall ⟨1, .data⟩ (by simp) rfl)
        obtain rfl := q12 (hall ⟨12, .data⟩ (by simp) rfl)
        clear hall ho
        refine wpOp_step rfl (fun K hK => ?_)
        go_simp
        exact hK _ _ ⟨_, _, _, _, _, _, _, _, _, _, _, _, _, _, _, rfl, hS.new, q0, fun _ => rfl, q2, q3, q4, q5, q6, q7, q8, q9, q10, q11, fun _ => rfl, fun _ => trivial, q14⟩
      · obtain rfl := Option.some.inj ho
        clear hall ho
        refine wpOp_step rfl (fun K hK => ?_)
        go_simp
        exact hK _ _ ⟨_, _, _, _, _, _, _, _, _, _, _, _, _, _, _, rfl, hS, q0, q1, q2, q3, q4, q5, q6, q7, q8, q9, q10, q11, q12, fun _ => trivial, fun _ => rfl⟩
    · rintro fL bA v ⟨v22, v23, v24, v25, v26, v27, v28, v29, v30, v31, v32, v33, v34, v35, v36, rfl, hS, q0, q1, q2, q3, q4, q5, q6, q7, q8, q9, q10, q11, q12, q13, q14⟩ hall
      simp only [Act.put, List.setIfInBounds_toArray, List.set_cons_zero, List.set_cons_succ]
      obtain rfl := q0 (hall 0 (by omega))
      obtain rfl := q1 (hall 1 (by omega))
      obtain rfl := q2 (hall 2 (by omega))
      obtain rfl := q3 (hall 3 (by omega))
      obtain rfl := q4 (hall 4 (by omega))
      obtain rfl := q5 (hall 5 (by omega))
      obtain rfl := q6 (hall 6 (by omega))
      obtain rfl := q7 (hall 7 (by omega))
      obtain rfl := q8 (hall 8 (by omega))
      obtain rfl := q9 (hall 9 (by omega))
      obtain rfl := q10 (hall 10 (by omega))
      obtain rfl := q11 (hall 11 (by omega))
      obtain rfl := q12 (hall 12 (by omega))
      have e13 : fL 13 = true := hall 13 (by omega)
      obtain rfl := q14 (hall 14 (by omega))
      clear hall
      simp only [List.drop_succ_cons, List.drop_zero]
      obtain ⟨g, rfl, hg, hB⟩ := hS.sl e13
      have hb2 := hS.hb
      have E2 := D2.below hb2 D2.lt
      have E8 := D8.below hb2 D8.lt
      have y0 : v.cell? ⟨g, 1, none⟩ = some (.int .i64 wd) := hB.cell 1
      have i0 : v.cell? ⟨g8, 0, none⟩ = some (.int .i64 P1) := E8.cell 0
      have i1 : v.cell? ⟨g8, 1, none⟩ = some (.int .i64 P2) := E8.cell 1
      have r0 : v.cell? ⟨w.heap.size + 1 + 1, 0, none⟩ = some (.int .i64 0) := E2.cell 0
      have r1 : v.cell? ⟨w.heap.size + 1 + 1, 1, none⟩ = some (.int .i64 0) := E2.cell 1
      have rf0 : v.frozen? ⟨w.heap.size + 1 + 1, 0, none⟩ = false := E2.frozen 0
      have rf1 : v.frozen? ⟨w.heap.size + 1 + 1, 1, none⟩ = false := E2.frozen 1
      have hW3 := hW2.trans (hb2.mono hW2.size)
      clear hS D0 D2 D8 hW2 HN
      go_wp2_with (go_at_call 114; refine (HD _).out.mono ?_; rintro e w5 ⟨rfl, rfl⟩)
      refine bodyPost_ret (v := .tuple #[.agg #[.int .i64 wd, .int .i64 ((P1 + P2) / 2)], .int .i64 0]) (by simp [results, Tryz.results137, go_sem, r0, r1]) rfl ⟨⟨_, _, rfl⟩, (by repeat (first | with_reducible exact hW3 | with_reducible apply below_drewN' | with_reducible apply Below.drew | (with_reducible refine Below.alloc ?_ (by first | omega | (simp; omega) | simp | (have := (hW3).size; omega) | (have := (hW3).size; simp; omega)) _) | (with_reducible refine Below.setCell ?_ (by first | omega | (simp; omega) | simp | (have := (hW3).size; omega) | (have := (hW3).size; simp; omega)) _) | exact hW3))⟩
  · have r0 : w1.cell? ⟨w.heap.size + 1 + 1, 0, none⟩ = some (.int .i64 0) := C2.cell 0
    have r1 : w1.cell? ⟨w.heap.size + 1 + 1, 1, none⟩ = some (.int .i64 0) := C2.cell 1
    have rf0 : w1.frozen? ⟨w.heap.size + 1 + 1, 0, none⟩ = false := C2.frozen 0
    have rf1 : w1.frozen? ⟨w.heap.size + 1 + 1, 1, none⟩ = false := C2.frozen 1
    go_wp2_with fail
    refine bodyPost_ret (v := .tuple #[.agg #[.int .i64 0, .int .i64 0], .int .i64 3]) (by simp [results, Tryz.results137, go_sem, r0, r1, z2]) rfl ⟨⟨_, _, rfl⟩, (by repeat (first | with_reducible exact hW1 | with_reducible apply below_drewN' | with_reducible apply Below.drew | (with_reducible refine Below.alloc ?_ (by first | omega | (simp; omega) | simp | (have := (hW1).size; omega) | (have := (hW1).size; simp; omega)) _) | (with_reducible refine Below.setCell ?_ (by first | omega | (simp; omega) | simp | (have := (hW1).size; omega) | (have := (hW1).size; simp; omega)) _) | exact hW1))⟩
end Go.Proofs.YtendoabjjfinhaaGreatDoor
namespace Go.Proofs.YtendoabjjfinhaaGreatDoor
open Go.RowKit
theorem l22Place_c (n : Int) (w : World) : Calls Tryz.prog 184 #[.int .i64 n] w fun e w' => e = .returned (.bool (inB n (-100000) 100000)) ∧ w = w' := by
  go_enter Tryz.func184, Tryz.ntmps184
  go_wp2_with (go_at_call 83; refine (l01In_c _ _ _ _).mono ?_; rintro e w' ⟨rfl, rfl⟩)
  go_ret
  exact ⟨rfl, rfl⟩
set_option maxRecDepth 100000 in
set_option maxHeartbeats 4000000 in
theorem l23Log_c (fd ft : Int) (s : ByteArray) (A : Option Addr) (n c : Nat) (wd lf rt k : Int) (f : Figure) (w : World) (hk : k = 0 ∨ k = 1) (hf : (1000 ≤ f.digits ∧ f.digits ≤ 9999) ∧ (-30 ≤ f.tens ∧ f.tens ≤ 30)) :
    Calls Tryz.prog 183 #[.agg #[.int .i64 fd, .int .i64 ft, .string s, .slice A n c, .int .i64 wd, .int .i64 lf, .int .i64 rt], .int .i64 k, f.agg] w fun e w' => e = .returned (.agg #[.int .i64 (figLo f.digits f.tens), .int .i64 (figHi f.digits f.tens)]) ∧ Below w.heap.size w w' := by
  have HL := fun W => l03Figure_c f W hf.1 hf.2
  have e1 : logLow (f.digits * 100000) + f.tens * 1048576 = figLo f.digits f.tens := rfl
  have e2 : logHigh (f.digits * 100000) + f.tens * 1048576 = figHi f.digits f.tens := rfl
  simp only [e1, e2] at HL
  generalize figLo f.digits f.tens = lo at *
  generalize figHi f.digits f.tens = hi at *
  clear e1 e2 hf
  unfold Figure.agg at HL ⊢
  replace HL := fun W => Lib.hid (HL W)
  have hW : Below w.heap.size w (((w.alloc (.cells #[.int .i64 fd, .int .i64 ft, .string s, .slice A n c, .int .i64 wd, .int .i64 lf, .int .i64 rt] 44)).alloc (.cells #[.int .i64 f.digits, .int .i64 f.tens] 40)).alloc (.cells #[.int .i64 0, .int .i64 0] 179)) := (by repeat (first | with_reducible exact Below.refl _ _ | with_reducible apply below_drewN' | with_reducible apply Below.drew | (with_reducible refine Below.alloc ?_ (by first | omega | (simp; omega) | simp | (have := (Below.refl _ _).size; omega) | (have := (Below.refl _ _).size; simp; omega)) _) | (with_reducible refine Below.setCell ?_ (by first | omega | (simp; omega) | simp | (have := (Below.refl _ _).size; omega) | (have := (Below.refl _ _).size; simp; omega)) _) | exact Below.refl _ _))
  have B2 := Blk.new' ((w.alloc (.cells #[.int .i64 fd, .int .i64 ft, .string s, .slice A n c, .int .i64 wd, .int .i64 lf, .int .i64 rt] 44)).alloc (.cells #[.int .i64 f.digits, .int .i64 f.tens] 40)) 179 #[.int .i64 0, .int .i64 0] (g := w.heap.size + 1 + 1) (by simp)
  rcases hk with rfl | rfl
  all_goals
    go_enter Tryz.func183, Tryz.ntmps183
    go_wp2_with fail
    refine Calls.mono (HL _).out ?_; rintro e w1 ⟨rfl, hb1⟩
    have hW1 := hW.trans (hb1.mono hW.size)
    have D2 := B2.below hb1 B2.lt
    have r0 : w1.cell? ⟨w.heap.size + 1 + 1, 0, none⟩ = some (.int .i64 0) := D2.cell 0
    have r1 : w1.cell? ⟨w.heap.size + 1 + 1, 1, none⟩ = some (.int .i64 0) := D2.cell 1
    have rf0 : w1.frozen? ⟨w.heap.size + 1 + 1, 0, none⟩ = false := D2.frozen 0
    have rf1 : w1.frozen? ⟨w.heap.size + 1 + 1, 1, none⟩ = false := D2.frozen 1
    go_wp2_with fail
    refine bodyPost_ret (v := .agg #[.int .i64 lo, .int .i64 hi]) (by simp [results, Tryz.results183, go_sem, r0, r1]) rfl ⟨rfl, (by repeat (first | with_reducible exact hW1 | with_reducible apply below_drewN' | with_reducible apply Below.drew | (with_reducible refine Below.alloc ?_ (by first | omega | (simp; omega) | simp | (have := (hW1).size; omega) | (have := (hW1).size; simp; omega)) _) | (with_reducible refine Below.setCell ?_ (by first | omega | (simp; omega) | simp | (have := (hW1).size; omega) | (have := (hW1).size; simp; omega)) _) | exact hW1))⟩
set_option maxRecDepth 100000 in
set_option maxHeartbeats 4000000 in
theorem l23Modulus_c (fd ft : Int) (s : ByteArray) (b off c : Nat) (p0 p1 wd lf rt k : Int) (w : World) (hk : k = 0 ∨ k = 1) (hb : b < w.heap.size) (c0 : w.cell? ⟨b, off, none⟩ = some (.int .i64 p0)) (c1 : w.cell? ⟨b, off + 1, none⟩ = some (.int .i64 p1))
    (hp0 : -6 ≤ p0 ∧ p0 ≤ 6) (hp1 : -6 ≤ p1 ∧ p1 ≤ 6) (hlf : 100 ≤ lf ∧ lf ≤ 20000) (hrt : 100 ≤ rt ∧ rt ≤ 20000) :
    Calls Tryz.prog 192 #[.agg #[.int .i64 fd, .int .i64 ft, .string s, .slice (some ⟨b, off, none⟩) 2 c, .int .i64 wd, .int .i64 lf, .int .i64 rt], .int .i64 k] w fun e w' => e = .returned (.tuple #[.int .i64 (if k = 0 then lf * p0 else rt * p1), .int .i64 1]) ∧ Below w.heap.size w w' := by
  have q0 : -120000 ≤ lf * p0 ∧ lf * p0 ≤ 120000 := mul_abs (a := lf) (b := p0) (A := 20000) (B := 6) (by omega) (by omega)
  have q1 : -120000 ≤ rt * p1 ∧ rt * p1 ≤ 120000 := mul_abs (a := rt) (b := p1) (A := 20000) (B := 6) (by omega) (by omega)
  have hW : Below w.heap.size w (w.alloc (.cells #[.int .i64 fd, .int .i64 ft, .string s, .slice (some ⟨b, off, none⟩) 2 c, .int .i64 wd, .int .i64 lf, .int .i64 rt] 44)) := (by repeat (first | with_reducible exact Below.refl _ _ | with_reducible apply below_drewN' | with_reducible apply Below.drew | (with_reducible refine Below.alloc ?_ (by first | omega | (simp; omega) | simp | (have := (Below.refl _ _).size; omega) | (have := (Below.refl _ _).size; simp; omega)) _) | (with_reducible refine Below.setCell ?_ (by first | omega | (simp; omega) | simp | (have := (Below.refl _ _).size; omega) | (have := (Below.refl _ _).size; simp; omega)) _) | exact Below.refl _ _))
  have B0 := Blk.new w 44 #[.int .i64 fd, .int .i64 ft, .string s, .slice (some ⟨b, off, none⟩) 2 c, .int .i64 wd, .int .i64 lf, .int .i64 rt]
  have x0 : (w.alloc (.cells #[.int .i64 fd, .int .i64 ft, .string s, .slice (some ⟨b, off, none⟩) 2 c, .int .i64 wd, .int .i64 lf, .int .i64 rt] 44)).cell? ⟨b, off, none⟩ = some (.int .i64 p0) := by rw [hW.cell hb]; exact c0
  have x1 : (w.alloc (.cells #[.int .i64 fd, .int .i64 ft, .string s, .slice (some ⟨b, off, none⟩) 2 c, .int .i64 wd, .int .i64 lf, .int .i64 rt] 44)).cell? ⟨b, off + 1, none⟩ = some (.int .i64 p1) := by rw [hW.cell hb]; exact c1
  rcases hk with rfl | rfl
  all_goals
    simp only [if_pos, reduceIte, Int.reduceEq]
    go_enter Tryz.func192, Tryz.ntmps192
    go_wp2_with fail
    generalize w.alloc (.cells #[.int .i64 fd, .int .i64 ft, .string s, .slice (some ⟨b, off, none⟩) 2 c, .int .i64 wd, .int .i64 lf, .int .i64 rt] 44) = W at *
    have y3 : W.cell? ⟨w.heap.size, 3, none⟩ = some (.slice (some ⟨b, off, none⟩) 2 c) := B0.cell 3
    have y5 : W.cell? ⟨w.heap.size, 5, none⟩ = some (.int .i64 lf) := B0.cell 5
    have y6 : W.cell? ⟨w.heap.size, 6, none⟩ = some (.int .i64 rt) := B0.cell 6
    go_quiet (fail)
    go_wp2_with fail
    first
      | refine bodyPost_ret (v := .tuple #[.int .i64 (lf * p0), .int .i64 1]) (by simp [results, Tryz.results192, go_sem]; done) rfl ⟨rfl, (by repeat (first | with_reducible exact hW | with_reducible apply below_drewN' | with_reducible apply Below.drew | (with_reducible refine Below.alloc ?_ (by first | omega | (simp; omega) | simp | (have := (hW).size; omega) | (have := (hW).size; simp; omega)) _) | (with_reducible refine Below.setCell ?_ (by first | omega | (simp; omega) | simp | (have := (hW).size; omega) | (have := (hW).size; simp; omega)) _) | exact hW))⟩
      | refine bodyPost_ret (v := .tuple #[.int .i64 (rt * p1), .int .i64 1]) (by simp [results, Tryz.results192, go_sem]; done) rfl ⟨rfl, (by repeat (first | with_reducible exact hW | with_reducible apply below_drewN' | with_reducible apply Below.drew | (with_reducible refine Below.alloc ?_ (by first | omega | (simp; omega) | simp | (have := (hW).size; omega) | (have := (hW).size; simp; omega)) _) | (with_reducible refine Below.setCell ?_ (by first | omega | (simp; omega) | simp | (have := (hW).size; omega) | (have := (hW).size; simp; omega)) _) | exact hW))⟩
end Go.Proofs.YtendoabjjfinhaaGreatDoor
namespace Go.Proofs.YtendoabjjfinhaaGreatDoor
open Go.RowKit
set_option maxRecDepth 100000 in
set_option maxHeartbeats 4000000 in
theorem l23Scale_c (fd ft : Int) (s : ByteArray) (b off c : Nat) (p0 p1 wd lf rt k lo hi : Int) (w : World) (hk : k = 0 ∨ k = 1) (hb : b < w.heap.size) (c0 : w.cell? ⟨b, off, none⟩ = some (.int .i64 p0)) (c1 : w.cell? ⟨b, off + 1, none⟩ = some (.int .i64 p1))
    (hp0 : -6 ≤ p0 ∧ p0 ≤ 6) (hp1 : -6 ≤ p1 ∧ p1 ≤ 6) (hlf : 100 ≤ lf ∧ lf ≤ 20000) (hrt : 100 ≤ rt ∧ rt ≤ 20000) (bd : (-33554432 ≤ lo ∧ lo ≤ 33554432) ∧ -33554432 ≤ hi ∧ hi ≤ 33554432) :
    Calls Tryz.prog 182 #[.agg #[.int .i64 fd, .int .i64 ft, .string s, .slice (some ⟨b, off, none⟩) 2 c, .int .i64 wd, .int .i64 lf, .int .i64 rt], .int .i64 k, .agg #[.int .i64 lo, .int .i64 hi]] w fun e w' => e = .returned (.agg #[.int .i64 (plLo (if k = 0 then lf * p0 else rt * p1) lo hi), .int .i64 (plHi (if k = 0 then lf * p0 else rt * p1) lo hi)]) ∧ Below w.heap.size w w' := by
  have q0 : -120000 ≤ lf * p0 ∧ lf * p0 ≤ 120000 := mul_abs (a := lf) (b := p0) (A := 20000) (B := 6) (by omega) (by omega)
  have q1 : -120000 ≤ rt * p1 ∧ rt * p1 ≤ 120000 := mul_abs (a := rt) (b := p1) (A := 20000) (B := 6) (by omega) (by omega)
  have hW : Below w.heap.size w (((w.alloc (.cells #[.int .i64 fd, .int .i64 ft, .string s, .slice (some ⟨b, off, none⟩) 2 c, .int .i64 wd, .int .i64 lf, .int .i64 rt] 44)).alloc (.cells #[.int .i64 lo, .int .i64 hi] 179)).alloc (.cells #[.int .i64 0, .int .i64 0] 179)) := (by repeat (first | with_reducible exact Below.refl _ _ | with_reducible apply below_drewN' | with_reducible apply Below.drew | (with_reducible refine Below.alloc ?_ (by first | omega | (simp; omega) | simp | (have := (Below.refl _ _).size; omega) | (have := (Below.refl _ _).size; simp; omega)) _) | (with_reducible refine Below.setCell ?_ (by first | omega | (simp; omega) | simp | (have := (Below.refl _ _).size; omega) | (have := (Below.refl _ _).size; simp; omega)) _) | exact Below.refl _ _))
  have HM := l23Modulus_c fd ft s b off c p0 p1 wd lf rt k _ hk (Nat.lt_of_lt_of_le hb hW.size) (by rw [hW.cell hb]; exact c0) (by rw [hW.cell hb]; exact c1) hp0 hp1 hlf hrt
  have qn : -120000 ≤ (if k = 0 then lf * p0 else rt * p1) ∧ (if k = 0 then lf * p0 else rt * p1) ≤ 120000 := by split <;> assumption
  generalize (if k = 0 then lf * p0 else rt * p1) = n at *
  have ml := mul_abs (A := 33554432) (B := 120000) bd.1 qn
  have mh := mul_abs (A := 33554432) (B := 120000) bd.2 qn
  simp only [Nat.reduceMul, Int.cast_ofNat_Int] at ml mh
  generalize hx1 : plLo n lo hi = X1
  generalize hx2 : plHi n lo hi = X2
  have hX : Hid (plLo n lo hi = X1 ∧ plHi n lo hi = X2) := ⟨hx1, hx2⟩
  clear hx1 hx2 qn q0 q1 bd
  unfold plLo plHi at hX
  replace HM := Lib.hid HM
  have B1 := (Blk.new' (w.alloc (.cells #[.int .i64 fd, .int .i64 ft, .string s, .slice (some ⟨b, off, none⟩) 2 c, .int .i64 wd, .int .i64 lf, .int .i64 rt] 44)) 179 #[.int .i64 lo, .int .i64 hi] (g := w.heap.size + 1) (by simp)).alloc (.cells #[.int .i64 0, .int .i64 0] 179)
  have B2 := Blk.new' ((w.alloc (.cells #[.int .i64 fd, .int .i64 ft, .string s, .slice (some ⟨b, off, none⟩) 2 c, .int .i64 wd, .int .i64 lf, .int .i64 rt] 44)).alloc (.cells #[.int .i64 lo, .int .i64 hi] 179)) 179 #[.int .i64 0, .int .i64 0] (g := w.heap.size + 1 + 1) (by simp)
  go_enter Tryz.func182, Tryz.ntmps182
  go_wp2_with fail
  refine Calls.mono HM.out ?_; rintro e w1 ⟨rfl, hb1⟩
  have hW1 := hW.trans (hb1.mono hW.size)
  have D1 := B1.below hb1 B1.lt
  have D2 := B2.below hb1 B2.lt
  have i0 : w1.cell? ⟨w.heap.size + 1, 0, none⟩ = some (.int .i64 lo) := D1.cell 0
  have i1 : w1.cell? ⟨w.heap.size + 1, 1, none⟩ = some (.int .i64 hi) := D1.cell 1
  clear B1 B2 HM hW hb1 c0 c1
  go_wp2_with fail
  go_quiet (fail)
  generalize lo * n = A at *
  generalize hi * n = B at *
  refine then_world (R := fun V => Blk V (w.heap.size + 1 + 1) 179 #[.int .i64 0, .int .i64 0] ∧ Below w.heap.size w V) ⟨D2, (by repeat (first | with_reducible exact hW1 | with_reducible apply below_drewN' | with_reducible apply Below.drew | (with_reducible refine Below.alloc ?_ (by first | omega | (simp; omega) | simp | (have := (hW1).size; omega) | (have := (hW1).size; simp; omega)) _) | (with_reducible refine Below.setCell ?_ (by first | omega | (simp; omega) | simp | (have := (hW1).size; omega) | (have := (hW1).size; simp; omega)) _) | exact hW1))⟩ (fun V hV => ?_)
  clear D1 D2 hW1 i0 i1
  obtain ⟨D2, hW2⟩ := hV
  have r0 : V.cell? ⟨w.heap.size + 1 + 1, 0, none⟩ = some (.int .i64 0) := D2.cell 0
  have r1 : V.cell? ⟨w.heap.size + 1 + 1, 1, none⟩ = some (.int .i64 0) := D2.cell 1
  have rf0 : V.frozen? ⟨w.heap.size + 1 + 1, 0, none⟩ = false := D2.frozen 0
  have rf1 : V.frozen? ⟨w.heap.size + 1 + 1, 1, none⟩ = false := D2.frozen 1
  rcases Int.lt_trichotomy B A with h | h | h
  · have h2 : ¬ A < B := by omega
    have em : min A B = B := by omega
    have eM : max A B = A := by omega
    have HD := fun W => Lib.hid (l01Floor_c B 1048576 W (by omega) (by omega))
    have HU := fun W => Lib.hid (l01Ceil_c A 1048576 W (by omega) (by omega))
    generalize ex : B / 1048576 = x at HD
    generalize ey : -(-A / 1048576) = y at HU
    clear ml mh
    go_wp2_with (first | (go_at_call 162; refine (HD _).out.mono ?_; rintro e w5 ⟨rfl, rfl⟩) | (go_at_call 131; refine (HU _).out.mono ?_; rintro e w5 ⟨rfl, rfl⟩))
    refine bodyPost_ret (v := .agg #[.int .i64 x, .int .i64 y]) (by simp [results, Tryz.results182, go_sem, r0, r1]) rfl ⟨?_, (by repeat (first | with_reducible exact hW2 | with_reducible apply below_drewN' | with_reducible apply Below.drew | (with_reducible refine Below.alloc ?_ (by first | omega | (simp; omega) | simp | (have := (hW2).size; omega) | (have := (hW2).size; simp; omega)) _) | (with_reducible refine Below.setCell ?_ (by first | omega | (simp; omega) | simp | (have := (hW2).size; omega) | (have := (hW2).size; simp; omega)) _) | exact hW2))⟩
    obtain ⟨u1, u2⟩ := hX.out
    rw [em, ex] at u1
    rw [eM, ey] at u2
    rw [← u1, ← u2]
  · subst h
    have em : min B B = B := by omega
    have eM : max B B = B := by omega
    have HD := fun W => Lib.hid (l01Floor_c B 1048576 W (by omega) (by omega))
    have HU := fun W => Lib.hid (l01Ceil_c B 1048576 W (by omega) (by omega))
    generalize ex : B / 1048576 = x at HD
    generalize ey : -(-B / 1048576) = y at HU
    clear ml mh
    go_wp2_with (first | (go_at_call 162; refine (HD _).out.mono ?_; rintro e w5 ⟨rfl, rfl⟩) | (go_at_call 131; refine (HU _).out.mono ?_; rintro e w5 ⟨rfl, rfl⟩))
    refine bodyPost_ret (v := .agg #[.int .i64 x, .int .i64 y]) (by simp [results, Tryz.results182, go_sem, r0, r1]) rfl ⟨?_, (by repeat (first | with_reducible exact hW2 | with_reducible apply below_drewN' | with_reducible apply Below.drew | (with_reducible refine Below.alloc ?_ (by first | omega | (simp; omega) | simp | (have := (hW2).size; omega) | (have := (hW2).size; simp; omega)) _) | (with_reducible refine Below.setCell ?_ (by first | omega | (simp; omega) | simp | (have := (hW2).size; omega) | (have := (hW2).size; simp; omega)) _) | exact hW2))⟩
    obtain ⟨u1, u2⟩ := hX.out
    rw [em, ex] at u1
    rw [eM, ey] at u2
    rw [← u1, ← u2]
  · have h2 : ¬ B < A := by omega
    have em : min A B = A := by omega
    have eM : max A B = B := by omega
    have HD := fun W => Lib.hid (l01Floor_c A 1048576 W (by omega) (by omega))
    have HU := fun W => Lib.hid (l01Ceil_c B 1048576 W (by omega) (by omega))
    generalize ex : A / 1048576 = x at HD
    generalize ey : -(-B / 1048576) = y at HU
    clear ml mh
    go_wp2_with (first | (go_at_call 162; refine (HD _).out.mono ?_; rintro e w5 ⟨rfl, rfl⟩) | (go_at_call 131; refine (HU _).out.mono ?_; rintro e w5 ⟨rfl, rfl⟩))
    refine bodyPost_ret (v := .agg #[.int .i64 x, .int .i64 y]) (by simp [results, Tryz.results182, go_sem, r0, r1]) rfl ⟨?_, (by repeat (first | with_reducible exact hW2 | with_reducible apply below_drewN' | with_reducible apply Below.drew | (with_reducible refine Below.alloc ?_ (by first | omega | (simp; omega) | simp | (have := (hW2).size; omega) | (have := (hW2).size; simp; omega)) _) | (with_reducible refine Below.setCell ?_ (by first | omega | (simp; omega) | simp | (have := (hW2).size; omega) | (have := (hW2).size; simp; omega)) _) | exact hW2))⟩
    obtain ⟨u1, u2⟩ := hX.out
    rw [em, ex] at u1
    rw [eM, ey] at u2
    rw [← u1, ← u2]
end Go.Proofs.YtendoabjjfinhaaGreatDoor
namespace Go.Proofs.YtendoabjjfinhaaGreatDoor
open Go.RowKit

theorem flat_of {xs : List (List Value)} {k : Nat} (hk : 0 < k) (h : ∀ x ∈ xs, x.length = k) {p : Nat} {u : Value} (hp : xs.flatten[p]? = some u) : ∃ i j x, p = i * k + j ∧ xs[i]? = some x ∧ x[j]? = some u := by
  have hlt : p < xs.length * k := by rw [← flat_length h]; exact (List.getElem?_eq_some_iff.1 hp).1
  have hd : p / k < xs.length := (Nat.div_lt_iff_lt_mul hk).2 hlt
  have hm : p % k < xs[p / k].length := by rw [h _ (List.getElem_mem hd)]; exact Nat.mod_lt _ hk
  have hg := flat_get h (p / k) (p % k) _ _ (List.getElem?_eq_getElem hd) (List.getElem?_eq_getElem hm)
  rw [show p / k * k + p % k = p from by rw [Nat.mul_comm]; exact Nat.div_add_mod p k] at hg
  rw [hg] at hp
  refine ⟨p / k, p % k, _, by rw [Nat.mul_comm]; exact (Nat.div_add_mod p k).symm, List.getElem?_eq_getElem hd, ?_⟩
  rw [List.getElem?_eq_getElem hm]
  exact hp

section
variable {P : Program} (w : World)
theorem run_append_of_nil (base : Nat) (t ty e : TypeId) (i : TypeInfo) (size : Nat) (ht : P.underlying t = some (.slice e)) (hi : P.info? e = some i)
    (v : Value) (n : Nat) (xs : List Value) (hown : w.ownsRow base e size v n xs) (c : Nat) : (Builtin.append_ #[t, t] ty #[v, .slice none 0 c]).run P w = .ok v w := by
  rcases hown.2 with ⟨rfl, rfl⟩ | ⟨g, cap, cur, rfl, _, _, hnc, _⟩
  · simp [Builtin.append_, run_underlying ht, sizeOf, typeInfo, hi, Builtin.lenOf, Builtin.firstCells]
  · simp [Builtin.append_, run_underlying ht, sizeOf, typeInfo, hi, Builtin.lenOf, Builtin.firstCells, hnc, storeCells]

theorem run_append_rows (base : Nat) (t ty e : TypeId) (i : TypeInfo) (z : Value) (k bytes : Nat) (ht : P.underlying t = some (.slice e)) (hi : P.info? e = some i) (hz : i.zero = some z)
    (hsize : i.size = k) (hby : i.bytes = bytes) (hzs : z.cells.size = k) (hk : 0 < k)
    (v : Value) (xs : List (List Value)) (hown : Own w base e k v xs)
    (B : Nat) (A : Option Addr) (m c : Nat) (ys : List (List Value)) (hm : ys.length = m) (hr : Sl w B k A ys) (h1 : ∀ y ∈ ys, ∀ u ∈ y, u.oneCell' = true)
    (h63 : xs.length + m ≤ maxLen) (hbytes : (xs.length + m) * bytes ≤ 140737488355328) (hbase : base ≤ w.heap.size) :
    ∃ v' w', (Builtin.append_ #[t, t] ty #[v, .slice A m c]).run P w = .ok v' w' ∧ Own w' base e k v' (xs ++ ys) ∧ w.grownBy w' v.ownBlock ∧ (v'.ownBlock = v.ownBlock ∨ v'.ownBlock = some w.heap.size) := by
  have hys : ∀ y ∈ ys, y.length = k := fun y hy => by obtain ⟨j, hj⟩ := List.mem_iff_getElem?.1 hy; exact (hr j y hj).1
  have hall : ∀ x ∈ xs ++ ys, x.length = k := fun x hx => by
    rcases List.mem_append.1 hx with h | h
    · exact hown.2 x h
    · exact hys x h
  rcases A with _ | ad
  · have hy : ys = [] := by
      cases ys with
      | nil => rfl
      | cons y r => obtain ⟨_, b, off, h, _⟩ := hr 0 y rfl; cases h
    subst hy
    obtain rfl : m = 0 := by simpa using hm.symm
    exact ⟨v, w, run_append_of_nil w base t ty e i k ht hi v _ _ hown.1 c, by rw [List.append_nil]; exact hown, World.grownBy.refl w _, .inl rfl⟩
  · have hcells : ∀ j u, ys.flatten[j]? = some u → w.cell? (ad.add j) = some u := by
      intro p u hp
      obtain ⟨i, j, x, rfl, hx, hu⟩ := flat_of hk hys hp
      obtain ⟨_, b, off, he, _, hc⟩ := hr i x hx
      obtain rfl : ad = ⟨b, off, none⟩ := by injection he
      have := hc j u hu
      rw [Nat.add_assoc] at this
      unfold Addr.add
      split
      · rename_i h0; rw [h0] at this; exact this
      · exact this
    obtain ⟨v', w', hrun, h2, h3, _, h5⟩ := run_append_own_at (P := P) w base t ty e i z k bytes ht hi hz hsize hby hzs hk v _ _ hown.1 ad m c ys.flatten (by rw [flat_length hys, hm]) hcells
      (fun u hu => by obtain ⟨y, hy, hu⟩ := List.mem_flatten.1 hu; exact h1 y hy u hu) h63 hbytes hbase
    refine ⟨v', w', hrun, ⟨?_, hall⟩, h3, h5⟩
    rw [List.length_append, List.flatten_append, hm]
    exact h2

theorem wp_append_rows {o : Oper} {a : Act} {K : Act → World → Prop} {Q : Exit → Act → World → Prop} (s x : Operand) (t : TypeId)
    (ho : o.op = .call { callee := .builtin .append, args := #[s, x], argTypes := #[t, t] })
    (base : Nat) (e : TypeId) (i : TypeInfo) (z : Value) (k bytes : Nat) (ht : P.underlying t = some (.slice e)) (hi : P.info? e = some i) (hz : i.zero = some z)
    (hsize : i.size = k) (hby : i.bytes = bytes) (hzs : z.cells.size = k) (hk : 0 < k)
    (v : Value) (xs : List (List Value)) (hs : a.eval s = v) (hown : Own w base e k v xs)
    (B : Nat) (A : Option Addr) (m c : Nat) (ys : List (List Value)) (hx : a.eval x = .slice A m c) (hm : ys.length = m) (hr : Sl w B k A ys) (h1 : ∀ y ∈ ys, ∀ u ∈ y, u.oneCell' = true)
    (h63 : xs.length + m ≤ maxLen) (hbytes : (xs.length + m) * bytes ≤ 140737488355328) (hbase : base ≤ w.heap.size)
    (h : ∀ v' w', Own w' base e k v' (xs ++ ys) → w.grownBy w' v.ownBlock → (v'.ownBlock = v.ownBlock ∨ v'.ownBlock = some w.heap.size) → K (a.put o.dst v') w') : o.wp P a w K Q := by
  obtain ⟨v', w', hrun, h2, h3, h4⟩ := run_append_rows (P := P) w base t o.type e i z k bytes ht hi hz hsize hby hzs hk v xs hown B A m c ys hm hr h1 h63 hbytes hbase
  unfold Oper.wp execOp
  simp only [ho, resolve, invoke, builtin, Sem.run_bind, Sem.run_pure, Result.andThen_ok, List.map_toArray, List.map_cons, List.map_nil, hs, hx, hrun]
  exact h v' w' h2 h3 h4

theorem wpList_append_rows {ops : Array Oper} {rest : List Oper} {o : Oper} {a : Act} {Q : Exit → Act → World → Prop} (hgd : o.guard = none) (s x : Operand) (t : TypeId)
    (ho : o.op = .call { callee := .builtin .append, args := #[s, x], argTypes := #[t, t] })
    (base : Nat) (e : TypeId) (i : TypeInfo) (z : Value) (k bytes : Nat) (ht : P.underlying t = some (.slice e)) (hi : P.info? e = some i) (hz : i.zero = some z)
    (hsize : i.size = k) (hby : i.bytes = bytes) (hzs : z.cells.size = k) (hk : 0 < k)
    (v : Value) (xs : List (List Value)) (hs : a.eval s = v) (hown : Own w base e k v xs)
    (B : Nat) (A : Option Addr) (m c : Nat) (ys : List (List Value)) (hx : a.eval x = .slice A m c) (hm : ys.length = m) (hr : Sl w B k A ys) (h1 : ∀ y ∈ ys, ∀ u ∈ y, u.oneCell' = true)
    (h63 : xs.length + m ≤ maxLen) (hbytes : (xs.length + m) * bytes ≤ 140737488355328) (hbase : base ≤ w.heap.size)
    (h : ∀ v' w', Own w' base e k v' (xs ++ ys) → w.grownBy w' v.ownBlock → (v'.ownBlock = v.ownBlock ∨ v'.ownBlock = some w.heap.size) → wpList P ops Q rest (a.put o.dst v') w') : wpList P ops Q (o :: rest) a w :=
  wpList_plain hgd fun _ hK => wp_append_rows w s x t ho base e i z k bytes ht hi hz hsize hby hzs hk v xs hs hown B A m c ys hx hm hr h1 h63 hbytes hbase fun v' w' h2 h3 h4 => hK _ _ (h v' w' h2 h3 h4)
/-- the same at a step of a region that draws its order -/
theorem step_append_rows {ops : Array Oper} {o : Oper} {a : Act} {K : Act → World → Prop} {Q : Exit → Act → World → Prop} {E : Prop} (hgd : o.guard = none) (s x : Operand) (t : TypeId)
    (ho : o.op = .call { callee := .builtin .append, args := #[s, x], argTypes := #[t, t] })
    (base : Nat) (e : TypeId) (i : TypeInfo) (z : Value) (k bytes : Nat) (ht : P.underlying t = some (.slice e)) (hi : P.info? e = some i) (hz : i.zero = some z)
    (hsize : i.size = k) (hby : i.bytes = bytes) (hzs : z.cells.size = k) (hk : 0 < k)
    (v : Value) (xs : List (List Value)) (hs : a.eval s = v) (hown : Own w base e k v xs)
    (B : Nat) (A : Option Addr) (m c : Nat) (ys : List (List Value)) (hx : a.eval x = .slice A m c) (hm : ys.length = m) (hr : Sl w B k A ys) (h1 : ∀ y ∈ ys, ∀ u ∈ y, u.oneCell' = true)
    (h63 : xs.length + m ≤ maxLen) (hbytes : (xs.length + m) * bytes ≤ 140737488355328) (hbase : base ≤ w.heap.size)
    (h : ∀ v' w', Own w' base e k v' (xs ++ ys) → w.grownBy w' v.ownBlock → (v'.ownBlock = v.ownBlock ∨ v'.ownBlock = some w.heap.size) → K (a.put o.dst v') w') :
    if Region.wanted o (yielded ops a.tmps) = true then Oper.wp P o a w K Q else E := by
  have hw : Region.wanted o (yielded ops a.tmps) = true := by simp [Region.wanted, hgd]
  rw [if_pos hw]
  exact wp_append_rows w s x t ho base e i z k bytes ht hi hz hsize hby hzs hk v xs hs hown B A m c ys hx hm hr h1 h63 hbytes hbase h
end

/-- an empty row that was just made: 'T{}' of length nought -/
theorem Own.empty {w : World} {base : Nat} {e : TypeId} {k : Nat} (hb : base ≤ w.heap.size) : Own (w.alloc (.cells #[] e)) base e k (.slice (some ⟨w.heap.size, 0, none⟩) 0 0) [] := by
  refine ⟨?_, by simp⟩
  have := World.ownsRow_lit (base := base) (e := e) (size := k) w #[] 0 hb (Nat.zero_le _) (by simp)
  simpa using this
theorem below_app {B : Nat} {a w w' : World} {v : Value} (h : Below B a w) (hg : w.grownBy w' v.ownBlock) (hB : B ≤ w.heap.size) (hr : ∀ g, v.ownBlock = some g → B ≤ g) : Below B a w' := h.grown hg hB hr
theorem Own.ownGe {w : World} {base : Nat} {e : TypeId} {k : Nat} {v : Value} {xs : List (List Value)} (h : Own w base e k v xs) : ∀ g, v.ownBlock = some g → base ≤ g := fun g hg => (h.1.lt g hg).1
theorem Own.kept {w w' : World} {base : Nat} {e : TypeId} {k : Nat} {v : Value} {xs : List (List Value)} {row : Option Nat} (h : Own w base e k v xs) (hg : w.grownBy w' row) (hne : v.ownBlock = none ∨ v.ownBlock ≠ row) : Own w' base e k v xs := ⟨h.1.kept hg hne, h.2⟩
theorem Sl.grown {w w' : World} {B k : Nat} {A : Option Addr} {xs : List (List Value)} {row : Option Nat} (h : Sl w B k A xs) (hg : w.grownBy w' row) (hB : B ≤ w.heap.size) (hr : ∀ g, row = some g → B ≤ g) : Sl w' B k A xs :=
  h.keep fun p hp => World.cell?_of_block (hg.block p.block (by omega) (fun e => by have := hr _ e.symm; omega))
/-- two slices of the call's own, the second made later: their blocks differ -/
theorem own_apart {w w' : World} {base base' : Nat} {e e' : TypeId} {k k' : Nat} {v v' : Value} {xs xs' : List (List Value)} (h : Own w base e k v xs) (h' : Own w' base' e' k' v' xs') (hb : w.heap.size ≤ base' := by omega) :
    v.ownBlock = none ∨ v.ownBlock ≠ v'.ownBlock := by
  cases hv : v.ownBlock with
  | none => exact .inl rfl
  | some g =>
    refine .inr fun e => ?_
    have h1 := (h.1.lt g hv).2
    have h2 := (h'.1.lt g e.symm).1
    omega
theorem own_apart' {w w' : World} {base base' : Nat} {e e' : TypeId} {k k' : Nat} {v v' : Value} {xs xs' : List (List Value)} (h : Own w base e k v xs) (h' : Own w' base' e' k' v' xs') (hb : w.heap.size ≤ base' := by omega) :
    v'.ownBlock = none ∨ v'.ownBlock ≠ v.ownBlock := by
  cases hv : v'.ownBlock with
  | none => exact .inl rfl
  | some g =>
    refine .inr fun e => ?_
    have h1 := (h.1.lt g e.symm).2
    have h2 := (h'.1.lt g hv).1
    omega
theorem Own.le_cap {w : World} {base : Nat} {e : TypeId} {k n c : Nat} {A : Option Addr} {xs : List (List Value)} (h : Own w base e k (.slice A n c) xs) : n ≤ c := by
  obtain ⟨_, _, he, hf⟩ := h.form
  simp only [Value.slice.injEq] at he
  omega
/-- a call's result: a new slice with the rows, and a code -/
def PostRows (t : TypeId) (k n : Nat) (rows : List (List Value)) (code : Int) (w : World) (e : Ending) (w' : World) : Prop :=
  ∃ A' c', e = .returned (.tuple #[.slice A' n c', .int .i64 code]) ∧ Own w' w.heap.size t k (.slice A' n c') rows ∧ Below w.heap.size w w'
end Go.Proofs.YtendoabjjfinhaaGreatDoor
namespace Go.Proofs.YtendoabjjfinhaaGreatDoor
open Go.RowKit
/-- one int64, as a row of one cell -/
def ic (n : Int) : List Value := [.int .i64 n]
theorem ic_one {x : List Int} : ∀ y ∈ x.map ic, ∀ u ∈ y, u.oneCell' = true := fun y hy u hu => by
  obtain ⟨n, _, rfl⟩ := List.mem_map.1 hy
  simp only [ic, List.mem_singleton] at hu
  subst hu
  rfl
theorem info_Int64 : (Tryz.prog.info? 2).map (fun i => (i.zero, i.size, i.bytes)) = some (some (.int .i64 0), 1, 8) := by kernel_rfl
/-- a cell of a slice of int64 -/
theorem Sl.int {w : World} {B : Nat} {A : Option Addr} {l : List Int} (h : Sl w B 1 A (l.map ic)) {k : Nat} (hk : k < l.length) : ∃ b off, A = some ⟨b, off, none⟩ ∧ b < B ∧ w.cell? ⟨b, off + k, none⟩ = some (.int .i64 l[k]) := by
  obtain ⟨b, off, rfl, hb, hc⟩ := h.at_ (i := k) (by simpa using hk)
  refine ⟨b, off, rfl, hb, ?_⟩
  have := hc 0 (.int .i64 l[k]) (by simp [ic])
  simpa using this
set_option maxRecDepth 100000 in
theorem eqInt64S_c (A A' : Option Addr) (c c' : Nat) (l : List Int) (w : World) (hl : l.length ≤ 140737488351232) (hs : Sl w w.heap.size 1 A (l.map ic)) (hs' : Sl w w.heap.size 1 A' (l.map ic)) :
   Calls Tryz.prog 161 #[.slice A l.length c, .slice A' l.length c'] w fun e w' => e = .returned (.bool true) ∧ Below w.heap.size w w' := by
  go_enter Tryz.func161, Tryz.ntmps161
  go_wp2_with fail
  go_loopw [5] (fun i wr => ∃ k : Nat, k ≤ l.length ∧ i = .int .i64 k ∧ Below w.heap.size w wr) (fun i _ => l.length - (intOf i).toNat)
  case atStart => exact ⟨0, Nat.zero_le _, rfl, Below.refl _ _⟩
  case round =>
    obtain ⟨k, hk, rfl, hb⟩ := hrel
    by_cases hlt : k < l.length
    · obtain ⟨b, off, rfl, hbB, hc⟩ := hs.int hlt
      obtain ⟨b', off', rfl, hbB', hc'⟩ := hs'.int hlt
      have c0 : wr.cell? ⟨b, off + k, none⟩ = some (.int .i64 l[k]) := by rw [hb.cell hbB]; exact hc
      have d0 : wr.cell? ⟨b', off' + k, none⟩ = some (.int .i64 l[k]) := by rw [hb.cell hbB']; exact hc'
      clear hc hc'
      go_wp2_with fail
      go_quiet (fail)
      go_wp2
      go_roundw
      case rel => exact ⟨k + 1, by omega, by go_num, (by repeat (first | with_reducible exact hb | with_reducible apply below_drewN' | with_reducible apply Below.drew | (with_reducible refine Below.alloc ?_ (by first | omega | (simp; omega) | simp | (have := (hb).size; omega) | (have := (hb).size; simp; omega)) _) | (with_reducible refine Below.setCell ?_ (by first | omega | (simp; omega) | simp | (have := (hb).size; omega) | (have := (hb).size; simp; omega)) _) | exact hb))⟩
      case measure => simp [intOf]; omega
    · have : k = l.length := by omega
      subst this
      go_wp2
      go_ret
      exact ⟨rfl, hb⟩
def markInt64 (m : Int) (i : Nat) : List Value := [.int .i64 (m + i)]
set_option maxRecDepth 100000 in
theorem markInt64S_c (A : Option Addr) (c base : Nat) (m : Int) (xs : List (List Value)) (w : World) (hm : 0 ≤ m ∧ m ≤ 1000000000) (hl : xs.length ≤ 10000000) (hO : Own w base 2 1 (.slice A xs.length c) xs) :
    Calls Tryz.prog 55 #[.slice A xs.length c, .int .i64 m] w fun e w' => e = .returned (.int .i64 (m + xs.length)) ∧ Own w' base 2 1 (.slice A xs.length c) ((List.range xs.length).map (markInt64 m)) ∧ w.grownBy w' (Value.slice A xs.length c).ownBlock := by
  go_enter Tryz.func55, Tryz.ntmps55
  go_wp2_with fail
  go_loopw [1, 5] (fun q i wr => ∃ k : Nat, k ≤ xs.length ∧ i = .int .i64 k ∧ q = .int .i64 (m + k) ∧ w.grownBy wr (Value.slice A xs.length c).ownBlock ∧
      Own wr base 2 1 (.slice A xs.length c) ((List.range k).map (markInt64 m) ++ xs.drop k)) (fun _ i _ => xs.length - (intOf i).toNat)
  case atStart => exact ⟨0, Nat.zero_le _, rfl, by simp, World.grownBy.refl _ _, by simpa using hO⟩
  case round =>
    obtain ⟨k, hk, rfl, rfl, hg, hO1⟩ := hrel
    by_cases hlt : k < xs.length
    · have hkl : k < ((List.range k).map (markInt64 m) ++ xs.drop k).length := by simp; omega
      obtain ⟨_, b, off, rfl, _, _⟩ := hO1.sl k _ (List.getElem?_eq_getElem hkl)
      obtain rfl := hO1.off0 hkl
      obtain ⟨v0, e0⟩ : ∃ v, wr.cell? ⟨b, k * 1, none⟩ = some v := hO1.cell (i := k) (j := 0) hkl (by omega)
      have f0 : wr.frozen? ⟨b, k * 1, none⟩ = false := hO1.frozen _
      rw [Nat.mul_one] at e0 f0
      clear hO
      go_wp2
      go_roundw
      case rel =>
        refine ⟨k + 1, by omega, by go_num, ?_, ?_, ?_⟩
        · simp; omega
        · have := grownBy_stores (markInt64 m k) (k * 1) hg
          rw [Nat.mul_one] at this
          exact this
        · have h := hO1.store (i := k) hkl (markInt64 m k) rfl
          rw [marks_next _ hlt, Nat.mul_one] at h
          exact h
      case measure => simp [intOf]; omega
    · have : k = xs.length := by omega
      subst this
      go_wp2
      go_ret
      rw [List.drop_of_length_le (Nat.le_refl _), List.append_nil] at hO1
      exact ⟨rfl, hO1, hg⟩
set_option maxRecDepth 100000 in
theorem heldInt64S_c (A : Option Addr) (n c : Nat) (m : Int) (w : World) (hm : 0 ≤ m ∧ m ≤ 1000000000) (hl : n ≤ 10000000) (hs : Sl w w.heap.size 1 A ((List.range n).map (markInt64 m))) :
    Calls Tryz.prog 57 #[.slice A n c, .int .i64 m] w fun e w' => e = .returned (.int .i64 (m + n)) ∧ w = w' := by
  go_enter Tryz.func57, Tryz.ntmps57
  go_wp2_with fail
  go_loop [1, 5] (fun q i => ∃ k : Nat, k ≤ n ∧ i = .int .i64 k ∧ q = .int .i64 (m + k)) (fun _ i => n - (intOf i).toNat)
  case atStart => exact ⟨0, Nat.zero_le _, rfl, by simp⟩
  case round =>
    obtain ⟨k, hk, rfl, rfl⟩ := hrel
    by_cases hlt : k < n
    · obtain ⟨b, off, rfl, hbB, hc⟩ := hs.at_ (i := k) (by simpa using hlt)
      simp only [List.getElem_map, List.getElem_range] at hc
      have c0 : w.cell? ⟨b, off + k, none⟩ = some (.int .i64 (m + k)) := by have := hc 0 _ rfl; simpa using this
      clear hc
      go_wp2
      go_round
      case rel => exact ⟨k + 1, by omega, by go_num, by simp; omega⟩
      case measure => simp [intOf]; omega
    · have : k = n := by omega
      subst this
      go_wp2
      go_ret
      exact ⟨rfl, rfl⟩
end Go.Proofs.YtendoabjjfinhaaGreatDoor
namespace Go.Proofs.YtendoabjjfinhaaGreatDoor
open Go.RowKit
@[ext] structure Errors where
  engraving : Int
  parallax : Int
  eye : Int
deriving DecidableEq
def Errors.cells (s : Errors) : List Value := [.int .i64 s.engraving, .int .i64 s.parallax, .int .i64 s.eye]
def Errors.agg (s : Errors) : Value := .agg #[.int .i64 s.engraving, .int .i64 s.parallax, .int .i64 s.eye]

theorem Errors.of_rows : ∀ rows : List (List Int), (∀ x ∈ rows, x.length = 3) → ∃ l : List Errors, rows.map (·.map (Value.int .i64)) = l.map Errors.cells
  | [], _ => ⟨[], rfl⟩
  | x :: r, h => by
    obtain ⟨l, hl⟩ := Errors.of_rows r fun y hy => h y (by simp [hy])
    match x, h x (by simp) with
    | [a, b, c], _ => exact ⟨⟨a, b, c⟩ :: l, by rw [List.map_cons, hl]; rfl⟩








end Go.Proofs.YtendoabjjfinhaaGreatDoor
