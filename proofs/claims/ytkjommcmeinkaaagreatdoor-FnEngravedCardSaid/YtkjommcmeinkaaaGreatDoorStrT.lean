/- The text of a program of strokes: both sides. Conditions: what the library's table holds; the lists' lengths. -/
import Derived.Test.YtkjommcmeinkaaaGreatDoorStrW
import Derived.Test.YtkjommcmeinkaaaGreatDoorStrokes
import Derived.Deep.MidRow
namespace Go.Proofs.YtkjommcmeinkaaaGreatDoor
open Go.RowKit
set_option linter.unusedSimpArgs false
def strT (s : Stroke) : List UInt8 := [if s.tool = 2 then 66 else 70] ++ Lib.itoa s.place ++ [46] ++ Lib.itoa s.long
def progT (l : List Stroke) : List UInt8 := joinC [32] (l.map strT)
def progR (l : List Stroke) : List UInt8 := if strokesCode l = 0 then progT l else []
def str1 (l : List UInt8) : List Value := [.string (bs l)]
theorem itoa_len {n : Int} (h : 0 ≤ n ∧ n ≤ 1000000) : (Lib.itoa n).length ≤ 7 := by
  unfold Lib.itoa
  rw [if_neg (by omega)]
  exact (dec_len_le n.toNat 7 (by omega)).2 (by omega)
theorem strT_len {s : Stroke} (h : strokeOK s = true) : (strT s).length ≤ 16 := by
  unfold strokeOK at h
  simp only [Bool.and_eq_true, inB_true] at h
  have h1 := itoa_len (n := s.place) (by omega)
  have h2 := itoa_len (n := s.long) (by omega)
  unfold strT
  simp only [List.length_append, List.length_singleton]
  omega
theorem strT_eq (s : Stroke) : bs (strT s) = bs [if s.tool = 2 then 66 else 70] ++ bs (Lib.itoa s.place) ++ bs [46] ++ bs (Lib.itoa s.long) := by
  unfold strT
  simp only [bs_append]
set_option maxRecDepth 100000 in
theorem strokeText_c (s : Stroke) (w : World) (hs : strokeOK s = true) (hT : LwT w) : Calls Tryz.prog 34 #[s.agg] w fun e w' => e = .returned (.string (bs (strT s))) ∧ Below w.heap.size w w' := by
  unfold strokeOK at hs
  simp only [Bool.and_eq_true, inB_true] at hs
  have hR := Lib.hid (strT_eq s)
  have h1 := itoa_len (n := s.place) (by omega)
  have h2 := itoa_len (n := s.long) (by omega)
  rw [← bs_size] at h1 h2
  have HD := Lib.hid (fun n W (h : 0 ≤ n ∧ n ≤ 1000000) (hT : LwT W) => decimal_c n W (by omega) (by omega) hT)
  have hb0 : bs [46] = ⟨#[46]⟩ := rfl
  rw [hb0] at hR
  obtain ⟨t, p, l⟩ := s
  simp only at hs hR h1 h2
  have HP := Lib.hid (fun W hT => HD.out p W (by omega) hT)
  have HL := Lib.hid (fun W hT => HD.out l W (by omega) hT)
  clear HD hb0
  unfold Stroke.agg
  have B0 := Blk.new w 35 #[.int .i64 t, .int .i64 p, .int .i64 l]
  have hW : Below w.heap.size w (w.alloc (.cells #[.int .i64 t, .int .i64 p, .int .i64 l] 35)) := (by repeat (first | with_reducible exact Below.refl _ _ | with_reducible apply below_drewN' | with_reducible apply Below.drew | (with_reducible refine Below.alloc ?_ (by first | omega | (simp; omega) | simp | (have := (Below.refl _ _).size; omega) | (have := (Below.refl _ _).size; simp; omega)) _) | (with_reducible refine Below.setCell ?_ (by first | omega | (simp; omega) | simp | (have := (Below.refl _ _).size; omega) | (have := (Below.refl _ _).size; simp; omega)) _) | exact Below.refl _ _))
  have HT : Hid (∀ W, Below w.heap.size w W → LwT W) := Lib.hid (fun W h => hT.below h)
  clear hT
  generalize bs (Lib.itoa p) = p1 at *
  generalize bs (Lib.itoa l) = p2 at *
  generalize bs (strT ⟨t, p, l⟩) = res at *
  obtain ⟨lt, hlt, hl1⟩ : ∃ lt : ByteArray, Hid (lt = bs [if t = 2 then 66 else 70]) ∧ lt.size = 1 := ⟨_, Lib.hid rfl, bs_size _⟩
  rw [← hlt.out] at hR
  have m1 : ¬ 9223372036854775807 < 1 + p1.size := by omega
  have m2 : ¬ 9223372036854775807 < 1 + p1.size + 1 := by omega
  have m3 : ¬ 9223372036854775807 < 1 + p1.size + 1 + p2.size := by omega
  by_cases ht : t = 2
  · subst ht
    obtain rfl : lt = ⟨#[66]⟩ := hlt.out
    clear hlt
    have x0 : (w.alloc (.cells #[.int .i64 2, .int .i64 p, .int .i64 l] 35)).cell? ⟨w.heap.size, 0, none⟩ = some (.int .i64 2) := B0.cell 0
    go_enter Tryz.func34, Tryz.ntmps34
    go_wp2_with fail
    clear x0
    generalize w.alloc (.cells #[.int .i64 2, .int .i64 p, .int .i64 l] 35) = W at *
    refine wp_region_sink 10 (fun a0 fL bA v => ∃ v7 v8 v9 v10 v11 v12 v13 v14 v15 v16 : Value, bA = (((((((((a0.put (some 7) v7).put (some 8) v8).put (some 9) v9).put (some 10) v10).put (some 11) v11).put (some 12) v12).put (some 13) v13).put (some 14) v14).put (some 15) v15).put (some 16) v16 ∧ (Below W.heap.size W v) ∧ (fL 0 = true → v7 = .string ⟨#[66]⟩) ∧ (fL 1 = true → v8 = .pointer (some ⟨w.heap.size, 1, none⟩)) ∧ (fL 2 = true → v9 = .int .i64 p) ∧ (fL 3 = true → v10 = .string p1) ∧ (fL 4 = true → v11 = .string (⟨#[66]⟩ ++ p1)) ∧ (fL 5 = true → v12 = .string (⟨#[66]⟩ ++ p1 ++ ⟨#[46]⟩)) ∧ (fL 6 = true → v13 = .pointer (some ⟨w.heap.size, 2, none⟩)) ∧ (fL 7 = true → v14 = .int .i64 l) ∧ (fL 8 = true → v15 = .string p2) ∧ (fL 9 = true → v16 = .string (⟨#[66]⟩ ++ p1 ++ ⟨#[46]⟩ ++ p2))) (by kernel_rfl) (by decide +kernel) ?_ ?_ ?_
    · exact ⟨undef, undef, undef, undef, undef, undef, undef, undef, undef, undef, by simp only [Act.put, List.setIfInBounds_toArray, List.set_cons_zero, List.set_cons_succ], (Below.refl _ _).drew, nofun, nofun, nofun, nofun, nofun, nofun, nofun, nofun, nofun, nofun⟩
    · rintro fL bA v ⟨v7, v8, v9, v10, v11, v12, v13, v14, v15, v16, rfl, hS, q0, q1, q2, q3, q4, q5, q6, q7, q8, q9⟩ i hi hf o ho hall
      simp only [Act.put, List.setIfInBounds_toArray, List.set_cons_zero, List.set_cons_succ]
      have hn : i = 0 ∨ i = 1 ∨ i = 2 ∨ i = 3 ∨ i = 4 ∨ i = 5 ∨ i = 6 ∨ i = 7 ∨ i = 8 ∨ i = 9 := by omega
      clear hi
      rcases hn with rfl | rfl | rfl | rfl | rfl | rfl | rfl | rfl | rfl | rfl
      · obtain rfl := Option.some.inj ho
        clear hall ho
        refine wpOp_step rfl (fun K hK => ?_)
        go_simp
        exact hK _ _ ⟨_, _, _, _, _, _, _, _, _, _, rfl, hS, fun _ => rfl, q1, q2, q3, q4, q5, q6, q7, q8, q9⟩
      · obtain rfl := Option.some.inj ho
        clear hall ho
        refine wpOp_step rfl (fun K hK => ?_)
        go_simp
        exact hK _ _ ⟨_, _, _, _, _, _, _, _, _, _, rfl, hS, q0, fun _ => rfl, q2, q3, q4, q5, q6, q7, q8, q9⟩
      · obtain rfl := Option.some.inj ho
        obtain rfl := q1 (hall ⟨1, .data⟩ (by simp) rfl)
        have y : v.cell? ⟨w.heap.size, 1, none⟩ = some (.int .i64 p) := (B0.below hS B0.lt).cell 1
        clear hall ho
        refine wpOp_step rfl (fun K hK => ?_)
        go_simp
        exact hK _ _ ⟨_, _, _, _, _, _, _, _, _, _, rfl, hS, q0, fun _ => rfl, fun _ => rfl, q3, q4, q5, q6, q7, q8, q9⟩
      · obtain rfl := Option.some.inj ho
        obtain rfl := q2 (hall ⟨2, .data⟩ (by simp) rfl)
        clear hall ho
        refine wpOp_step rfl (fun K hK => ?_)
        go_simp
        refine Calls.mono (HP.out v (HT.out v (hW.trans (hS.mono hW.size)))) ?_; rintro e w1 ⟨rfl, hb1⟩
        go_simp
        exact hK _ _ ⟨_, _, _, _, _, _, _, _, _, _, rfl, hS.trans (hb1.mono hS.size), q0, q1, fun _ => rfl, fun _ => rfl, q4, q5, q6, q7, q8, q9⟩
      · obtain rfl := Option.some.inj ho
        obtain rfl := q0 (hall ⟨0, .data⟩ (by simp) rfl)
        obtain rfl := q3 (hall ⟨3, .data⟩ (by simp) rfl)
        clear hall ho
        refine wpOp_step rfl (fun K hK => ?_)
        go_simp
        exact hK _ _ ⟨_, _, _, _, _, _, _, _, _, _, rfl, hS, fun _ => rfl, q1, q2, fun _ => rfl, fun _ => rfl, q5, q6, q7, q8, q9⟩
      · obtain rfl := Option.some.inj ho
        obtain rfl := q4 (hall ⟨4, .data⟩ (by simp) rfl)
        clear hall ho
        refine wpOp_step rfl (fun K hK => ?_)
        go_simp
        exact hK _ _ ⟨_, _, _, _, _, _, _, _, _, _, rfl, hS, q0, q1, q2, q3, fun _ => rfl, fun _ => rfl, q6, q7, q8, q9⟩
      · obtain rfl := Option.some.inj ho
        clear hall ho
        refine wpOp_step rfl (fun K hK => ?_)
        go_simp
        exact hK _ _ ⟨_, _, _, _, _, _, _, _, _, _, rfl, hS, q0, q1, q2, q3, q4, q5, fun _ => rfl, q7, q8, q9⟩
      · obtain rfl := Option.some.inj ho
        obtain rfl := q6 (hall ⟨6, .data⟩ (by simp) rfl)
        have y : v.cell? ⟨w.heap.size, 2, none⟩ = some (.int .i64 l) := (B0.below hS B0.lt).cell 2
        clear hall ho
        refine wpOp_step rfl (fun K hK => ?_)
        go_simp
        exact hK _ _ ⟨_, _, _, _, _, _, _, _, _, _, rfl, hS, q0, q1, q2, q3, q4, q5, fun _ => rfl, fun _ => rfl, q8, q9⟩
      · obtain rfl := Option.some.inj ho
        obtain rfl := q7 (hall ⟨7, .data⟩ (by simp) rfl)
        clear hall ho
        refine wpOp_step rfl (fun K hK => ?_)
        go_simp
        refine Calls.mono (HL.out v (HT.out v (hW.trans (hS.mono hW.size)))) ?_; rintro e w1 ⟨rfl, hb1⟩
        go_simp
        exact hK _ _ ⟨_, _, _, _, _, _, _, _, _, _, rfl, hS.trans (hb1.mono hS.size), q0, q1, q2, q3, q4, q5, q6, fun _ => rfl, fun _ => rfl, q9⟩
      · obtain rfl := Option.some.inj ho
        obtain rfl := q5 (hall ⟨5, .data⟩ (by simp) rfl)
        obtain rfl := q8 (hall ⟨8, .data⟩ (by simp) rfl)
        clear hall ho
        refine wpOp_step rfl (fun K hK => ?_)
        go_simp
        exact hK _ _ ⟨_, _, _, _, _, _, _, _, _, _, rfl, hS, q0, q1, q2, q3, q4, fun _ => rfl, q6, q7, fun _ => rfl, fun _ => rfl⟩
    · rintro fL bA v ⟨v7, v8, v9, v10, v11, v12, v13, v14, v15, v16, rfl, hS, q0, q1, q2, q3, q4, q5, q6, q7, q8, q9⟩ hall
      simp only [Act.put, List.setIfInBounds_toArray, List.set_cons_zero, List.set_cons_succ]
      obtain rfl := q0 (hall 0 (by omega))
      obtain rfl := q1 (hall 1 (by omega))
      obtain rfl := q2 (hall 2 (by omega))
      obtain rfl := q3 (hall 3 (by omega))
      obtain rfl := q4 (hall 4 (by omega))
      obtain rfl := q5 (hall 5 (by omega))
      obtain rfl := q6 (hall 6 (by omega))
      obtain rfl := q7 (hall 7 (by omega))
      obtain rfl := q8 (hall 8 (by omega))
      obtain rfl := q9 (hall 9 (by omega))
      clear hall
      simp only [List.drop_succ_cons, List.drop_zero]
      have hb := hW.trans (hS.mono hW.size)
      clear hS HP HL HT
      go_wp2
      go_ret
      exact ⟨by rw [hR.out]; rfl, hb⟩
  · obtain rfl : lt = ⟨#[70]⟩ := by rw [hlt.out, if_neg ht]; rfl
    clear hlt
    have hne : (t == 2) = false := by simpa using ht
    have x0 : (w.alloc (.cells #[.int .i64 t, .int .i64 p, .int .i64 l] 35)).cell? ⟨w.heap.size, 0, none⟩ = some (.int .i64 t) := B0.cell 0
    go_enter Tryz.func34, Tryz.ntmps34
    go_wp2_with fail
    clear x0
    generalize w.alloc (.cells #[.int .i64 t, .int .i64 p, .int .i64 l] 35) = W at *
    refine wp_region_sink 10 (fun a0 fL bA v => ∃ v7 v8 v9 v10 v11 v12 v13 v14 v15 v16 : Value, bA = (((((((((a0.put (some 7) v7).put (some 8) v8).put (some 9) v9).put (some 10) v10).put (some 11) v11).put (some 12) v12).put (some 13) v13).put (some 14) v14).put (some 15) v15).put (some 16) v16 ∧ (Below W.heap.size W v) ∧ (fL 0 = true → v7 = .string ⟨#[70]⟩) ∧ (fL 1 = true → v8 = .pointer (some ⟨w.heap.size, 1, none⟩)) ∧ (fL 2 = true → v9 = .int .i64 p) ∧ (fL 3 = true → v10 = .string p1) ∧ (fL 4 = true → v11 = .string (⟨#[70]⟩ ++ p1)) ∧ (fL 5 = true → v12 = .string (⟨#[70]⟩ ++ p1 ++ ⟨#[46]⟩)) ∧ (fL 6 = true → v13 = .pointer (some ⟨w.heap.size, 2, none⟩)) ∧ (fL 7 = true → v14 = .int .i64 l) ∧ (fL 8 = true → v15 = .string p2) ∧ (fL 9 = true → v16 = .string (⟨#[70]⟩ ++ p1 ++ ⟨#[46]⟩ ++ p2))) (by kernel_rfl) (by decide +kernel) ?_ ?_ ?_
    · exact ⟨undef, undef, undef, undef, undef, undef, undef, undef, undef, undef, by simp only [Act.put, List.setIfInBounds_toArray, List.set_cons_zero, List.set_cons_succ], (Below.refl _ _).drew, nofun, nofun, nofun, nofun, nofun, nofun, nofun, nofun, nofun, nofun⟩
    · rintro fL bA v ⟨v7, v8, v9, v10, v11, v12, v13, v14, v15, v16, rfl, hS, q0, q1, q2, q3, q4, q5, q6, q7, q8, q9⟩ i hi hf o ho hall
      simp only [Act.put, List.setIfInBounds_toArray, List.set_cons_zero, List.set_cons_succ]
      have hn : i = 0 ∨ i = 1 ∨ i = 2 ∨ i = 3 ∨ i = 4 ∨ i = 5 ∨ i = 6 ∨ i = 7 ∨ i = 8 ∨ i = 9 := by omega
      clear hi
      rcases hn with rfl | rfl | rfl | rfl | rfl | rfl | rfl | rfl | rfl | rfl
      · obtain rfl := Option.some.inj ho
        clear hall ho
        refine wpOp_step rfl (fun K hK => ?_)
        go_simp
        exact hK _ _ ⟨_, _, _, _, _, _, _, _, _, _, rfl, hS, fun _ => rfl, q1, q2, q3, q4, q5, q6, q7, q8, q9⟩
      · obtain rfl := Option.some.inj ho
        clear hall ho
        refine wpOp_step rfl (fun K hK => ?_)
        go_simp
        exact hK _ _ ⟨_, _, _, _, _, _, _, _, _, _, rfl, hS, q0, fun _ => rfl, q2, q3, q4, q5, q6, q7, q8, q9⟩
      · obtain rfl := Option.some.inj ho
        obtain rfl := q1 (hall ⟨1, .data⟩ (by simp) rfl)
        have y : v.cell? ⟨w.heap.size, 1, none⟩ = some (.int .i64 p) := (B0.below hS B0.lt).cell 1
        clear hall ho
        refine wpOp_step rfl (fun K hK => ?_)
        go_simp
        exact hK _ _ ⟨_, _, _, _, _, _, _, _, _, _, rfl, hS, q0, fun _ => rfl, fun _ => rfl, q3, q4, q5, q6, q7, q8, q9⟩
      · obtain rfl := Option.some.inj ho
        obtain rfl := q2 (hall ⟨2, .data⟩ (by simp) rfl)
        clear hall ho
        refine wpOp_step rfl (fun K hK => ?_)
        go_simp
        refine Calls.mono (HP.out v (HT.out v (hW.trans (hS.mono hW.size)))) ?_; rintro e w1 ⟨rfl, hb1⟩
        go_simp
        exact hK _ _ ⟨_, _, _, _, _, _, _, _, _, _, rfl, hS.trans (hb1.mono hS.size), q0, q1, fun _ => rfl, fun _ => rfl, q4, q5, q6, q7, q8, q9⟩
      · obtain rfl := Option.some.inj ho
        obtain rfl := q0 (hall ⟨0, .data⟩ (by simp) rfl)
        obtain rfl := q3 (hall ⟨3, .data⟩ (by simp) rfl)
        clear hall ho
        refine wpOp_step rfl (fun K hK => ?_)
        go_simp
        exact hK _ _ ⟨_, _, _, _, _, _, _, _, _, _, rfl, hS, fun _ => rfl, q1, q2, fun _ => rfl, fun _ => rfl, q5, q6, q7, q8, q9⟩
      · obtain rfl := Option.some.inj ho
        obtain rfl := q4 (hall ⟨4, .data⟩ (by simp) rfl)
        clear hall ho
        refine wpOp_step rfl (fun K hK => ?_)
        go_simp
        exact hK _ _ ⟨_, _, _, _, _, _, _, _, _, _, rfl, hS, q0, q1, q2, q3, fun _ => rfl, fun _ => rfl, q6, q7, q8, q9⟩
      · obtain rfl := Option.some.inj ho
        clear hall ho
        refine wpOp_step rfl (fun K hK => ?_)
        go_simp
        exact hK _ _ ⟨_, _, _, _, _, _, _, _, _, _, rfl, hS, q0, q1, q2, q3, q4, q5, fun _ => rfl, q7, q8, q9⟩
      · obtain rfl := Option.some.inj ho
        obtain rfl := q6 (hall ⟨6, .data⟩ (by simp) rfl)
        have y : v.cell? ⟨w.heap.size, 2, none⟩ = some (.int .i64 l) := (B0.below hS B0.lt).cell 2
        clear hall ho
        refine wpOp_step rfl (fun K hK => ?_)
        go_simp
        exact hK _ _ ⟨_, _, _, _, _, _, _, _, _, _, rfl, hS, q0, q1, q2, q3, q4, q5, fun _ => rfl, fun _ => rfl, q8, q9⟩
      · obtain rfl := Option.some.inj ho
        obtain rfl := q7 (hall ⟨7, .data⟩ (by simp) rfl)
        clear hall ho
        refine wpOp_step rfl (fun K hK => ?_)
        go_simp
        refine Calls.mono (HL.out v (HT.out v (hW.trans (hS.mono hW.size)))) ?_; rintro e w1 ⟨rfl, hb1⟩
        go_simp
        exact hK _ _ ⟨_, _, _, _, _, _, _, _, _, _, rfl, hS.trans (hb1.mono hS.size), q0, q1, q2, q3, q4, q5, q6, fun _ => rfl, fun _ => rfl, q9⟩
      · obtain rfl := Option.some.inj ho
        obtain rfl := q5 (hall ⟨5, .data⟩ (by simp) rfl)
        obtain rfl := q8 (hall ⟨8, .data⟩ (by simp) rfl)
        clear hall ho
        refine wpOp_step rfl (fun K hK => ?_)
        go_simp
        exact hK _ _ ⟨_, _, _, _, _, _, _, _, _, _, rfl, hS, q0, q1, q2, q3, q4, fun _ => rfl, q6, q7, fun _ => rfl, fun _ => rfl⟩
    · rintro fL bA v ⟨v7, v8, v9, v10, v11, v12, v13, v14, v15, v16, rfl, hS, q0, q1, q2, q3, q4, q5, q6, q7, q8, q9⟩ hall
      simp only [Act.put, List.setIfInBounds_toArray, List.set_cons_zero, List.set_cons_succ]
      obtain rfl := q0 (hall 0 (by omega))
      obtain rfl := q1 (hall 1 (by omega))
      obtain rfl := q2 (hall 2 (by omega))
      obtain rfl := q3 (hall 3 (by omega))
      obtain rfl := q4 (hall 4 (by omega))
      obtain rfl := q5 (hall 5 (by omega))
      obtain rfl := q6 (hall 6 (by omega))
      obtain rfl := q7 (hall 7 (by omega))
      obtain rfl := q8 (hall 8 (by omega))
      obtain rfl := q9 (hall 9 (by omega))
      clear hall
      simp only [List.drop_succ_cons, List.drop_zero]
      have hb := hW.trans (hS.mono hW.size)
      clear hS HP HL HT
      go_wp2
      go_ret
      exact ⟨by rw [hR.out]; rfl, hb⟩
end Go.Proofs.YtkjommcmeinkaaaGreatDoor
