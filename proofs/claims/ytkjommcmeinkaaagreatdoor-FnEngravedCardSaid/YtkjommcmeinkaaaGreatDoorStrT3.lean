/- ProgramText, the reference's. Conditions: the lists' lengths. -/
import Derived.Test.YtkjommcmeinkaaaGreatDoorStrT2
namespace Go.Proofs.YtkjommcmeinkaaaGreatDoor
open Go.RowKit
set_option linter.unusedSimpArgs false
theorem itoa_nat {n : Int} (h : 0 ≤ n) : Lib.itoa n = Lib.decDigits n.toNat := by unfold Lib.itoa; rw [if_neg (by omega)]
theorem strokeOK_bd {s : Stroke} (h : strokeOK s = true) : (1 ≤ s.tool ∧ s.tool ≤ 2) ∧ (0 ≤ s.place ∧ s.place ≤ 100000) ∧ (1 ≤ s.long ∧ s.long ≤ 1000) := by
  unfold strokeOK at h
  simp only [Bool.and_eq_true, inB_true] at h
  omega
set_option maxRecDepth 100000 in
set_option maxHeartbeats 4000000 in
theorem l32Text_c (A : Option Addr) (c : Nat) (l : List Stroke) (w : World) (hl : l.length ≤ 150) (hok : l.all strokeOK = true) (hs : Sl w w.heap.size 3 A (l.map Stroke.cells)) :
    Calls Tryz.prog 36 #[.slice A l.length c] w fun e w' => e = .returned (.string (bs (progT l))) ∧ Below w.heap.size w w' := by
  have hR : Hid (bs (progT l) = bs (joinC [32] ((l.take l.length).map strT))) := Lib.hid (by rw [List.take_length]; rfl)
  have h0 : Hid (bs (joinC [32] ((l.take 0).map strT)) = ⟨#[]⟩) := Lib.hid rfl
  have hnx := Lib.hid (fun k (hk : k < l.length) => (by
    rw [List.take_succ_eq_append_getElem hk, List.map_append, List.map_singleton, joinC_snoc]
    by_cases h : k = 0
    · subst h; rfl
    · have : ((l.take k).map strT).isEmpty = false := by
        rw [List.isEmpty_eq_false_iff]
        intro e
        have := congrArg List.length e
        simp only [List.length_map, List.length_take, List.length_nil] at this
        omega
      rw [this, if_neg h]
      simp only [Bool.false_eq_true, if_false, ← bs_append] : bs (joinC [32] ((l.take (k + 1)).map strT)) = (if k = 0 then bs (strT l[k]) else bs (joinC [32] ((l.take k).map strT)) ++ bs [32] ++ bs (strT l[k]))))
  have hlen := Lib.hid (fun k (hk : k ≤ l.length) => (by
    have h1 := joinC_len (b := [32]) rfl ((l.take k).map strT) (fun x hx => by
      obtain ⟨s, hs', rfl⟩ := List.mem_map.1 hx
      exact strT_len (List.all_eq_true.1 hok s (List.mem_of_mem_take hs')))
    rw [List.length_map, List.length_take] at h1
    rw [bs_size]
    omega : (bs (joinC [32] ((l.take k).map strT))).size ≤ 17 * 150))
  have hok' := Lib.hid (List.all_eq_true.1 hok)
  have HD := Lib.hid (fun n W (h : 0 ≤ n ∧ n ≤ 1000000) => (by
    have h2 := l01Dec_c n.toNat W (by omega)
    rw [show ((n.toNat : Nat) : Int) = n by omega, ← itoa_nat h.1] at h2
    exact h2 : Calls Tryz.prog 53 #[.int .i64 n] W fun e w' => e = .returned (.string (bs (Lib.itoa n))) ∧ Below W.heap.size W w'))
  clear hok
  generalize hP : (fun k => bs (joinC [32] ((l.take k).map strT))) = P at *
  have hP' : ∀ k, bs (joinC [32] ((l.take k).map strT)) = P k := fun k => congrFun hP k
  simp only [hP'] at hR h0 hnx hlen
  clear hP hP'
  go_enter Tryz.func36, Tryz.ntmps36
  go_wp2_with fail
  go_loopw [3, 4] (fun o i wr => ∃ k : Nat, k ≤ l.length ∧ i = .int .i64 k ∧ o = .string (P k) ∧ Below w.heap.size w wr) (fun _ i _ => l.length - (intOf i).toNat)
  case atStart => exact ⟨0, Nat.zero_le _, rfl, by rw [h0.out], Below.refl _ _⟩
  case round =>
    obtain ⟨k, hk, rfl, rfl, hb⟩ := hrel
    by_cases hlt : k < l.length
    · have hnk := Lib.hid (hnx.out k hlt)
      have hsz := hlen.out k hk
      obtain ⟨hb1, hb2, hb3⟩ := strokeOK_bd (hok'.out l[k] (List.getElem_mem hlt))
      have HP := Lib.hid (fun W => HD.out l[k].place W (by omega))
      have HL := Lib.hid (fun W => HD.out l[k].long W (by omega))
      have hT := Lib.hid (strT_eq l[k])
      have z1 := itoa_len (n := l[k].place) (by omega)
      have z2 := itoa_len (n := l[k].long) (by omega)
      rw [← bs_size] at z1 z2
      obtain ⟨b, off, rfl, hbB, hc⟩ := hs.at_ (i := k) (by simpa using hlt)
      simp only [List.getElem_map] at hc
      have e0 := hc 0 (.int .i64 l[k].tool) rfl
      have e1 := hc 1 (.int .i64 l[k].place) rfl
      have e2 := hc 2 (.int .i64 l[k].long) rfl
      have c0 : wr.cell? ⟨b, off + k * 3, none⟩ = some (.int .i64 l[k].tool) := by rw [hb.cell hbB]; exact e0
      have c1 : Hid (∀ W, Below w.heap.size w W → W.cell? ⟨b, off + k * 3 + 1, none⟩ = some (.int .i64 l[k].place)) := Lib.hid (fun W h => by rw [h.cell hbB]; exact e1)
      have c2 : Hid (∀ W, Below w.heap.size w W → W.cell? ⟨b, off + k * 3 + 2, none⟩ = some (.int .i64 l[k].long)) := Lib.hid (fun W h => by rw [h.cell hbB]; exact e2)
      clear hc e0 e1 e2 hlen hnx
      have k1 : (k : Int) < (l.length : Int) := by omega
      have k0 : (0 : Int) ≤ (k : Int) := by omega
      generalize bs (Lib.itoa l[k].place) = p1 at *
      generalize bs (Lib.itoa l[k].long) = p2 at *
      generalize bs (strT l[k]) = res at *
      have hk2 : P (k + 1) = (if k = 0 then res else P k ++ bs [32] ++ res) := hnk.out
      generalize hPn : P (k + 1) = nx at *
      replace hPn := Lib.hid hPn
      replace hk2 := Lib.hid hk2
      clear hnk
      generalize hpk : P k = o0 at *
      replace hpk := Lib.hid hpk
      generalize l[k].tool = t0 at *
      generalize l[k].place = p0 at *
      generalize l[k].long = l0 at *
      by_cases hk00 : k = 0
      · have ho : Hid (o0 = ⟨#[]⟩) := Lib.hid (by rw [← hpk.out, hk00]; exact h0.out)
        have hos : o0.size = 0 := by rw [ho.out]; rfl
        have hE0 : Hid (nx = o0 ++ res) := Lib.hid (by rw [hk2.out, if_pos hk00, ho.out]; apply ByteArray.ext; simp)
        have hg : ¬ 0 < (k : Int) := by omega
        have hd1 : decide (0 < k) = false := decide_eq_false (by omega)
        clear hk2 ho hpk
        replace hk00 := Lib.hid hk00
        have m1 : ¬ 9223372036854775807 < o0.size + 1 := by omega
        have m2 : ¬ 9223372036854775807 < o0.size + 1 + p1.size := by omega
        have m3 : ¬ 9223372036854775807 < o0.size + 1 + p1.size + 1 := by omega
        have m4 : ¬ 9223372036854775807 < o0.size + 1 + p1.size + 1 + p2.size := by omega
        replace hos := Lib.hid hos
        by_cases ht : t0 = 2
        · subst ht
          have hE : Hid (nx = o0 ++ ⟨#[66]⟩ ++ p1 ++ ⟨#[46]⟩ ++ p2) := Lib.hid (by rw [hE0.out, hT.out, if_pos rfl]; apply ByteArray.ext; simp [bs])
          clear hE0 hT
          go_wp2_with fail
          clear c0
          refine wp_region_sink 18 (fun a0 fL bA v => ∃ v22 v23 v24 v25 v26 v27 v28 v29 v30 v31 v32 v33 v34 v35 v36 v37 v38 v39 : Value, bA = (((((((((((((((((a0.put (some 22) v22).put (some 23) v23).put (some 24) v24).put (some 25) v25).put (some 26) v26).put (some 27) v27).put (some 28) v28).put (some 29) v29).put (some 30) v30).put (some 31) v31).put (some 32) v32).put (some 33) v33).put (some 34) v34).put (some 35) v35).put (some 36) v36).put (some 37) v37).put (some 38) v38).put (some 39) v39 ∧ (Below wr.heap.size wr v) ∧ (fL 0 = true → v22 = .string o0) ∧ (fL 1 = true → v23 = .string ⟨#[66]⟩) ∧ (fL 2 = true → v24 = .string (o0 ++ ⟨#[66]⟩)) ∧ (fL 3 = true → v25 = .slice (some ⟨b, off, none⟩) l.length c) ∧ (fL 4 = true → v26 = .int .i64 k) ∧ (fL 5 = true → v27 = .pointer (some ⟨b, off + k * 3, none⟩)) ∧ (fL 6 = true → v28 = .pointer (some ⟨b, off + k * 3 + 1, none⟩)) ∧ (fL 7 = true → v29 = .int .i64 p0) ∧ (fL 8 = true → v30 = .string p1) ∧ (fL 9 = true → v31 = .string (o0 ++ ⟨#[66]⟩ ++ p1)) ∧ (fL 10 = true → v32 = .string (o0 ++ ⟨#[66]⟩ ++ p1 ++ ⟨#[46]⟩)) ∧ (fL 11 = true → v33 = .slice (some ⟨b, off, none⟩) l.length c) ∧ (fL 12 = true → v34 = .int .i64 k) ∧ (fL 13 = true → v35 = .pointer (some ⟨b, off + k * 3, none⟩)) ∧ (fL 14 = true → v36 = .pointer (some ⟨b, off + k * 3 + 2, none⟩)) ∧ (fL 15 = true → v37 = .int .i64 l0) ∧ (fL 16 = true → v38 = .string p2) ∧ (fL 17 = true → v39 = .string (o0 ++ ⟨#[66]⟩ ++ p1 ++ ⟨#[46]⟩ ++ p2))) (by kernel_rfl) (by decide +kernel) ?_ ?_ ?_
          · exact ⟨_, _, _, _, _, _, _, _, _, _, _, _, _, _, _, _, _, _, put_more (put_more (put_more (put_more (put_more (put_more (put_more (put_more (put_more (put_more (put_more (put_more (put_more (put_more (put_more (put_more (put_more (put_more (rfl) 22) 23) 24) 25) 26) 27) 28) 29) 30) 31) 32) 33) 34) 35) 36) 37) 38) 39, (Below.refl _ _).drew, nofun, nofun, nofun, nofun, nofun, nofun, nofun, nofun, nofun, nofun, nofun, nofun, nofun, nofun, nofun, nofun, nofun, nofun⟩
          · rintro fL bA v ⟨v22, v23, v24, v25, v26, v27, v28, v29, v30, v31, v32, v33, v34, v35, v36, v37, v38, v39, rfl, hS, q0, q1, q2, q3, q4, q5, q6, q7, q8, q9, q10, q11, q12, q13, q14, q15, q16, q17⟩ i hi hf o ho hall
            simp only [Act.put, List.setIfInBounds_toArray, List.set_cons_zero, List.set_cons_succ]
            have hn : i = 0 ∨ i = 1 ∨ i = 2 ∨ i = 3 ∨ i = 4 ∨ i = 5 ∨ i = 6 ∨ i = 7 ∨ i = 8 ∨ i = 9 ∨ i = 10 ∨ i = 11 ∨ i = 12 ∨ i = 13 ∨ i = 14 ∨ i = 15 ∨ i = 16 ∨ i = 17 := by omega
            clear hi
            rcases hn with rfl | rfl | rfl | rfl | rfl | rfl | rfl | rfl | rfl | rfl | rfl | rfl | rfl | rfl | rfl | rfl | rfl | rfl
            · obtain rfl := Option.some.inj ho
              clear hall ho
              refine wpOp_step rfl (fun K hK => ?_)
              go_simp
              exact hK _ _ ⟨_, _, _, _, _, _, _, _, _, _, _, _, _, _, _, _, _, _, rfl, hS, fun _ => rfl, q1, q2, q3, q4, q5, q6, q7, q8, q9, q10, q11, q12, q13, q14, q15, q16, q17⟩
            · obtain rfl := Option.some.inj ho
              clear hall ho
              refine wpOp_step rfl (fun K hK => ?_)
              go_simp
              exact hK _ _ ⟨_, _, _, _, _, _, _, _, _, _, _, _, _, _, _, _, _, _, rfl, hS, q0, fun _ => rfl, q2, q3, q4, q5, q6, q7, q8, q9, q10, q11, q12, q13, q14, q15, q16, q17⟩
            · obtain rfl := Option.some.inj ho
              obtain rfl := q0 (hall ⟨0, .data⟩ (by simp) rfl)
              obtain rfl := q1 (hall ⟨1, .data⟩ (by simp) rfl)
              clear hall ho
              refine wpOp_step rfl (fun K hK => ?_)
              go_simp
              exact hK _ _ ⟨_, _, _, _, _, _, _, _, _, _, _, _, _, _, _, _, _, _, rfl, hS, fun _ => rfl, fun _ => rfl, fun _ => rfl, q3, q4, q5, q6, q7, q8, q9, q10, q11, q12, q13, q14, q15, q16, q17⟩
            · obtain rfl := Option.some.inj ho
              clear hall ho
              refine wpOp_step rfl (fun K hK => ?_)
              go_simp
              exact hK _ _ ⟨_, _, _, _, _, _, _, _, _, _, _, _, _, _, _, _, _, _, rfl, hS, q0, q1, q2, fun _ => rfl, q4, q5, q6, q7, q8, q9, q10, q11, q12, q13, q14, q15, q16, q17⟩
            · obtain rfl := Option.some.inj ho
              clear hall ho
              refine wpOp_step rfl (fun K hK => ?_)
              go_simp
              exact hK _ _ ⟨_, _, _, _, _, _, _, _, _, _, _, _, _, _, _, _, _, _, rfl, hS, q0, q1, q2, q3, fun _ => rfl, q5, q6, q7, q8, q9, q10, q11, q12, q13, q14, q15, q16, q17⟩
            · obtain rfl := Option.some.inj ho
              obtain rfl := q3 (hall ⟨3, .data⟩ (by simp) rfl)
              obtain rfl := q4 (hall ⟨4, .data⟩ (by simp) rfl)
              clear hall ho
              refine wpOp_step rfl (fun K hK => ?_)
              go_simp
              exact hK _ _ ⟨_, _, _, _, _, _, _, _, _, _, _, _, _, _, _, _, _, _, rfl, hS, q0, q1, q2, fun _ => rfl, fun _ => rfl, fun _ => rfl, q6, q7, q8, q9, q10, q11, q12, q13, q14, q15, q16, q17⟩
            · obtain rfl := Option.some.inj ho
              obtain rfl := q5 (hall ⟨5, .data⟩ (by simp) rfl)
              clear hall ho
              refine wpOp_step rfl (fun K hK => ?_)
              go_simp
              exact hK _ _ ⟨_, _, _, _, _, _, _, _, _, _, _, _, _, _, _, _, _, _, rfl, hS, q0, q1, q2, q3, q4, fun _ => rfl, fun _ => rfl, q7, q8, q9, q10, q11, q12, q13, q14, q15, q16, q17⟩
            · obtain rfl := Option.some.inj ho
              obtain rfl := q6 (hall ⟨6, .data⟩ (by simp) rfl)
              have y := c1.out v (hb.trans (hS.mono hb.size))
              clear hall ho
              refine wpOp_step rfl (fun K hK => ?_)
              go_simp
              exact hK _ _ ⟨_, _, _, _, _, _, _, _, _, _, _, _, _, _, _, _, _, _, rfl, hS, q0, q1, q2, q3, q4, q5, fun _ => rfl, fun _ => rfl, q8, q9, q10, q11, q12, q13, q14, q15, q16, q17⟩
            · obtain rfl := Option.some.inj ho
              obtain rfl := q7 (hall ⟨7, .data⟩ (by simp) rfl)
              clear hall ho
              refine wpOp_step rfl (fun K hK => ?_)
              go_simp
              refine Calls.mono (HP.out v) ?_; rintro e w1 ⟨rfl, hb1⟩
              go_simp
              exact hK _ _ ⟨_, _, _, _, _, _, _, _, _, _, _, _, _, _, _, _, _, _, rfl, hS.trans (hb1.mono hS.size), q0, q1, q2, q3, q4, q5, q6, fun _ => rfl, fun _ => rfl, q9, q10, q11, q12, q13, q14, q15, q16, q17⟩
            · obtain rfl := Option.some.inj ho
              obtain rfl := q2 (hall ⟨2, .data⟩ (by simp) rfl)
              obtain rfl := q8 (hall ⟨8, .data⟩ (by simp) rfl)
              clear hall ho
              refine wpOp_step rfl (fun K hK => ?_)
              go_simp
              exact hK _ _ ⟨_, _, _, _, _, _, _, _, _, _, _, _, _, _, _, _, _, _, rfl, hS, q0, q1, fun _ => rfl, q3, q4, q5, q6, q7, fun _ => rfl, fun _ => rfl, q10, q11, q12, q13, q14, q15, q16, q17⟩
            · obtain rfl := Option.some.inj ho
              obtain rfl := q9 (hall ⟨9, .data⟩ (by simp) rfl)
              clear hall ho
              refine wpOp_step rfl (fun K hK => ?_)
              go_simp
              exact hK _ _ ⟨_, _, _, _, _, _, _, _, _, _, _, _, _, _, _, _, _, _, rfl, hS, q0, q1, q2, q3, q4, q5, q6, q7, q8, fun _ => rfl, fun _ => rfl, q11, q12, q13, q14, q15, q16, q17⟩
            · obtain rfl := Option.some.inj ho
              clear hall ho
              refine wpOp_step rfl (fun K hK => ?_)
              go_simp
              exact hK _ _ ⟨_, _, _, _, _, _, _, _, _, _, _, _, _, _, _, _, _, _, rfl, hS, q0, q1, q2, q3, q4, q5, q6, q7, q8, q9, q10, fun _ => rfl, q12, q13, q14, q15, q16, q17⟩
            · obtain rfl := Option.some.inj ho
              clear hall ho
              refine wpOp_step rfl (fun K hK => ?_)
              go_simp
              exact hK _ _ ⟨_, _, _, _, _, _, _, _, _, _, _, _, _, _, _, _, _, _, rfl, hS, q0, q1, q2, q3, q4, q5, q6, q7, q8, q9, q10, q11, fun _ => rfl, q13, q14, q15, q16, q17⟩
            · obtain rfl := Option.some.inj ho
              obtain rfl := q11 (hall ⟨11, .data⟩ (by simp) rfl)
              obtain rfl := q12 (hall ⟨12, .data⟩ (by simp) rfl)
              clear hall ho
              refine wpOp_step rfl (fun K hK => ?_)
              go_simp
              exact hK _ _ ⟨_, _, _, _, _, _, _, _, _, _, _, _, _, _, _, _, _, _, rfl, hS, q0, q1, q2, q3, q4, q5, q6, q7, q8, q9, q10, fun _ => rfl, fun _ => rfl, fun _ => rfl, q14, q15, q16, q17⟩
            · obtain rfl := Option.some.inj ho
              obtain rfl := q13 (hall ⟨13, .data⟩ (by simp) rfl)
              clear hall ho
              refine wpOp_step rfl (fun K hK => ?_)
              go_simp
              exact hK _ _ ⟨_, _, _, _, _, _, _, _, _, _, _, _, _, _, _, _, _, _, rfl, hS, q0, q1, q2, q3, q4, q5, q6, q7, q8, q9, q10, q11, q12, fun _ => rfl, fun _ => rfl, q15, q16, q17⟩
            · obtain rfl := Option.some.inj ho
              obtain rfl := q14 (hall ⟨14, .data⟩ (by simp) rfl)
              have y := c2.out v (hb.trans (hS.mono hb.size))
              clear hall ho
              refine wpOp_step rfl (fun K hK => ?_)
              go_simp
              exact hK _ _ ⟨_, _, _, _, _, _, _, _, _, _, _, _, _, _, _, _, _, _, rfl, hS, q0, q1, q2, q3, q4, q5, q6, q7, q8, q9, q10, q11, q12, q13, fun _ => rfl, fun _ => rfl, q16, q17⟩
            · obtain rfl := Option.some.inj ho
              obtain rfl := q15 (hall ⟨15, .data⟩ (by simp) rfl)
              clear hall ho
              refine wpOp_step rfl (fun K hK => ?_)
              go_simp
              refine Calls.mono (HL.out v) ?_; rintro e w1 ⟨rfl, hb1⟩
              go_simp
              exact hK _ _ ⟨_, _, _, _, _, _, _, _, _, _, _, _, _, _, _, _, _, _, rfl, hS.trans (hb1.mono hS.size), q0, q1, q2, q3, q4, q5, q6, q7, q8, q9, q10, q11, q12, q13, q14, fun _ => rfl, fun _ => rfl, q17⟩
            · obtain rfl := Option.some.inj ho
              obtain rfl := q10 (hall ⟨10, .data⟩ (by simp) rfl)
              obtain rfl := q16 (hall ⟨16, .data⟩ (by simp) rfl)
              clear hall ho
              refine wpOp_step rfl (fun K hK => ?_)
              go_simp
              exact hK _ _ ⟨_, _, _, _, _, _, _, _, _, _, _, _, _, _, _, _, _, _, rfl, hS, q0, q1, q2, q3, q4, q5, q6, q7, q8, q9, fun _ => rfl, q11, q12, q13, q14, q15, fun _ => rfl, fun _ => rfl⟩
          · rintro fL bA v ⟨v22, v23, v24, v25, v26, v27, v28, v29, v30, v31, v32, v33, v34, v35, v36, v37, v38, v39, rfl, hS, q0, q1, q2, q3, q4, q5, q6, q7, q8, q9, q10, q11, q12, q13, q14, q15, q16, q17⟩ hall
            simp only [Act.put, List.setIfInBounds_toArray, List.set_cons_zero, List.set_cons_succ]
            obtain rfl := q0 (hall 0 (by omega))
            obtain rfl := q1 (hall 1 (by omega))
            obtain rfl := q2 (hall 2 (by omega))
            obtain rfl := q3 (hall 3 (by omega))
            obtain rfl := q4 (hall 4 (by omega))
            obtain rfl := q5 (hall 5 (by omega))
            obtain rfl := q6 (hall 6 (by omega))
            obtain rfl := q7 (hall 7 (by omega))
            obtain rfl := q8 (hall 8 (by omega))
            obtain rfl := q9 (hall 9 (by omega))
            obtain rfl := q10 (hall 10 (by omega))
            obtain rfl := q11 (hall 11 (by omega))
            obtain rfl := q12 (hall 12 (by omega))
            obtain rfl := q13 (hall 13 (by omega))
            obtain rfl := q14 (hall 14 (by omega))
            obtain rfl := q15 (hall 15 (by omega))
            obtain rfl := q16 (hall 16 (by omega))
            obtain rfl := q17 (hall 17 (by omega))
            clear hall
            simp only [List.drop_succ_cons, List.drop_zero]
            have hbv := hb.trans (hS.mono hb.size)
            clear hS c1 c2 HP HL
            go_wp2_with fail
            go_roundw
            case rel => exact ⟨k + 1, by omega, by go_num, by rw [hPn.out, hE.out], hbv⟩
            case measure => simp [intOf]; omega
        · have hE : Hid (nx = o0 ++ ⟨#[70]⟩ ++ p1 ++ ⟨#[46]⟩ ++ p2) := Lib.hid (by rw [hE0.out, hT.out, if_neg ht]; apply ByteArray.ext; simp [bs])
          have hne : (t0 == 2) = false := by simpa using ht
          clear hE0 hT
          go_wp2_with fail
          clear c0
          refine wp_region_sink 18 (fun a0 fL bA v => ∃ v22 v23 v24 v25 v26 v27 v28 v29 v30 v31 v32 v33 v34 v35 v36 v37 v38 v39 : Value, bA = (((((((((((((((((a0.put (some 22) v22).put (some 23) v23).put (some 24) v24).put (some 25) v25).put (some 26) v26).put (some 27) v27).put (some 28) v28).put (some 29) v29).put (some 30) v30).put (some 31) v31).put (some 32) v32).put (some 33) v33).put (some 34) v34).put (some 35) v35).put (some 36) v36).put (some 37) v37).put (some 38) v38).put (some 39) v39 ∧ (Below wr.heap.size wr v) ∧ (fL 0 = true → v22 = .string o0) ∧ (fL 1 = true → v23 = .string ⟨#[70]⟩) ∧ (fL 2 = true → v24 = .string (o0 ++ ⟨#[70]⟩)) ∧ (fL 3 = true → v25 = .slice (some ⟨b, off, none⟩) l.length c) ∧ (fL 4 = true → v26 = .int .i64 k) ∧ (fL 5 = true → v27 = .pointer (some ⟨b, off + k * 3, none⟩)) ∧ (fL 6 = true → v28 = .pointer (some ⟨b, off + k * 3 + 1, none⟩)) ∧ (fL 7 = true → v29 = .int .i64 p0) ∧ (fL 8 = true → v30 = .string p1) ∧ (fL 9 = true → v31 = .string (o0 ++ ⟨#[70]⟩ ++ p1)) ∧ (fL 10 = true → v32 = .string (o0 ++ ⟨#[70]⟩ ++ p1 ++ ⟨#[46]⟩)) ∧ (fL 11 = true → v33 = .slice (some ⟨b, off, none⟩) l.length c) ∧ (fL 12 = true → v34 = .int .i64 k) ∧ (fL 13 = true → v35 = .pointer (some ⟨b, off + k * 3, none⟩)) ∧ (fL 14 = true → v36 = .pointer (some ⟨b, off + k * 3 + 2, none⟩)) ∧ (fL 15 = true → v37 = .int .i64 l0) ∧ (fL 16 = true → v38 = .string p2) ∧ (fL 17 = true → v39 = .string (o0 ++ ⟨#[70]⟩ ++ p1 ++ ⟨#[46]⟩ ++ p2))) (by kernel_rfl) (by decide +kernel) ?_ ?_ ?_
          · exact ⟨_, _, _, _, _, _, _, _, _, _, _, _, _, _, _, _, _, _, put_more (put_more (put_more (put_more (put_more (put_more (put_more (put_more (put_more (put_more (put_more (put_more (put_more (put_more (put_more (put_more (put_more (put_more (rfl) 22) 23) 24) 25) 26) 27) 28) 29) 30) 31) 32) 33) 34) 35) 36) 37) 38) 39, (Below.refl _ _).drew, nofun, nofun, nofun, nofun, nofun, nofun, nofun, nofun, nofun, nofun, nofun, nofun, nofun, nofun, nofun, nofun, nofun, nofun⟩
          · rintro fL bA v ⟨v22, v23, v24, v25, v26, v27, v28, v29, v30, v31, v32, v33, v34, v35, v36, v37, v38, v39, rfl, hS, q0, q1, q2, q3, q4, q5, q6, q7, q8, q9, q10, q11, q12, q13, q14, q15, q16, q17⟩ i hi hf o ho hall
            simp only [Act.put, List.setIfInBounds_toArray, List.set_cons_zero, List.set_cons_succ]
            have hn : i = 0 ∨ i = 1 ∨ i = 2 ∨ i = 3 ∨ i = 4 ∨ i = 5 ∨ i = 6 ∨ i = 7 ∨ i = 8 ∨ i = 9 ∨ i = 10 ∨ i = 11 ∨ i = 12 ∨ i = 13 ∨ i = 14 ∨ i = 15 ∨ i = 16 ∨ i = 17 := by omega
            clear hi
            rcases hn with rfl | rfl | rfl | rfl | rfl | rfl | rfl | rfl | rfl | rfl | rfl | rfl | rfl | rfl | rfl | rfl | rfl | rfl
            · obtain rfl := Option.some.inj ho
              clear hall ho
              refine wpOp_step rfl (fun K hK => ?_)
              go_simp
              exact hK _ _ ⟨_, _, _, _, _, _, _, _, _, _, _, _, _, _, _, _, _, _, rfl, hS, fun _ => rfl, q1, q2, q3, q4, q5, q6, q7, q8, q9, q10, q11, q12, q13, q14, q15, q16, q17⟩
            · obtain rfl := Option.some.inj ho
              clear hall ho
              refine wpOp_step rfl (fun K hK => ?_)
              go_simp
              exact hK _ _ ⟨_, _, _, _, _, _, _, _, _, _, _, _, _, _, _, _, _, _, rfl, hS, q0, fun _ => rfl, q2, q3, q4, q5, q6, q7, q8, q9, q10, q11, q12, q13, q14, q15, q16, q17⟩
            · obtain rfl := Option.some.inj ho
              obtain rfl := q0 (hall ⟨0, .data⟩ (by simp) rfl)
              obtain rfl := q1 (hall ⟨1, .data⟩ (by simp) rfl)
              clear hall ho
              refine wpOp_step rfl (fun K hK => ?_)
              go_simp
              exact hK _ _ ⟨_, _, _, _, _, _, _, _, _, _, _, _, _, _, _, _, _, _, rfl, hS, fun _ => rfl, fun _ => rfl, fun _ => rfl, q3, q4, q5, q6, q7, q8, q9, q10, q11, q12, q13, q14, q15, q16, q17⟩
            · obtain rfl := Option.some.inj ho
              clear hall ho
              refine wpOp_step rfl (fun K hK => ?_)
              go_simp
              exact hK _ _ ⟨_, _, _, _, _, _, _, _, _, _, _, _, _, _, _, _, _, _, rfl, hS, q0, q1, q2, fun _ => rfl, q4, q5, q6, q7, q8, q9, q10, q11, q12, q13, q14, q15, q16, q17⟩
            · obtain rfl := Option.some.inj ho
              clear hall ho
              refine wpOp_step rfl (fun K hK => ?_)
              go_simp
              exact hK _ _ ⟨_, _, _, _, _, _, _, _, _, _, _, _, _, _, _, _, _, _, rfl, hS, q0, q1, q2, q3, fun _ => rfl, q5, q6, q7, q8, q9, q10, q11, q12, q13, q14, q15, q16, q17⟩
            · obtain rfl := Option.some.inj ho
              obtain rfl := q3 (hall ⟨3, .data⟩ (by simp) rfl)
              obtain rfl := q4 (hall ⟨4, .data⟩ (by simp) rfl)
              clear hall ho
              refine wpOp_step rfl (fun K hK => ?_)
              go_simp
              exact hK _ _ ⟨_, _, _, _, _, _, _, _, _, _, _, _, _, _, _, _, _, _, rfl, hS, q0, q1, q2, fun _ => rfl, fun _ => rfl, fun _ => rfl, q6, q7, q8, q9, q10, q11, q12, q13, q14, q15, q16, q17⟩
            · obtain rfl := Option.some.inj ho
              obtain rfl := q5 (hall ⟨5, .data⟩ (by simp) rfl)
              clear hall ho
              refine wpOp_step rfl (fun K hK => ?_)
              go_simp
              exact hK _ _ ⟨_, _, _, _, _, _, _, _, _, _, _, _, _, _, _, _, _, _, rfl, hS, q0, q1, q2, q3, q4, fun _ => rfl, fun _ => rfl, q7, q8, q9, q10, q11, q12, q13, q14, q15, q16, q17⟩
            · obtain rfl := Option.some.inj ho
              obtain rfl := q6 (hall ⟨6, .data⟩ (by simp) rfl)
              have y := c1.out v (hb.trans (hS.mono hb.size))
              clear hall ho
              refine wpOp_step rfl (fun K hK => ?_)
              go_simp
              exact hK _ _ ⟨_, _, _, _, _, _, _, _, _, _, _, _, _, _, _, _, _, _, rfl, hS, q0, q1, q2, q3, q4, q5, fun _ => rfl, fun _ => rfl, q8, q9, q10, q11, q12, q13, q14, q15, q16, q17⟩
            · obtain rfl := Option.some.inj ho
              obtain rfl := q7 (hall ⟨7, .data⟩ (by simp) rfl)
              clear hall ho
              refine wpOp_step rfl (fun K hK => ?_)
              go_simp
              refine Calls.mono (HP.out v) ?_; rintro e w1 ⟨rfl, hb1⟩
              go_simp
              exact hK _ _ ⟨_, _, _, _, _, _, _, _, _, _, _, _, _, _, _, _, _, _, rfl, hS.trans (hb1.mono hS.size), q0, q1, q2, q3, q4, q5, q6, fun _ => rfl, fun _ => rfl, q9, q10, q11, q12, q13, q14, q15, q16, q17⟩
            · obtain rfl := Option.some.inj ho
              obtain rfl := q2 (hall ⟨2, .data⟩ (by simp) rfl)
              obtain rfl := q8 (hall ⟨8, .data⟩ (by simp) rfl)
              clear hall ho
              refine wpOp_step rfl (fun K hK => ?_)
              go_simp
              exact hK _ _ ⟨_, _, _, _, _, _, _, _, _, _, _, _, _, _, _, _, _, _, rfl, hS, q0, q1, fun _ => rfl, q3, q4, q5, q6, q7, fun _ => rfl, fun _ => rfl, q10, q11, q12, q13, q14, q15, q16, q17⟩
            · obtain rfl := Option.some.inj ho
              obtain rfl := q9 (hall ⟨9, .data⟩ (by simp) rfl)
              clear hall ho
              refine wpOp_step rfl (fun K hK => ?_)
              go_simp
              exact hK _ _ ⟨_, _, _, _, _, _, _, _, _, _, _, _, _, _, _, _, _, _, rfl, hS, q0, q1, q2, q3, q4, q5, q6, q7, q8, fun _ => rfl, fun _ => rfl, q11, q12, q13, q14, q15, q16, q17⟩
            · obtain rfl := Option.some.inj ho
              clear hall ho
              refine wpOp_step rfl (fun K hK => ?_)
              go_simp
              exact hK _ _ ⟨_, _, _, _, _, _, _, _, _, _, _, _, _, _, _, _, _, _, rfl, hS, q0, q1, q2, q3, q4, q5, q6, q7, q8, q9, q10, fun _ => rfl, q12, q13, q14, q15, q16, q17⟩
            · obtain rfl := Option.some.inj ho
              clear hall ho
              refine wpOp_step rfl (fun K hK => ?_)
              go_simp
              exact hK _ _ ⟨_, _, _, _, _, _, _, _, _, _, _, _, _, _, _, _, _, _, rfl, hS, q0, q1, q2, q3, q4, q5, q6, q7, q8, q9, q10, q11, fun _ => rfl, q13, q14, q15, q16, q17⟩
            · obtain rfl := Option.some.inj ho
              obtain rfl := q11 (hall ⟨11, .data⟩ (by simp) rfl)
              obtain rfl := q12 (hall ⟨12, .data⟩ (by simp) rfl)
              clear hall ho
              refine wpOp_step rfl (fun K hK => ?_)
              go_simp
              exact hK _ _ ⟨_, _, _, _, _, _, _, _, _, _, _, _, _, _, _, _, _, _, rfl, hS, q0, q1, q2, q3, q4, q5, q6, q7, q8, q9, q10, fun _ => rfl, fun _ => rfl, fun _ => rfl, q14, q15, q16, q17⟩
            · obtain rfl := Option.some.inj ho
              obtain rfl := q13 (hall ⟨13, .data⟩ (by simp) rfl)
              clear hall ho
              refine wpOp_step rfl (fun K hK => ?_)
              go_simp
              exact hK _ _ ⟨_, _, _, _, _, _, _, _, _, _, _, _, _, _, _, _, _, _, rfl, hS, q0, q1, q2, q3, q4, q5, q6, q7, q8, q9, q10, q11, q12, fun _ => rfl, fun _ => rfl, q15, q16, q17⟩
            · obtain rfl := Option.some.inj ho
              obtain rfl := q14 (hall ⟨14, .data⟩ (by simp) rfl)
              have y := c2.out v (hb.trans (hS.mono hb.size))
              clear hall ho
              refine wpOp_step rfl (fun K hK => ?_)
              go_simp
              exact hK _ _ ⟨_, _, _, _, _, _, _, _, _, _, _, _, _, _, _, _, _, _, rfl, hS, q0, q1, q2, q3, q4, q5, q6, q7, q8, q9, q10, q11, q12, q13, fun _ => rfl, fun _ => rfl, q16, q17⟩
            · obtain rfl := Option.some.inj ho
              obtain rfl := q15 (hall ⟨15, .data⟩ (by simp) rfl)
              clear hall ho
              refine wpOp_step rfl (fun K hK => ?_)
              go_simp
              refine Calls.mono (HL.out v) ?_; rintro e w1 ⟨rfl, hb1⟩
              go_simp
              exact hK _ _ ⟨_, _, _, _, _, _, _, _, _, _, _, _, _, _, _, _, _, _, rfl, hS.trans (hb1.mono hS.size), q0, q1, q2, q3, q4, q5, q6, q7, q8, q9, q10, q11, q12, q13, q14, fun _ => rfl, fun _ => rfl, q17⟩
            · obtain rfl := Option.some.inj ho
              obtain rfl := q10 (hall ⟨10, .data⟩ (by simp) rfl)
              obtain rfl := q16 (hall ⟨16, .data⟩ (by simp) rfl)
              clear hall ho
              refine wpOp_step rfl (fun K hK => ?_)
              go_simp
              exact hK _ _ ⟨_, _, _, _, _, _, _, _, _, _, _, _, _, _, _, _, _, _, rfl, hS, q0, q1, q2, q3, q4, q5, q6, q7, q8, q9, fun _ => rfl, q11, q12, q13, q14, q15, fun _ => rfl, fun _ => rfl⟩
          · rintro fL bA v ⟨v22, v23, v24, v25, v26, v27, v28, v29, v30, v31, v32, v33, v34, v35, v36, v37, v38, v39, rfl, hS, q0, q1, q2, q3, q4, q5, q6, q7, q8, q9, q10, q11, q12, q13, q14, q15, q16, q17⟩ hall
            simp only [Act.put, List.setIfInBounds_toArray, List.set_cons_zero, List.set_cons_succ]
            obtain rfl := q0 (hall 0 (by omega))
            obtain rfl := q1 (hall 1 (by omega))
            obtain rfl := q2 (hall 2 (by omega))
            obtain rfl := q3 (hall 3 (by omega))
            obtain rfl := q4 (hall 4 (by omega))
            obtain rfl := q5 (hall 5 (by omega))
            obtain rfl := q6 (hall 6 (by omega))
            obtain rfl := q7 (hall 7 (by omega))
            obtain rfl := q8 (hall 8 (by omega))
            obtain rfl := q9 (hall 9 (by omega))
            obtain rfl := q10 (hall 10 (by omega))
            obtain rfl := q11 (hall 11 (by omega))
            obtain rfl := q12 (hall 12 (by omega))
            obtain rfl := q13 (hall 13 (by omega))
            obtain rfl := q14 (hall 14 (by omega))
            obtain rfl := q15 (hall 15 (by omega))
            obtain rfl := q16 (hall 16 (by omega))
            obtain rfl := q17 (hall 17 (by omega))
            clear hall
            simp only [List.drop_succ_cons, List.drop_zero]
            have hbv := hb.trans (hS.mono hb.size)
            clear hS c1 c2 HP HL
            go_wp2_with fail
            go_roundw
            case rel => exact ⟨k + 1, by omega, by go_num, by rw [hPn.out, hE.out], hbv⟩
            case measure => simp [intOf]; omega
      · have hE0 : Hid (nx = o0 ++ ⟨#[32]⟩ ++ res) := Lib.hid (by rw [hk2.out, if_neg hk00]; rfl)
        have hos : (o0 ++ ⟨#[32]⟩).size ≤ 2551 := by rw [ByteArray.size_append]; have : (⟨#[32]⟩ : ByteArray).size = 1 := rfl; omega
        have hg : 0 < (k : Int) := by omega
        have hd1 : decide (0 < k) = true := decide_eq_true (by omega)
        have m0 : ¬ 9223372036854775807 < o0.size + 1 := by omega
        have hmm : Hid (∀ o1, o1 = o0 ++ ⟨#[32]⟩ → (¬ 9223372036854775807 < o1.size + 1) ∧ (¬ 9223372036854775807 < o1.size + 1 + p1.size) ∧ (¬ 9223372036854775807 < o1.size + 1 + p1.size + 1) ∧ (¬ 9223372036854775807 < o1.size + 1 + p1.size + 1 + p2.size)) := Lib.hid (fun o1 e => by rw [← e] at hos; refine ⟨?_, ?_, ?_, ?_⟩ <;> omega)
        clear hk2 hpk hos hsz
        replace hk00 := Lib.hid hk00
        by_cases ht : t0 = 2
        · subst ht
          have hE : Hid (∀ o1, o0 ++ ⟨#[32]⟩ = o1 → nx = o1 ++ ⟨#[66]⟩ ++ p1 ++ ⟨#[46]⟩ ++ p2) := Lib.hid (fun o1 e => by rw [hE0.out, hT.out, if_pos rfl, e]; apply ByteArray.ext; simp [bs])
          clear hE0 hT
          go_wp2_with fail
          generalize hO1 : o0 ++ ⟨#[32]⟩ = o1 at *
          obtain ⟨m1, m2, m3, m4⟩ := hmm.out o1 (by first | rfl | exact hO1.symm)
          replace hE := Lib.hid (hE.out o1 (by first | rfl | exact hO1))
          clear hO1 hmm m0
          clear c0
          refine wp_region_sink 18 (fun a0 fL bA v => ∃ v22 v23 v24 v25 v26 v27 v28 v29 v30 v31 v32 v33 v34 v35 v36 v37 v38 v39 : Value, bA = (((((((((((((((((a0.put (some 22) v22).put (some 23) v23).put (some 24) v24).put (some 25) v25).put (some 26) v26).put (some 27) v27).put (some 28) v28).put (some 29) v29).put (some 30) v30).put (some 31) v31).put (some 32) v32).put (some 33) v33).put (some 34) v34).put (some 35) v35).put (some 36) v36).put (some 37) v37).put (some 38) v38).put (some 39) v39 ∧ (Below wr.heap.size wr v) ∧ (fL 0 = true → v22 = .string o1) ∧ (fL 1 = true → v23 = .string ⟨#[66]⟩) ∧ (fL 2 = true → v24 = .string (o1 ++ ⟨#[66]⟩)) ∧ (fL 3 = true → v25 = .slice (some ⟨b, off, none⟩) l.length c) ∧ (fL 4 = true → v26 = .int .i64 k) ∧ (fL 5 = true → v27 = .pointer (some ⟨b, off + k * 3, none⟩)) ∧ (fL 6 = true → v28 = .pointer (some ⟨b, off + k * 3 + 1, none⟩)) ∧ (fL 7 = true → v29 = .int .i64 p0) ∧ (fL 8 = true → v30 = .string p1) ∧ (fL 9 = true → v31 = .string (o1 ++ ⟨#[66]⟩ ++ p1)) ∧ (fL 10 = true → v32 = .string (o1 ++ ⟨#[66]⟩ ++ p1 ++ ⟨#[46]⟩)) ∧ (fL 11 = true → v33 = .slice (some ⟨b, off, none⟩) l.length c) ∧ (fL 12 = true → v34 = .int .i64 k) ∧ (fL 13 = true → v35 = .pointer (some ⟨b, off + k * 3, none⟩)) ∧ (fL 14 = true → v36 = .pointer (some ⟨b, off + k * 3 + 2, none⟩)) ∧ (fL 15 = true → v37 = .int .i64 l0) ∧ (fL 16 = true → v38 = .string p2) ∧ (fL 17 = true → v39 = .string (o1 ++ ⟨#[66]⟩ ++ p1 ++ ⟨#[46]⟩ ++ p2))) (by kernel_rfl) (by decide +kernel) ?_ ?_ ?_
          · exact ⟨_, _, _, _, _, _, _, _, _, _, _, _, _, _, _, _, _, _, put_more (put_more (put_more (put_more (put_more (put_more (put_more (put_more (put_more (put_more (put_more (put_more (put_more (put_more (put_more (put_more (put_more (put_more (rfl) 22) 23) 24) 25) 26) 27) 28) 29) 30) 31) 32) 33) 34) 35) 36) 37) 38) 39, (Below.refl _ _).drew, nofun, nofun, nofun, nofun, nofun, nofun, nofun, nofun, nofun, nofun, nofun, nofun, nofun, nofun, nofun, nofun, nofun, nofun⟩
          · rintro fL bA v ⟨v22, v23, v24, v25, v26, v27, v28, v29, v30, v31, v32, v33, v34, v35, v36, v37, v38, v39, rfl, hS, q0, q1, q2, q3, q4, q5, q6, q7, q8, q9, q10, q11, q12, q13, q14, q15, q16, q17⟩ i hi hf o ho hall
            simp only [Act.put, List.setIfInBounds_toArray, List.set_cons_zero, List.set_cons_succ]
            have hn : i = 0 ∨ i = 1 ∨ i = 2 ∨ i = 3 ∨ i = 4 ∨ i = 5 ∨ i = 6 ∨ i = 7 ∨ i = 8 ∨ i = 9 ∨ i = 10 ∨ i = 11 ∨ i = 12 ∨ i = 13 ∨ i = 14 ∨ i = 15 ∨ i = 16 ∨ i = 17 := by omega
            clear hi
            rcases hn with rfl | rfl | rfl | rfl | rfl | rfl | rfl | rfl | rfl | rfl | rfl | rfl | rfl | rfl | rfl | rfl | rfl | rfl
            · obtain rfl := Option.some.inj ho
              clear hall ho
              refine wpOp_step rfl (fun K hK => ?_)
              go_simp
              exact hK _ _ ⟨_, _, _, _, _, _, _, _, _, _, _, _, _, _, _, _, _, _, rfl, hS, fun _ => rfl, q1, q2, q3, q4, q5, q6, q7, q8, q9, q10, q11, q12, q13, q14, q15, q16, q17⟩
            · obtain rfl := Option.some.inj ho
              clear hall ho
              refine wpOp_step rfl (fun K hK => ?_)
              go_simp
              exact hK _ _ ⟨_, _, _, _, _, _, _, _, _, _, _, _, _, _, _, _, _, _, rfl, hS, q0, fun _ => rfl, q2, q3, q4, q5, q6, q7, q8, q9, q10, q11, q12, q13, q14, q15, q16, q17⟩
            · obtain rfl := Option.some.inj ho
              obtain rfl := q0 (hall ⟨0, .data⟩ (by simp) rfl)
              obtain rfl := q1 (hall ⟨1, .data⟩ (by simp) rfl)
              clear hall ho
              refine wpOp_step rfl (fun K hK => ?_)
              go_simp
              exact hK _ _ ⟨_, _, _, _, _, _, _, _, _, _, _, _, _, _, _, _, _, _, rfl, hS, fun _ => rfl, fun _ => rfl, fun _ => rfl, q3, q4, q5, q6, q7, q8, q9, q10, q11, q12, q13, q14, q15, q16, q17⟩
            · obtain rfl := Option.some.inj ho
              clear hall ho
              refine wpOp_step rfl (fun K hK => ?_)
              go_simp
              exact hK _ _ ⟨_, _, _, _, _, _, _, _, _, _, _, _, _, _, _, _, _, _, rfl, hS, q0, q1, q2, fun _ => rfl, q4, q5, q6, q7, q8, q9, q10, q11, q12, q13, q14, q15, q16, q17⟩
            · obtain rfl := Option.some.inj ho
              clear hall ho
              refine wpOp_step rfl (fun K hK => ?_)
              go_simp
              exact hK _ _ ⟨_, _, _, _, _, _, _, _, _, _, _, _, _, _, _, _, _, _, rfl, hS, q0, q1, q2, q3, fun _ => rfl, q5, q6, q7, q8, q9, q10, q11, q12, q13, q14, q15, q16, q17⟩
            · obtain rfl := Option.some.inj ho
              obtain rfl := q3 (hall ⟨3, .data⟩ (by simp) rfl)
              obtain rfl := q4 (hall ⟨4, .data⟩ (by simp) rfl)
              clear hall ho
              refine wpOp_step rfl (fun K hK => ?_)
              go_simp
              exact hK _ _ ⟨_, _, _, _, _, _, _, _, _, _, _, _, _, _, _, _, _, _, rfl, hS, q0, q1, q2, fun _ => rfl, fun _ => rfl, fun _ => rfl, q6, q7, q8, q9, q10, q11, q12, q13, q14, q15, q16, q17⟩
            · obtain rfl := Option.some.inj ho
              obtain rfl := q5 (hall ⟨5, .data⟩ (by simp) rfl)
              clear hall ho
              refine wpOp_step rfl (fun K hK => ?_)
              go_simp
              exact hK _ _ ⟨_, _, _, _, _, _, _, _, _, _, _, _, _, _, _, _, _, _, rfl, hS, q0, q1, q2, q3, q4, fun _ => rfl, fun _ => rfl, q7, q8, q9, q10, q11, q12, q13, q14, q15, q16, q17⟩
            · obtain rfl := Option.some.inj ho
              obtain rfl := q6 (hall ⟨6, .data⟩ (by simp) rfl)
              have y := c1.out v (hb.trans (hS.mono hb.size))
              clear hall ho
              refine wpOp_step rfl (fun K hK => ?_)
              go_simp
              exact hK _ _ ⟨_, _, _, _, _, _, _, _, _, _, _, _, _, _, _, _, _, _, rfl, hS, q0, q1, q2, q3, q4, q5, fun _ => rfl, fun _ => rfl, q8, q9, q10, q11, q12, q13, q14, q15, q16, q17⟩
            · obtain rfl := Option.some.inj ho
              obtain rfl := q7 (hall ⟨7, .data⟩ (by simp) rfl)
              clear hall ho
              refine wpOp_step rfl (fun K hK => ?_)
              go_simp
              refine Calls.mono (HP.out v) ?_; rintro e w1 ⟨rfl, hb1⟩
              go_simp
              exact hK _ _ ⟨_, _, _, _, _, _, _, _, _, _, _, _, _, _, _, _, _, _, rfl, hS.trans (hb1.mono hS.size), q0, q1, q2, q3, q4, q5, q6, fun _ => rfl, fun _ => rfl, q9, q10, q11, q12, q13, q14, q15, q16, q17⟩
            · obtain rfl := Option.some.inj ho
              obtain rfl := q2 (hall ⟨2, .data⟩ (by simp) rfl)
              obtain rfl := q8 (hall ⟨8, .data⟩ (by simp) rfl)
              clear hall ho
              refine wpOp_step rfl (fun K hK => ?_)
              go_simp
              exact hK _ _ ⟨_, _, _, _, _, _, _, _, _, _, _, _, _, _, _, _, _, _, rfl, hS, q0, q1, fun _ => rfl, q3, q4, q5, q6, q7, fun _ => rfl, fun _ => rfl, q10, q11, q12, q13, q14, q15, q16, q17⟩
            · obtain rfl := Option.some.inj ho
              obtain rfl := q9 (hall ⟨9, .data⟩ (by simp) rfl)
              clear hall ho
              refine wpOp_step rfl (fun K hK => ?_)
              go_simp
              exact hK _ _ ⟨_, _, _, _, _, _, _, _, _, _, _, _, _, _, _, _, _, _, rfl, hS, q0, q1, q2, q3, q4, q5, q6, q7, q8, fun _ => rfl, fun _ => rfl, q11, q12, q13, q14, q15, q16, q17⟩
            · obtain rfl := Option.some.inj ho
              clear hall ho
              refine wpOp_step rfl (fun K hK => ?_)
              go_simp
              exact hK _ _ ⟨_, _, _, _, _, _, _, _, _, _, _, _, _, _, _, _, _, _, rfl, hS, q0, q1, q2, q3, q4, q5, q6, q7, q8, q9, q10, fun _ => rfl, q12, q13, q14, q15, q16, q17⟩
            · obtain rfl := Option.some.inj ho
              clear hall ho
              refine wpOp_step rfl (fun K hK => ?_)
              go_simp
              exact hK _ _ ⟨_, _, _, _, _, _, _, _, _, _, _, _, _, _, _, _, _, _, rfl, hS, q0, q1, q2, q3, q4, q5, q6, q7, q8, q9, q10, q11, fun _ => rfl, q13, q14, q15, q16, q17⟩
            · obtain rfl := Option.some.inj ho
              obtain rfl := q11 (hall ⟨11, .data⟩ (by simp) rfl)
              obtain rfl := q12 (hall ⟨12, .data⟩ (by simp) rfl)
              clear hall ho
              refine wpOp_step rfl (fun K hK => ?_)
              go_simp
              exact hK _ _ ⟨_, _, _, _, _, _, _, _, _, _, _, _, _, _, _, _, _, _, rfl, hS, q0, q1, q2, q3, q4, q5, q6, q7, q8, q9, q10, fun _ => rfl, fun _ => rfl, fun _ => rfl, q14, q15, q16, q17⟩
            · obtain rfl := Option.some.inj ho
              obtain rfl := q13 (hall ⟨13, .data⟩ (by simp) rfl)
              clear hall ho
              refine wpOp_step rfl (fun K hK => ?_)
              go_simp
              exact hK _ _ ⟨_, _, _, _, _, _, _, _, _, _, _, _, _, _, _, _, _, _, rfl, hS, q0, q1, q2, q3, q4, q5, q6, q7, q8, q9, q10, q11, q12, fun _ => rfl, fun _ => rfl, q15, q16, q17⟩
            · obtain rfl := Option.some.inj ho
              obtain rfl := q14 (hall ⟨14, .data⟩ (by simp) rfl)
              have y := c2.out v (hb.trans (hS.mono hb.size))
              clear hall ho
              refine wpOp_step rfl (fun K hK => ?_)
              go_simp
              exact hK _ _ ⟨_, _, _, _, _, _, _, _, _, _, _, _, _, _, _, _, _, _, rfl, hS, q0, q1, q2, q3, q4, q5, q6, q7, q8, q9, q10, q11, q12, q13, fun _ => rfl, fun _ => rfl, q16, q17⟩
            · obtain rfl := Option.some.inj ho
              obtain rfl := q15 (hall ⟨15, .data⟩ (by simp) rfl)
              clear hall ho
              refine wpOp_step rfl (fun K hK => ?_)
              go_simp
              refine Calls.mono (HL.out v) ?_; rintro e w1 ⟨rfl, hb1⟩
              go_simp
              exact hK _ _ ⟨_, _, _, _, _, _, _, _, _, _, _, _, _, _, _, _, _, _, rfl, hS.trans (hb1.mono hS.size), q0, q1, q2, q3, q4, q5, q6, q7, q8, q9, q10, q11, q12, q13, q14, fun _ => rfl, fun _ => rfl, q17⟩
            · obtain rfl := Option.some.inj ho
              obtain rfl := q10 (hall ⟨10, .data⟩ (by simp) rfl)
              obtain rfl := q16 (hall ⟨16, .data⟩ (by simp) rfl)
              clear hall ho
              refine wpOp_step rfl (fun K hK => ?_)
              go_simp
              exact hK _ _ ⟨_, _, _, _, _, _, _, _, _, _, _, _, _, _, _, _, _, _, rfl, hS, q0, q1, q2, q3, q4, q5, q6, q7, q8, q9, fun _ => rfl, q11, q12, q13, q14, q15, fun _ => rfl, fun _ => rfl⟩
          · rintro fL bA v ⟨v22, v23, v24, v25, v26, v27, v28, v29, v30, v31, v32, v33, v34, v35, v36, v37, v38, v39, rfl, hS, q0, q1, q2, q3, q4, q5, q6, q7, q8, q9, q10, q11, q12, q13, q14, q15, q16, q17⟩ hall
            simp only [Act.put, List.setIfInBounds_toArray, List.set_cons_zero, List.set_cons_succ]
            obtain rfl := q0 (hall 0 (by omega))
            obtain rfl := q1 (hall 1 (by omega))
            obtain rfl := q2 (hall 2 (by omega))
            obtain rfl := q3 (hall 3 (by omega))
            obtain rfl := q4 (hall 4 (by omega))
            obtain rfl := q5 (hall 5 (by omega))
            obtain rfl := q6 (hall 6 (by omega))
            obtain rfl := q7 (hall 7 (by omega))
            obtain rfl := q8 (hall 8 (by omega))
            obtain rfl := q9 (hall 9 (by omega))
            obtain rfl := q10 (hall 10 (by omega))
            obtain rfl := q11 (hall 11 (by omega))
            obtain rfl := q12 (hall 12 (by omega))
            obtain rfl := q13 (hall 13 (by omega))
            obtain rfl := q14 (hall 14 (by omega))
            obtain rfl := q15 (hall 15 (by omega))
            obtain rfl := q16 (hall 16 (by omega))
            obtain rfl := q17 (hall 17 (by omega))
            clear hall
            simp only [List.drop_succ_cons, List.drop_zero]
            have hbv := hb.trans (hS.mono hb.size)
            clear hS c1 c2 HP HL
            go_wp2_with fail
            go_roundw
            case rel => exact ⟨k + 1, by omega, by go_num, by rw [hPn.out, hE.out], hbv⟩
            case measure => simp [intOf]; omega
        · have hE : Hid (∀ o1, o0 ++ ⟨#[32]⟩ = o1 → nx = o1 ++ ⟨#[70]⟩ ++ p1 ++ ⟨#[46]⟩ ++ p2) := Lib.hid (fun o1 e => by rw [hE0.out, hT.out, if_neg ht, e]; apply ByteArray.ext; simp [bs])
          have hne : (t0 == 2) = false := by simpa using ht
          clear hE0 hT
          go_wp2_with fail
          generalize hO1 : o0 ++ ⟨#[32]⟩ = o1 at *
          obtain ⟨m1, m2, m3, m4⟩ := hmm.out o1 (by first | rfl | exact hO1.symm)
          replace hE := Lib.hid (hE.out o1 (by first | rfl | exact hO1))
          clear hO1 hmm m0
          clear c0
          refine wp_region_sink 18 (fun a0 fL bA v => ∃ v22 v23 v24 v25 v26 v27 v28 v29 v30 v31 v32 v33 v34 v35 v36 v37 v38 v39 : Value, bA = (((((((((((((((((a0.put (some 22) v22).put (some 23) v23).put (some 24) v24).put (some 25) v25).put (some 26) v26).put (some 27) v27).put (some 28) v28).put (some 29) v29).put (some 30) v30).put (some 31) v31).put (some 32) v32).put (some 33) v33).put (some 34) v34).put (some 35) v35).put (some 36) v36).put (some 37) v37).put (some 38) v38).put (some 39) v39 ∧ (Below wr.heap.size wr v) ∧ (fL 0 = true → v22 = .string o1) ∧ (fL 1 = true → v23 = .string ⟨#[70]⟩) ∧ (fL 2 = true → v24 = .string (o1 ++ ⟨#[70]⟩)) ∧ (fL 3 = true → v25 = .slice (some ⟨b, off, none⟩) l.length c) ∧ (fL 4 = true → v26 = .int .i64 k) ∧ (fL 5 = true → v27 = .pointer (some ⟨b, off + k * 3, none⟩)) ∧ (fL 6 = true → v28 = .pointer (some ⟨b, off + k * 3 + 1, none⟩)) ∧ (fL 7 = true → v29 = .int .i64 p0) ∧ (fL 8 = true → v30 = .string p1) ∧ (fL 9 = true → v31 = .string (o1 ++ ⟨#[70]⟩ ++ p1)) ∧ (fL 10 = true → v32 = .string (o1 ++ ⟨#[70]⟩ ++ p1 ++ ⟨#[46]⟩)) ∧ (fL 11 = true → v33 = .slice (some ⟨b, off, none⟩) l.length c) ∧ (fL 12 = true → v34 = .int .i64 k) ∧ (fL 13 = true → v35 = .pointer (some ⟨b, off + k * 3, none⟩)) ∧ (fL 14 = true → v36 = .pointer (some ⟨b, off + k * 3 + 2, none⟩)) ∧ (fL 15 = true → v37 = .int .i64 l0) ∧ (fL 16 = true → v38 = .string p2) ∧ (fL 17 = true → v39 = .string (o1 ++ ⟨#[70]⟩ ++ p1 ++ ⟨#[46]⟩ ++ p2))) (by kernel_rfl) (by decide +kernel) ?_ ?_ ?_
          · exact ⟨_, _, _, _, _, _, _, _, _, _, _, _, _, _, _, _, _, _, put_more (put_more (put_more (put_more (put_more (put_more (put_more (put_more (put_more (put_more (put_more (put_more (put_more (put_more (put_more (put_more (put_more (put_more (rfl) 22) 23) 24) 25) 26) 27) 28) 29) 30) 31) 32) 33) 34) 35) 36) 37) 38) 39, (Below.refl _ _).drew, nofun, nofun, nofun, nofun, nofun, nofun, nofun, nofun, nofun, nofun, nofun, nofun, nofun, nofun, nofun, nofun, nofun, nofun⟩
          · rintro fL bA v ⟨v22, v23, v24, v25, v26, v27, v28, v29, v30, v31, v32, v33, v34, v35, v36, v37, v38, v39, rfl, hS, q0, q1, q2, q3, q4, q5, q6, q7, q8, q9, q10, q11, q12, q13, q14, q15, q16, q17⟩ i hi hf o ho hall
            simp only [Act.put, List.setIfInBounds_toArray, List.set_cons_zero, List.set_cons_succ]
            have hn : i = 0 ∨ i = 1 ∨ i = 2 ∨ i = 3 ∨ i = 4 ∨ i = 5 ∨ i = 6 ∨ i = 7 ∨ i = 8 ∨ i = 9 ∨ i = 10 ∨ i = 11 ∨ i = 12 ∨ i = 13 ∨ i = 14 ∨ i = 15 ∨ i = 16 ∨ i = 17 := by omega
            clear hi
            rcases hn with rfl | rfl | rfl | rfl | rfl | rfl | rfl | rfl | rfl | rfl | rfl | rfl | rfl | rfl | rfl | rfl | rfl | rfl
            · obtain rfl := Option.some.inj ho
              clear hall ho
              refine wpOp_step rfl (fun K hK => ?_)
              go_simp
              exact hK _ _ ⟨_, _, _, _, _, _, _, _, _, _, _, _, _, _, _, _, _, _, rfl, hS, fun _ => rfl, q1, q2, q3, q4, q5, q6, q7, q8, q9, q10, q11, q12, q13, q14, q15, q16, q17⟩
            · obtain rfl := Option.some.inj ho
              clear hall ho
              refine wpOp_step rfl (fun K hK => ?_)
              go_simp
              exact hK _ _ ⟨_, _, _, _, _, _, _, _, _, _, _, _, _, _, _, _, _, _, rfl, hS, q0, fun _ => rfl, q2, q3, q4, q5, q6, q7, q8, q9, q10, q11, q12, q13, q14, q15, q16, q17⟩
            · obtain rfl := Option.some.inj ho
              obtain rfl := q0 (hall ⟨0, .data⟩ (by simp) rfl)
              obtain rfl := q1 (hall ⟨1, .data⟩ (by simp) rfl)
              clear hall ho
              refine wpOp_step rfl (fun K hK => ?_)
              go_simp
              exact hK _ _ ⟨_, _, _, _, _, _, _, _, _, _, _, _, _, _, _, _, _, _, rfl, hS, fun _ => rfl, fun _ => rfl, fun _ => rfl, q3, q4, q5, q6, q7, q8, q9, q10, q11, q12, q13, q14, q15, q16, q17⟩
            · obtain rfl := Option.some.inj ho
              clear hall ho
              refine wpOp_step rfl (fun K hK => ?_)
              go_simp
              exact hK _ _ ⟨_, _, _, _, _, _, _, _, _, _, _, _, _, _, _, _, _, _, rfl, hS, q0, q1, q2, fun _ => rfl, q4, q5, q6, q7, q8, q9, q10, q11, q12, q13, q14, q15, q16, q17⟩
            · obtain rfl := Option.some.inj ho
              clear hall ho
              refine wpOp_step rfl (fun K hK => ?_)
              go_simp
              exact hK _ _ ⟨_, _, _, _, _, _, _, _, _, _, _, _, _, _, _, _, _, _, rfl, hS, q0, q1, q2, q3, fun _ => rfl, q5, q6, q7, q8, q9, q10, q11, q12, q13, q14, q15, q16, q17⟩
            · obtain rfl := Option.some.inj ho
              obtain rfl := q3 (hall ⟨3, .data⟩ (by simp) rfl)
              obtain rfl := q4 (hall ⟨4, .data⟩ (by simp) rfl)
              clear hall ho
              refine wpOp_step rfl (fun K hK => ?_)
              go_simp
              exact hK _ _ ⟨_, _, _, _, _, _, _, _, _, _, _, _, _, _, _, _, _, _, rfl, hS, q0, q1, q2, fun _ => rfl, fun _ => rfl, fun _ => rfl, q6, q7, q8, q9, q10, q11, q12, q13, q14, q15, q16, q17⟩
            · obtain rfl := Option.some.inj ho
              obtain rfl := q5 (hall ⟨5, .data⟩ (by simp) rfl)
              clear hall ho
              refine wpOp_step rfl (fun K hK => ?_)
              go_simp
              exact hK _ _ ⟨_, _, _, _, _, _, _, _, _, _, _, _, _, _, _, _, _, _, rfl, hS, q0, q1, q2, q3, q4, fun _ => rfl, fun _ => rfl, q7, q8, q9, q10, q11, q12, q13, q14, q15, q16, q17⟩
            · obtain rfl := Option.some.inj ho
              obtain rfl := q6 (hall ⟨6, .data⟩ (by simp) rfl)
              have y := c1.out v (hb.trans (hS.mono hb.size))
              clear hall ho
              refine wpOp_step rfl (fun K hK => ?_)
              go_simp
              exact hK _ _ ⟨_, _, _, _, _, _, _, _, _, _, _, _, _, _, _, _, _, _, rfl, hS, q0, q1, q2, q3, q4, q5, fun _ => rfl, fun _ => rfl, q8, q9, q10, q11, q12, q13, q14, q15, q16, q17⟩
            · obtain rfl := Option.some.inj ho
              obtain rfl := q7 (hall ⟨7, .data⟩ (by simp) rfl)
              clear hall ho
              refine wpOp_step rfl (fun K hK => ?_)
              go_simp
              refine Calls.mono (HP.out v) ?_; rintro e w1 ⟨rfl, hb1⟩
              go_simp
              exact hK _ _ ⟨_, _, _, _, _, _, _, _, _, _, _, _, _, _, _, _, _, _, rfl, hS.trans (hb1.mono hS.size), q0, q1, q2, q3, q4, q5, q6, fun _ => rfl, fun _ => rfl, q9, q10, q11, q12, q13, q14, q15, q16, q17⟩
            · obtain rfl := Option.some.inj ho
              obtain rfl := q2 (hall ⟨2, .data⟩ (by simp) rfl)
              obtain rfl := q8 (hall ⟨8, .data⟩ (by simp) rfl)
              clear hall ho
              refine wpOp_step rfl (fun K hK => ?_)
              go_simp
              exact hK _ _ ⟨_, _, _, _, _, _, _, _, _, _, _, _, _, _, _, _, _, _, rfl, hS, q0, q1, fun _ => rfl, q3, q4, q5, q6, q7, fun _ => rfl, fun _ => rfl, q10, q11, q12, q13, q14, q15, q16, q17⟩
            · obtain rfl := Option.some.inj ho
              obtain rfl := q9 (hall ⟨9, .data⟩ (by simp) rfl)
              clear hall ho
              refine wpOp_step rfl (fun K hK => ?_)
              go_simp
              exact hK _ _ ⟨_, _, _, _, _, _, _, _, _, _, _, _, _, _, _, _, _, _, rfl, hS, q0, q1, q2, q3, q4, q5, q6, q7, q8, fun _ => rfl, fun _ => rfl, q11, q12, q13, q14, q15, q16, q17⟩
            · obtain rfl := Option.some.inj ho
              clear hall ho
              refine wpOp_step rfl (fun K hK => ?_)
              go_simp
              exact hK _ _ ⟨_, _, _, _, _, _, _, _, _, _, _, _, _, _, _, _, _, _, rfl, hS, q0, q1, q2, q3, q4, q5, q6, q7, q8, q9, q10, fun _ => rfl, q12, q13, q14, q15, q16, q17⟩
            · obtain rfl := Option.some.inj ho
              clear hall ho
              refine wpOp_step rfl (fun K hK => ?_)
              go_simp
              exact hK _ _ ⟨_, _, _, _, _, _, _, _, _, _, _, _, _, _, _, _, _, _, rfl, hS, q0, q1, q2, q3, q4, q5, q6, q7, q8, q9, q10, q11, fun _ => rfl, q13, q14, q15, q16, q17⟩
            · obtain rfl := Option.some.inj ho
              obtain rfl := q11 (hall ⟨11, .data⟩ (by simp) rfl)
              obtain rfl := q12 (hall ⟨12, .data⟩ (by simp) rfl)
              clear hall ho
              refine wpOp_step rfl (fun K hK => ?_)
              go_simp
              exact hK _ _ ⟨_, _, _, _, _, _, _, _, _, _, _, _, _, _, _, _, _, _, rfl, hS, q0, q1, q2, q3, q4, q5, q6, q7, q8, q9, q10, fun _ => rfl, fun _ => rfl, fun _ => rfl, q14, q15, q16, q17⟩
            · obtain rfl := Option.some.inj ho
              obtain rfl := q13 (hall ⟨13, .data⟩ (by simp) rfl)
              clear hall ho
              refine wpOp_step rfl (fun K hK => ?_)
              go_simp
              exact hK _ _ ⟨_, _, _, _, _, _, _, _, _, _, _, _, _, _, _, _, _, _, rfl, hS, q0, q1, q2, q3, q4, q5, q6, q7, q8, q9, q10, q11, q12, fun _ => rfl, fun _ => rfl, q15, q16, q17⟩
            · obtain rfl := Option.some.inj ho
              obtain rfl := q14 (hall ⟨14, .data⟩ (by simp) rfl)
              have y := c2.out v (hb.trans (hS.mono hb.size))
              clear hall ho
              refine wpOp_step rfl (fun K hK => ?_)
              go_simp
              exact hK _ _ ⟨_, _, _, _, _, _, _, _, _, _, _, _, _, _, _, _, _, _, rfl, hS, q0, q1, q2, q3, q4, q5, q6, q7, q8, q9, q10, q11, q12, q13, fun _ => rfl, fun _ => rfl, q16, q17⟩
            · obtain rfl := Option.some.inj ho
              obtain rfl := q15 (hall ⟨15, .data⟩ (by simp) rfl)
              clear hall ho
              refine wpOp_step rfl (fun K hK => ?_)
              go_simp
              refine Calls.mono (HL.out v) ?_; rintro e w1 ⟨rfl, hb1⟩
              go_simp
              exact hK _ _ ⟨_, _, _, _, _, _, _, _, _, _, _, _, _, _, _, _, _, _, rfl, hS.trans (hb1.mono hS.size), q0, q1, q2, q3, q4, q5, q6, q7, q8, q9, q10, q11, q12, q13, q14, fun _ => rfl, fun _ => rfl, q17⟩
            · obtain rfl := Option.some.inj ho
              obtain rfl := q10 (hall ⟨10, .data⟩ (by simp) rfl)
              obtain rfl := q16 (hall ⟨16, .data⟩ (by simp) rfl)
              clear hall ho
              refine wpOp_step rfl (fun K hK => ?_)
              go_simp
              exact hK _ _ ⟨_, _, _, _, _, _, _, _, _, _, _, _, _, _, _, _, _, _, rfl, hS, q0, q1, q2, q3, q4, q5, q6, q7, q8, q9, fun _ => rfl, q11, q12, q13, q14, q15, fun _ => rfl, fun _ => rfl⟩
          · rintro fL bA v ⟨v22, v23, v24, v25, v26, v27, v28, v29, v30, v31, v32, v33, v34, v35, v36, v37, v38, v39, rfl, hS, q0, q1, q2, q3, q4, q5, q6, q7, q8, q9, q10, q11, q12, q13, q14, q15, q16, q17⟩ hall
            simp only [Act.put, List.setIfInBounds_toArray, List.set_cons_zero, List.set_cons_succ]
            obtain rfl := q0 (hall 0 (by omega))
            obtain rfl := q1 (hall 1 (by omega))
            obtain rfl := q2 (hall 2 (by omega))
            obtain rfl := q3 (hall 3 (by omega))
            obtain rfl := q4 (hall 4 (by omega))
            obtain rfl := q5 (hall 5 (by omega))
            obtain rfl := q6 (hall 6 (by omega))
            obtain rfl := q7 (hall 7 (by omega))
            obtain rfl := q8 (hall 8 (by omega))
            obtain rfl := q9 (hall 9 (by omega))
            obtain rfl := q10 (hall 10 (by omega))
            obtain rfl := q11 (hall 11 (by omega))
            obtain rfl := q12 (hall 12 (by omega))
            obtain rfl := q13 (hall 13 (by omega))
            obtain rfl := q14 (hall 14 (by omega))
            obtain rfl := q15 (hall 15 (by omega))
            obtain rfl := q16 (hall 16 (by omega))
            obtain rfl := q17 (hall 17 (by omega))
            clear hall
            simp only [List.drop_succ_cons, List.drop_zero]
            have hbv := hb.trans (hS.mono hb.size)
            clear hS c1 c2 HP HL
            go_wp2_with fail
            go_roundw
            case rel => exact ⟨k + 1, by omega, by go_num, by rw [hPn.out, hE.out], hbv⟩
            case measure => simp [intOf]; omega
    · have : k = l.length := by omega
      subst this
      go_wp2
      go_ret
      exact ⟨by rw [hR.out]; rfl, hb⟩
set_option maxRecDepth 100000 in
theorem specProgramText_c (A : Option Addr) (c : Nat) (l : List Stroke) (w : World) (hl : l.length ≤ 140737488351232) (hs : Sl w w.heap.size 3 A (l.map Stroke.cells)) :
    Calls Tryz.prog 13 #[.slice A l.length c] w fun e w' => e = .returned (.tuple #[.string (bs (progR l)), .int .i64 (strokesCode l)]) ∧ Below w.heap.size w w' := by
  have HC := Lib.hid (l32Code_c A c l w hl hs)
  obtain ⟨r1, r2⟩ := progR_cases l
  by_cases h0 : strokesCode l = 0
  · obtain ⟨hR, h150, hok⟩ := r1 h0
    rw [h0] at HC ⊢
    have hR2 : Hid (progR l = progT l) := Lib.hid hR
    have HX := Lib.hid (fun W (hW : Below w.heap.size w W) => l32Text_c A c l W h150 hok ((hs.below hW).more hW.size))
    clear r1 r2 h0 hl hok hR hs
    go_enter Tryz.func13, Tryz.ntmps13
    go_wp2_with fail
    refine Calls.mono HC.out ?_; rintro e w1 ⟨rfl, hb1⟩
    go_wp2_with fail
    refine Calls.mono (HX.out w1 hb1) ?_; rintro e w2 ⟨rfl, hb2⟩
    go_wp2
    go_ret2
    exact ⟨by rw [hR2.out]; rfl, hb1.trans (hb2.mono hb1.size)⟩
  · have hR := r2 h0
    have hne : (strokesCode l == 0) = false := by simpa using h0
    rw [hR]
    clear r1 r2 h0 hs hl hR
    generalize strokesCode l = cd at *
    go_enter Tryz.func13, Tryz.ntmps13
    go_wp2_with fail
    refine Calls.mono HC.out ?_; rintro e w1 ⟨rfl, hb1⟩
    go_wp2
    go_ret2
    exact ⟨rfl, hb1⟩
end Go.Proofs.YtkjommcmeinkaaaGreatDoor
