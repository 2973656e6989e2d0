/- Numbers in decimal: the program's and the reference's. Conditions: what the library's table holds. -/
import Derived.Test.YtkjommcmeinkaaaGreatDoorStrP
import Derived.Test.YtkjommcmeinkaaaGreatDoorLayV
import Derived.Test.YtkjommcmeinkaaaGreatDoorApp
import Derived.Laws.BytesArg
import Derived.Lib.AppendIntMem
import Derived.Test.YtkjommcmeinkaaaGreatDoorInv
namespace Go.Proofs.YtkjommcmeinkaaaGreatDoor
open Go.RowKit
set_option linter.unusedSimpArgs false
def bs (l : List UInt8) : ByteArray := ⟨l.toArray⟩
theorem bs_size (l : List UInt8) : (bs l).size = l.length := by simp [bs, ByteArray.size]
theorem bs_data (l : List UInt8) : (bs l).data.toList = l := by simp [bs]
theorem bs_of (s : ByteArray) : bs s.data.toList = s := by cases s; simp [bs]
theorem bs_append (l m : List UInt8) : bs l ++ bs m = bs (l ++ m) := by
  apply ByteArray.ext
  simp [bs]
theorem bs_inj {l m : List UInt8} (h : bs l = bs m) : l = m := by rw [← bs_data l, h, bs_data]
theorem cell_keep {w w' : World} (hb : Below w.heap.size w w') {a : Addr} {v : Value} (hc : w.cell? a = some v) : w'.cell? a = some v := (hb.cell (World.block_lt_of_cell? w a hc)).trans hc
/-- what the library's table of powers holds -/
def LwT (w : World) : Prop := Lib.TabIs Tryz.prog w "internal/strconv.uint64pow10" .u64 Lib.pow10Tab
theorem LwT.below {w w' : World} (h : LwT w) (hb : Below w.heap.size w w') : LwT w' := by
  unfold LwT Lib.TabIs World.var? at h ⊢
  cases hg : Tryz.prog.globalNamed "internal/strconv.uint64pow10" with
  | none => rw [hg] at h; cases h
  | some g =>
    rw [hg] at h
    simp only [Option.bind_some] at h ⊢
    have hlt : g < w.heap.size := by
      rcases Nat.lt_or_ge g w.heap.size with h' | h'
      · exact h'
      · rw [Array.getElem?_eq_none h'] at h; cases h
    rw [hb.block g hlt]
    exact h
theorem decimal_c (n : Int) (w : World) (h0 : -9223372036854775808 ≤ n) (h1 : n ≤ 9223372036854775807) (hT : LwT w) : Calls Tryz.prog 49 #[.int .i64 n] w fun e w' => e = .returned (.string (bs (Lib.itoa n))) ∧ Below w.heap.size w w' := by
  go_enter Tryz.func49, Tryz.ntmps49
  go_wp2_with (go_at_call 66; refine (Any.strconv_FormatInt_10 Tryz.layFmt n h0 h1 _ hT).mono ?_; rintro e w' ⟨rfl, k, os, rfl⟩)
  go_ret
  exact ⟨rfl, Lib.below_grow _ _ (Nat.le_refl _) _ _⟩
theorem strOfNums_one {d : Nat} : strOfNums [48 + (d : Int)] = bs [UInt8.ofNat (48 + d)] := by
  unfold strOfNums bs
  have : (48 + (d : Int)).toNat = 48 + d := by omega
  simp [this]
theorem conv_blk {d b : Nat} {v : World} (B : Blk v b 5 #[.int .u8 (48 + (d : Int))]) : (convert 22 9 (.slice (some ⟨b, 0, none⟩) 1 1)).run Tryz.prog v = .ok (.string (bs [UInt8.ofNat (48 + d)])) v := by
  rw [← strOfNums_one]
  exact run_convert_bytes_arg _ _ 5 Tryz.underlying22 Tryz.underlying5 _ _ 1 1 [48 + (d : Int)] rfl (fun i hi => by
          obtain rfl : i = 0 := by omega
          exact B.cell 0) _ Tryz.underlying9
/-- while a number's last digit is laid behind the others -/
structure DcS (w0 : World) (d : Nat) (b7 : Bool) (x : Value) (v : World) : Prop where
  hb : Below w0.heap.size w0 v
  q : b7 = true → ∃ b, x = .slice (some ⟨b, 0, none⟩) 1 1 ∧ Blk v b 5 #[.int .u8 (48 + (d : Int))]
set_option maxRecDepth 100000 in
theorem l01Dec_c (u : Nat) : ∀ (w : World), u < 9223372036854775808 → Calls Tryz.prog 53 #[.int .i64 (u : Int)] w fun e w' => e = .returned (.string (bs (Lib.decDigits u))) ∧ Below w.heap.size w w' := by
  induction u using Nat.strongRecOn with
  | _ u ih =>
    intro w hu
    by_cases h : u < 10
    · have hcv := conv_blk (Blk.new w 5 #[.int .u8 (48 + (u : Int))])
      have hR : Hid (bs (Lib.decDigits u) = bs [UInt8.ofNat (48 + u)]) := Lib.hid (by rw [dec_small h])
      generalize bs [UInt8.ofNat (48 + u)] = ch at *
      have hwr : IntKind.u8.wrap (48 + (u : Int)) = 48 + (u : Int) := IntWalk.u8_in _ (by omega)
      clear ih
      go_enter Tryz.func53, Tryz.ntmps53
      go_wp2
      go_ret
      exact ⟨by rw [hR.out]; rfl, (by repeat (first | with_reducible exact Below.refl _ _ | with_reducible apply below_drewN' | with_reducible apply Below.drew | (with_reducible refine Below.alloc ?_ (by first | omega | (simp; omega) | simp | (have := (Below.refl _ _).size; omega) | (have := (Below.refl _ _).size; simp; omega)) _) | (with_reducible refine Below.setCell ?_ (by first | omega | (simp; omega) | simp | (have := (Below.refl _ _).size; omega) | (have := (Below.refl _ _).size; simp; omega)) _) | exact Below.refl _ _))⟩
    · have IH := Lib.hid (fun W => ih (u / 10) (by omega) W (by omega))
      have hR : Hid (bs (Lib.decDigits u) = bs (Lib.decDigits (u / 10)) ++ bs [UInt8.ofNat (48 + u % 10)]) := Lib.hid (by rw [dec_big h, bs_append])
      have hcv := Lib.hid (fun b v B => conv_blk (d := u % 10) (b := b) (v := v) B)
      have hs1 : (bs [UInt8.ofNat (48 + u % 10)]).size = 1 := bs_size _
      have hs2 : (bs (Lib.decDigits (u / 10))).size ≤ 20 := by
        rw [bs_size]
        have := (dec_len_le (u / 10) 20 (by omega)).2 (by omega)
        omega
      clear ih
      generalize bs [UInt8.ofNat (48 + u % 10)] = ch at *
      generalize bs (Lib.decDigits (u / 10)) = hd at *
      generalize bs (Lib.decDigits u) = res at *
      have hlim : ¬ 9223372036854775807 < hd.size + 1 := by omega
      have hwq : IntKind.i64.wrap ((u : Int) / 10) = ((u / 10 : Nat) : Int) := by rw [IntWalk.i64_in _ (by omega)]; omega
      have hws : IntKind.i64.wrap (48 + (u : Int) % 10) = 48 + ((u % 10 : Nat) : Int) := by rw [IntWalk.i64_in _ (by omega)]; omega
      have hwr : IntKind.u8.wrap (48 + ((u % 10 : Nat) : Int)) = 48 + ((u % 10 : Nat) : Int) := IntWalk.u8_in _ (by omega)
      generalize u / 10 = q at *
      generalize u % 10 = r at *
      go_enter Tryz.func53, Tryz.ntmps53
      go_wp2_with fail
      refine wp_region_sink 10 (fun a0 fL bA v => ∃ v10 v11 v12 v13 v14 v15 v16 v17 v18 v19 : Value, bA = (((((((((a0.put (some 10) v10).put (some 11) v11).put (some 12) v12).put (some 13) v13).put (some 14) v14).put (some 15) v15).put (some 16) v16).put (some 17) v17).put (some 18) v18).put (some 19) v19 ∧ (DcS w r (fL 7) v17 v) ∧ (fL 0 = true → v10 = .int .i64 (u : Int)) ∧ (fL 1 = true → v11 = .int .i64 (q : Int)) ∧ (fL 2 = true → v12 = .string hd) ∧ (fL 3 = true → v13 = .int .i64 (u : Int)) ∧ (fL 4 = true → v14 = .int .i64 ((u : Int) % 10)) ∧ (fL 5 = true → v15 = .int .i64 (48 + (r : Int))) ∧ (fL 6 = true → v16 = .int .u8 (48 + (r : Int))) ∧ (fL 7 = true → True) ∧ (fL 8 = true → v18 = .string ch) ∧ (fL 9 = true → v19 = .string (hd ++ ch))) (by kernel_rfl) (by decide +kernel) ?_ ?_ ?_
      · exact ⟨undef, undef, undef, undef, undef, undef, undef, undef, undef, undef, by simp only [Act.put, List.setIfInBounds_toArray, List.set_cons_zero, List.set_cons_succ], ⟨(Below.refl _ _).drew, nofun⟩, nofun, nofun, nofun, nofun, nofun, nofun, nofun, nofun, nofun, nofun⟩
      · rintro fL bA v ⟨v10, v11, v12, v13, v14, v15, v16, v17, v18, v19, rfl, hS, q0, q1, q2, q3, q4, q5, q6, q7, q8, q9⟩ i hi hf o ho hall
        simp only [Act.put, List.setIfInBounds_toArray, List.set_cons_zero, List.set_cons_succ]
        have hn : i = 0 ∨ i = 1 ∨ i = 2 ∨ i = 3 ∨ i = 4 ∨ i = 5 ∨ i = 6 ∨ i = 7 ∨ i = 8 ∨ i = 9 := by omega
        clear hi
        rcases hn with rfl | rfl | rfl | rfl | rfl | rfl | rfl | rfl | rfl | rfl
        · obtain rfl := Option.some.inj ho
          clear hall ho
          refine wpOp_step rfl (fun K hK => ?_)
          go_simp
          exact hK _ _ ⟨_, _, _, _, _, _, _, _, _, _, rfl, hS, fun _ => rfl, q1, q2, q3, q4, q5, q6, fun _ => trivial, q8, q9⟩
        · obtain rfl := Option.some.inj ho
          obtain rfl := q0 (hall ⟨0, .data⟩ (by simp) rfl)
          clear hall ho
          refine wpOp_step rfl (fun K hK => ?_)
          go_simp
          exact hK _ _ ⟨_, _, _, _, _, _, _, _, _, _, rfl, hS, fun _ => rfl, fun _ => rfl, q2, q3, q4, q5, q6, fun _ => trivial, q8, q9⟩
        · obtain rfl := Option.some.inj ho
          obtain rfl := q1 (hall ⟨1, .data⟩ (by simp) rfl)
          clear hall ho
          refine wpOp_step rfl (fun K hK => ?_)
          go_simp
          refine Calls.mono (IH.out v) ?_; rintro e w1 ⟨rfl, hb1⟩
          go_simp
          exact hK _ _ ⟨_, _, _, _, _, _, _, _, _, _, rfl, ⟨hS.hb.trans (hb1.mono hS.hb.size), fun e => let ⟨b, h1, h2⟩ := hS.q e; ⟨b, h1, h2.below hb1 h2.lt⟩⟩, q0, fun _ => rfl, fun _ => rfl, q3, q4, q5, q6, fun _ => trivial, q8, q9⟩
        · obtain rfl := Option.some.inj ho
          clear hall ho
          refine wpOp_step rfl (fun K hK => ?_)
          go_simp
          exact hK _ _ ⟨_, _, _, _, _, _, _, _, _, _, rfl, hS, q0, q1, q2, fun _ => rfl, q4, q5, q6, fun _ => trivial, q8, q9⟩
        · obtain rfl := Option.some.inj ho
          obtain rfl := q3 (hall ⟨3, .data⟩ (by simp) rfl)
          clear hall ho
          refine wpOp_step rfl (fun K hK => ?_)
          go_simp
          exact hK _ _ ⟨_, _, _, _, _, _, _, _, _, _, rfl, hS, q0, q1, q2, fun _ => rfl, fun _ => rfl, q5, q6, fun _ => trivial, q8, q9⟩
        · obtain rfl := Option.some.inj ho
          obtain rfl := q4 (hall ⟨4, .data⟩ (by simp) rfl)
          clear hall ho
          refine wpOp_step rfl (fun K hK => ?_)
          go_simp
          exact hK _ _ ⟨_, _, _, _, _, _, _, _, _, _, rfl, hS, q0, q1, q2, q3, fun _ => rfl, fun _ => rfl, q6, fun _ => trivial, q8, q9⟩
        · obtain rfl := Option.some.inj ho
          obtain rfl := q5 (hall ⟨5, .data⟩ (by simp) rfl)
          clear hall ho
          refine wpOp_step rfl (fun K hK => ?_)
          go_simp
          exact hK _ _ ⟨_, _, _, _, _, _, _, _, _, _, rfl, hS, q0, q1, q2, q3, q4, fun _ => rfl, fun _ => rfl, fun _ => trivial, q8, q9⟩
        · obtain rfl := Option.some.inj ho
          obtain rfl := q6 (hall ⟨6, .data⟩ (by simp) rfl)
          clear hall ho
          refine wpOp_step rfl (fun K hK => ?_)
          go_simp
          exact hK _ _ ⟨_, _, _, _, _, _, _, _, _, _, rfl, ⟨hS.hb.alloc hS.hb.size _, fun _ => ⟨v.heap.size, rfl, Blk.new _ _ _⟩⟩, q0, q1, q2, q3, q4, q5, fun _ => rfl, fun _ => trivial, q8, q9⟩
        · obtain rfl := Option.some.inj ho
          have e7 : fL 7 = true := hall ⟨7, .data⟩ (by simp) rfl
          obtain ⟨b, rfl, B⟩ := hS.q e7
          have hcv2 := hcv.out b v B
          clear hall ho
          refine wpOp_step rfl (fun K hK => ?_)
          go_simp
          exact hK _ _ ⟨_, _, _, _, _, _, _, _, _, _, rfl, hS, q0, q1, q2, q3, q4, q5, q6, fun _ => trivial, fun _ => rfl, q9⟩
        · obtain rfl := Option.some.inj ho
          obtain rfl := q2 (hall ⟨2, .data⟩ (by simp) rfl)
          obtain rfl := q8 (hall ⟨8, .data⟩ (by simp) rfl)
          clear hall ho
          refine wpOp_step rfl (fun K hK => ?_)
          go_simp
          exact hK _ _ ⟨_, _, _, _, _, _, _, _, _, _, rfl, hS, q0, q1, fun _ => rfl, q3, q4, q5, q6, fun _ => trivial, fun _ => rfl, fun _ => rfl⟩
      · rintro fL bA v ⟨v10, v11, v12, v13, v14, v15, v16, v17, v18, v19, rfl, hS, q0, q1, q2, q3, q4, q5, q6, q7, q8, q9⟩ hall
        simp only [Act.put, List.setIfInBounds_toArray, List.set_cons_zero, List.set_cons_succ]
        obtain rfl := q0 (hall 0 (by omega))
        obtain rfl := q1 (hall 1 (by omega))
        obtain rfl := q2 (hall 2 (by omega))
        obtain rfl := q3 (hall 3 (by omega))
        obtain rfl := q4 (hall 4 (by omega))
        obtain rfl := q5 (hall 5 (by omega))
        obtain rfl := q6 (hall 6 (by omega))
        have e7 : fL 7 = true := hall 7 (by omega)
        obtain rfl := q8 (hall 8 (by omega))
        obtain rfl := q9 (hall 9 (by omega))
        clear hall
        simp only [List.drop_succ_cons, List.drop_zero]
        have hb := hS.hb
        clear hS hcv IH
        go_wp2
        go_ret
        exact ⟨by rw [hR.out]; rfl, hb⟩
end Go.Proofs.YtkjommcmeinkaaaGreatDoor
