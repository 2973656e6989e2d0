/- Whether a release keeps its bound: the program's and the reference's. Condition: the release is valid. KeptEntries: the program's and the reference's. Conditions: the lengths. FnExactKeptEntries: the walk. Conditions: what an argument always is. -/
import Derived.Test.YtkjlakdjgpgekaaGreatDoorKOrg10
import Derived.Test.YtkjlakdjgpgekaaGreatDoorKOrg11
import Derived.Test.YtkjlakdjgpgekaaGreatDoorKOrg2
import Derived.Test.YtkjlakdjgpgekaaGreatDoorKOrg6
import Derived.Test.YtkjlakdjgpgekaaGreatDoorKOrg8
import Derived.Test.YtkjlakdjgpgekaaGreatDoorKOrg9
set_option linter.unusedSimpArgs false
namespace Go.Proofs.YtkjlakdjgpgekaaGreatDoor
open Go.RowKit
def safeF (p q lf rt ey : Int) : Int := -(-((2 + ey) * 1048576 * (lf + rt)) / (lf * rt)) + 3 * (max p (-p) + max q (-q) + 2) + 4
theorem safe_bd {lf rt ey : Int} (hlf : 100 ≤ lf ∧ lf ≤ 20000) (hrt : 100 ≤ rt ∧ rt ≤ 20000) (hey : 0 ≤ ey ∧ ey ≤ 200) :
    (0 ≤ (2 + ey) * 1048576 * (lf + rt) ∧ (2 + ey) * 1048576 * (lf + rt) ≤ 10000000000000) ∧ (10000 ≤ lf * rt ∧ lf * rt ≤ 400000000) := by
  have h1 : 0 ≤ (2 + ey) * 1048576 ∧ (2 + ey) * 1048576 ≤ 211812352 := by omega
  have h2 : 200 ≤ lf + rt ∧ lf + rt ≤ 40000 := by omega
  refine ⟨⟨Int.mul_nonneg h1.1 (by omega), ?_⟩, ?_, ?_⟩
  · have := Int.mul_le_mul h1.2 h2.2 (by omega) (by omega : (0 : Int) ≤ 211812352)
    omega
  · have := Int.mul_le_mul hlf.1 hrt.1 (by omega) (by omega : (0 : Int) ≤ lf)
    omega
  · have := Int.mul_le_mul hlf.2 hrt.2 (by omega) (by omega : (0 : Int) ≤ 20000)
    omega
theorem ceil_bd {n d : Int} (hn : 0 ≤ n ∧ n ≤ 10000000000000) (hd : 10000 ≤ d) : 0 ≤ -(-n / d) ∧ -(-n / d) ≤ 10000000000000 := by
  have h1 := Int.mul_ediv_add_emod (-n) d
  have h2 := Int.emod_nonneg (-n) (by omega : d ≠ 0)
  have h3 := Int.emod_lt_of_pos (-n) (by omega : 0 < d)
  generalize -n / d = q at *
  constructor
  · by_cases h : 0 < q
    · have := Int.mul_le_mul (Int.le_refl d) (show (1 : Int) ≤ q by omega) (by omega) (by omega)
      omega
    · omega
  · by_cases h : q < -10000000000000
    · have h4 : d * q ≤ d * (-10000000000001) := Int.mul_le_mul_of_nonneg_left (by omega) (by omega)
      have h5 : (10000000000001 : Int) * 10000 ≤ 10000000000001 * d := Int.mul_le_mul_of_nonneg_left hd (by omega)
      have h6 : d * (-10000000000001) = -(10000000000001 * d) := by rw [Int.mul_neg, Int.mul_comm]
      omega
    · omega
set_option maxRecDepth 100000 in
set_option maxHeartbeats 4000000 in
theorem safeBound_c (fd ft : Int) (s : ByteArray) (b off c : Nat) (p q wd lf rt ey : Int) (w : World) (hb : b < w.heap.size) (c0 : w.cell? ⟨b, off, none⟩ = some (.int .i64 p)) (c1 : w.cell? ⟨b, off + 1, none⟩ = some (.int .i64 q))
    (hp : -6 ≤ p ∧ p ≤ 6) (hq : -6 ≤ q ∧ q ≤ 6) (hlf : 100 ≤ lf ∧ lf ≤ 20000) (hrt : 100 ≤ rt ∧ rt ≤ 20000) (hey : 0 ≤ ey ∧ ey ≤ 200) :
    Calls Tryz.prog 80 #[.agg #[.int .i64 fd, .int .i64 ft, .string s, .slice (some ⟨b, off, none⟩) 2 c, .int .i64 wd, .int .i64 lf, .int .i64 rt], .int .i64 ey] w fun e w' => e = .returned (.int .i64 (safeF p q lf rt ey)) ∧ Below w.heap.size w w' := by
  have hW : Below w.heap.size w (w.alloc (.cells #[.int .i64 fd, .int .i64 ft, .string s, .slice (some ⟨b, off, none⟩) 2 c, .int .i64 wd, .int .i64 lf, .int .i64 rt] 53)) := (by repeat (first | with_reducible exact Below.refl _ _ | with_reducible apply below_drewN' | with_reducible apply Below.drew | (with_reducible refine Below.alloc ?_ (by first | omega | (simp; omega) | simp | (have := (Below.refl _ _).size; omega) | (have := (Below.refl _ _).size; simp; omega)) _) | (with_reducible refine Below.setCell ?_ (by first | omega | (simp; omega) | simp | (have := (Below.refl _ _).size; omega) | (have := (Below.refl _ _).size; simp; omega)) _) | exact Below.refl _ _))
  have B0 := Blk.new w 53 #[.int .i64 fd, .int .i64 ft, .string s, .slice (some ⟨b, off, none⟩) 2 c, .int .i64 wd, .int .i64 lf, .int .i64 rt]
  obtain ⟨hN, hD⟩ := safe_bd hlf hrt hey
  have hC := ceil_bd hN hD.1
  have wN : IntKind.i64.wrap ((2 + ey) * 1048576 * (lf + rt)) = (2 + ey) * 1048576 * (lf + rt) := IntWalk.i64_in _ (by omega)
  have wD : IntKind.i64.wrap (lf * rt) = lf * rt := IntWalk.i64_in _ (by omega)
  have HU := Lib.hid (fun W => up_c ((2 + ey) * 1048576 * (lf + rt)) (lf * rt) W (by omega) (by omega))
  have hR : Hid (safeF p q lf rt ey = -(-((2 + ey) * 1048576 * (lf + rt)) / (lf * rt)) + 3 * (max p (-p) + max q (-q) + 2) + 4) := Lib.hid rfl
  generalize safeF p q lf rt ey = res at *
  generalize hz : -(-((2 + ey) * 1048576 * (lf + rt)) / (lf * rt)) = z at *
  have x0 : (w.alloc (.cells #[.int .i64 fd, .int .i64 ft, .string s, .slice (some ⟨b, off, none⟩) 2 c, .int .i64 wd, .int .i64 lf, .int .i64 rt] 53)).cell? ⟨b, off, none⟩ = some (.int .i64 p) := (hW.cell (p := ⟨b, off, none⟩) hb).trans c0
  have x1 : (w.alloc (.cells #[.int .i64 fd, .int .i64 ft, .string s, .slice (some ⟨b, off, none⟩) 2 c, .int .i64 wd, .int .i64 lf, .int .i64 rt] 53)).cell? ⟨b, off + 1, none⟩ = some (.int .i64 q) := (hW.cell (p := ⟨b, off + 1, none⟩) hb).trans c1
  have y3 : (w.alloc (.cells #[.int .i64 fd, .int .i64 ft, .string s, .slice (some ⟨b, off, none⟩) 2 c, .int .i64 wd, .int .i64 lf, .int .i64 rt] 53)).cell? ⟨w.heap.size, 3, none⟩ = some (.slice (some ⟨b, off, none⟩) 2 c) := B0.cell 3
  clear c0 c1 hz
  go_enter Tryz.func80, Tryz.ntmps80
  go_wp2_with fail
  go_quiet (fail)
  refine then_world (R := fun V => Blk V w.heap.size 53 #[.int .i64 fd, .int .i64 ft, .string s, .slice (some ⟨b, off, none⟩) 2 c, .int .i64 wd, .int .i64 lf, .int .i64 rt] ∧ Below w.heap.size w V) ⟨B0, by first | exact below_drewN' hW _ | exact hW.drew | exact hW⟩ (fun V hV => ?_)
  clear x0 x1 y3 B0 hW
  obtain ⟨B0, hW⟩ := hV
  have y5 : V.cell? ⟨w.heap.size, 5, none⟩ = some (.int .i64 lf) := B0.cell 5
  have y6 : V.cell? ⟨w.heap.size, 6, none⟩ = some (.int .i64 rt) := B0.cell 6
  go_wp2_with (go_at_call 112; refine (HU.out _).mono ?_; rintro e w5 ⟨rfl, rfl⟩)
  all_goals go_ret
  all_goals exact ⟨by rw [hR.out]; exact ret_int (by omega), hW⟩
set_option maxRecDepth 100000 in
set_option maxHeartbeats 4000000 in
theorem l27Safe_c (fd ft : Int) (s : ByteArray) (b off c : Nat) (p q wd lf rt ey : Int) (w : World) (hb : b < w.heap.size) (c0 : w.cell? ⟨b, off, none⟩ = some (.int .i64 p)) (c1 : w.cell? ⟨b, off + 1, none⟩ = some (.int .i64 q))
    (hp : -6 ≤ p ∧ p ≤ 6) (hq : -6 ≤ q ∧ q ≤ 6) (hlf : 100 ≤ lf ∧ lf ≤ 20000) (hrt : 100 ≤ rt ∧ rt ≤ 20000) (hey : 0 ≤ ey ∧ ey ≤ 200) :
    Calls Tryz.prog 92 #[.agg #[.int .i64 fd, .int .i64 ft, .string s, .slice (some ⟨b, off, none⟩) 2 c, .int .i64 wd, .int .i64 lf, .int .i64 rt], .int .i64 ey] w fun e w' => e = .returned (.int .i64 (safeF p q lf rt ey)) ∧ Below w.heap.size w w' := by
  have hW : Below w.heap.size w (w.alloc (.cells #[.int .i64 fd, .int .i64 ft, .string s, .slice (some ⟨b, off, none⟩) 2 c, .int .i64 wd, .int .i64 lf, .int .i64 rt] 53)) := (by repeat (first | with_reducible exact Below.refl _ _ | with_reducible apply below_drewN' | with_reducible apply Below.drew | (with_reducible refine Below.alloc ?_ (by first | omega | (simp; omega) | simp | (have := (Below.refl _ _).size; omega) | (have := (Below.refl _ _).size; simp; omega)) _) | (with_reducible refine Below.setCell ?_ (by first | omega | (simp; omega) | simp | (have := (Below.refl _ _).size; omega) | (have := (Below.refl _ _).size; simp; omega)) _) | exact Below.refl _ _))
  have B0 := Blk.new w 53 #[.int .i64 fd, .int .i64 ft, .string s, .slice (some ⟨b, off, none⟩) 2 c, .int .i64 wd, .int .i64 lf, .int .i64 rt]
  obtain ⟨hN, hD⟩ := safe_bd hlf hrt hey
  have hC := ceil_bd hN hD.1
  have wN : IntKind.i64.wrap ((2 + ey) * 1048576 * (lf + rt)) = (2 + ey) * 1048576 * (lf + rt) := IntWalk.i64_in _ (by omega)
  have wD : IntKind.i64.wrap (lf * rt) = lf * rt := IntWalk.i64_in _ (by omega)
  have HU := Lib.hid (fun W => l01Ceil_c ((2 + ey) * 1048576 * (lf + rt)) (lf * rt) W (by omega) (by omega))
  have HP := Lib.hid (fun W => l01Abs_c p W (by omega))
  have HQ := Lib.hid (fun W => l01Abs_c q W (by omega))
  have hR : Hid (safeF p q lf rt ey = -(-((2 + ey) * 1048576 * (lf + rt)) / (lf * rt)) + 3 * (max p (-p) + max q (-q) + 2) + 4) := Lib.hid rfl
  have hap : 0 ≤ max p (-p) ∧ max p (-p) ≤ 6 := by omega
  have haq : 0 ≤ max q (-q) ∧ max q (-q) ≤ 6 := by omega
  generalize safeF p q lf rt ey = res at *
  generalize hz : -(-((2 + ey) * 1048576 * (lf + rt)) / (lf * rt)) = z at *
  generalize max p (-p) = ap at *
  generalize max q (-q) = aq at *
  have x0 : (w.alloc (.cells #[.int .i64 fd, .int .i64 ft, .string s, .slice (some ⟨b, off, none⟩) 2 c, .int .i64 wd, .int .i64 lf, .int .i64 rt] 53)).cell? ⟨b, off, none⟩ = some (.int .i64 p) := (hW.cell (p := ⟨b, off, none⟩) hb).trans c0
  have x1 : (w.alloc (.cells #[.int .i64 fd, .int .i64 ft, .string s, .slice (some ⟨b, off, none⟩) 2 c, .int .i64 wd, .int .i64 lf, .int .i64 rt] 53)).cell? ⟨b, off + 1, none⟩ = some (.int .i64 q) := (hW.cell (p := ⟨b, off + 1, none⟩) hb).trans c1
  have y3 : (w.alloc (.cells #[.int .i64 fd, .int .i64 ft, .string s, .slice (some ⟨b, off, none⟩) 2 c, .int .i64 wd, .int .i64 lf, .int .i64 rt] 53)).cell? ⟨w.heap.size, 3, none⟩ = some (.slice (some ⟨b, off, none⟩) 2 c) := B0.cell 3
  have y5 : (w.alloc (.cells #[.int .i64 fd, .int .i64 ft, .string s, .slice (some ⟨b, off, none⟩) 2 c, .int .i64 wd, .int .i64 lf, .int .i64 rt] 53)).cell? ⟨w.heap.size, 5, none⟩ = some (.int .i64 lf) := B0.cell 5
  have y6 : (w.alloc (.cells #[.int .i64 fd, .int .i64 ft, .string s, .slice (some ⟨b, off, none⟩) 2 c, .int .i64 wd, .int .i64 lf, .int .i64 rt] 53)).cell? ⟨w.heap.size, 6, none⟩ = some (.int .i64 rt) := B0.cell 6
  clear c0 c1 hz
  go_enter Tryz.func92, Tryz.ntmps92
  go_wp2_with (first | (go_at_call 126; refine (HU.out _).mono ?_; rintro e w5 ⟨rfl, rfl⟩) | fail)
  clear HU wN wD hN hD B0
  go_quiet (first | (go_at_call 127; with_reducible refine Calls.quiet_of_same ((HP.out _).mono fun _ _ ⟨h1, h2⟩ => ⟨h1, h2.symm⟩)) | (go_at_call 127; with_reducible refine Calls.quiet_of_same ((HQ.out _).mono fun _ _ ⟨h1, h2⟩ => ⟨h1, h2.symm⟩)))
  go_wp2
  go_ret
  exact ⟨by rw [hR.out]; rfl, by first | exact below_drewN' hW _ | exact hW.drew | exact hW⟩
def Rl.kept (r : Rl) : Bool := match r.l with
  | [p, q] => decide (safeF p q r.lf r.rt r.ey ≤ r.bo)
  | _ => false
theorem Rl.parts {r : Rl} (h : r.b = true) : (100 ≤ r.lf ∧ r.lf ≤ 20000) ∧ (100 ≤ r.rt ∧ r.rt ≤ 20000) ∧ (0 ≤ r.ey ∧ r.ey ≤ 200) ∧ ∃ p q, r.l = [p, q] ∧ (-6 ≤ p ∧ p ≤ 6) ∧ (-6 ≤ q ∧ q ≤ 6) := by
  unfold Rl.b relB at h
  simp only [Bool.and_eq_true, inB_true] at h
  obtain ⟨⟨⟨⟨⟨hc, _⟩, hey, _⟩, _⟩, _⟩, _⟩ := h
  obtain ⟨_, _, _, hlf, hrt, p, q, hl, hp, hq⟩ := chart_parts hc
  exact ⟨hlf, hrt, hey, p, q, hl, hp, hq⟩
set_option maxRecDepth 100000 in
set_option maxHeartbeats 4000000 in
theorem implIsKept_c (r : Rl) (A : Option Addr) (c : Nat) (w : World) (E : RlIn w A c r) (hb : r.b = true) : Calls Tryz.prog 42 #[.agg (r.cells A c).toArray] w fun e w' => e = .returned (.tuple #[.bool r.kept, .int .i64 0]) ∧ Below w.heap.size w w' := by
  obtain ⟨hlf, hrt, hey, p, q, hl, hp, hq⟩ := Rl.parts hb
  have hR : Hid (r.kept = decide (safeF p q r.lf r.rt r.ey ≤ r.bo)) := Lib.hid (by unfold Rl.kept; rw [hl])
  have HI := Lib.hid (fun W (hW : Below w.heap.size w W) => (by have h := implIsRl_c r A c W (E.later hW); rw [hb] at h; exact h : Calls Tryz.prog 79 #[.agg (r.cells A c).toArray] W fun e w' => e = .returned (.bool true) ∧ Below W.heap.size W w'))
  have hs := E.s
  rw [hl] at hs
  obtain ⟨b, off, rfl, hbB, hx⟩ := hs.at_ (i := 0) (by simp)
  obtain ⟨b1, off1, h1, _, hx1⟩ := hs.at_ (i := 1) (by simp)
  obtain ⟨rfl, rfl⟩ : b = b1 ∧ off = off1 := by simpa using h1
  have c0 : w.cell? ⟨b, off, none⟩ = some (.int .i64 p) := by simpa using hx 0 _ rfl
  have c1 : w.cell? ⟨b, off + 1, none⟩ = some (.int .i64 q) := by simpa using hx1 0 _ rfl
  have HS := Lib.hid (fun W (hW : Below w.heap.size w W) => safeBound_c r.fd r.ft r.nm b off c p q r.wd r.lf r.rt r.ey W (Nat.lt_of_lt_of_le hbB hW.size) ((hW.cell (p := ⟨b, off, none⟩) hbB).trans c0) ((hW.cell (p := ⟨b, off + 1, none⟩) hbB).trans c1) hp hq hlf hrt hey)
  have hW : Below w.heap.size w (w.alloc (.cells (r.cells (some ⟨b, off, none⟩) c).toArray 55)) := (by repeat (first | with_reducible exact Below.refl _ _ | with_reducible apply below_drewN' | with_reducible apply Below.drew | (with_reducible refine Below.alloc ?_ (by first | omega | (simp; omega) | simp | (have := (Below.refl _ _).size; omega) | (have := (Below.refl _ _).size; simp; omega)) _) | (with_reducible refine Below.setCell ?_ (by first | omega | (simp; omega) | simp | (have := (Below.refl _ _).size; omega) | (have := (Below.refl _ _).size; simp; omega)) _) | exact Below.refl _ _))
  have B0 := Blk.new w 55 (r.cells (some ⟨b, off, none⟩) c).toArray
  have HB : Hid (∀ W, Blk W w.heap.size 55 (r.cells (some ⟨b, off, none⟩) c).toArray → W.rangeAt w.heap.size 0 [.int .i64 r.fd, .int .i64 r.ft, .string r.nm, .slice (some ⟨b, off, none⟩) 2 c, .int .i64 r.wd, .int .i64 r.lf, .int .i64 r.rt] ∧ W.cell? ⟨w.heap.size, 15, none⟩ = some (.int .i64 r.ey) ∧ W.cell? ⟨w.heap.size, 16, none⟩ = some (.int .i64 r.bo)) := Lib.hid (fun W h => by
    have h2 := h
    unfold Rl.cells at h2
    rw [hl] at h2
    exact ⟨Blk.part (xs := []) (ys := [.int .i64 r.lud, .int .i64 r.lut, .int .i64 r.hud, .int .i64 r.hut, .int .i64 r.lvd, .int .i64 r.lvt, .int .i64 r.hvd, .int .i64 r.hvt, .int .i64 r.ey, .int .i64 r.bo]) h2 rfl, h.cell 15, h.cell 16⟩)
  have hr := B0.range
  have hcl : (r.cells (some ⟨b, off, none⟩) c).length = 17 := rfl
  clear hl hs hx hx1 h1 c0 c1 hlf hrt hey hp hq hb E
  generalize r.kept = kb at *
  generalize safeF p q r.lf r.rt r.ey = sf at *
  generalize r.cells (some ⟨b, off, none⟩) c = cs at *
  generalize r.ey = ey at *
  generalize r.bo = bo at *
  go_enter Tryz.func42, Tryz.ntmps42
  go_wp2_with (first | (refine wpList_load_mid rfl 55 _ rfl (w.heap.size) 0 rfl (cs) _ hr Tryz.underlying55 rfl (by kernel_rfl) ?_) | fail)
  generalize w.alloc (.cells cs.toArray 55) = W at *
  clear hr
  refine Calls.mono (HI.out W hW) ?_; rintro e w1 ⟨rfl, hb1⟩
  replace B0 := B0.below hb1 B0.lt
  replace hW := hW.trans (hb1.mono hW.size)
  clear hb1
  obtain ⟨y0, y1, y2⟩ := HB.out _ B0
  have hd : decide (bo ≥ sf) = kb := by rw [hR.out]
  have hB0 := B0.lt
  go_wp2_with fail
  refine wp_region_all (fun a0 fL bA v => ∃ v7 v8 v9 v10 v11 v12 v13 v14 v2 v3 : Value, bA = (((((((((a0.put (some 7) v7).put (some 8) v8).put (some 9) v9).put (some 10) v10).put (some 11) v11).put (some 12) v12).put (some 13) v13).put (some 14) v14).put (some 2) v2).put (some 3) v3 ∧ (Below w1.heap.size w1 v) ∧ (fL 0 = true → v7 = .pointer (some ⟨w.heap.size, 16, none⟩)) ∧ (fL 1 = true → v8 = .int .i64 bo) ∧ (fL 2 = true → v9 = .pointer (some ⟨w.heap.size, 0, none⟩)) ∧ (fL 3 = true → v10 = .agg #[.int .i64 r.fd, .int .i64 r.ft, .string r.nm, .slice (some ⟨b, off, none⟩) 2 c, .int .i64 r.wd, .int .i64 r.lf, .int .i64 r.rt]) ∧ (fL 4 = true → v11 = .pointer (some ⟨w.heap.size, 15, none⟩)) ∧ (fL 5 = true → v12 = .int .i64 ey) ∧ (fL 6 = true → v13 = .int .i64 sf) ∧ (fL 7 = true → v14 = .bool kb) ∧ (fL 8 = true → v2 = .bool kb) ∧ (fL 9 = true → v3 = .int .i64 0)) (by kernel_rfl) (by decide +kernel) ?_ ?_ ?_
  · exact ⟨_, _, _, _, _, _, _, _, _, _, put_more (put_more (put_more (put_more (put_more (put_more (put_more (put_more (put_more (put_more (rfl) 7) 8) 9) 10) 11) 12) 13) 14) 2) 3, (Below.refl _ _).drew, nofun, nofun, nofun, nofun, nofun, nofun, nofun, nofun, nofun, nofun⟩
  · rintro fL bA v ⟨v7, v8, v9, v10, v11, v12, v13, v14, v2, v3, rfl, hS, q0, q1, q2, q3, q4, q5, q6, q7, q8, q9⟩ i hi hf o ho hall
    simp only [Act.put, List.setIfInBounds_toArray, List.set_cons_zero, List.set_cons_succ]
    simp only [List.length_cons, List.length_nil] at hi
    have hn : i = 0 ∨ i = 1 ∨ i = 2 ∨ i = 3 ∨ i = 4 ∨ i = 5 ∨ i = 6 ∨ i = 7 ∨ i = 8 ∨ i = 9 := by omega
    clear hi
    rcases hn with rfl | rfl | rfl | rfl | rfl | rfl | rfl | rfl | rfl | rfl
    · obtain rfl := Option.some.inj ho
      clear hall ho
      refine wpOp_step rfl (fun K hK => ?_)
      go_simp
      exact hK _ _ ⟨_, _, _, _, _, _, _, _, _, _, rfl, hS, fun _ => rfl, q1, q2, q3, q4, q5, q6, q7, q8, q9⟩
    · obtain rfl := Option.some.inj ho
      obtain rfl := q0 (hall ⟨0, .data⟩ (by simp) rfl)
      have z := (hS.cell (p := ⟨w.heap.size, 16, none⟩) hB0).trans y2
      clear hall ho
      refine wpOp_step rfl (fun K hK => ?_)
      go_simp
      exact hK _ _ ⟨_, _, _, _, _, _, _, _, _, _, rfl, hS, fun _ => rfl, fun _ => rfl, q2, q3, q4, q5, q6, q7, q8, q9⟩
    · obtain rfl := Option.some.inj ho
      clear hall ho
      refine wpOp_step rfl (fun K hK => ?_)
      go_simp
      exact hK _ _ ⟨_, _, _, _, _, _, _, _, _, _, rfl, hS, q0, q1, fun _ => rfl, q3, q4, q5, q6, q7, q8, q9⟩
    · obtain rfl := Option.some.inj ho
      obtain rfl := q2 (hall ⟨2, .data⟩ (by simp) rfl)
      clear hall ho
      refine wpOp_step rfl (fun K hK => ?_)
      refine wp_load_mid 53 _ rfl w.heap.size 0 rfl [.int .i64 r.fd, .int .i64 r.ft, .string r.nm, .slice (some ⟨b, off, none⟩) 2 c, .int .i64 r.wd, .int .i64 r.lf, .int .i64 r.rt] _ (rangeAt_below y0 hS hB0) Tryz.underlying53 rfl (by kernel_rfl) ?_
      exact hK _ _ ⟨_, _, _, _, _, _, _, _, _, _, rfl, hS, q0, q1, fun _ => rfl, fun _ => rfl, q4, q5, q6, q7, q8, q9⟩
    · obtain rfl := Option.some.inj ho
      clear hall ho
      refine wpOp_step rfl (fun K hK => ?_)
      go_simp
      exact hK _ _ ⟨_, _, _, _, _, _, _, _, _, _, rfl, hS, q0, q1, q2, q3, fun _ => rfl, q5, q6, q7, q8, q9⟩
    · obtain rfl := Option.some.inj ho
      obtain rfl := q4 (hall ⟨4, .data⟩ (by simp) rfl)
      have z := (hS.cell (p := ⟨w.heap.size, 15, none⟩) hB0).trans y1
      clear hall ho
      refine wpOp_step rfl (fun K hK => ?_)
      go_simp
      exact hK _ _ ⟨_, _, _, _, _, _, _, _, _, _, rfl, hS, q0, q1, q2, q3, fun _ => rfl, fun _ => rfl, q6, q7, q8, q9⟩
    · obtain rfl := Option.some.inj ho
      obtain rfl := q3 (hall ⟨3, .data⟩ (by simp) rfl)
      obtain rfl := q5 (hall ⟨5, .data⟩ (by simp) rfl)
      clear hall ho
      refine wpOp_step rfl (fun K hK => ?_)
      go_simp
      refine Calls.mono ((HS.out v (hW.trans (hS.mono hW.size)))) ?_; rintro e w1 ⟨rfl, hb1⟩
      go_simp
      exact hK _ _ ⟨_, _, _, _, _, _, _, _, _, _, rfl, hS.trans (hb1.mono hS.size), q0, q1, q2, fun _ => rfl, q4, fun _ => rfl, fun _ => rfl, q7, q8, q9⟩
    · obtain rfl := Option.some.inj ho
      obtain rfl := q1 (hall ⟨1, .data⟩ (by simp) rfl)
      obtain rfl := q6 (hall ⟨6, .data⟩ (by simp) rfl)
      clear hall ho
      refine wpOp_step rfl (fun K hK => ?_)
      go_simp
      exact hK _ _ ⟨_, _, _, _, _, _, _, _, _, _, rfl, hS, q0, fun _ => rfl, q2, q3, q4, q5, fun _ => rfl, fun _ => rfl, q8, q9⟩
    · obtain rfl := Option.some.inj ho
      obtain rfl := q7 (hall ⟨7, .data⟩ (by simp) rfl)
      clear hall ho
      refine wpOp_step rfl (fun K hK => ?_)
      go_simp
      exact hK _ _ ⟨_, _, _, _, _, _, _, _, _, _, rfl, hS, q0, q1, q2, q3, q4, q5, q6, fun _ => rfl, fun _ => rfl, q9⟩
    · obtain rfl := Option.some.inj ho
      clear hall ho
      refine wpOp_step rfl (fun K hK => ?_)
      go_simp
      exact hK _ _ ⟨_, _, _, _, _, _, _, _, _, _, rfl, hS, q0, q1, q2, q3, q4, q5, q6, q7, q8, fun _ => rfl⟩
  · rintro fL bA v ⟨v7, v8, v9, v10, v11, v12, v13, v14, v2, v3, rfl, hS, q0, q1, q2, q3, q4, q5, q6, q7, q8, q9⟩ hall
    simp only [Act.put, List.setIfInBounds_toArray, List.set_cons_zero, List.set_cons_succ]
    simp only [List.length_cons, List.length_nil] at hall
    obtain rfl := q0 (hall 0 (by omega))
    obtain rfl := q1 (hall 1 (by omega))
    obtain rfl := q2 (hall 2 (by omega))
    obtain rfl := q3 (hall 3 (by omega))
    obtain rfl := q4 (hall 4 (by omega))
    obtain rfl := q5 (hall 5 (by omega))
    obtain rfl := q6 (hall 6 (by omega))
    obtain rfl := q7 (hall 7 (by omega))
    obtain rfl := q8 (hall 8 (by omega))
    obtain rfl := q9 (hall 9 (by omega))
    clear hall
    go_wp2
    go_ret2
    exact ⟨rfl, hW.trans (hS.mono hW.size)⟩
set_option maxRecDepth 100000 in
set_option maxHeartbeats 4000000 in
theorem specIsKept_c (r : Rl) (A : Option Addr) (c : Nat) (w : World) (E : RlIn w A c r) (hb : r.b = true) : Calls Tryz.prog 62 #[.agg (r.cells A c).toArray] w fun e w' => e = .returned (.tuple #[.bool r.kept, .int .i64 0]) ∧ Below w.heap.size w w' := by
  obtain ⟨hlf, hrt, hey, p, q, hl, hp, hq⟩ := Rl.parts hb
  have hR : Hid (r.kept = decide (safeF p q r.lf r.rt r.ey ≤ r.bo)) := Lib.hid (by unfold Rl.kept; rw [hl])
  have HI := Lib.hid (fun W (hW : Below w.heap.size w W) => (by have h := specIsRl_c r A c W (E.later hW); rw [hb] at h; exact h : Calls Tryz.prog 84 #[.agg (r.cells A c).toArray] W fun e w' => e = .returned (.bool true) ∧ Below W.heap.size W w'))
  have hs := E.s
  rw [hl] at hs
  obtain ⟨b, off, rfl, hbB, hx⟩ := hs.at_ (i := 0) (by simp)
  obtain ⟨b1, off1, h1, _, hx1⟩ := hs.at_ (i := 1) (by simp)
  obtain ⟨rfl, rfl⟩ : b = b1 ∧ off = off1 := by simpa using h1
  have c0 : w.cell? ⟨b, off, none⟩ = some (.int .i64 p) := by simpa using hx 0 _ rfl
  have c1 : w.cell? ⟨b, off + 1, none⟩ = some (.int .i64 q) := by simpa using hx1 0 _ rfl
  have HS := Lib.hid (fun W (hW : Below w.heap.size w W) => l27Safe_c r.fd r.ft r.nm b off c p q r.wd r.lf r.rt r.ey W (Nat.lt_of_lt_of_le hbB hW.size) ((hW.cell (p := ⟨b, off, none⟩) hbB).trans c0) ((hW.cell (p := ⟨b, off + 1, none⟩) hbB).trans c1) hp hq hlf hrt hey)
  have hW : Below w.heap.size w (w.alloc (.cells (r.cells (some ⟨b, off, none⟩) c).toArray 55)) := (by repeat (first | with_reducible exact Below.refl _ _ | with_reducible apply below_drewN' | with_reducible apply Below.drew | (with_reducible refine Below.alloc ?_ (by first | omega | (simp; omega) | simp | (have := (Below.refl _ _).size; omega) | (have := (Below.refl _ _).size; simp; omega)) _) | (with_reducible refine Below.setCell ?_ (by first | omega | (simp; omega) | simp | (have := (Below.refl _ _).size; omega) | (have := (Below.refl _ _).size; simp; omega)) _) | exact Below.refl _ _))
  have B0 := Blk.new w 55 (r.cells (some ⟨b, off, none⟩) c).toArray
  have HB : Hid (∀ W, Blk W w.heap.size 55 (r.cells (some ⟨b, off, none⟩) c).toArray → W.rangeAt w.heap.size 0 [.int .i64 r.fd, .int .i64 r.ft, .string r.nm, .slice (some ⟨b, off, none⟩) 2 c, .int .i64 r.wd, .int .i64 r.lf, .int .i64 r.rt] ∧ W.cell? ⟨w.heap.size, 15, none⟩ = some (.int .i64 r.ey) ∧ W.cell? ⟨w.heap.size, 16, none⟩ = some (.int .i64 r.bo)) := Lib.hid (fun W h => by
    have h2 := h
    unfold Rl.cells at h2
    rw [hl] at h2
    exact ⟨Blk.part (xs := []) (ys := [.int .i64 r.lud, .int .i64 r.lut, .int .i64 r.hud, .int .i64 r.hut, .int .i64 r.lvd, .int .i64 r.lvt, .int .i64 r.hvd, .int .i64 r.hvt, .int .i64 r.ey, .int .i64 r.bo]) h2 rfl, h.cell 15, h.cell 16⟩)
  have hr := B0.range
  have hcl : (r.cells (some ⟨b, off, none⟩) c).length = 17 := rfl
  clear hl hs hx hx1 h1 c0 c1 hlf hrt hey hp hq hb E
  generalize r.kept = kb at *
  generalize safeF p q r.lf r.rt r.ey = sf at *
  generalize r.cells (some ⟨b, off, none⟩) c = cs at *
  generalize r.ey = ey at *
  generalize r.bo = bo at *
  go_enter Tryz.func62, Tryz.ntmps62
  go_wp2_with (first | (refine wpList_load_mid rfl 55 _ rfl (w.heap.size) 0 rfl (cs) _ hr Tryz.underlying55 rfl (by kernel_rfl) ?_) | fail)
  generalize w.alloc (.cells cs.toArray 55) = W at *
  clear hr
  refine Calls.mono (HI.out W hW) ?_; rintro e w1 ⟨rfl, hb1⟩
  replace B0 := B0.below hb1 B0.lt
  replace hW := hW.trans (hb1.mono hW.size)
  clear hb1
  obtain ⟨y0, y1, y2⟩ := HB.out _ B0
  have hd : decide (bo ≥ sf) = kb := by rw [hR.out]
  have hB0 := B0.lt
  go_wp2_with fail
  refine wp_region_all (fun a0 fL bA v => ∃ v7 v8 v9 v10 v11 v12 v13 v14 v2 v3 : Value, bA = (((((((((a0.put (some 7) v7).put (some 8) v8).put (some 9) v9).put (some 10) v10).put (some 11) v11).put (some 12) v12).put (some 13) v13).put (some 14) v14).put (some 2) v2).put (some 3) v3 ∧ (Below w1.heap.size w1 v) ∧ (fL 0 = true → v7 = .pointer (some ⟨w.heap.size, 16, none⟩)) ∧ (fL 1 = true → v8 = .int .i64 bo) ∧ (fL 2 = true → v9 = .pointer (some ⟨w.heap.size, 0, none⟩)) ∧ (fL 3 = true → v10 = .agg #[.int .i64 r.fd, .int .i64 r.ft, .string r.nm, .slice (some ⟨b, off, none⟩) 2 c, .int .i64 r.wd, .int .i64 r.lf, .int .i64 r.rt]) ∧ (fL 4 = true → v11 = .pointer (some ⟨w.heap.size, 15, none⟩)) ∧ (fL 5 = true → v12 = .int .i64 ey) ∧ (fL 6 = true → v13 = .int .i64 sf) ∧ (fL 7 = true → v14 = .bool kb) ∧ (fL 8 = true → v2 = .bool kb) ∧ (fL 9 = true → v3 = .int .i64 0)) (by kernel_rfl) (by decide +kernel) ?_ ?_ ?_
  · exact ⟨_, _, _, _, _, _, _, _, _, _, put_more (put_more (put_more (put_more (put_more (put_more (put_more (put_more (put_more (put_more (rfl) 7) 8) 9) 10) 11) 12) 13) 14) 2) 3, (Below.refl _ _).drew, nofun, nofun, nofun, nofun, nofun, nofun, nofun, nofun, nofun, nofun⟩
  · rintro fL bA v ⟨v7, v8, v9, v10, v11, v12, v13, v14, v2, v3, rfl, hS, q0, q1, q2, q3, q4, q5, q6, q7, q8, q9⟩ i hi hf o ho hall
    simp only [Act.put, List.setIfInBounds_toArray, List.set_cons_zero, List.set_cons_succ]
    simp only [List.length_cons, List.length_nil] at hi
    have hn : i = 0 ∨ i = 1 ∨ i = 2 ∨ i = 3 ∨ i = 4 ∨ i = 5 ∨ i = 6 ∨ i = 7 ∨ i = 8 ∨ i = 9 := by omega
    clear hi
    rcases hn with rfl | rfl | rfl | rfl | rfl | rfl | rfl | rfl | rfl | rfl
    · obtain rfl := Option.some.inj ho
      clear hall ho
      refine wpOp_step rfl (fun K hK => ?_)
      go_simp
      exact hK _ _ ⟨_, _, _, _, _, _, _, _, _, _, rfl, hS, fun _ => rfl, q1, q2, q3, q4, q5, q6, q7, q8, q9⟩
    · obtain rfl := Option.some.inj ho
      obtain rfl := q0 (hall ⟨0, .data⟩ (by simp) rfl)
      have z := (hS.cell (p := ⟨w.heap.size, 16, none⟩) hB0).trans y2
      clear hall ho
      refine wpOp_step rfl (fun K hK => ?_)
      go_simp
      exact hK _ _ ⟨_, _, _, _, _, _, _, _, _, _, rfl, hS, fun _ => rfl, fun _ => rfl, q2, q3, q4, q5, q6, q7, q8, q9⟩
    · obtain rfl := Option.some.inj ho
      clear hall ho
      refine wpOp_step rfl (fun K hK => ?_)
      go_simp
      exact hK _ _ ⟨_, _, _, _, _, _, _, _, _, _, rfl, hS, q0, q1, fun _ => rfl, q3, q4, q5, q6, q7, q8, q9⟩
    · obtain rfl := Option.some.inj ho
      obtain rfl := q2 (hall ⟨2, .data⟩ (by simp) rfl)
      clear hall ho
      refine wpOp_step rfl (fun K hK => ?_)
      refine wp_load_mid 53 _ rfl w.heap.size 0 rfl [.int .i64 r.fd, .int .i64 r.ft, .string r.nm, .slice (some ⟨b, off, none⟩) 2 c, .int .i64 r.wd, .int .i64 r.lf, .int .i64 r.rt] _ (rangeAt_below y0 hS hB0) Tryz.underlying53 rfl (by kernel_rfl) ?_
      exact hK _ _ ⟨_, _, _, _, _, _, _, _, _, _, rfl, hS, q0, q1, fun _ => rfl, fun _ => rfl, q4, q5, q6, q7, q8, q9⟩
    · obtain rfl := Option.some.inj ho
      clear hall ho
      refine wpOp_step rfl (fun K hK => ?_)
      go_simp
      exact hK _ _ ⟨_, _, _, _, _, _, _, _, _, _, rfl, hS, q0, q1, q2, q3, fun _ => rfl, q5, q6, q7, q8, q9⟩
    · obtain rfl := Option.some.inj ho
      obtain rfl := q4 (hall ⟨4, .data⟩ (by simp) rfl)
      have z := (hS.cell (p := ⟨w.heap.size, 15, none⟩) hB0).trans y1
      clear hall ho
      refine wpOp_step rfl (fun K hK => ?_)
      go_simp
      exact hK _ _ ⟨_, _, _, _, _, _, _, _, _, _, rfl, hS, q0, q1, q2, q3, fun _ => rfl, fun _ => rfl, q6, q7, q8, q9⟩
    · obtain rfl := Option.some.inj ho
      obtain rfl := q3 (hall ⟨3, .data⟩ (by simp) rfl)
      obtain rfl := q5 (hall ⟨5, .data⟩ (by simp) rfl)
      clear hall ho
      refine wpOp_step rfl (fun K hK => ?_)
      go_simp
      refine Calls.mono ((HS.out v (hW.trans (hS.mono hW.size)))) ?_; rintro e w1 ⟨rfl, hb1⟩
      go_simp
      exact hK _ _ ⟨_, _, _, _, _, _, _, _, _, _, rfl, hS.trans (hb1.mono hS.size), q0, q1, q2, fun _ => rfl, q4, fun _ => rfl, fun _ => rfl, q7, q8, q9⟩
    · obtain rfl := Option.some.inj ho
      obtain rfl := q1 (hall ⟨1, .data⟩ (by simp) rfl)
      obtain rfl := q6 (hall ⟨6, .data⟩ (by simp) rfl)
      clear hall ho
      refine wpOp_step rfl (fun K hK => ?_)
      go_simp
      exact hK _ _ ⟨_, _, _, _, _, _, _, _, _, _, rfl, hS, q0, fun _ => rfl, q2, q3, q4, q5, fun _ => rfl, fun _ => rfl, q8, q9⟩
    · obtain rfl := Option.some.inj ho
      obtain rfl := q7 (hall ⟨7, .data⟩ (by simp) rfl)
      clear hall ho
      refine wpOp_step rfl (fun K hK => ?_)
      go_simp
      exact hK _ _ ⟨_, _, _, _, _, _, _, _, _, _, rfl, hS, q0, q1, q2, q3, q4, q5, q6, fun _ => rfl, fun _ => rfl, q9⟩
    · obtain rfl := Option.some.inj ho
      clear hall ho
      refine wpOp_step rfl (fun K hK => ?_)
      go_simp
      exact hK _ _ ⟨_, _, _, _, _, _, _, _, _, _, rfl, hS, q0, q1, q2, q3, q4, q5, q6, q7, q8, fun _ => rfl⟩
  · rintro fL bA v ⟨v7, v8, v9, v10, v11, v12, v13, v14, v2, v3, rfl, hS, q0, q1, q2, q3, q4, q5, q6, q7, q8, q9⟩ hall
    simp only [Act.put, List.setIfInBounds_toArray, List.set_cons_zero, List.set_cons_succ]
    simp only [List.length_cons, List.length_nil] at hall
    obtain rfl := q0 (hall 0 (by omega))
    obtain rfl := q1 (hall 1 (by omega))
    obtain rfl := q2 (hall 2 (by omega))
    obtain rfl := q3 (hall 3 (by omega))
    obtain rfl := q4 (hall 4 (by omega))
    obtain rfl := q5 (hall 5 (by omega))
    obtain rfl := q6 (hall 6 (by omega))
    obtain rfl := q7 (hall 7 (by omega))
    obtain rfl := q8 (hall 8 (by omega))
    obtain rfl := q9 (hall 9 (by omega))
    clear hall
    go_wp2
    go_ret2
    exact ⟨rfl, hW.trans (hS.mono hW.size)⟩
end Go.Proofs.YtkjlakdjgpgekaaGreatDoor
namespace Go.Proofs.YtkjlakdjgpgekaaGreatDoor
open Go.RowKit
def keptAt (l : List En) (k : Nat) : Bool := match l[k]? with | some e => e.r.kept | none => false
def keptTo (l : List En) : Nat → List Int
  | 0 => []
  | k + 1 => if keptAt l k = true then keptTo l k ++ [(k : Int)] else keptTo l k
def keptR (l : List En) : List Int := if catB l = true then keptTo l l.length else []
def keptC (l : List En) : Int := if catB l = true then 0 else 1
theorem keptTo_len (l : List En) : ∀ k : Nat, (keptTo l k).length ≤ k
  | 0 => Nat.le_refl _
  | k + 1 => by
    have := keptTo_len l k
    unfold keptTo
    split
    · simp; omega
    · omega
theorem keptR_len (l : List En) : (keptR l).length ≤ l.length := by
  unfold keptR
  split
  · exact keptTo_len _ _
  · exact Nat.zero_le _
theorem keptAt_get {l : List En} {k : Nat} (h : k < l.length) : keptAt l k = l[k].r.kept := by
  unfold keptAt
  rw [List.getElem?_eq_getElem h]
theorem entB_rb {l : List En} {e : En} (h : entB l e = true) : e.r.b = true := by
  unfold entB at h
  simp only [Bool.and_eq_true] at h
  exact h.1.1.1.2
set_option maxRecDepth 100000 in
set_option maxHeartbeats 4000000 in
theorem implKeptEntries_c (A : Option Addr) (c : Nat) (es : List EnR) (w : World) (E : EnsIn w A es) (hc : es.length ≤ c) :
    Calls Tryz.prog 20 #[.slice A es.length c] w (PostRows 2 1 (keptR (ens es)).length ((keptR (ens es)).map ic) (keptC (ens es)) w) := by
  have hl := E.n
  have hs := E.s
  have hc' : Hid (es.length ≤ c) := hc
  have HC := Lib.hid (implIsCat_c A c es w E hc)
  have hR : Hid (keptR (ens es) = (if catB (ens es) = true then keptTo (ens es) es.length else []) ∧ keptC (ens es) = (if catB (ens es) = true then 0 else 1)) := Lib.hid (by unfold keptR keptC; rw [ens_len]; exact ⟨rfl, rfl⟩)
  have HK := Lib.hid (fun (hv : catB (ens es) = true) (k : Nat) (hk : k < es.length) W (hW : Below w.heap.size w W) => implIsKept_c es[k].e.r es[k].A es[k].c W ((E.i es[k] (List.getElem_mem hk)).r.later hW) (by
    have h := entB_rb (catB_at hv (k := k) (by rw [ens_len]; exact hk))
    rwa [ens_get hk] at h))
  have hds := Lib.hid (fun (k : Nat) (hk : k < es.length) => (by show (if keptAt (ens es) k = true then _ else _) = _; rw [keptAt_get (by rw [ens_len]; exact hk), ens_get hk] : keptTo (ens es) (k + 1) = if es[k].e.r.kept = true then keptTo (ens es) k ++ [(k : Int)] else keptTo (ens es) k))
  have hdl := Lib.hid (keptTo_len (ens es))
  have hd0 : Hid (keptTo (ens es) 0 = []) := Lib.hid rfl
  obtain ⟨ii, hi, hz0, hz1, hz2⟩ := info_parts info_Int
  clear E hc hc'
  generalize keptR (ens es) = R at *
  generalize keptC (ens es) = cd at *
  generalize keptTo (ens es) = dt at *
  generalize catB (ens es) = cb at *
  cases cb with
  | false =>
    obtain ⟨rfl, rfl⟩ := hR.out
    go_enter Tryz.func20, Tryz.ntmps20
    go_wp2_with fail
    refine Calls.mono HC.out ?_; rintro x w1 ⟨rfl, hb1⟩
    go_wp2
    go_ret2
    exact ⟨none, 0, rfl, Own.nil_, hb1⟩
  | true =>
  obtain ⟨hR1, hR2⟩ := hR.out
  rw [if_pos rfl] at hR1 hR2
  subst hR2
  replace hR1 := Lib.hid hR1
  replace HK := Lib.hid (HK.out rfl)
  clear hR
  go_enter Tryz.func20, Tryz.ntmps20
  go_wp2_with fail
  refine Calls.mono HC.out ?_; rintro x w1 ⟨rfl, hb1⟩
  have L0 : AppL w 2 ((dt 0).map ic) (.slice (some ⟨w1.heap.size, 0, none⟩) 0 0) (w1.alloc (.cells #[] 2)) := ⟨(by repeat (first | with_reducible exact hb1 | with_reducible apply below_drewN' | with_reducible apply Below.drew | (with_reducible refine Below.alloc ?_ (by first | omega | (simp; omega) | simp | (have := (hb1).size; omega) | (have := (hb1).size; simp; omega)) _) | (with_reducible refine Below.setCell ?_ (by first | omega | (simp; omega) | simp | (have := (hb1).size; omega) | (have := (hb1).size; simp; omega)) _) | exact hb1)), by rw [hd0.out]; exact Own.empty hb1.size⟩
  go_wp2_with fail
  go_loopw [4, 15] (fun o i wr => ∃ k : Nat, k ≤ es.length ∧ i = .int .i64 k ∧ AppL w 2 ((dt k).map ic) o wr) (fun _ i _ => es.length - (intOf i).toNat)
  case atStart => exact ⟨0, Nat.zero_le _, rfl, L0⟩
  case round =>
    clear L0
    obtain ⟨k, hk, rfl, hL⟩ := hrel
    by_cases hlt : k < es.length
    · have hnx := Lib.hid (hds.out k hlt)
      have hkl := Lib.hid (hdl.out k)
      obtain ⟨b, off, rfl, hbB, hc'⟩ := hs.rg (i := k) (by simpa using hlt)
      simp only [List.getElem_map] at hc'
      replace hc' := rangeAt_below hc' hL.hb hbB
      have hcl : es[k].cells.length = 20 := rfl
      have hlen : (es[k].e.r.cells es[k].A es[k].c).length = 17 := rfl
      have hon : ∀ v ∈ es[k].cells, v.oneCell' = true := es[k].e.one es[k].A es[k].c
      have D0 := Blk.new wr 57 es[k].cells.toArray
      obtain ⟨_, _, x2, _⟩ := Blk.en (e := es[k].e) D0
      have hbw : Below wr.heap.size wr (wr.alloc (.cells es[k].cells.toArray 57)) := (Below.refl _ _).alloc (Nat.le_refl _) _
      have hcall := Lib.hid (HK.out k hlt _ (hL.hb.trans (hbw.mono hL.hb.size)))
      replace hL := hL.below hbw
      clear D0 hbw
      generalize es[k].e.r.kept = kp at *
      generalize es[k].e.r.cells es[k].A es[k].c = rc at *
      generalize es[k].cells = cs at *
      go_wp2_with (first | (refine wpList_load_mid rfl 57 _ rfl (b) (off + k * 20) rfl (cs) _ hc' Tryz.underlying57 rfl (by kernel_rfl) ?_) | (refine wpList_store_new rfl _ _ rfl cs rfl rfl (by rw [hcl]; kernel_rfl) (by rw [hcl]; rfl) hon ?_) | (refine wpList_load_mid rfl 55 _ rfl wr.heap.size 2 rfl rc _ x2 Tryz.underlying55 rfl (by rw [hlen]; kernel_rfl) ?_) | fail)
      clear hc' x2
      generalize wr.alloc (.cells cs.toArray 57) = W at *
      refine Calls.mono hcall.out ?_; rintro x w2 ⟨rfl, hb2⟩
      replace hL := hL.below hb2
      clear hcall hb2
      cases kp with
      | true =>
        replace hnx : Hid (dt (k + 1) = dt k ++ [(k : Int)]) := Lib.hid (hnx.out.trans (if_pos (by first | rfl | trivial)))
        have hws := hL.hb.size
        go_wp2_with (at_builtin; refine wpList_append_rows _ rfl _ _ _ rfl w.heap.size 2 ii _ 1 8 Tryz.underlying24 hi hz0 hz1 hz2 rfl (by omega) _ _ rfl (hL.o.alloc _) _ _ _ _ ([(k : Int)].map ic) rfl rfl (Sl.blkInts (Blk.new w2 2 _) [(k : Int)] rfl) (ic_one (x := [(k : Int)])) (by simp; have := hkl.out; unfold maxLen; omega) (by simp; have := hkl.out; omega) (by first | omega | (simp only []; omega) | (simp; omega)) ?_; intro v1 w3 hO2 hg2 hat; have hL2 := (hL.alloc _).app hg2 hO2)
        go_roundw
        case rel => exact ⟨k + 1, by omega, by go_num, by rw [hnx.out, List.map_append]; exact hL2⟩
        case measure => simp [intOf]; omega
      | false =>
        replace hnx : Hid (dt (k + 1) = dt k) := Lib.hid (hnx.out.trans (if_neg (by simp)))
        go_wp2
        go_roundw
        case rel => exact ⟨k + 1, by omega, by go_num, by rw [hnx.out]; exact hL⟩
        case measure => simp [intOf]; omega
    · have : k = es.length := by omega
      subst this
      have hO := hL.o
      have hbw := hL.hb
      rw [← hR1.out] at hO
      obtain ⟨A9, c9, hv, _⟩ := hO.form
      rw [List.length_map] at hv
      subst hv
      clear hL
      go_wp2
      go_ret2
      exact ⟨A9, c9, rfl, hO, hbw⟩
set_option maxRecDepth 100000 in
set_option maxHeartbeats 4000000 in
theorem specKeptEntries_c (A : Option Addr) (c : Nat) (es : List EnR) (w : World) (E : EnsIn w A es) (hc : es.length ≤ c) :
    Calls Tryz.prog 19 #[.slice A es.length c] w (PostRows 2 1 (keptR (ens es)).length ((keptR (ens es)).map ic) (keptC (ens es)) w) := by
  have hl := E.n
  have hs := E.s
  have hc' : Hid (es.length ≤ c) := hc
  have HC := Lib.hid (specIsCat_c A c es w E)
  have hR : Hid (keptR (ens es) = (if catB (ens es) = true then keptTo (ens es) es.length else []) ∧ keptC (ens es) = (if catB (ens es) = true then 0 else 1)) := Lib.hid (by unfold keptR keptC; rw [ens_len]; exact ⟨rfl, rfl⟩)
  have HK := Lib.hid (fun (hv : catB (ens es) = true) (k : Nat) (hk : k < es.length) W (hW : Below w.heap.size w W) => specIsKept_c es[k].e.r es[k].A es[k].c W ((E.i es[k] (List.getElem_mem hk)).r.later hW) (by
    have h := entB_rb (catB_at hv (k := k) (by rw [ens_len]; exact hk))
    rwa [ens_get hk] at h))
  have hds := Lib.hid (fun (k : Nat) (hk : k < es.length) => (by show (if keptAt (ens es) k = true then _ else _) = _; rw [keptAt_get (by rw [ens_len]; exact hk), ens_get hk] : keptTo (ens es) (k + 1) = if es[k].e.r.kept = true then keptTo (ens es) k ++ [(k : Int)] else keptTo (ens es) k))
  have hdl := Lib.hid (keptTo_len (ens es))
  have hd0 : Hid (keptTo (ens es) 0 = []) := Lib.hid rfl
  obtain ⟨ii, hi, hz0, hz1, hz2⟩ := info_parts info_Int
  clear E hc hc'
  generalize keptR (ens es) = R at *
  generalize keptC (ens es) = cd at *
  generalize keptTo (ens es) = dt at *
  generalize catB (ens es) = cb at *
  cases cb with
  | false =>
    obtain ⟨rfl, rfl⟩ := hR.out
    go_enter Tryz.func19, Tryz.ntmps19
    go_wp2_with fail
    refine Calls.mono HC.out ?_; rintro x w1 ⟨rfl, hb1⟩
    go_wp2
    go_ret2
    exact ⟨none, 0, rfl, Own.nil_, hb1⟩
  | true =>
  obtain ⟨hR1, hR2⟩ := hR.out
  rw [if_pos rfl] at hR1 hR2
  subst hR2
  replace hR1 := Lib.hid hR1
  replace HK := Lib.hid (HK.out rfl)
  clear hR
  go_enter Tryz.func19, Tryz.ntmps19
  go_wp2_with fail
  refine Calls.mono HC.out ?_; rintro x w1 ⟨rfl, hb1⟩
  have L0 : AppL w 2 ((dt 0).map ic) (.slice (some ⟨w1.heap.size, 0, none⟩) 0 0) (w1.alloc (.cells #[] 2)) := ⟨(by repeat (first | with_reducible exact hb1 | with_reducible apply below_drewN' | with_reducible apply Below.drew | (with_reducible refine Below.alloc ?_ (by first | omega | (simp; omega) | simp | (have := (hb1).size; omega) | (have := (hb1).size; simp; omega)) _) | (with_reducible refine Below.setCell ?_ (by first | omega | (simp; omega) | simp | (have := (hb1).size; omega) | (have := (hb1).size; simp; omega)) _) | exact hb1)), by rw [hd0.out]; exact Own.empty hb1.size⟩
  go_wp2_with fail
  go_loopw [4, 5] (fun o i wr => ∃ k : Nat, k ≤ es.length ∧ i = .int .i64 k ∧ AppL w 2 ((dt k).map ic) o wr) (fun _ i _ => es.length - (intOf i).toNat)
  case atStart => exact ⟨0, Nat.zero_le _, rfl, L0⟩
  case round =>
    clear L0
    obtain ⟨k, hk, rfl, hL⟩ := hrel
    by_cases hlt : k < es.length
    · have hnx := Lib.hid (hds.out k hlt)
      have hkl := Lib.hid (hdl.out k)
      obtain ⟨b, off, rfl, hbB, hc'⟩ := hs.rg (i := k) (by simpa using hlt)
      simp only [List.getElem_map] at hc'
      replace hc' := rangeAt_below hc' hL.hb hbB
      have hcl : es[k].cells.length = 20 := rfl
      have hlen : (es[k].e.r.cells es[k].A es[k].c).length = 17 := rfl
      have hon : ∀ v ∈ es[k].cells, v.oneCell' = true := es[k].e.one es[k].A es[k].c
      have x2 : wr.rangeAt b (off + k * 20 + 2) (es[k].e.r.cells es[k].A es[k].c) := fun j v hv => by
        have hj : j < 17 := (List.getElem?_eq_some_iff.1 hv).1
        have h := hc' (2 + j) v (by
          show (([Value.string es[k].e.ti, .int .i64 es[k].e.ve] ++ es[k].e.r.cells es[k].A es[k].c) ++ [.int .i64 es[k].e.ba])[2 + j]? = some v
          rw [List.getElem?_append_left (by simp [Rl.len]; omega), List.getElem?_append_right (by simp), List.length_cons, List.length_cons, List.length_nil, Nat.zero_add, Nat.add_sub_cancel_left]
          exact hv)
        rw [Nat.add_assoc (off + k * 20)]
        exact h
      have hcall := Lib.hid (HK.out k hlt _ hL.hb)
      clear hc' hcl hon
      generalize es[k].e.r.kept = kp at *
      generalize es[k].e.r.cells es[k].A es[k].c = rc at *
      go_wp2_with (first | (refine wpList_load_mid rfl 55 _ rfl b (off + k * 20 + 2) rfl rc _ x2 Tryz.underlying55 rfl (by rw [hlen]; kernel_rfl) ?_) | fail)
      clear x2
      refine Calls.mono hcall.out ?_; rintro x w2 ⟨rfl, hb2⟩
      replace hL := hL.below hb2
      clear hcall hb2
      cases kp with
      | true =>
        replace hnx : Hid (dt (k + 1) = dt k ++ [(k : Int)]) := Lib.hid (hnx.out.trans (if_pos (by first | rfl | trivial)))
        have hws := hL.hb.size
        go_wp2_with (at_builtin; refine wpList_append_rows _ rfl _ _ _ rfl w.heap.size 2 ii _ 1 8 Tryz.underlying24 hi hz0 hz1 hz2 rfl (by omega) _ _ rfl (hL.o.alloc _) _ _ _ _ ([(k : Int)].map ic) rfl rfl (Sl.blkInts (Blk.new w2 2 _) [(k : Int)] rfl) (ic_one (x := [(k : Int)])) (by simp; have := hkl.out; unfold maxLen; omega) (by simp; have := hkl.out; omega) (by first | omega | (simp only []; omega) | (simp; omega)) ?_; intro v1 w3 hO2 hg2 hat; have hL2 := (hL.alloc _).app hg2 hO2)
        go_roundw
        case rel => exact ⟨k + 1, by omega, by go_num, by rw [hnx.out, List.map_append]; exact hL2⟩
        case measure => simp [intOf]; omega
      | false =>
        replace hnx : Hid (dt (k + 1) = dt k) := Lib.hid (hnx.out.trans (if_neg (by simp)))
        go_wp2
        go_roundw
        case rel => exact ⟨k + 1, by omega, by go_num, by rw [hnx.out]; exact hL⟩
        case measure => simp [intOf]; omega
    · have : k = es.length := by omega
      subst this
      have hO := hL.o
      have hbw := hL.hb
      rw [← hR1.out] at hO
      obtain ⟨A9, c9, hv, _⟩ := hO.form
      rw [List.length_map] at hv
      subst hv
      clear hL
      go_wp2
      go_ret2
      exact ⟨A9, c9, rfl, hO, hbw⟩
end Go.Proofs.YtkjlakdjgpgekaaGreatDoor
namespace Go.Proofs.YtkjlakdjgpgekaaGreatDoor
open Go.RowKit
set_option maxRecDepth 100000 in
set_option maxHeartbeats 4000000 in
theorem lawKeptEntries_c (A : Option Addr) (c : Nat) (es : List EnR)  (w : World) (hn : es.length ≤ 140737488351232) (hi : ∀ x ∈ es, x.Laid w) (hs : Sl w w.heap.size 20 A (es.map EnR.cells)) :
    Calls Tryz.prog 4 #[.slice A es.length c] w fun e w' => e = .returned (.bool true) ∧ Below w.heap.size w w' := by
  have HZ := Lib.hid (szEnS_c A c es 1048576 w hn hi hs (by omega))
  have hE : Hid ((es.length ≤ 1048576 ∧ ∀ e ∈ es, e.e.short) → EnsIn w A es) := Lib.hid (fun h => ⟨h.1, hs, fun e he => EnLaid.en (hi e he) (h.2 e he)⟩)
  have HS := Lib.hid (fun (A2 : Option Addr) (c2 : Nat) (fs : List EnR) W (F : EnsIn W A2 fs) (hc : fs.length ≤ c2) (hl : fs.length = es.length) (he : ens fs = ens es) => (by have h := specKeptEntries_c A2 c2 fs  W F hc; rw [he, hl] at h; exact h : Calls Tryz.prog 19 #[.slice A2 es.length c2] W (PostRows 2 1 (keptR (ens es)).length ((keptR (ens es)).map ic) (keptC (ens es)) W)))
  have HM := Lib.hid (fun (A2 : Option Addr) (c2 : Nat) (fs : List EnR) W (F : EnsIn W A2 fs) (hc : fs.length ≤ c2) (hl : fs.length = es.length) (he : ens fs = ens es) => (by have h := implKeptEntries_c A2 c2 fs  W F hc; rw [he, hl] at h; exact h : Calls Tryz.prog 20 #[.slice A2 es.length c2] W (PostRows 2 1 (keptR (ens es)).length ((keptR (ens es)).map ic) (keptC (ens es)) W)))
  have hlen := keptR_len (ens es)
  rw [ens_len] at hlen
  replace hlen := Lib.hid hlen
  clear hs hi
  generalize keptR (ens es) = R at *
  generalize keptC (ens es) = cd at *
  go_enter Tryz.func4, Tryz.ntmps4
  go_wp2_with fail
  refine Calls.mono HZ.out ?_; rintro e w1 ⟨⟨v, rfl, hv⟩, hb1⟩
  rcases hv with hv | ⟨hv0, _, hlen2⟩
  · go_wp2
    go_ret
    exact ⟨rfl, hb1⟩
  have hvn : ¬ v < 0 := by omega
  have E := Lib.hid (hE.out hlen2)
  have HT := Lib.hid (fun W (hW : Below w.heap.size w W) => toEnSO_c A c es W (E.out.later hW))
  have hRl : Hid (R.length ≤ 1048576) := Lib.hid (Nat.le_trans hlen.out E.out.n)
  clear hlen2 hE HZ hlen
  go_wp2_with fail
  refine Calls.mono (HT.out w1 hb1) ?_; rintro e w2 ⟨⟨v2, rfl, A2, c2, fs2, rfl, hl2, he2, hc2, F2, _, _, _⟩, hb2⟩
  have hW2 := hb1.trans (hb2.mono hb1.size)
  have H2 := Lib.hid (HS.out A2 c2 fs2 w2 F2 (by rw [hl2]; exact hc2) hl2 he2)
  clear hb1 hb2 F2 hl2 he2 HS
  go_wp2_with fail
  refine Calls.mono H2.out ?_; rintro e w3 ⟨Aw, cw, rfl, Ow, hb3⟩
  have hW3 := hW2.trans (hb3.mono hW2.size)
  have s23 := hb3.size
  have hOwl := own_lt' Ow
  clear hb3 H2
  go_wp2_with fail
  refine Calls.mono (HT.out w3 hW3) ?_; rintro e w4 ⟨⟨v4, rfl, A4, c4, fs4, rfl, hl4, he4, hc4, F4, O4, P4, D4⟩, hb4⟩
  have hW4 := hW3.trans (hb4.mono hW3.size)
  replace Ow := Ow.below hb4
  have s34 := hb4.size
  have H4 := Lib.hid (HM.out A4 c4 fs4 w4 F4 (by rw [hl4]; exact hc4) hl4 he4)
  replace P4 := Lib.hid P4
  replace D4 := Lib.hid D4
  replace F4 := Lib.hid F4
  replace O4 := Lib.hid O4
  replace hl4 := Lib.hid hl4
  replace he4 := Lib.hid he4
  clear hb4
  go_wp2_with fail
  refine Calls.mono H4.out ?_; rintro e w5 ⟨Ag, cg, rfl, Og, hb5⟩
  have hW5 := hW4.trans (hb5.mono hW4.size)
  replace Ow := Ow.below hb5
  have hB5 := hb5
  have hOgg := Og.ownGe
  clear hb5 H4
  go_wp2_with fail
  refine (eqInt64S_c Ag Aw cg cw R w5 (by have := hRl.out; omega) Og.sl Ow.sl).mono ?_; rintro e w6 ⟨rfl, hb6⟩
  have hW6 := hW5.trans (hb6.mono hW5.size)
  replace Ow := Ow.below hb6
  replace Og := Og.below hb6
  replace hB5 := hB5.trans (hb6.mono hB5.size)
  clear hb6
  go_wp2_with fail
  refine Calls.mono (HT.out w6 hW6) ?_; rintro e w7 ⟨⟨v7, rfl, A7, c7, fs7, rfl, hl7, he7, hc7, F7, _, _, _⟩, hb7⟩
  have hW7 := hW6.trans (hb7.mono hW6.size)
  replace Ow := Ow.below hb7
  replace Og := Og.below hb7
  replace hB5 := hB5.trans (hb7.mono hB5.size)
  have H7 := eqEnS_c A4 A7 c4 c7 fs4 fs7 w7 (F4.out.later hB5) F7 (by rw [he4.out, he7])
  rw [hl4.out, hl7] at H7
  replace H7 := Lib.hid H7
  clear F7 hl7 he7 hb7
  go_wp2_with fail
  refine Calls.mono H7.out ?_; rintro e w8 ⟨rfl, hb8⟩
  have hW8 := hW7.trans (hb8.mono hW7.size)
  replace Ow := Ow.below hb8
  replace Og := Og.below hb8
  replace hB5 := hB5.trans (hb8.mono hB5.size)
  have H8 := markEnS_c A4 c4 fs4 w3.heap.size w4.heap.size 1 w4 w8 (by omega) F4.out (by rw [hl4.out]; exact O4.out) P4.out D4.out (Nat.le_refl _) hB5
  rw [hl4.out] at H8
  replace H8 := Lib.hid H8
  clear hb8 H7 F4 O4 P4 D4
  go_wp2_with fail
  refine Calls.mono H8.out ?_; rintro e w9 ⟨n9, rfl, hn9, hk9⟩
  have s3 := hW3.size
  replace Ow := Ow.kb hk9 (fun x hx => by have := hOwl x hx; unfold Nb; omega)
  replace Og := Og.kb hk9 (fun x hx => by have := hOgg x hx; unfold Nb; omega)
  have hW9 := below_kb hW8 hk9 hW8.size (fun k hk => by unfold Nb; omega)
  have hn9' : ¬ n9 < 0 := by omega
  clear hk9 H8 hW8 hB5
  go_wp2_with fail
  refine (eqInt64S_c Ag Aw cg cw R w9 (by have := hRl.out; omega) Og.sl Ow.sl).mono ?_; rintro e w10 ⟨rfl, hb10⟩
  have hW10 := hW9.trans (hb10.mono hW9.size)
  replace Ow := Ow.below hb10
  replace Og := Og.below hb10
  clear hb10
  have HMk := markInt64B_c Ag cg w4.heap.size 1 (R.map ic) w10 (by omega) (by have := hRl.out; simp; omega) (by simpa using Og)
  rw [List.length_map] at HMk
  replace HMk := Lib.hid HMk
  go_wp2_with fail
  refine Calls.mono HMk.out ?_; rintro e w11 ⟨rfl, Og', hg11⟩
  have hown : ∀ x, (Value.slice Ag R.length cg).ownBlock = some x → w4.heap.size ≤ x := Og'.ownGe
  replace Ow := Ow.kept hg11 (by
    cases hb : (Value.slice Aw R.length cw).ownBlock with
    | none => exact .inl rfl
    | some x => exact .inr (fun e => by have := hOwl x hb; have := hown x e.symm; omega))
  have hW11 := hW10.grown hg11 hW10.size (fun x hx => by have := hown x hx; have := hW4.size; omega)
  clear hg11 HMk Og
  have HH := Lib.hid (fun W (hs : Sl W W.heap.size 1 Ag ((List.range R.length).map (markInt64 1))) => heldInt64S_c Ag R.length cg 1 W (by omega) (by have := hRl.out; omega) hs)
  have H11 := Lib.hid (HH.out w11 Og'.sl)
  have hq0 : ¬ (1 + (R.length : Int)) < 0 := by omega
  go_wp2_with fail
  refine Calls.mono H11.out ?_; rintro e w12 ⟨rfl, rfl⟩
  go_wp2_with fail
  refine Calls.mono (HT.out w11 hW11) ?_; rintro e w12 ⟨⟨v12, rfl, A12, c12, fs12, rfl, hl12, he12, hc12, F12, _, _, _⟩, hb12⟩
  have hW12 := hW11.trans (hb12.mono hW11.size)
  replace Ow := Ow.below hb12
  replace Og' := Og'.below hb12
  have H12 := Lib.hid (HM.out A12 c12 fs12 w12 F12 (by rw [hl12]; exact hc12) hl12 he12)
  clear hb12 F12 hl12 he12 HM H11
  go_wp2_with fail
  refine Calls.mono H12.out ?_; rintro e w13 ⟨Ah, ch, rfl, Oh, hb13⟩
  have hW13 := hW12.trans (hb13.mono hW12.size)
  replace Ow := Ow.below hb13
  replace Og' := Og'.below hb13
  clear hb13 H12
  go_wp2_with fail
  refine (eqInt64S_c Ah Aw ch cw R w13 (by have := hRl.out; omega) Oh.sl Ow.sl).mono ?_; rintro e w14 ⟨rfl, hb14⟩
  have hW14 := hW13.trans (hb14.mono hW13.size)
  replace Og' := Og'.below hb14
  clear hb14 Oh Ow
  have H14 := Lib.hid (HH.out w14 Og'.sl)
  go_wp2_with fail
  refine Calls.mono H14.out ?_; rintro e w15 ⟨rfl, rfl⟩
  go_wp2
  go_ret
  exact ⟨rfl, hW14⟩
end Go.Proofs.YtkjlakdjgpgekaaGreatDoor
