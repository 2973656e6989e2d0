/- The units of errors on ScaleC, and the number of settings of moves: the program's and the reference's. Conditions: the length and the errors are in range. -/
import Derived.Test.YtgkobjpoeajkdaaGreatRule
import Derived.Test.YtgkobjpoeajkdaaGreatMove
namespace Go.Proofs.YtgkobjpoeajkdaaGreat
open Go.RowKit
def totE (p q r : Int) : Int := 2 * p + q + r
/-- the units of errors on ScaleC of a rule -/
def unitsC (L p q r : Int) : Int := -(-(totE p q r * 1048576) / L)
theorem errors_bd {p q r : Int} (h : errorsB p q r = true) : (0 ≤ p ∧ p ≤ 200) ∧ (0 ≤ q ∧ q ≤ 200) ∧ (0 ≤ r ∧ r ≤ 200) := by
  simp only [errorsB, Bool.and_eq_true] at h
  exact ⟨inB_true.1 h.1.1, inB_true.1 h.1.2, inB_true.1 h.2⟩
theorem totalError_c (p q r : Int) (w : World) (h1 : 0 ≤ p ∧ p ≤ 200) (h2 : 0 ≤ q ∧ q ≤ 200) (h3 : 0 ≤ r ∧ r ≤ 200) :
    Calls Tryz.prog 251 #[.agg #[.int .i64 p, .int .i64 q, .int .i64 r]] w fun e w' => e = .returned (.int .i64 (totE p q r)) ∧ Below w.heap.size w w' := by
  unfold totE
  go_enter Tryz.func251, Tryz.ntmps251
  go_wp2
  go_ret
  exact ⟨rfl, (by repeat (first | with_reducible exact Below.refl _ _ | with_reducible apply below_drewN' | with_reducible apply Below.drew | (with_reducible refine Below.alloc ?_ (by first | omega | (simp; omega) | simp) _) | (with_reducible refine Below.setCell ?_ (by first | omega | (simp; omega) | simp) _) | exact Below.refl _ _))⟩
theorem l10Total_c (p q r : Int) (w : World) (h1 : 0 ≤ p ∧ p ≤ 200) (h2 : 0 ≤ q ∧ q ≤ 200) (h3 : 0 ≤ r ∧ r ≤ 200) :
    Calls Tryz.prog 245 #[.agg #[.int .i64 p, .int .i64 q, .int .i64 r]] w fun e w' => e = .returned (.int .i64 (totE p q r)) ∧ Below w.heap.size w w' := by
  unfold totE
  go_enter Tryz.func245, Tryz.ntmps245
  go_wp2
  go_ret
  exact ⟨rfl, (by repeat (first | with_reducible exact Below.refl _ _ | with_reducible apply below_drewN' | with_reducible apply Below.drew | (with_reducible refine Below.alloc ?_ (by first | omega | (simp; omega) | simp) _) | (with_reducible refine Below.setCell ?_ (by first | omega | (simp; omega) | simp) _) | exact Below.refl _ _))⟩
theorem decadesC_c (w : World) : Calls Tryz.prog 164 #[.int .i64 0] w fun e w' => e = .returned (.int .i64 1) ∧ Below w.heap.size w w' := by
  go_enter Tryz.func164, Tryz.ntmps164
  go_wp2
  go_ret
  exact ⟨rfl, (by repeat (first | with_reducible exact Below.refl _ _ | with_reducible apply below_drewN' | with_reducible apply Below.drew | (with_reducible refine Below.alloc ?_ (by first | omega | (simp; omega) | simp) _) | (with_reducible refine Below.setCell ?_ (by first | omega | (simp; omega) | simp) _) | exact Below.refl _ _))⟩
theorem l05DecadesC_c (w : World) : Calls Tryz.prog 246 #[.int .i64 0] w fun e w' => e = .returned (.int .i64 1) ∧ Below w.heap.size w w' := by
  go_enter Tryz.func246, Tryz.ntmps246
  go_wp2
  go_ret
  exact ⟨rfl, (by repeat (first | with_reducible exact Below.refl _ _ | with_reducible apply below_drewN' | with_reducible apply Below.drew | (with_reducible refine Below.alloc ?_ (by first | omega | (simp; omega) | simp) _) | (with_reducible refine Below.setCell ?_ (by first | omega | (simp; omega) | simp) _) | exact Below.refl _ _))⟩
theorem errorUnitsC_c (L p q r : Int) (w : World) (hL : 1 ≤ L ∧ L ≤ 100000) (h1 : 0 ≤ p ∧ p ≤ 200) (h2 : 0 ≤ q ∧ q ≤ 200) (h3 : 0 ≤ r ∧ r ≤ 200) :
    Calls Tryz.prog 224 #[.int .i64 0, .int .i64 L, .agg #[.int .i64 p, .int .i64 q, .int .i64 r]] w fun e w' => e = .returned (.int .i64 (unitsC L p q r)) ∧ Below w.heap.size w w' := by
  have HT := fun W => Lib.hid (totalError_c p q r W h1 h2 h3)
  have ht : 0 ≤ totE p q r ∧ totE p q r ≤ 800 := by unfold totE; omega
  unfold unitsC
  generalize totE p q r = t at *
  have HU := fun W => Lib.hid (up_c (t * 1048576) L W (by omega) (by omega))
  have HD := fun W => Lib.hid (decadesC_c W)
  go_enter Tryz.func224, Tryz.ntmps224
  go_wp2_with fail
  refine (HT _).out.mono ?_; rintro e w1 ⟨rfl, hb1⟩
  have hB1 : Below w.heap.size w w1 := ((Below.refl _ _).alloc (Nat.le_refl _) _).trans (hb1.mono (by simp))
  go_wp2_with fail
  refine (HD _).out.mono ?_; rintro e w2 ⟨rfl, hb2⟩
  have hB2 := hB1.trans (hb2.mono hB1.size)
  go_wp2_with fail
  refine (HU _).out.mono ?_; rintro e w3 ⟨rfl, rfl⟩
  go_wp2
  go_ret
  exact ⟨rfl, hB2⟩
theorem l10UnitsC_c (L p q r : Int) (w : World) (hL : 1 ≤ L ∧ L ≤ 100000) (h1 : 0 ≤ p ∧ p ≤ 200) (h2 : 0 ≤ q ∧ q ≤ 200) (h3 : 0 ≤ r ∧ r ≤ 200) :
    Calls Tryz.prog 215 #[.int .i64 0, .int .i64 L, .agg #[.int .i64 p, .int .i64 q, .int .i64 r]] w fun e w' => e = .returned (.int .i64 (unitsC L p q r)) ∧ Below w.heap.size w w' := by
  have HT := fun W => Lib.hid (l10Total_c p q r W h1 h2 h3)
  have ht : 0 ≤ totE p q r ∧ totE p q r ≤ 800 := by unfold totE; omega
  unfold unitsC
  generalize totE p q r = t at *
  have HU := fun W => Lib.hid (l01Ceil_c (t * 1048576) L W (by omega) (by omega))
  have HD := fun W => Lib.hid (l05DecadesC_c W)
  go_enter Tryz.func215, Tryz.ntmps215
  go_wp2_with fail
  refine (HT _).out.mono ?_; rintro e w1 ⟨rfl, hb1⟩
  have hB1 : Below w.heap.size w w1 := ((Below.refl _ _).alloc (Nat.le_refl _) _).trans (hb1.mono (by simp))
  go_wp2_with fail
  refine (HD _).out.mono ?_; rintro e w2 ⟨rfl, hb2⟩
  have hB2 := hB1.trans (hb2.mono hB1.size)
  go_wp2_with fail
  refine (HU _).out.mono ?_; rintro e w3 ⟨rfl, rfl⟩
  go_wp2
  go_ret
  exact ⟨rfl, hB2⟩
/-- how many of the first k moves want a figure -/
def setTo (l : List Move) (k : Nat) : Nat := ((l.take k).filter fun m => decide (m.kind ≤ 2)).length
theorem setTo_succ (l : List Move) {k : Nat} (hk : k < l.length) : setTo l (k + 1) = setTo l k + (if l[k].kind ≤ 2 then 1 else 0) := by
  unfold setTo
  rw [List.take_succ_eq_append_getElem hk, List.filter_append, List.length_append]
  congr 1
  by_cases h : l[k].kind ≤ 2 <;> simp [h]
theorem setTo_le (l : List Move) (k : Nat) : setTo l k ≤ k := by
  unfold setTo
  exact Nat.le_trans (List.length_filter_le _ _) (by rw [List.length_take]; omega)
set_option maxRecDepth 100000 in
set_option maxHeartbeats 400000 in
theorem countSettings_c (A : Option Addr) (c : Nat) (l : List Move) (w : World) (hl : l.length ≤ 140737488351232) (hs : Sl w w.heap.size 4 A (l.map Move.cells)) :
    Calls Tryz.prog 223 #[.slice A l.length c] w fun e w' => e = .returned (.int .i64 (setTo l l.length)) ∧ Below w.heap.size w w' := by
  go_enter Tryz.func223, Tryz.ntmps223
  go_wp2_with fail
  go_loopw [3, 8] (fun q i wr => ∃ k : Nat, k ≤ l.length ∧ i = .int .i64 k ∧ q = .int .i64 (setTo l k) ∧ Below w.heap.size w wr) (fun _ i _ => l.length - (intOf i).toNat)
  case atStart => exact ⟨0, Nat.zero_le _, rfl, rfl, Below.refl _ _⟩
  case round =>
    obtain ⟨k, hk, rfl, rfl, hb⟩ := hrel
    by_cases hlt : k < l.length
    · obtain ⟨b, off, rfl, hbB, hc⟩ := hs.at_ (i := k) (by simpa using hlt)
      simp only [List.getElem_map] at hc
      have c0 : wr.cell? ⟨b, off + k * 4, none⟩ = some (.int .i64 l[k].kind) := by rw [hb.cell hbB]; exact hc 0 _ rfl
      have c1 : wr.cell? ⟨b, off + k * 4 + 1, none⟩ = some (.int .i64 l[k].scale) := by rw [hb.cell hbB]; exact hc 1 _ rfl
      have c2 : wr.cell? ⟨b, off + k * 4 + 2, none⟩ = some (.int .i64 l[k].digits) := by rw [hb.cell hbB]; exact hc 2 _ rfl
      have c3 : wr.cell? ⟨b, off + k * 4 + 3, none⟩ = some (.int .i64 l[k].tens) := by rw [hb.cell hbB]; exact hc 3 _ rfl
      clear hc
      have hnx := setTo_succ l hlt
      have hle := setTo_le l k
      have hz := hb.size
      by_cases h2 : l[k].kind ≤ 2
      · rw [if_pos h2] at hnx
        have Hnx := Lib.hid hnx; clear hnx
        generalize setTo l k = u at *
        go_wp2
        go_roundw
        case rel => exact ⟨k + 1, by omega, by go_num, by rw [Hnx.out]; go_num, (by repeat (first | with_reducible exact hb | with_reducible apply below_drewN' | with_reducible apply Below.drew | (with_reducible refine Below.alloc ?_ (by first | omega | (simp; omega) | simp) _) | (with_reducible refine Below.setCell ?_ (by first | omega | (simp; omega) | simp) _) | exact hb))⟩
        case measure => simp [intOf]; omega
      · rw [if_neg h2] at hnx
        have Hnx := Lib.hid hnx; clear hnx
        generalize setTo l k = u at *
        go_wp2
        go_roundw
        case rel => exact ⟨k + 1, by omega, by go_num, by rw [Hnx.out]; rfl, (by repeat (first | with_reducible exact hb | with_reducible apply below_drewN' | with_reducible apply Below.drew | (with_reducible refine Below.alloc ?_ (by first | omega | (simp; omega) | simp) _) | (with_reducible refine Below.setCell ?_ (by first | omega | (simp; omega) | simp) _) | exact hb))⟩
        case measure => simp [intOf]; omega
    · have : k = l.length := by omega
      subst this
      go_wp2
      go_ret
      exact ⟨rfl, hb⟩
end Go.Proofs.YtgkobjpoeajkdaaGreat
