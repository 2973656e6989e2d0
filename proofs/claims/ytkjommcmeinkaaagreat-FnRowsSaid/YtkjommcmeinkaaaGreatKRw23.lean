/- RepairRow: the plain side, and the height of a number, walked. No condition. -/
import Derived.Test.YtkjommcmeinkaaaGreatKRw22
set_option linter.unusedSimpArgs false
namespace Go.Proofs.YtkjommcmeinkaaaGreat
open Go.RowKit
def tickH (n : Int) : Int := if n % 1000 = 0 then 4 else if n % 500 = 0 then 3 else if n % 100 = 0 then 2 else if n % 50 = 0 then 1 else 0
/-- a tick, repaired -/
def fixT (s n tol step : Int) (t : Tick) : Tick :=
  if misB s n t.mark t.place tol = true ∧ (meant s n t tol step).length = 1 then ⟨(meant s n t tol step).headD 0, t.place, tickH ((meant s n t tol step).headD 0)⟩ else t
def badT (s n tol step : Int) (t : Tick) : Bool := misB s n t.mark t.place tol && decide (100 < (meant s n t tol step).length)
def rrRes (s n : Int) (l : List Tick) (tol step : Int) : List Tick × List Int × Int :=
  if printCode s n l tol = 0 then (if inB step 10 1000 then (if l.any (badT s n tol step) then ([], [], 3) else (l.map (fixT s n tol step), misIdx s n tol (l.map (fixT s n tol step)), 0)) else ([], [], 2)) else ([], [], printCode s n l tol)
theorem meant_mem {s n : Int} {t : Tick} {tol step m : Int} (hst : 10 ≤ step ∧ step ≤ 1000) (hw : misB s n t.mark t.place tol = true) (hm : m ∈ meant s n t tol step) : misB s n m t.place tol = false ∧ (1000 ≤ m ∧ m ≤ 9999) ∧ m % step = 0 := by
  rw [meant_wrong hw] at hm
  obtain ⟨i, hi, hf, rfl⟩ := collect_mem.1 hm
  have h9 := (markM hst i).2 hi
  have hf1 := firstM_bd hst
  have h0 : 0 ≤ (i : Int) * step := Int.mul_nonneg (by omega) (by omega)
  refine ⟨by simpa using hf, ⟨by omega, h9⟩, ?_⟩
  rw [Int.add_mul_emod_self_right]
  exact firstM_dvd step
theorem head_mem {l : List Int} (h : l.length = 1) : l.headD 0 ∈ l := by
  match l, h with
  | [x], _ => simp
theorem fix_wrong {s n tol step : Int} {t : Tick} (hst : 10 ≤ step ∧ step ≤ 1000) : misB s n (fixT s n tol step t).mark (fixT s n tol step t).place tol = (misB s n t.mark t.place tol && !decide ((meant s n t tol step).length = 1)) := by
  unfold fixT
  cases hw : misB s n t.mark t.place tol
  · rw [if_neg (by simp), hw]; rfl
  · by_cases hl : (meant s n t tol step).length = 1
    · rw [if_pos ⟨rfl, hl⟩, decide_eq_true hl]
      simp only
      exact (meant_mem hst hw (head_mem hl)).1
    · rw [if_neg (fun h => hl h.2), hw, decide_eq_false hl]; rfl
theorem fix_same {s n tol step : Int} {t : Tick} (hw : misB s n t.mark t.place tol = false) : fixT s n tol step t = t := by
  unfold fixT
  rw [if_neg (by rw [hw]; simp)]
theorem mis_fix {s n tol step : Int} {l : List Tick} (hst : 10 ≤ step ∧ step ≤ 1000) {i : Nat} (hi : i < l.length) :
    misAt s n tol (l.map (fixT s n tol step)) i = (misB s n l[i].mark l[i].place tol && !decide ((meant s n l[i] tol step).length = 1)) := by
  rw [misAt_eq _ _ _ _ (by simpa using hi), List.getElem_map]
  exact fix_wrong hst
theorem rrRes_len (s n : Int) (l : List Tick) (tol step : Int) : (rrRes s n l tol step).1.length ≤ l.length ∧ (rrRes s n l tol step).2.1.length ≤ l.length := by
  unfold rrRes
  split
  · split
    · split
      · simp
      · have := misIdx_len s n tol (l.map (fixT s n tol step))
        simp at this ⊢
        exact this
    · simp
  · simp
set_option maxRecDepth 100000 in
set_option maxHeartbeats 800000 in
theorem l08Height_c (n : Int) (w : World) (hn : 1000 ≤ n ∧ n ≤ 9999) : Calls Tryz.prog 55 #[.int .i64 n] w fun e w' => e = .returned (.int .i64 (tickH n)) ∧ Below w.heap.size w w' := by
  obtain ⟨n1, n2⟩ := hn
  have HH : Hid (tickH n = if n % 1000 = 0 then 4 else if n % 500 = 0 then 3 else if n % 100 = 0 then 2 else if n % 50 = 0 then 1 else 0) := rfl
  have hb := Blk.new w 2 #[.int .i64 1000, .int .i64 500, .int .i64 100, .int .i64 50]
  have hB : Below w.heap.size w (w.alloc (.cells #[.int .i64 1000, .int .i64 500, .int .i64 100, .int .i64 50] 2)) := (by repeat (first | with_reducible exact Below.refl _ _ | with_reducible apply below_drewN' | with_reducible apply Below.drew | (with_reducible refine Below.alloc ?_ (by first | omega | (simp; omega) | simp | (have := (Below.refl _ _).size; omega) | (have := (Below.refl _ _).size; simp; omega)) _) | (with_reducible refine Below.setCell ?_ (by first | omega | (simp; omega) | simp | (have := (Below.refl _ _).size; omega) | (have := (Below.refl _ _).size; simp; omega)) _) | exact Below.refl _ _))
  go_enter Tryz.func55, Tryz.ntmps55
  go_wp2_with fail
  generalize w.alloc (.cells #[.int .i64 1000, .int .i64 500, .int .i64 100, .int .i64 50] 2) = W at *
  go_loopw [4] (fun i wr => Below w.heap.size w wr ∧ Blk wr w.heap.size 2 #[.int .i64 1000, .int .i64 500, .int .i64 100, .int .i64 50] ∧ ((i = .int .i64 0) ∨ (i = .int .i64 1 ∧ Hid (¬ n % 1000 = 0)) ∨ (i = .int .i64 2 ∧ Hid (¬ n % 1000 = 0 ∧ ¬ n % 500 = 0)) ∨ (i = .int .i64 3 ∧ Hid (¬ n % 1000 = 0 ∧ ¬ n % 500 = 0 ∧ ¬ n % 100 = 0)) ∨ (i = .int .i64 4 ∧ Hid (¬ n % 1000 = 0 ∧ ¬ n % 500 = 0 ∧ ¬ n % 100 = 0 ∧ ¬ n % 50 = 0)))) (fun i _ => (5 - intOf i).toNat)
  case atStart => exact ⟨hB, hb, .inl rfl⟩
  case round =>
    obtain ⟨hbw, hbk, hi⟩ := hrel
    have c0 : wr.cell? ⟨w.heap.size, 0, none⟩ = some (.int .i64 1000) := hbk.cell 0
    have c1 : wr.cell? ⟨w.heap.size, 1, none⟩ = some (.int .i64 500) := hbk.cell 1
    have c2 : wr.cell? ⟨w.heap.size, 2, none⟩ = some (.int .i64 100) := hbk.cell 2
    have c3 : wr.cell? ⟨w.heap.size, 3, none⟩ = some (.int .i64 50) := hbk.cell 3
    rcases hi with rfl | ⟨rfl, h⟩ | ⟨rfl, h⟩ | ⟨rfl, h⟩ | ⟨rfl, h⟩
    · by_cases hd : n % 1000 = 0
      · have HR : Hid (tickH n = 4) := by unfold Hid; rw [HH.out, if_pos hd]
        go_wp2
        go_ret
        exact ⟨ret_int HR.out.symm, hbw⟩
      · have HR : Hid (¬ n % 1000 = 0) := hd
        go_wp2
        go_roundw
        case rel => exact ⟨hbw, hbk, .inr (.inl ⟨rfl, HR⟩)⟩
        case measure => simp [intOf]
    · by_cases hd : n % 500 = 0
      · have HR : Hid (tickH n = 3) := by unfold Hid; rw [HH.out, if_neg h.out, if_pos hd]
        go_wp2
        go_ret
        exact ⟨ret_int HR.out.symm, hbw⟩
      · have HR : Hid (¬ n % 1000 = 0 ∧ ¬ n % 500 = 0) := ⟨h.out, hd⟩
        go_wp2
        go_roundw
        case rel => exact ⟨hbw, hbk, .inr (.inr (.inl ⟨rfl, HR⟩))⟩
        case measure => simp [intOf]
    · by_cases hd : n % 100 = 0
      · have HR : Hid (tickH n = 2) := by unfold Hid; rw [HH.out, if_neg h.out.1, if_neg h.out.2, if_pos hd]
        go_wp2
        go_ret
        exact ⟨ret_int HR.out.symm, hbw⟩
      · have HR : Hid (¬ n % 1000 = 0 ∧ ¬ n % 500 = 0 ∧ ¬ n % 100 = 0) := ⟨h.out.1, h.out.2, hd⟩
        go_wp2
        go_roundw
        case rel => exact ⟨hbw, hbk, .inr (.inr (.inr (.inl ⟨rfl, HR⟩)))⟩
        case measure => simp [intOf]
    · by_cases hd : n % 50 = 0
      · have HR : Hid (tickH n = 1) := by unfold Hid; rw [HH.out, if_neg h.out.1, if_neg h.out.2.1, if_neg h.out.2.2, if_pos hd]
        go_wp2
        go_ret
        exact ⟨ret_int HR.out.symm, hbw⟩
      · have HR : Hid (¬ n % 1000 = 0 ∧ ¬ n % 500 = 0 ∧ ¬ n % 100 = 0 ∧ ¬ n % 50 = 0) := ⟨h.out.1, h.out.2.1, h.out.2.2, hd⟩
        go_wp2
        go_roundw
        case rel => exact ⟨hbw, hbk, .inr (.inr (.inr (.inr ⟨rfl, HR⟩)))⟩
        case measure => simp [intOf]
    · have HR : Hid (tickH n = 0) := by unfold Hid; rw [HH.out, if_neg h.out.1, if_neg h.out.2.1, if_neg h.out.2.2.1, if_neg h.out.2.2.2]
      go_wp2
      go_ret
      exact ⟨ret_int HR.out.symm, hbw⟩
end Go.Proofs.YtkjommcmeinkaaaGreat
