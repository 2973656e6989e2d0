/- Chapter 29: the codes of rows of ticks. No condition beyond the list's length. -/
import Derived.Test.YtkjommcmeinkaaaGreatKRw15
import Derived.Test.YtkjommcmeinkaaaGreatKRw5
set_option linter.unusedSimpArgs false
namespace Go.Proofs.YtkjommcmeinkaaaGreat
open Go.RowKit
def tickOK (t : Tick) : Bool := inB t.mark 1000 9999 && inB t.place 0 100000
def rowCode (l : List Tick) : Int := if 40 < l.length then 3 else if l.all tickOK then 0 else 2
def printCode (scale len : Int) (l : List Tick) (tol : Int) : Int := if rowCode l = 0 then (if inB scale 0 5 && inB len 1 100000 && inB tol 0 200 then 0 else 2) else rowCode l
theorem tick_bd {t : Tick} (h : tickOK t = true) : (1000 ≤ t.mark ∧ t.mark ≤ 9999) ∧ (0 ≤ t.place ∧ t.place ≤ 100000) := by
  simp only [tickOK, Bool.and_eq_true] at h
  exact ⟨inB_true.1 h.1, inB_true.1 h.2⟩
theorem rowCode_ok {l : List Tick} (h : rowCode l = 0) : l.length ≤ 40 ∧ l.all tickOK = true := by
  unfold rowCode at h
  split at h
  · cases h
  · split at h
    · rename_i h1 h2; exact ⟨by omega, h2⟩
    · cases h
theorem l29Tick_c (t : Tick) (w : World) : Calls Tryz.prog 64 #[t.agg] w fun e w' => e = .returned (.bool (tickOK t)) ∧ Below w.heap.size w w' := by
  obtain ⟨a, b, c⟩ := t
  unfold Tick.agg tickOK
  cases h1 : inB a 1000 9999 <;> cases h2 : inB b 0 100000
  all_goals
    go_enter Tryz.func64, Tryz.ntmps64
    go_wp2_with (first | (go_at_call 41; refine (l01In_c _ _ _ _).mono ?_; rintro e w' ⟨rfl, rfl⟩) | (go_at_call 72; refine (l28Place_c _ _).mono ?_; rintro e w' ⟨rfl, rfl⟩))
    go_ret
    exact ⟨rfl, (Below.refl _ _).alloc (by simp) _⟩
set_option maxRecDepth 100000 in
theorem l29Row_c (A : Option Addr) (c : Nat) (l : List Tick) (w : World) (hl : l.length ≤ 140737488351232) (hs : Sl w w.heap.size 3 A (l.map Tick.cells)) :
    Calls Tryz.prog 40 #[.slice A l.length c] w fun e w' => e = .returned (.int .i64 (rowCode l)) ∧ Below w.heap.size w w' := by
  by_cases hbig : 40 < l.length
  · go_enter Tryz.func40, Tryz.ntmps40
    go_wp2
    go_ret
    exact ⟨ret_int (by unfold rowCode; rw [if_pos hbig]), Below.refl _ _⟩
  · go_enter Tryz.func40, Tryz.ntmps40
    go_wp2_with fail
    go_loopw [3] (fun i wr => ∃ k : Nat, k ≤ l.length ∧ i = .int .i64 k ∧ Below w.heap.size w wr ∧ Hid ((l.take k).all tickOK = true)) (fun i _ => l.length - (intOf i).toNat)
    case atStart => exact ⟨0, Nat.zero_le _, rfl, Below.refl _ _, (show (l.take 0).all tickOK = true from by simp)⟩
    case round =>
      obtain ⟨k, hk, rfl, hb, hn⟩ := hrel
      by_cases hlt : k < l.length
      · obtain ⟨b, off, rfl, bB, cc⟩ := hs.at_ (i := k) (by simpa using hlt)
        simp only [List.getElem_map] at cc
        have c0 : wr.cell? ⟨b, off + k * 3, none⟩ = some (.int .i64 l[k].mark) := by rw [hb.cell bB]; exact cc 0 _ rfl
        have c1 : wr.cell? ⟨b, off + k * 3 + 1, none⟩ = some (.int .i64 l[k].place) := by rw [hb.cell bB]; exact cc 1 _ rfl
        have c2 : wr.cell? ⟨b, off + k * 3 + 2, none⟩ = some (.int .i64 l[k].height) := by rw [hb.cell bB]; exact cc 2 _ rfl
        clear cc
        have hnx : (l.take (k + 1)).all tickOK = ((l.take k).all tickOK && tickOK l[k]) := by rw [List.take_succ_eq_append_getElem hlt, List.all_append]; simp
        have hnx' := Lib.hid hnx; clear hnx
        have hcall := l29Tick_c l[k] wr
        cases hq : tickOK l[k] with
        | true =>
          rw [hq] at hcall
          have hcall' := Lib.hid hcall; clear hcall
          have hq' := Lib.hid hq; clear hq
          go_wp2_with (go_at_call 64; refine hcall'.out.mono ?_; rintro e w1 ⟨rfl, hb1⟩)
          go_roundw
          case rel => exact ⟨k + 1, by omega, by go_num, hb.trans (hb1.mono hb.size), (show _ = true from by rw [hnx'.out, hn.out, hq'.out]; rfl)⟩
          case measure => simp [intOf]; omega
        | false =>
          rw [hq] at hcall
          have hcall' := Lib.hid hcall; clear hcall
          have hq' := Lib.hid hq; clear hq
          go_wp2_with (go_at_call 64; refine hcall'.out.mono ?_; rintro e w1 ⟨rfl, hb1⟩)
          go_ret
          refine ⟨ret_int ?_, hb.trans (hb1.mono hb.size)⟩
          unfold rowCode
          rw [if_neg hbig, if_neg]
          intro h
          have := List.all_eq_true.1 h l[k] (List.getElem_mem hlt)
          rw [hq'.out] at this
          cases this
      · have : k = l.length := by omega
        subst this
        have hn' := hn.out
        rw [List.take_length] at hn'
        have hn'' := Lib.hid hn'; clear hn'
        go_wp2
        go_ret
        exact ⟨ret_int (by unfold rowCode; rw [if_neg hbig, if_pos hn''.out]), hb⟩
theorem l29Code_c (scale len : Int) (A : Option Addr) (c : Nat) (l : List Tick) (tol : Int) (w : World) (hl : l.length ≤ 140737488351232) (hs : Sl w w.heap.size 3 A (l.map Tick.cells)) :
    Calls Tryz.prog 25 #[.int .i64 scale, .int .i64 len, .slice A l.length c, .int .i64 tol] w fun e w' => e = .returned (.int .i64 (printCode scale len l tol)) ∧ Below w.heap.size w w' := by
  have H := Lib.hid (l29Row_c A c l w hl hs)
  clear hs
  by_cases h0 : rowCode l = 0
  · have H0 : Hid (printCode scale len l tol = (if inB scale 0 5 && inB len 1 100000 && inB tol 0 200 then 0 else 2)) := by unfold Hid printCode; rw [if_pos h0]
    rw [h0] at H
    clear h0
    cases h1 : inB scale 0 5 <;> cases h2 : inB len 1 100000 <;> cases h3 : inB tol 0 200
    all_goals
      go_enter Tryz.func25, Tryz.ntmps25
      go_wp2_with (first | (go_at_call 40; refine H.out.mono ?_; rintro e w1 ⟨rfl, hb1⟩) | (go_at_call 49; refine (specIsScale_c _ _).mono ?_; rintro e w' ⟨rfl, rfl⟩) | (go_at_call 50; refine (l05Length_c _ _).mono ?_; rintro e w' ⟨rfl, rfl⟩) | (go_at_call 51; refine (l10Eye_c _ _).mono ?_; rintro e w' ⟨rfl, rfl⟩))
      go_ret
      exact ⟨ret_int (by rw [H0.out, h1, h2, h3]; rfl), hb1⟩
  · have H0 : Hid (printCode scale len l tol = rowCode l) := by unfold Hid printCode; rw [if_neg h0]
    have hne : (rowCode l == 0) = false := by simp [h0]
    have h0' := Lib.hid h0; clear h0
    go_enter Tryz.func25, Tryz.ntmps25
    go_wp2_with (first | (go_at_call 40; refine H.out.mono ?_; rintro e w1 ⟨rfl, hb1⟩))
    go_ret
    exact ⟨ret_int H0.out.symm, hb1⟩
theorem tickPred (w : World) : PredTick 58 #[] (fun s => !tickOK s) w := by
  intro t W _
  obtain ⟨a, b, c⟩ := t
  unfold Tick.agg tickOK
  cases h1 : inB a 1000 9999 <;> cases h2 : inB b 0 100000
  all_goals
    go_enter Tryz.func58, Tryz.ntmps58
    go_wp2_with (first | (go_at_call 34; refine (isDigits_c _ _).mono ?_; rintro e w' ⟨rfl, rfl⟩) | (go_at_call 59; refine (isOnRule_c _ _).mono ?_; rintro e w' ⟨rfl, rfl⟩))
    go_ret
    exact ⟨ret_bool (by simp [h1, h2]), (Below.refl _ _).alloc (by simp) _⟩
theorem checkRow_c (A : Option Addr) (c : Nat) (l : List Tick) (w : World) (hl : l.length ≤ 140737488351232) (hs : Sl w w.heap.size 3 A (l.map Tick.cells)) :
    Calls Tryz.prog 28 #[.slice A l.length c] w fun e w' => e = .returned (.int .i64 (rowCode l)) ∧ Below w.heap.size w w' := by
  have hcall := containsFuncTick_c A c l 58 #[] (fun s => !tickOK s) w (enters_of Tryz.func58 (by kernel_rfl) rfl) (tickPred w) hl hs
  clear hs
  have hall : l.any (fun s => !tickOK s) = !(l.all tickOK) := by rw [List.any_eq_not_all_not]; simp
  rw [hall] at hcall
  clear hall
  by_cases hbig : 40 < l.length
  · clear hcall
    go_enter Tryz.func28, Tryz.ntmps28
    go_wp2
    go_ret
    exact ⟨ret_int (by unfold rowCode; rw [if_pos hbig]), Below.refl _ _⟩
  · cases hq : l.all tickOK
    all_goals
      rw [hq] at hcall
      have hcall' := Lib.hid hcall; clear hcall
      have hq' := Lib.hid hq; clear hq
      go_enter Tryz.func28, Tryz.ntmps28
      go_wp2_with (go_at_call 57; refine hcall'.out.mono ?_; rintro e w1 ⟨rfl, hb1⟩)
      go_ret
      exact ⟨ret_int (by unfold rowCode; rw [if_neg hbig, hq'.out]; rfl), hb1⟩
end Go.Proofs.YtkjommcmeinkaaaGreat
