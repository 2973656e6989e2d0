/- Chapter 32: the codes of programs of strokes, their time and wear. No condition beyond the list's length. -/
import Derived.Test.YtkjommcmeinkaaaGreatDoorCfStroke
import Derived.Test.YtkjommcmeinkaaaGreatDoorSmall
namespace Go.Proofs.YtkjommcmeinkaaaGreatDoor
open Go.RowKit

def strokeOK (s : Stroke) : Bool := inB s.tool 1 2 && inB s.place 0 100000 && inB s.long 1 1000
theorem l32Is_c (s : Stroke) (w : World) : Calls Tryz.prog 43 #[s.agg] w fun e w' => e = .returned (.bool (strokeOK s)) ∧ Below w.heap.size w w' := by
  obtain ⟨a, b, c⟩ := s
  unfold Stroke.agg strokeOK
  cases h1 : inB a 1 2 <;> cases h2 : inB b 0 100000 <;> cases h3 : inB c 1 1000
  all_goals
    go_enter Tryz.func43, Tryz.ntmps43
    go_wp2_with (first | (go_at_call 59; refine (l01In_c _ _ _ _).mono ?_; rintro e w' ⟨rfl, rfl⟩) | (go_at_call 60; refine (l28Place_c _ _).mono ?_; rintro e w' ⟨rfl, rfl⟩))
    go_ret
    exact ⟨rfl, (Below.refl _ _).alloc (by simp) _⟩
theorem isStroke_c (s : Stroke) (w : World) : Calls Tryz.prog 40 #[s.agg] w fun e w' => e = .returned (.bool (strokeOK s)) ∧ Below w.heap.size w w' := by
  obtain ⟨a, b, c⟩ := s
  unfold Stroke.agg strokeOK
  have h1 : (a = 1 ∧ inB a 1 2 = true) ∨ (a = 2 ∧ inB a 1 2 = true) ∨ ((a == 1) = false ∧ (a == 2) = false ∧ inB a 1 2 = false) := by
    by_cases e1 : a = 1
    · subst e1; exact .inl ⟨rfl, rfl⟩
    · by_cases e2 : a = 2
      · subst e2; exact .inr (.inl ⟨rfl, rfl⟩)
      · exact .inr (.inr ⟨by simp [e1], by simp [e2], inB_false.2 (by omega)⟩)
  rcases h1 with ⟨rfl, h1⟩ | ⟨rfl, h1⟩ | ⟨e1, e2, h1⟩
  all_goals
    cases h2 : inB b 0 100000 <;> cases h3 : inB c 1 1000
    all_goals
      go_enter Tryz.func40, Tryz.ntmps40
      go_wp2_with (first | (go_at_call 56; refine (within_c _ _ _ _).mono ?_; rintro e w' ⟨rfl, rfl⟩) | (go_at_call 55; refine (isOnRule_c _ _).mono ?_; rintro e w' ⟨rfl, rfl⟩))
      go_ret
      exact ⟨ret_bool (by simp [h1]), (Below.refl _ _).alloc (by simp) _⟩
theorem strokePred (w : World) : PredStroke 39 #[] (fun s => !strokeOK s) w := by
  intro s W _
  cases h : strokeOK s
  all_goals
    obtain ⟨a, b, c⟩ := s
    have H := fun W => Lib.hid (isStroke_c ⟨a, b, c⟩ W)
    unfold Stroke.agg at *
    rw [h] at H
    go_enter Tryz.func39, Tryz.ntmps39
    go_wp2_with (go_at_call 40; refine (H _).out.mono ?_; rintro e w1 ⟨rfl, hb1⟩)
    go_ret
    exact ⟨ret_bool (by simp [h]), ((Below.refl _ _).alloc (by simp) _).trans (hb1.mono (by simp))⟩

def strokesCode (l : List Stroke) : Int := if l.all strokeOK then (if 150 < l.length then 3 else 0) else 1
theorem strokesCode_ok {l : List Stroke} (h : strokesCode l = 0) : l.all strokeOK = true ∧ l.length ≤ 150 := by
  unfold strokesCode at h
  split at h
  · rename_i h1
    split at h
    · cases h
    · exact ⟨h1, by omega⟩
  · cases h
set_option maxRecDepth 100000 in
theorem l32Code_c (A : Option Addr) (c : Nat) (l : List Stroke) (w : World) (hl : l.length ≤ 140737488351232) (hs : Sl w w.heap.size 3 A (l.map Stroke.cells)) :
    Calls Tryz.prog 25 #[.slice A l.length c] w fun e w' => e = .returned (.int .i64 (strokesCode l)) ∧ Below w.heap.size w w' := by
  go_enter Tryz.func25, Tryz.ntmps25
  go_wp2_with fail
  go_loopw [3] (fun i wr => ∃ k : Nat, k ≤ l.length ∧ i = .int .i64 k ∧ Below w.heap.size w wr ∧ Hid ((l.take k).all strokeOK = true)) (fun i _ => l.length - (intOf i).toNat)
  case atStart => exact ⟨0, Nat.zero_le _, rfl, Below.refl _ _, (show (l.take 0).all strokeOK = true from by simp)⟩
  case round =>
    obtain ⟨k, hk, rfl, hb, hn⟩ := hrel
    by_cases hlt : k < l.length
    · obtain ⟨b, off, rfl, hbB, hc⟩ := hs.at_ (i := k) (by simpa using hlt)
      simp only [List.getElem_map] at hc
      have c0 : wr.cell? ⟨b, off + k * 3, none⟩ = some (.int .i64 l[k].tool) := by rw [hb.cell hbB]; exact hc 0 _ rfl
      have c1 : wr.cell? ⟨b, off + k * 3 + 1, none⟩ = some (.int .i64 l[k].place) := by rw [hb.cell hbB]; exact hc 1 _ rfl
      have c2 : wr.cell? ⟨b, off + k * 3 + 2, none⟩ = some (.int .i64 l[k].long) := by rw [hb.cell hbB]; exact hc 2 _ rfl
      clear hc
      have hnx : (l.take (k + 1)).all strokeOK = ((l.take k).all strokeOK && strokeOK l[k]) := by rw [List.take_succ_eq_append_getElem hlt, List.all_append]; simp
      have hnx' := Lib.hid hnx; clear hnx
      have hcall := l32Is_c l[k] wr
      cases hq : strokeOK l[k] with
      | true =>
        rw [hq] at hcall
        have hcall' := Lib.hid hcall; clear hcall
        have hq' := Lib.hid hq; clear hq
        go_wp2_with (go_at_call 43; refine hcall'.out.mono ?_; rintro e w1 ⟨rfl, hb1⟩)
        go_roundw
        case rel => exact ⟨k + 1, by omega, by go_num, hb.trans (hb1.mono hb.size), (show _ = true from by rw [hnx'.out, hn.out, hq'.out]; rfl)⟩
        case measure => simp [intOf]; omega
      | false =>
        rw [hq] at hcall
        have hcall' := Lib.hid hcall; clear hcall
        have hq' := Lib.hid hq; clear hq
        go_wp2_with (go_at_call 43; refine hcall'.out.mono ?_; rintro e w1 ⟨rfl, hb1⟩)
        go_ret
        refine ⟨ret_int ?_, hb.trans (hb1.mono hb.size)⟩
        unfold strokesCode
        rw [if_neg]
        intro h
        have := List.all_eq_true.1 h l[k] (List.getElem_mem hlt)
        rw [hq'.out] at this
        cases this
    · have : k = l.length := by omega
      subst this
      have hn' := hn.out
      rw [List.take_length] at hn'
      have hn'' := Lib.hid hn'; clear hn'
      by_cases hbig : 150 < l.length
      · go_wp2
        go_ret
        exact ⟨ret_int (by unfold strokesCode; rw [if_pos hn''.out, if_pos hbig]), hb⟩
      · go_wp2
        go_ret
        exact ⟨ret_int (by unfold strokesCode; rw [if_pos hn''.out, if_neg hbig]), hb⟩
theorem checkStrokes_c (A : Option Addr) (c : Nat) (l : List Stroke) (w : World) (hl : l.length ≤ 140737488351232) (hs : Sl w w.heap.size 3 A (l.map Stroke.cells)) :
    Calls Tryz.prog 19 #[.slice A l.length c] w fun e w' => e = .returned (.int .i64 (strokesCode l)) ∧ Below w.heap.size w w' := by
  have hcall := containsFuncStroke_c A c l 39 #[] (fun s => !strokeOK s) w (enters_of Tryz.func39 (by kernel_rfl) rfl) (strokePred w) hl hs
  clear hs
  have hcode : strokesCode l = if l.any (fun s => !strokeOK s) then 1 else if 150 < l.length then 3 else 0 := by
    unfold strokesCode
    rw [show l.any (fun s => !strokeOK s) = !(l.all strokeOK) from by rw [List.any_eq_not_all_not]; simp]
    cases l.all strokeOK <;> rfl
  have hcode' := Lib.hid hcode; clear hcode
  cases hq : l.any (fun s => !strokeOK s) with
  | true =>
    rw [hq] at hcall
    have hcall' := Lib.hid hcall; clear hcall
    have hq' := Lib.hid hq; clear hq
    go_enter Tryz.func19, Tryz.ntmps19
    go_wp2_with (go_at_call 38; refine hcall'.out.mono ?_; rintro e w1 ⟨rfl, hb1⟩)
    go_ret
    exact ⟨ret_int (by rw [hcode'.out, hq'.out]; rfl), hb1⟩
  | false =>
    rw [hq] at hcall
    have hcall' := Lib.hid hcall; clear hcall
    have hq' := Lib.hid hq; clear hq
    by_cases hbig : 150 < l.length
    · go_enter Tryz.func19, Tryz.ntmps19
      go_wp2_with (go_at_call 38; refine hcall'.out.mono ?_; rintro e w1 ⟨rfl, hb1⟩)
      go_ret
      exact ⟨ret_int (by rw [hcode'.out, hq'.out, if_pos hbig]; rfl), hb1⟩
    · go_enter Tryz.func19, Tryz.ntmps19
      go_wp2_with (go_at_call 38; refine hcall'.out.mono ?_; rintro e w1 ⟨rfl, hb1⟩)
      go_ret
      exact ⟨ret_int (by rw [hcode'.out, hq'.out, if_neg hbig]; rfl), hb1⟩
theorem implIsProgram_c (A : Option Addr) (c : Nat) (l : List Stroke) (w : World) (hl : l.length ≤ 140737488351232) (hs : Sl w w.heap.size 3 A (l.map Stroke.cells)) :
    Calls Tryz.prog 15 #[.slice A l.length c] w fun e w' => e = .returned (.bool (strokesCode l == 0)) ∧ Below w.heap.size w w' := by
  have H := Lib.hid (checkStrokes_c A c l w hl hs)
  clear hs
  go_enter Tryz.func15, Tryz.ntmps15
  go_wp2_with (go_at_call 19; refine H.out.mono ?_; rintro e w1 ⟨rfl, hb1⟩)
  go_ret
  exact ⟨rfl, hb1⟩
end Go.Proofs.YtkjommcmeinkaaaGreatDoor
