/- The time and the wear of a program of valid strokes. -/
import Derived.Test.YtdlipjgdkjdgnaaPlainSt
namespace Go.Proofs.Ytdlipjgdkjdgnaa
open Go.RowKit
set_option maxRecDepth 100000 in
theorem l32Time_c (A : Option Addr) (c : Nat) (l : List Stroke) (w : World) (hl : l.length ≤ 150) (hok : l.all strokeOK = true) (hs : Sl w w.heap.size 3 A (l.map Stroke.cells)) :
    Calls Try.prog 88 #[.slice A l.length c] w fun e w' => e = .returned (.int .i64 (timeOf l)) ∧ Below w.heap.size w w' := by
  have hok' := Lib.hid (List.all_eq_true.1 hok); clear hok
  go_enter Try.func88, Try.ntmps88
  go_wp2_with fail
  go_loopw [3, 4, 5, 6] (fun n at_ tl i wr => ∃ k : Nat, k ≤ l.length ∧ i = .int .i64 k ∧ n = .int .i64 (tst l k).1 ∧ at_ = .int .i64 (tst l k).2.1 ∧ tl = .int .i64 (tst l k).2.2 ∧ Below w.heap.size w wr) (fun _ _ _ i _ => l.length - (intOf i).toNat)
  case atStart => exact ⟨0, Nat.zero_le _, rfl, rfl, rfl, rfl, Below.refl _ _⟩
  case round =>
    obtain ⟨k, hk, rfl, rfl, rfl, rfl, hb⟩ := hrel
    have bd := tst_bd l hok'.out k hk
    by_cases hlt : k < l.length
    · have hsu := tst_succ l k hlt
      have bs := stroke_bd (hok'.out l[k] (List.getElem_mem _))
      generalize tst l k = st at bd hsu ⊢
      obtain ⟨n0, a0, t0⟩ := st
      simp only at bd ⊢
      obtain ⟨⟨bd1, bd2⟩, ⟨bd3, bd4⟩, ⟨bd5, bd6⟩⟩ := bd
      have Hsu := Lib.hid hsu; clear hsu
      obtain ⟨b, off, rfl, bB, cc⟩ := hs.at_ (i := k) (by simpa using hlt)
      simp only [List.getElem_map] at cc
      have c0 : wr.cell? ⟨b, off + k * 3, none⟩ = some (.int .i64 l[k].tool) := by rw [hb.cell bB]; exact cc 0 _ rfl
      have c1 : wr.cell? ⟨b, off + k * 3 + 1, none⟩ = some (.int .i64 l[k].place) := by rw [hb.cell bB]; exact cc 1 _ rfl
      have c2 : wr.cell? ⟨b, off + k * 3 + 2, none⟩ = some (.int .i64 l[k].long) := by rw [hb.cell bB]; exact cc 2 _ rfl
      clear cc
      by_cases htl : l[k].tool = t0
      · have hne : (l[k].tool != t0) = false := by simp [htl]
        have Htl := Lib.hid htl; clear htl
        go_wp2_with fail
        go_quiet ((go_at_call 111; exact quiet_left (l01Abs_c _ _ (by omega))))
        go_wp2
        go_roundw
        case rel => exact ⟨k + 1, by omega, by go_num, by rw [Hsu.out]; simp [tstep, Htl.out], by rw [Hsu.out]; rfl, by rw [Hsu.out]; rfl, below_drewN' (hb.alloc hb.size _) _⟩
        case measure => simp [intOf]; omega
      · have hne : (l[k].tool != t0) = true := by simp [htl]
        have Htl := Lib.hid htl; clear htl
        go_wp2_with fail
        go_quiet ((go_at_call 111; exact quiet_left (l01Abs_c _ _ (by omega))))
        go_wp2
        go_roundw
        case rel => exact ⟨k + 1, by omega, by go_num, by rw [Hsu.out]; simp [tstep, Htl.out], by rw [Hsu.out]; rfl, by rw [Hsu.out]; rfl, below_drewN' (hb.alloc hb.size _) _⟩
        case measure => simp [intOf]; omega
    · have : k = l.length := by omega
      subst this
      go_wp2
      go_ret
      exact ⟨rfl, hb⟩
set_option maxRecDepth 100000 in
theorem timeOf_c (A : Option Addr) (c : Nat) (l : List Stroke) (w : World) (hl : l.length ≤ 150) (hok : l.all strokeOK = true) (hs : Sl w w.heap.size 3 A (l.map Stroke.cells)) :
    Calls Try.prog 87 #[.slice A l.length c] w fun e w' => e = .returned (.int .i64 (timeOf l)) ∧ Below w.heap.size w w' := by
  have hok' := Lib.hid (List.all_eq_true.1 hok); clear hok
  go_enter Try.func87, Try.ntmps87
  go_wp2_with fail
  go_loopw [3, 4, 5, 10] (fun n at_ tl i wr => ∃ k : Nat, k ≤ l.length ∧ i = .int .i64 k ∧ n = .int .i64 (tst l k).1 ∧ at_ = .int .i64 (tst l k).2.1 ∧ tl = .int .i64 (tst l k).2.2 ∧ Below w.heap.size w wr) (fun _ _ _ i _ => l.length - (intOf i).toNat)
  case atStart => exact ⟨0, Nat.zero_le _, rfl, rfl, rfl, rfl, Below.refl _ _⟩
  case round =>
    obtain ⟨k, hk, rfl, rfl, rfl, rfl, hb⟩ := hrel
    have bd := tst_bd l hok'.out k hk
    by_cases hlt : k < l.length
    · have hsu := tst_succ l k hlt
      have bs := stroke_bd (hok'.out l[k] (List.getElem_mem _))
      generalize tst l k = st at bd hsu ⊢
      obtain ⟨n0, a0, t0⟩ := st
      simp only at bd ⊢
      obtain ⟨⟨bd1, bd2⟩, ⟨bd3, bd4⟩, ⟨bd5, bd6⟩⟩ := bd
      have Hsu := Lib.hid hsu; clear hsu
      obtain ⟨b, off, rfl, bB, cc⟩ := hs.at_ (i := k) (by simpa using hlt)
      simp only [List.getElem_map] at cc
      have c0 : wr.cell? ⟨b, off + k * 3, none⟩ = some (.int .i64 l[k].tool) := by rw [hb.cell bB]; exact cc 0 _ rfl
      have c1 : wr.cell? ⟨b, off + k * 3 + 1, none⟩ = some (.int .i64 l[k].place) := by rw [hb.cell bB]; exact cc 1 _ rfl
      have c2 : wr.cell? ⟨b, off + k * 3 + 2, none⟩ = some (.int .i64 l[k].long) := by rw [hb.cell bB]; exact cc 2 _ rfl
      clear cc
      by_cases htl : l[k].tool = t0
      · have hne : (l[k].tool != t0) = false := by simp [htl]
        have Htl := Lib.hid htl; clear htl
        go_wp2_with fail
        go_quiet ((go_at_call 110; exact quiet_left (distance_c _ _ _ (by omega) (by omega))))
        go_wp2_with fail
        go_quiet (fail)
        go_wp2
        go_roundw
        case rel => exact ⟨k + 1, by omega, by go_num, by rw [Hsu.out]; simp only [tstep, if_pos Htl.out]; go_num, by rw [Hsu.out]; rfl, by rw [Hsu.out]; rfl, below_drewN' (hb.alloc hb.size _) _⟩
        case measure => simp [intOf]; omega
      · have hne : (l[k].tool != t0) = true := by simp [htl]
        have Htl := Lib.hid htl; clear htl
        go_wp2_with fail
        go_quiet ((go_at_call 110; exact quiet_left (distance_c _ _ _ (by omega) (by omega))))
        go_wp2_with fail
        go_quiet (fail)
        go_wp2
        go_roundw
        case rel => exact ⟨k + 1, by omega, by go_num, by rw [Hsu.out]; simp only [tstep, if_neg Htl.out]; go_num, by rw [Hsu.out]; rfl, by rw [Hsu.out]; rfl, below_drewN' (hb.alloc hb.size _) _⟩
        case measure => simp [intOf]; omega
    · have : k = l.length := by omega
      subst this
      go_wp2
      go_ret
      exact ⟨rfl, hb⟩

def timeRes (l : List Stroke) : Int × Int := if strokesCode l = 0 then (timeOf l, 0) else (0, strokesCode l)
theorem specTimeOf_c (A : Option Addr) (c : Nat) (l : List Stroke) (w : World) (hl : l.length ≤ 140737488351232) (hs : Sl w w.heap.size 3 A (l.map Stroke.cells)) :
    Calls Try.prog 43 #[.slice A l.length c] w fun e w' => e = .returned (.tuple #[.int .i64 (timeRes l).1, .int .i64 (timeRes l).2]) ∧ Below w.heap.size w w' := by
  have H := Lib.hid (l32Code_c A c l w hl hs)
  by_cases h0 : strokesCode l = 0
  · have hok := strokesCode_ok h0
    have H0 : Hid (timeRes l = (timeOf l, 0)) := by unfold Hid timeRes; rw [if_pos h0]
    have hok' := Lib.hid hok; clear hok
    rw [h0] at H
    clear h0
    go_enter Try.func43, Try.ntmps43
    go_wp2_with (go_at_call 66; refine H.out.mono ?_; rintro e w1 ⟨rfl, hb1⟩)
    refine (l32Time_c A c l w1 hok'.out.2 hok'.out.1 ((hs.below hb1).more hb1.size)).mono ?_; rintro e w2 ⟨rfl, hb2⟩
    go_wp2
    go_ret2
    exact ⟨by rw [H0.out]; rfl, hb1.trans (hb2.mono hb1.size)⟩
  · have H0 : Hid (timeRes l = (0, strokesCode l)) := by unfold Hid timeRes; rw [if_neg h0]
    have hne : (strokesCode l != 0) = true := by simp [h0]
    have h0' := Lib.hid h0; clear h0
    go_enter Try.func43, Try.ntmps43
    go_wp2_with (go_at_call 66; refine H.out.mono ?_; rintro e w1 ⟨rfl, hb1⟩)
    go_ret2
    exact ⟨by rw [H0.out]; rfl, hb1⟩
theorem implTimeOf_c (A : Option Addr) (c : Nat) (l : List Stroke) (w : World) (hl : l.length ≤ 140737488351232) (hs : Sl w w.heap.size 3 A (l.map Stroke.cells)) :
    Calls Try.prog 42 #[.slice A l.length c] w fun e w' => e = .returned (.tuple #[.int .i64 (timeRes l).1, .int .i64 (timeRes l).2]) ∧ Below w.heap.size w w' := by
  have H := Lib.hid (checkStrokes_c A c l w hl hs)
  by_cases h0 : strokesCode l = 0
  · have hok := strokesCode_ok h0
    have H0 : Hid (timeRes l = (timeOf l, 0)) := by unfold Hid timeRes; rw [if_pos h0]
    have hok' := Lib.hid hok; clear hok
    rw [h0] at H
    clear h0
    go_enter Try.func42, Try.ntmps42
    go_wp2_with (go_at_call 69; refine H.out.mono ?_; rintro e w1 ⟨rfl, hb1⟩)
    refine (timeOf_c A c l w1 hok'.out.2 hok'.out.1 ((hs.below hb1).more hb1.size)).mono ?_; rintro e w2 ⟨rfl, hb2⟩
    go_wp2
    go_ret2
    exact ⟨by rw [H0.out]; rfl, hb1.trans (hb2.mono hb1.size)⟩
  · have H0 : Hid (timeRes l = (0, strokesCode l)) := by unfold Hid timeRes; rw [if_neg h0]
    have hne : (strokesCode l != 0) = true := by simp [h0]
    have h0' := Lib.hid h0; clear h0
    go_enter Try.func42, Try.ntmps42
    go_wp2_with (go_at_call 69; refine H.out.mono ?_; rintro e w1 ⟨rfl, hb1⟩)
    go_ret2
    exact ⟨by rw [H0.out]; rfl, hb1⟩
end Go.Proofs.Ytdlipjgdkjdgnaa
